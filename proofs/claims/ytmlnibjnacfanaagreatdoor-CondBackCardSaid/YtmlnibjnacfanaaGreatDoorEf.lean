/- Layer 8: whether a node holds: the program's holds. -/
import Derived.Test.YtmlnibjnacfanaaGreatDoorCi
import Derived.Test.YtmlnibjnacfanaaGreatDoorEe
namespace Go.Proofs.YtmlnibjnacfanaaGreatDoor
open Go.RowKit
open Go.Maps

/-- Whether one node holds, its kids' answers at hand. -/
def hOf (f : Th → Int) (k t r : Int) (l : List UInt8) (v : Int) (bs : List Bool) : Bool :=
  if k = 2 then decide (f (t, r, l) = v) else if k = 3 then !(bs.headD true) else if k = 4 then bs.all id else if k = 5 then bs.any id else true
def hL (f : Th → Int) : Fr → List Bool
  | .nil => []
  | .cons k t r l v kids rest => hOf f k t r l v (hL f kids) :: hL f rest
theorem hL_len (f : Th → Int) : ∀ g : Fr, (hL f g).length = g.len
  | .nil => rfl
  | .cons _ _ _ _ _ _ rest => by simp [hL, Fr.len, hL_len f rest]
theorem hL_at (f : Th → Int) : ∀ (g : Fr) (j : Nat) {k t r : Int} {l : List UInt8} {v : Int} {kids rest : Fr}, g.drop j = .cons k t r l v kids rest → (hL f g)[j]? = some (hOf f k t r l v (hL f kids))
  | .nil, 0, _, _, _, _, _, _, _, h => by cases h
  | .nil, _ + 1, _, _, _, _, _, _, _, h => by cases h
  | .cons _ _ _ _ _ _ _, 0, _, _, _, _, _, _, _, h => by cases h; rfl
  | .cons _ _ _ _ _ _ rest, j + 1, _, _, _, _, _, _, _, h => by
    have := hL_at f rest j h
    simpa [hL] using this
theorem MapIs.below {w w' : World} {b n : Nat} {f : Th → Int} (h : MapIs w b n f) (hb : Below w.heap.size w w') : MapIs w' b n f := by
  obtain ⟨D, ⟨es, clock, hh, F⟩, hD, ha⟩ := h
  have hlt : b < w.heap.size := (Array.getElem?_eq_some_iff.1 hh).1
  exact ⟨D, ⟨es, clock, (hb.block b hlt).trans hh, F⟩, hD, ha⟩
set_option maxHeartbeats 2000000 in
set_option maxRecDepth 100000 in
theorem MapIs.look {w : World} {b n : Nat} {f : Th → Int} (h : MapIs w b n f) {x : Th} (hx : okT x) : (Instr.lookup 104 (.map (some b)) (thVal x.1 x.2.1 x.2.2) false).run Tryz.prog w = .ok (.int .i64 (f x)) w := by
  obtain ⟨D, hown, hD, ha⟩ := h
  obtain ⟨c, hrun, hat, _⟩ := hown.lookup_int law_thing Tryz.underlying104 Tryz.underlying3 (zero_int w) (key_ok hx)
  rw [ha x hx] at hat
  simp only [DataW.lit.injEq, Lit.int.injEq, true_and] at hat
  rw [hrun, hat]
def NodeH (f : Th → Int) (k t r : Int) (l : List UInt8) (v : Int) (kids : Fr) : Prop :=
  ∀ (w : World) (hi bm n : Nat) (kv : Value), hi ≤ w.heap.size → MapIs w bm n f → SlAt w hi kv kids → l.length ≤ 9223372036854775807 → ownB 2 k t r l v kids.len = true → okF 2 kids →
    Calls Tryz.prog 57 #[nodeV k t r l v kv, .map (some bm)] w fun e w' => e = .returned (.bool (hOf f k t r l v (hL f kids))) ∧ Below w.heap.size w w'
def AllH (f : Th → Int) : Fr → Prop
  | .nil => True
  | .cons k t r l v kids rest => NodeH f k t r l v kids ∧ AllH f rest
theorem AllH.at_ {f : Th → Int} : ∀ (g : Fr) (j : Nat) {k t r : Int} {l : List UInt8} {v : Int} {kids rest : Fr}, AllH f g → g.drop j = .cons k t r l v kids rest → NodeH f k t r l v kids
  | .nil, 0, _, _, _, _, _, _, _, _, h => by cases h
  | .nil, _ + 1, _, _, _, _, _, _, _, _, h => by cases h
  | .cons _ _ _ _ _ _ _, 0, _, _, _, _, _, _, _, h, e => by cases e; exact h.1
  | .cons _ _ _ _ _ _ rest, j + 1, _, _, _, _, _, _, _, h, e => AllH.at_ rest j h.2 e
section
variable {f : Th → Int} {k t r v : Int} {l : List UInt8} {kids : Fr}
set_option maxHeartbeats 2000000 in
set_option maxRecDepth 100000 in
theorem isP (hH : NodeH f k t r l v kids) (w : World) (hi bm n p : Nat) (A : Option Addr) (cap : Nat) (hhi : hi ≤ w.heap.size) (hm : MapIs w bm n f) (hs : SlAt w hi (.slice A kids.len cap) kids) (hl : l.length ≤ 9223372036854775807) (ho : ownB 2 k t r l v kids.len = true) (hk : okF 2 kids) (hp : w.cell? ⟨p, 0, none⟩ = some (.map (some bm))) :
    Calls Tryz.prog 93 #[nodeV k t r l v (.slice A kids.len cap), .pointer (some ⟨p, 0, none⟩)] w fun e w' => e = .returned (.bool (hOf f k t r l v (hL f kids))) ∧ Below w.heap.size w w' := by
  have HB := Lib.hid (alloc_b w (.cells #[.int .i64 k, .int .i64 t, .int .i64 r, .string ⟨l.toArray⟩, .int .i64 v, .slice A kids.len cap] 26 (0, 0)))
  have HM := Lib.hid (hm.below HB.out)
  have HS := Lib.hid (hs.below hhi HB.out)
  have hp1 := cell_al hp (.cells #[.int .i64 k, .int .i64 t, .int .i64 r, .string ⟨l.toArray⟩, .int .i64 v, .slice A kids.len cap] 26 (0, 0))
  have HH := Lib.hid hH
  have HO := Lib.hid ho
  have HK := Lib.hid hk
  obtain ⟨b, hb⟩ : ∃ b, hOf f k t r l v (hL f kids) = b := ⟨_, rfl⟩
  have HBB := Lib.hid hb
  rw [hb]
  clear hm hs hH ho hk hp hb
  go_enter Tryz.func93, Tryz.ntmps93
  go_wp2_with (go_at_call 57; refine (HH.out _ hi bm n _ (by simp; omega) HM.out HS.out hl HO.out HK.out).mono ?_; rw [HBB.out]; rintro e w2 ⟨rfl, hb2⟩)
  all_goals
    go_ret
    exact ⟨by first | rfl | (cases b <;> rfl), below_trans HB.out hb2⟩
set_option maxHeartbeats 2000000 in
set_option maxRecDepth 100000 in
theorem notHP (hH : NodeH f k t r l v kids) (w : World) (hi bm n p : Nat) (A : Option Addr) (cap : Nat) (hhi : hi ≤ w.heap.size) (hm : MapIs w bm n f) (hs : SlAt w hi (.slice A kids.len cap) kids) (hl : l.length ≤ 9223372036854775807) (ho : ownB 2 k t r l v kids.len = true) (hk : okF 2 kids) (hp : w.cell? ⟨p, 0, none⟩ = some (.map (some bm))) :
    Calls Tryz.prog 94 #[nodeV k t r l v (.slice A kids.len cap), .pointer (some ⟨p, 0, none⟩)] w fun e w' => e = .returned (.bool (!hOf f k t r l v (hL f kids))) ∧ Below w.heap.size w w' := by
  have HB := Lib.hid (alloc_b w (.cells #[.int .i64 k, .int .i64 t, .int .i64 r, .string ⟨l.toArray⟩, .int .i64 v, .slice A kids.len cap] 26 (0, 0)))
  have HM := Lib.hid (hm.below HB.out)
  have HS := Lib.hid (hs.below hhi HB.out)
  have hp1 := cell_al hp (.cells #[.int .i64 k, .int .i64 t, .int .i64 r, .string ⟨l.toArray⟩, .int .i64 v, .slice A kids.len cap] 26 (0, 0))
  have HH := Lib.hid hH
  have HO := Lib.hid ho
  have HK := Lib.hid hk
  obtain ⟨b, hb⟩ : ∃ b, hOf f k t r l v (hL f kids) = b := ⟨_, rfl⟩
  have HBB := Lib.hid hb
  rw [hb]
  clear hm hs hH ho hk hp hb
  go_enter Tryz.func94, Tryz.ntmps94
  go_wp2_with (go_at_call 57; refine (HH.out _ hi bm n _ (by simp; omega) HM.out HS.out hl HO.out HK.out).mono ?_; rw [HBB.out]; rintro e w2 ⟨rfl, hb2⟩)
  all_goals
    go_ret
    exact ⟨by first | rfl | (cases b <;> rfl), below_trans HB.out hb2⟩
/-- What IndexFunc answers: a place, or -1: no place. -/
def IdxPost (b : Bool) (w : World) (e : Ending) (w' : World) : Prop := ∃ i : Int, e = .returned (.int .i64 i) ∧ decide (0 ≤ i) = b ∧ Below w.heap.size w w'
theorem any_take_step {bs : List Bool} {j : Nat} {b : Bool} (h : bs[j]? = some b) (p : Bool → Bool) : (bs.take (j + 1)).any p = ((bs.take j).any p || p b) := by
  obtain ⟨h1, rfl⟩ := List.getElem?_eq_some_iff.1 h
  rw [List.take_succ_eq_append_getElem h1, List.any_append]
  simp
theorem any_of_at {bs : List Bool} {j : Nat} {b : Bool} (h : bs[j]? = some b) (p : Bool → Bool) (hp : p b = true) : bs.any p = true := by
  obtain ⟨h1, rfl⟩ := List.getElem?_eq_some_iff.1 h
  exact List.any_eq_true.2 ⟨_, List.getElem_mem h1, hp⟩
set_option maxHeartbeats 2000000 in
set_option maxRecDepth 100000 in
theorem idxIs (hH : AllH f kids) (w : World) (hi bm n p : Nat) (A : Option Addr) (cap : Nat) (hhi : hi ≤ w.heap.size) (hm : MapIs w bm n f) (hs : SlAt w hi (.slice A kids.len cap) kids) (hk : okF 2 kids) (hp : w.cell? ⟨p, 0, none⟩ = some (.map (some bm))) :
    Calls Tryz.prog 118 #[.slice A kids.len cap, .func (.func 93) #[] #[.pointer (some ⟨p, 0, none⟩)]] w (IdxPost ((hL f kids).any (fun b => b)) w) := by
  obtain ⟨A1, cap1, he, s1, s2, s3⟩ := hs
  simp only [Value.slice.injEq, true_and] at he
  obtain ⟨rfl, rfl⟩ := he
  have S3 := Lib.hid s3
  have HM := Lib.hid hm
  have HK := Lib.hid hk
  have HH := Lib.hid hH
  have HP := Lib.hid hp
  have hll := hL_len f kids
  obtain ⟨bs, hbs⟩ : ∃ bs, hL f kids = bs := ⟨_, rfl⟩
  have HBS := Lib.hid hbs
  rw [hbs] at hll ⊢
  clear s3 hm hk hH hbs hp
  go_enter Tryz.func118, Tryz.ntmps118
  go_wp2_with fail
  go_loopw [8] (fun i wr => ∃ j : Nat, j ≤ kids.len ∧ i = .int .i64 j ∧ (bs.take j).any (fun b => b) = false ∧ Below w.heap.size w wr) (fun i _ => kids.len - (intOf i).toNat)
  case atStart => exact ⟨0, Nat.zero_le _, rfl, by simp, Below.refl _ _⟩
  case round =>
    obtain ⟨j, hj, rfl, hno, hbr⟩ := hrel
    have HNO := Lib.hid hno
    have HBR := Lib.hid hbr
    have hzr := hbr.size
    clear hno hbr
    by_cases hlt : j < kids.len
    · obtain ⟨b, o, rfl, hb, hrow⟩ := S3.out (by omega)
      obtain ⟨k', t', r', l', v', kids', rest', hdr⟩ := kids.drop_lt j hlt
      have hrow' := RowAt.keep (w' := wr) (fun b o hb => HBR.out.cell (p := ⟨b, o, none⟩) (show b < w.heap.size by omega)) kids b o hb hrow
      have hat := RowAt.at_ kids b o j hrow'
      rw [hdr] at hat
      obtain ⟨kv', q0, q1, q2, q3, q4, q5, hl', hsl'⟩ := hat.head
      obtain ⟨A', cap', rfl, hsl''⟩ := hsl'
      have hsl3 : SlAt wr hi (.slice A' kids'.len cap') kids' := ⟨A', cap', rfl, hsl''⟩
      have HSL := Lib.hid hsl3
      have HC := Lib.hid (AllH.at_ kids j HH.out hdr)
      have HOK := Lib.hid (okF.at_ kids j HK.out hdr)
      have hbj := hL_at f kids j hdr
      rw [HBS.out] at hbj
      obtain ⟨bj, hbjj⟩ : ∃ bj, hOf f k' t' r' l' v' (hL f kids') = bj := ⟨_, rfl⟩
      rw [hbjj] at hbj
      have HBJ := Lib.hid hbj
      have HBV := Lib.hid hbjj
      have HMR := Lib.hid (HM.out.below HBR.out)
      have HPR := Lib.hid (cell_go HP.out HBR.out)
      clear hrow hrow' hat hsl'' hsl3 hdr hbj hbjj
      cases bj
      all_goals
        go_wp2_with (go_at_call 93; refine (isP HC.out wr hi bm n p A' cap' (by omega) HMR.out HSL.out hl' HOK.out.1 HOK.out.2 HPR.out).mono ?_; rw [HBV.out]; rintro e w2 ⟨rfl, hb2⟩)
        first
          | (go_roundw
             case rel => exact ⟨j + 1, by omega, by go_num, by rw [any_take_step HBJ.out, HNO.out]; rfl, below_trans HBR.out hb2⟩
             case measure => simp [intOf]; omega)
          | (go_ret; exact ⟨j, rfl, by rw [any_of_at HBJ.out (fun b => b) rfl]; simp, below_trans HBR.out hb2⟩)
    · have hjk : j = kids.len := by omega
      have HFIN := Lib.hid (show bs.any (fun b => b) = false by have := HNO.out; rwa [List.take_of_length_le (by omega)] at this)
      go_wp2_with fail
      go_ret
      exact ⟨-1, rfl, by rw [HFIN.out]; rfl, HBR.out⟩
set_option maxHeartbeats 2000000 in
set_option maxRecDepth 100000 in
theorem idxNot (hH : AllH f kids) (w : World) (hi bm n p : Nat) (A : Option Addr) (cap : Nat) (hhi : hi ≤ w.heap.size) (hm : MapIs w bm n f) (hs : SlAt w hi (.slice A kids.len cap) kids) (hk : okF 2 kids) (hp : w.cell? ⟨p, 0, none⟩ = some (.map (some bm))) :
    Calls Tryz.prog 118 #[.slice A kids.len cap, .func (.func 94) #[] #[.pointer (some ⟨p, 0, none⟩)]] w (IdxPost ((hL f kids).any (fun b => !b)) w) := by
  obtain ⟨A1, cap1, he, s1, s2, s3⟩ := hs
  simp only [Value.slice.injEq, true_and] at he
  obtain ⟨rfl, rfl⟩ := he
  have S3 := Lib.hid s3
  have HM := Lib.hid hm
  have HK := Lib.hid hk
  have HH := Lib.hid hH
  have HP := Lib.hid hp
  have hll := hL_len f kids
  obtain ⟨bs, hbs⟩ : ∃ bs, hL f kids = bs := ⟨_, rfl⟩
  have HBS := Lib.hid hbs
  rw [hbs] at hll ⊢
  clear s3 hm hk hH hbs hp
  go_enter Tryz.func118, Tryz.ntmps118
  go_wp2_with fail
  go_loopw [8] (fun i wr => ∃ j : Nat, j ≤ kids.len ∧ i = .int .i64 j ∧ (bs.take j).any (fun b => !b) = false ∧ Below w.heap.size w wr) (fun i _ => kids.len - (intOf i).toNat)
  case atStart => exact ⟨0, Nat.zero_le _, rfl, by simp, Below.refl _ _⟩
  case round =>
    obtain ⟨j, hj, rfl, hno, hbr⟩ := hrel
    have HNO := Lib.hid hno
    have HBR := Lib.hid hbr
    have hzr := hbr.size
    clear hno hbr
    by_cases hlt : j < kids.len
    · obtain ⟨b, o, rfl, hb, hrow⟩ := S3.out (by omega)
      obtain ⟨k', t', r', l', v', kids', rest', hdr⟩ := kids.drop_lt j hlt
      have hrow' := RowAt.keep (w' := wr) (fun b o hb => HBR.out.cell (p := ⟨b, o, none⟩) (show b < w.heap.size by omega)) kids b o hb hrow
      have hat := RowAt.at_ kids b o j hrow'
      rw [hdr] at hat
      obtain ⟨kv', q0, q1, q2, q3, q4, q5, hl', hsl'⟩ := hat.head
      obtain ⟨A', cap', rfl, hsl''⟩ := hsl'
      have hsl3 : SlAt wr hi (.slice A' kids'.len cap') kids' := ⟨A', cap', rfl, hsl''⟩
      have HSL := Lib.hid hsl3
      have HC := Lib.hid (AllH.at_ kids j HH.out hdr)
      have HOK := Lib.hid (okF.at_ kids j HK.out hdr)
      have hbj := hL_at f kids j hdr
      rw [HBS.out] at hbj
      obtain ⟨bj, hbjj⟩ : ∃ bj, hOf f k' t' r' l' v' (hL f kids') = bj := ⟨_, rfl⟩
      rw [hbjj] at hbj
      have HBJ := Lib.hid hbj
      have HBV := Lib.hid hbjj
      have HMR := Lib.hid (HM.out.below HBR.out)
      have HPR := Lib.hid (cell_go HP.out HBR.out)
      clear hrow hrow' hat hsl'' hsl3 hdr hbj hbjj
      cases bj
      all_goals
        go_wp2_with (go_at_call 94; refine (notHP HC.out wr hi bm n p A' cap' (by omega) HMR.out HSL.out hl' HOK.out.1 HOK.out.2 HPR.out).mono ?_; rw [HBV.out]; rintro e w2 ⟨rfl, hb2⟩)
        first
          | (go_roundw
             case rel => exact ⟨j + 1, by omega, by go_num, by rw [any_take_step HBJ.out, HNO.out]; rfl, below_trans HBR.out hb2⟩
             case measure => simp [intOf]; omega)
          | (go_ret; exact ⟨j, rfl, by rw [any_of_at HBJ.out (fun b => !b) rfl]; simp, below_trans HBR.out hb2⟩)
    · have hjk : j = kids.len := by omega
      have HFIN := Lib.hid (show bs.any (fun b => !b) = false by have := HNO.out; rwa [List.take_of_length_le (by omega)] at this)
      go_wp2_with fail
      go_ret
      exact ⟨-1, rfl, by rw [HFIN.out]; rfl, HBR.out⟩
end
end Go.Proofs.YtmlnibjnacfanaaGreatDoor
