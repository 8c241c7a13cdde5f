/- Layer 8: whether a node holds: the program's holds. Layer 8: whether a node holds, at each kind. Layer 8: the program's numbers. -/
import Derived.Test.YtmlnibjnacfanaaGreatDoorCi
import Derived.Test.YtmlnibjnacfanaaGreatDoorEe
namespace Go.Proofs.YtmlnibjnacfanaaGreatDoor
open Go.RowKit
open Go.Maps

/-- Whether one node holds, its kids' answers at hand. -/
def hOf (f : Th → Int) (k t r : Int) (l : List UInt8) (v : Int) (bs : List Bool) : Bool :=
  if k = 2 then decide (f (t, r, l) = v) else if k = 3 then !(bs.headD true) else if k = 4 then bs.all id else if k = 5 then bs.any id else true
def hL (f : Th → Int) : Fr → List Bool
  | .nil => []
  | .cons k t r l v kids rest => hOf f k t r l v (hL f kids) :: hL f rest
theorem hL_len (f : Th → Int) : ∀ g : Fr, (hL f g).length = g.len
  | .nil => rfl
  | .cons _ _ _ _ _ _ rest => by simp [hL, Fr.len, hL_len f rest]
theorem hL_at (f : Th → Int) : ∀ (g : Fr) (j : Nat) {k t r : Int} {l : List UInt8} {v : Int} {kids rest : Fr}, g.drop j = .cons k t r l v kids rest → (hL f g)[j]? = some (hOf f k t r l v (hL f kids))
  | .nil, 0, _, _, _, _, _, _, _, h => by cases h
  | .nil, _ + 1, _, _, _, _, _, _, _, h => by cases h
  | .cons _ _ _ _ _ _ _, 0, _, _, _, _, _, _, _, h => by cases h; rfl
  | .cons _ _ _ _ _ _ rest, j + 1, _, _, _, _, _, _, _, h => by
    have := hL_at f rest j h
    simpa [hL] using this
theorem MapIs.below {w w' : World} {b n : Nat} {f : Th → Int} (h : MapIs w b n f) (hb : Below w.heap.size w w') : MapIs w' b n f := by
  obtain ⟨D, ⟨es, clock, hh, F⟩, hD, ha⟩ := h
  have hlt : b < w.heap.size := (Array.getElem?_eq_some_iff.1 hh).1
  exact ⟨D, ⟨es, clock, (hb.block b hlt).trans hh, F⟩, hD, ha⟩
set_option maxHeartbeats 2000000 in
set_option maxRecDepth 100000 in
theorem MapIs.look {w : World} {b n : Nat} {f : Th → Int} (h : MapIs w b n f) {x : Th} (hx : okT x) : (Instr.lookup 104 (.map (some b)) (thVal x.1 x.2.1 x.2.2) false).run Tryz.prog w = .ok (.int .i64 (f x)) w := by
  obtain ⟨D, hown, hD, ha⟩ := h
  obtain ⟨c, hrun, hat, _⟩ := hown.lookup_int law_thing Tryz.underlying104 Tryz.underlying3 (zero_int w) (key_ok hx)
  rw [ha x hx] at hat
  simp only [DataW.lit.injEq, Lit.int.injEq, true_and] at hat
  rw [hrun, hat]
def NodeH (f : Th → Int) (k t r : Int) (l : List UInt8) (v : Int) (kids : Fr) : Prop :=
  ∀ (w : World) (hi bm n : Nat) (kv : Value), hi ≤ w.heap.size → MapIs w bm n f → SlAt w hi kv kids → l.length ≤ 9223372036854775807 → ownB 2 k t r l v kids.len = true → okF 2 kids →
    Calls Tryz.prog 57 #[nodeV k t r l v kv, .map (some bm)] w fun e w' => e = .returned (.bool (hOf f k t r l v (hL f kids))) ∧ Below w.heap.size w w'
def AllH (f : Th → Int) : Fr → Prop
  | .nil => True
  | .cons k t r l v kids rest => NodeH f k t r l v kids ∧ AllH f rest
theorem AllH.at_ {f : Th → Int} : ∀ (g : Fr) (j : Nat) {k t r : Int} {l : List UInt8} {v : Int} {kids rest : Fr}, AllH f g → g.drop j = .cons k t r l v kids rest → NodeH f k t r l v kids
  | .nil, 0, _, _, _, _, _, _, _, _, h => by cases h
  | .nil, _ + 1, _, _, _, _, _, _, _, _, h => by cases h
  | .cons _ _ _ _ _ _ _, 0, _, _, _, _, _, _, _, h, e => by cases e; exact h.1
  | .cons _ _ _ _ _ _ rest, j + 1, _, _, _, _, _, _, _, h, e => AllH.at_ rest j h.2 e
section
variable {f : Th → Int} {k t r v : Int} {l : List UInt8} {kids : Fr}
set_option maxHeartbeats 2000000 in
set_option maxRecDepth 100000 in
theorem isP (hH : NodeH f k t r l v kids) (w : World) (hi bm n p : Nat) (A : Option Addr) (cap : Nat) (hhi : hi ≤ w.heap.size) (hm : MapIs w bm n f) (hs : SlAt w hi (.slice A kids.len cap) kids) (hl : l.length ≤ 9223372036854775807) (ho : ownB 2 k t r l v kids.len = true) (hk : okF 2 kids) (hp : w.cell? ⟨p, 0, none⟩ = some (.map (some bm))) :
    Calls Tryz.prog 93 #[nodeV k t r l v (.slice A kids.len cap), .pointer (some ⟨p, 0, none⟩)] w fun e w' => e = .returned (.bool (hOf f k t r l v (hL f kids))) ∧ Below w.heap.size w w' := by
  have HB := Lib.hid (alloc_b w (.cells #[.int .i64 k, .int .i64 t, .int .i64 r, .string ⟨l.toArray⟩, .int .i64 v, .slice A kids.len cap] 26 (0, 0)))
  have HM := Lib.hid (hm.below HB.out)
  have HS := Lib.hid (hs.below hhi HB.out)
  have hp1 := cell_al hp (.cells #[.int .i64 k, .int .i64 t, .int .i64 r, .string ⟨l.toArray⟩, .int .i64 v, .slice A kids.len cap] 26 (0, 0))
  have HH := Lib.hid hH
  have HO := Lib.hid ho
  have HK := Lib.hid hk
  obtain ⟨b, hb⟩ : ∃ b, hOf f k t r l v (hL f kids) = b := ⟨_, rfl⟩
  have HBB := Lib.hid hb
  rw [hb]
  clear hm hs hH ho hk hp hb
  go_enter Tryz.func93, Tryz.ntmps93
  go_wp2_with (go_at_call 57; refine (HH.out _ hi bm n _ (by simp; omega) HM.out HS.out hl HO.out HK.out).mono ?_; rw [HBB.out]; rintro e w2 ⟨rfl, hb2⟩)
  all_goals
    go_ret
    exact ⟨by first | rfl | (cases b <;> rfl), below_trans HB.out hb2⟩
set_option maxHeartbeats 2000000 in
set_option maxRecDepth 100000 in
theorem notHP (hH : NodeH f k t r l v kids) (w : World) (hi bm n p : Nat) (A : Option Addr) (cap : Nat) (hhi : hi ≤ w.heap.size) (hm : MapIs w bm n f) (hs : SlAt w hi (.slice A kids.len cap) kids) (hl : l.length ≤ 9223372036854775807) (ho : ownB 2 k t r l v kids.len = true) (hk : okF 2 kids) (hp : w.cell? ⟨p, 0, none⟩ = some (.map (some bm))) :
    Calls Tryz.prog 94 #[nodeV k t r l v (.slice A kids.len cap), .pointer (some ⟨p, 0, none⟩)] w fun e w' => e = .returned (.bool (!hOf f k t r l v (hL f kids))) ∧ Below w.heap.size w w' := by
  have HB := Lib.hid (alloc_b w (.cells #[.int .i64 k, .int .i64 t, .int .i64 r, .string ⟨l.toArray⟩, .int .i64 v, .slice A kids.len cap] 26 (0, 0)))
  have HM := Lib.hid (hm.below HB.out)
  have HS := Lib.hid (hs.below hhi HB.out)
  have hp1 := cell_al hp (.cells #[.int .i64 k, .int .i64 t, .int .i64 r, .string ⟨l.toArray⟩, .int .i64 v, .slice A kids.len cap] 26 (0, 0))
  have HH := Lib.hid hH
  have HO := Lib.hid ho
  have HK := Lib.hid hk
  obtain ⟨b, hb⟩ : ∃ b, hOf f k t r l v (hL f kids) = b := ⟨_, rfl⟩
  have HBB := Lib.hid hb
  rw [hb]
  clear hm hs hH ho hk hp hb
  go_enter Tryz.func94, Tryz.ntmps94
  go_wp2_with (go_at_call 57; refine (HH.out _ hi bm n _ (by simp; omega) HM.out HS.out hl HO.out HK.out).mono ?_; rw [HBB.out]; rintro e w2 ⟨rfl, hb2⟩)
  all_goals
    go_ret
    exact ⟨by first | rfl | (cases b <;> rfl), below_trans HB.out hb2⟩
/-- What IndexFunc answers: a place, or -1: no place. -/
def IdxPost (b : Bool) (w : World) (e : Ending) (w' : World) : Prop := ∃ i : Int, e = .returned (.int .i64 i) ∧ decide (0 ≤ i) = b ∧ Below w.heap.size w w'
theorem any_take_step {bs : List Bool} {j : Nat} {b : Bool} (h : bs[j]? = some b) (p : Bool → Bool) : (bs.take (j + 1)).any p = ((bs.take j).any p || p b) := by
  obtain ⟨h1, rfl⟩ := List.getElem?_eq_some_iff.1 h
  rw [List.take_succ_eq_append_getElem h1, List.any_append]
  simp
theorem any_of_at {bs : List Bool} {j : Nat} {b : Bool} (h : bs[j]? = some b) (p : Bool → Bool) (hp : p b = true) : bs.any p = true := by
  obtain ⟨h1, rfl⟩ := List.getElem?_eq_some_iff.1 h
  exact List.any_eq_true.2 ⟨_, List.getElem_mem h1, hp⟩
set_option maxHeartbeats 2000000 in
set_option maxRecDepth 100000 in
theorem idxIs (hH : AllH f kids) (w : World) (hi bm n p : Nat) (A : Option Addr) (cap : Nat) (hhi : hi ≤ w.heap.size) (hm : MapIs w bm n f) (hs : SlAt w hi (.slice A kids.len cap) kids) (hk : okF 2 kids) (hp : w.cell? ⟨p, 0, none⟩ = some (.map (some bm))) :
    Calls Tryz.prog 118 #[.slice A kids.len cap, .func (.func 93) #[] #[.pointer (some ⟨p, 0, none⟩)]] w (IdxPost ((hL f kids).any (fun b => b)) w) := by
  obtain ⟨A1, cap1, he, s1, s2, s3⟩ := hs
  simp only [Value.slice.injEq, true_and] at he
  obtain ⟨rfl, rfl⟩ := he
  have S3 := Lib.hid s3
  have HM := Lib.hid hm
  have HK := Lib.hid hk
  have HH := Lib.hid hH
  have HP := Lib.hid hp
  have hll := hL_len f kids
  obtain ⟨bs, hbs⟩ : ∃ bs, hL f kids = bs := ⟨_, rfl⟩
  have HBS := Lib.hid hbs
  rw [hbs] at hll ⊢
  clear s3 hm hk hH hbs hp
  go_enter Tryz.func118, Tryz.ntmps118
  go_wp2_with fail
  go_loopw [8] (fun i wr => ∃ j : Nat, j ≤ kids.len ∧ i = .int .i64 j ∧ (bs.take j).any (fun b => b) = false ∧ Below w.heap.size w wr) (fun i _ => kids.len - (intOf i).toNat)
  case atStart => exact ⟨0, Nat.zero_le _, rfl, by simp, Below.refl _ _⟩
  case round =>
    obtain ⟨j, hj, rfl, hno, hbr⟩ := hrel
    have HNO := Lib.hid hno
    have HBR := Lib.hid hbr
    have hzr := hbr.size
    clear hno hbr
    by_cases hlt : j < kids.len
    · obtain ⟨b, o, rfl, hb, hrow⟩ := S3.out (by omega)
      obtain ⟨k', t', r', l', v', kids', rest', hdr⟩ := kids.drop_lt j hlt
      have hrow' := RowAt.keep (w' := wr) (fun b o hb => HBR.out.cell (p := ⟨b, o, none⟩) (show b < w.heap.size by omega)) kids b o hb hrow
      have hat := RowAt.at_ kids b o j hrow'
      rw [hdr] at hat
      obtain ⟨kv', q0, q1, q2, q3, q4, q5, hl', hsl'⟩ := hat.head
      obtain ⟨A', cap', rfl, hsl''⟩ := hsl'
      have hsl3 : SlAt wr hi (.slice A' kids'.len cap') kids' := ⟨A', cap', rfl, hsl''⟩
      have HSL := Lib.hid hsl3
      have HC := Lib.hid (AllH.at_ kids j HH.out hdr)
      have HOK := Lib.hid (okF.at_ kids j HK.out hdr)
      have hbj := hL_at f kids j hdr
      rw [HBS.out] at hbj
      obtain ⟨bj, hbjj⟩ : ∃ bj, hOf f k' t' r' l' v' (hL f kids') = bj := ⟨_, rfl⟩
      rw [hbjj] at hbj
      have HBJ := Lib.hid hbj
      have HBV := Lib.hid hbjj
      have HMR := Lib.hid (HM.out.below HBR.out)
      have HPR := Lib.hid (cell_go HP.out HBR.out)
      clear hrow hrow' hat hsl'' hsl3 hdr hbj hbjj
      cases bj
      all_goals
        go_wp2_with (go_at_call 93; refine (isP HC.out wr hi bm n p A' cap' (by omega) HMR.out HSL.out hl' HOK.out.1 HOK.out.2 HPR.out).mono ?_; rw [HBV.out]; rintro e w2 ⟨rfl, hb2⟩)
        first
          | (go_roundw
             case rel => exact ⟨j + 1, by omega, by go_num, by rw [any_take_step HBJ.out, HNO.out]; rfl, below_trans HBR.out hb2⟩
             case measure => simp [intOf]; omega)
          | (go_ret; exact ⟨j, rfl, by rw [any_of_at HBJ.out (fun b => b) rfl]; simp, below_trans HBR.out hb2⟩)
    · have hjk : j = kids.len := by omega
      have HFIN := Lib.hid (show bs.any (fun b => b) = false by have := HNO.out; rwa [List.take_of_length_le (by omega)] at this)
      go_wp2_with fail
      go_ret
      exact ⟨-1, rfl, by rw [HFIN.out]; rfl, HBR.out⟩
set_option maxHeartbeats 2000000 in
set_option maxRecDepth 100000 in
theorem idxNot (hH : AllH f kids) (w : World) (hi bm n p : Nat) (A : Option Addr) (cap : Nat) (hhi : hi ≤ w.heap.size) (hm : MapIs w bm n f) (hs : SlAt w hi (.slice A kids.len cap) kids) (hk : okF 2 kids) (hp : w.cell? ⟨p, 0, none⟩ = some (.map (some bm))) :
    Calls Tryz.prog 118 #[.slice A kids.len cap, .func (.func 94) #[] #[.pointer (some ⟨p, 0, none⟩)]] w (IdxPost ((hL f kids).any (fun b => !b)) w) := by
  obtain ⟨A1, cap1, he, s1, s2, s3⟩ := hs
  simp only [Value.slice.injEq, true_and] at he
  obtain ⟨rfl, rfl⟩ := he
  have S3 := Lib.hid s3
  have HM := Lib.hid hm
  have HK := Lib.hid hk
  have HH := Lib.hid hH
  have HP := Lib.hid hp
  have hll := hL_len f kids
  obtain ⟨bs, hbs⟩ : ∃ bs, hL f kids = bs := ⟨_, rfl⟩
  have HBS := Lib.hid hbs
  rw [hbs] at hll ⊢
  clear s3 hm hk hH hbs hp
  go_enter Tryz.func118, Tryz.ntmps118
  go_wp2_with fail
  go_loopw [8] (fun i wr => ∃ j : Nat, j ≤ kids.len ∧ i = .int .i64 j ∧ (bs.take j).any (fun b => !b) = false ∧ Below w.heap.size w wr) (fun i _ => kids.len - (intOf i).toNat)
  case atStart => exact ⟨0, Nat.zero_le _, rfl, by simp, Below.refl _ _⟩
  case round =>
    obtain ⟨j, hj, rfl, hno, hbr⟩ := hrel
    have HNO := Lib.hid hno
    have HBR := Lib.hid hbr
    have hzr := hbr.size
    clear hno hbr
    by_cases hlt : j < kids.len
    · obtain ⟨b, o, rfl, hb, hrow⟩ := S3.out (by omega)
      obtain ⟨k', t', r', l', v', kids', rest', hdr⟩ := kids.drop_lt j hlt
      have hrow' := RowAt.keep (w' := wr) (fun b o hb => HBR.out.cell (p := ⟨b, o, none⟩) (show b < w.heap.size by omega)) kids b o hb hrow
      have hat := RowAt.at_ kids b o j hrow'
      rw [hdr] at hat
      obtain ⟨kv', q0, q1, q2, q3, q4, q5, hl', hsl'⟩ := hat.head
      obtain ⟨A', cap', rfl, hsl''⟩ := hsl'
      have hsl3 : SlAt wr hi (.slice A' kids'.len cap') kids' := ⟨A', cap', rfl, hsl''⟩
      have HSL := Lib.hid hsl3
      have HC := Lib.hid (AllH.at_ kids j HH.out hdr)
      have HOK := Lib.hid (okF.at_ kids j HK.out hdr)
      have hbj := hL_at f kids j hdr
      rw [HBS.out] at hbj
      obtain ⟨bj, hbjj⟩ : ∃ bj, hOf f k' t' r' l' v' (hL f kids') = bj := ⟨_, rfl⟩
      rw [hbjj] at hbj
      have HBJ := Lib.hid hbj
      have HBV := Lib.hid hbjj
      have HMR := Lib.hid (HM.out.below HBR.out)
      have HPR := Lib.hid (cell_go HP.out HBR.out)
      clear hrow hrow' hat hsl'' hsl3 hdr hbj hbjj
      cases bj
      all_goals
        go_wp2_with (go_at_call 94; refine (notHP HC.out wr hi bm n p A' cap' (by omega) HMR.out HSL.out hl' HOK.out.1 HOK.out.2 HPR.out).mono ?_; rw [HBV.out]; rintro e w2 ⟨rfl, hb2⟩)
        first
          | (go_roundw
             case rel => exact ⟨j + 1, by omega, by go_num, by rw [any_take_step HBJ.out, HNO.out]; rfl, below_trans HBR.out hb2⟩
             case measure => simp [intOf]; omega)
          | (go_ret; exact ⟨j, rfl, by rw [any_of_at HBJ.out (fun b => !b) rfl]; simp, below_trans HBR.out hb2⟩)
    · have hjk : j = kids.len := by omega
      have HFIN := Lib.hid (show bs.any (fun b => !b) = false by have := HNO.out; rwa [List.take_of_length_le (by omega)] at this)
      go_wp2_with fail
      go_ret
      exact ⟨-1, rfl, by rw [HFIN.out]; rfl, HBR.out⟩
end

theorem still_all {P : Program} {id : Nat} {Q : Exit → Act → World → Prop} {a : Act} {w : World} {l : List Oper} (hm : P.follows .mixedOrders = true) (hB : Region.lexB .any l.toArray = true)
    (h : wpStill P l.toArray w.drew (fun a' => Q .normal a' w.drew) l a) : (Code.region id l.toArray true).wp P Q a w := wp_region_still_lit hm hB h
section
variable {f : Th → Int} {k t r v : Int} {l : List UInt8} {kids : Fr}
set_option maxHeartbeats 2000000 in
set_option maxRecDepth 100000 in
theorem conIs (hH : AllH f kids) (w : World) (hi bm n p : Nat) (A : Option Addr) (cap : Nat) (hhi : hi ≤ w.heap.size) (hm : MapIs w bm n f) (hs : SlAt w hi (.slice A kids.len cap) kids) (hk : okF 2 kids) (hp : w.cell? ⟨p, 0, none⟩ = some (.map (some bm))) :
    Calls Tryz.prog 95 #[.slice A kids.len cap, .func (.func 93) #[] #[.pointer (some ⟨p, 0, none⟩)]] w fun e w' => e = .returned (.bool ((hL f kids).any (fun b => b))) ∧ Below w.heap.size w w' := by
  have HC := Lib.hid (idxIs hH w hi bm n p A cap hhi hm hs hk hp)
  obtain ⟨c, hc⟩ : ∃ c, (hL f kids).any (fun b => b) = c := ⟨_, rfl⟩
  rw [hc] at HC ⊢
  clear hH hm hs hk hp hc
  go_enter Tryz.func95, Tryz.ntmps95
  go_wp2_with (go_at_call 118; refine HC.out.mono ?_; rintro e w2 ⟨i, rfl, hci, hb2⟩; have HCI := Lib.hid hci; clear hci)
  go_ret
  exact ⟨ret_bool HCI.out, hb2⟩
set_option maxHeartbeats 2000000 in
set_option maxRecDepth 100000 in
theorem conNot (hH : AllH f kids) (w : World) (hi bm n p : Nat) (A : Option Addr) (cap : Nat) (hhi : hi ≤ w.heap.size) (hm : MapIs w bm n f) (hs : SlAt w hi (.slice A kids.len cap) kids) (hk : okF 2 kids) (hp : w.cell? ⟨p, 0, none⟩ = some (.map (some bm))) :
    Calls Tryz.prog 95 #[.slice A kids.len cap, .func (.func 94) #[] #[.pointer (some ⟨p, 0, none⟩)]] w fun e w' => e = .returned (.bool ((hL f kids).any (fun b => !b))) ∧ Below w.heap.size w w' := by
  have HC := Lib.hid (idxNot hH w hi bm n p A cap hhi hm hs hk hp)
  obtain ⟨c, hc⟩ : ∃ c, (hL f kids).any (fun b => !b) = c := ⟨_, rfl⟩
  rw [hc] at HC ⊢
  clear hH hm hs hk hp hc
  go_enter Tryz.func95, Tryz.ntmps95
  go_wp2_with (go_at_call 118; refine HC.out.mono ?_; rintro e w2 ⟨i, rfl, hci, hb2⟩; have HCI := Lib.hid hci; clear hci)
  go_ret
  exact ⟨ret_bool HCI.out, hb2⟩
theorem thing_ok {t r : Int} {l : List UInt8} (h : thingB 2 t r l = true) : okT (t, r, l) := by
  rcases vth_parts ⟨(t, r, l), h⟩ with ⟨a, b, c⟩ | ⟨a, b, c, d, e⟩
  · simp only at a b c
    refine ⟨?_, ?_, ?_, ?_, ?_⟩ <;> dsimp only <;> omega
  · simp only at a b c d e
    subst e
    refine ⟨?_, ?_, ?_, ?_, ?_⟩ <;> dsimp only [List.length_nil] <;> omega
set_option maxHeartbeats 2000000 in
set_option maxRecDepth 100000 in
theorem nodeH_1 : NodeH f 1 t r l v kids := by
  intro w hi bm n kv hhi hm hs hl ho hk
  obtain ⟨A, cap, rfl, s1, s2, s3⟩ := hs
  have hs' : SlAt w hi (.slice A kids.len cap) kids := ⟨A, cap, rfl, s1, s2, s3⟩
  have HB := Lib.hid (below_alloc (alloc_b w (.cells #[.int .i64 1, .int .i64 t, .int .i64 r, .string ⟨l.toArray⟩, .int .i64 v, .slice A kids.len cap] 26 (0, 0))) (.cells #[.map (some bm)] 104 (0, 0)))
  have HM := Lib.hid (hm.below HB.out)
  have HS := Lib.hid (hs'.below hhi HB.out)
  have HP := Lib.hid (show ((w.alloc (.cells #[.int .i64 1, .int .i64 t, .int .i64 r, .string ⟨l.toArray⟩, .int .i64 v, .slice A kids.len cap] 26 (0, 0))).alloc (.cells #[.map (some bm)] 104 (0, 0))).cell? ⟨w.heap.size + 1, 0, none⟩ = some (.map (some bm)) by
    have := cell_new (w.alloc (.cells #[.int .i64 1, .int .i64 t, .int .i64 r, .string ⟨l.toArray⟩, .int .i64 v, .slice A kids.len cap] 26 (0, 0))) #[.map (some bm)] 104 (0, 0) 0
    simp)
  have HO := Lib.hid ho
  have HK := Lib.hid hk
  have S3 := Lib.hid s3
  clear hm hs' ho hk s3
  go_enter Tryz.func57, Tryz.ntmps57
  go_wp2_with fail
  go_ret
  exact ⟨rfl, HB.out⟩
set_option maxHeartbeats 2000000 in
set_option maxRecDepth 100000 in
theorem nodeH_4 (hH : AllH f kids) : NodeH f 4 t r l v kids := by
  intro w hi bm n kv hhi hm hs hl ho hk
  obtain ⟨A, cap, rfl, s1, s2, s3⟩ := hs
  have hs' : SlAt w hi (.slice A kids.len cap) kids := ⟨A, cap, rfl, s1, s2, s3⟩
  have HB := Lib.hid (below_alloc (alloc_b w (.cells #[.int .i64 4, .int .i64 t, .int .i64 r, .string ⟨l.toArray⟩, .int .i64 v, .slice A kids.len cap] 26 (0, 0))) (.cells #[.map (some bm)] 104 (0, 0)))
  have HM := Lib.hid (hm.below HB.out)
  have HS := Lib.hid (hs'.below hhi HB.out)
  have HP := Lib.hid (show ((w.alloc (.cells #[.int .i64 4, .int .i64 t, .int .i64 r, .string ⟨l.toArray⟩, .int .i64 v, .slice A kids.len cap] 26 (0, 0))).alloc (.cells #[.map (some bm)] 104 (0, 0))).cell? ⟨w.heap.size + 1, 0, none⟩ = some (.map (some bm)) by
    have := cell_new (w.alloc (.cells #[.int .i64 4, .int .i64 t, .int .i64 r, .string ⟨l.toArray⟩, .int .i64 v, .slice A kids.len cap] 26 (0, 0))) #[.map (some bm)] 104 (0, 0) 0
    simp)
  have HO := Lib.hid ho
  have HK := Lib.hid hk
  have S3 := Lib.hid s3
  clear hm hs' ho hk s3
  have HV := Lib.hid (show hOf f 4 t r l v (hL f kids) = !((hL f kids).any (fun b => !b)) by simp only [hOf, List.not_any_eq_all_not, Bool.not_not]; rfl)
  have HH := Lib.hid hH
  obtain ⟨c, hc⟩ : ∃ c, (hL f kids).any (fun b => !b) = c := ⟨_, rfl⟩
  have HC := Lib.hid hc
  clear hH hc
  go_enter Tryz.func57, Tryz.ntmps57
  go_wp2_with (go_at_call 95; refine (conNot HH.out _ hi bm n (w.heap.size + 1) A cap (by simp; omega) HM.out HS.out HK.out HP.out).mono ?_; rw [HC.out]; rintro e w2 ⟨rfl, hb2⟩)
  go_ret
  exact ⟨ret_bool (by rw [HV.out, HC.out]), below_trans HB.out hb2⟩
set_option maxHeartbeats 2000000 in
set_option maxRecDepth 100000 in
theorem nodeH_5 (hH : AllH f kids) : NodeH f 5 t r l v kids := by
  intro w hi bm n kv hhi hm hs hl ho hk
  obtain ⟨A, cap, rfl, s1, s2, s3⟩ := hs
  have hs' : SlAt w hi (.slice A kids.len cap) kids := ⟨A, cap, rfl, s1, s2, s3⟩
  have HB := Lib.hid (below_alloc (alloc_b w (.cells #[.int .i64 5, .int .i64 t, .int .i64 r, .string ⟨l.toArray⟩, .int .i64 v, .slice A kids.len cap] 26 (0, 0))) (.cells #[.map (some bm)] 104 (0, 0)))
  have HM := Lib.hid (hm.below HB.out)
  have HS := Lib.hid (hs'.below hhi HB.out)
  have HP := Lib.hid (show ((w.alloc (.cells #[.int .i64 5, .int .i64 t, .int .i64 r, .string ⟨l.toArray⟩, .int .i64 v, .slice A kids.len cap] 26 (0, 0))).alloc (.cells #[.map (some bm)] 104 (0, 0))).cell? ⟨w.heap.size + 1, 0, none⟩ = some (.map (some bm)) by
    have := cell_new (w.alloc (.cells #[.int .i64 5, .int .i64 t, .int .i64 r, .string ⟨l.toArray⟩, .int .i64 v, .slice A kids.len cap] 26 (0, 0))) #[.map (some bm)] 104 (0, 0) 0
    simp)
  have HO := Lib.hid ho
  have HK := Lib.hid hk
  have S3 := Lib.hid s3
  clear hm hs' ho hk s3
  have HV := Lib.hid (show hOf f 5 t r l v (hL f kids) = (hL f kids).any (fun b => b) by simp [hOf]; rfl)
  have HH := Lib.hid hH
  obtain ⟨c, hc⟩ : ∃ c, (hL f kids).any (fun b => b) = c := ⟨_, rfl⟩
  have HC := Lib.hid hc
  clear hH hc
  go_enter Tryz.func57, Tryz.ntmps57
  go_wp2_with (go_at_call 95; refine (conIs HH.out _ hi bm n (w.heap.size + 1) A cap (by simp; omega) HM.out HS.out HK.out HP.out).mono ?_; rw [HC.out]; rintro e w2 ⟨rfl, hb2⟩)
  go_ret
  exact ⟨ret_bool (by rw [HV.out, HC.out]), below_trans HB.out hb2⟩
set_option maxHeartbeats 2000000 in
set_option maxRecDepth 100000 in
theorem nodeH_2 : NodeH f 2 t r l v kids := by
  intro w hi bm n kv hhi hm hs hl ho hk
  obtain ⟨A, cap, rfl, s1, s2, s3⟩ := hs
  have hs' : SlAt w hi (.slice A kids.len cap) kids := ⟨A, cap, rfl, s1, s2, s3⟩
  have HB := Lib.hid (below_alloc (alloc_b w (.cells #[.int .i64 2, .int .i64 t, .int .i64 r, .string ⟨l.toArray⟩, .int .i64 v, .slice A kids.len cap] 26 (0, 0))) (.cells #[.map (some bm)] 104 (0, 0)))
  have HM := Lib.hid (hm.below HB.out)
  have HS := Lib.hid (hs'.below hhi HB.out)
  have HP := Lib.hid (show ((w.alloc (.cells #[.int .i64 2, .int .i64 t, .int .i64 r, .string ⟨l.toArray⟩, .int .i64 v, .slice A kids.len cap] 26 (0, 0))).alloc (.cells #[.map (some bm)] 104 (0, 0))).cell? ⟨w.heap.size + 1, 0, none⟩ = some (.map (some bm)) by
    have := cell_new (w.alloc (.cells #[.int .i64 2, .int .i64 t, .int .i64 r, .string ⟨l.toArray⟩, .int .i64 v, .slice A kids.len cap] 26 (0, 0))) #[.map (some bm)] 104 (0, 0) 0
    simp)
  have HO := Lib.hid ho
  have HK := Lib.hid hk
  have S3 := Lib.hid s3
  clear hm hs' ho hk s3
  have hth : thingB 2 t r l = true := by
    have := HO.out
    simp [ownB] at this
    exact this.1.1
  have HL := Lib.hid (HM.out.look (w := _) (thing_ok hth))
  have HV := Lib.hid (show hOf f 2 t r l v (hL f kids) = decide (f (t, r, l) = v) by simp [hOf])
  obtain ⟨c, hc⟩ : ∃ c, f (t, r, l) = c := ⟨_, rfl⟩
  have HC := Lib.hid hc
  have HMD : Hid (MapIs ((w.alloc (.cells #[.int .i64 2, .int .i64 t, .int .i64 r, .string ⟨l.toArray⟩, .int .i64 v, .slice A kids.len cap] 26 (0, 0))).alloc (.cells #[.map (some bm)] 104 (0, 0))).drew bm n f) := HM
  have hlk := HMD.out.look (thing_ok hth)
  simp only [hc] at hlk
  clear hth hc
  go_enter Tryz.func57, Tryz.ntmps57
  go_wp2_with fail
  refine still_all (by kernel_rfl) (by kernel_rfl) ?_
  repeat still_step
  refine wpStill_nil ?_
  go_wp2_with fail
  go_ret
  exact ⟨ret_bool (by rw [HV.out, HC.out, Bool.eq_iff_iff]; simp), HB.out.drew⟩
set_option maxHeartbeats 2000000 in
set_option maxRecDepth 100000 in
theorem nodeH_3 (hH : AllH f kids) : NodeH f 3 t r l v kids := by
  intro w hi bm n kv hhi hm hs hl ho hk
  obtain ⟨A, cap, rfl, s1, s2, s3⟩ := hs
  have hs' : SlAt w hi (.slice A kids.len cap) kids := ⟨A, cap, rfl, s1, s2, s3⟩
  have HB := Lib.hid (below_alloc (alloc_b w (.cells #[.int .i64 3, .int .i64 t, .int .i64 r, .string ⟨l.toArray⟩, .int .i64 v, .slice A kids.len cap] 26 (0, 0))) (.cells #[.map (some bm)] 104 (0, 0)))
  have HM := Lib.hid (hm.below HB.out)
  have HS := Lib.hid (hs'.below hhi HB.out)
  have HP := Lib.hid (show ((w.alloc (.cells #[.int .i64 3, .int .i64 t, .int .i64 r, .string ⟨l.toArray⟩, .int .i64 v, .slice A kids.len cap] 26 (0, 0))).alloc (.cells #[.map (some bm)] 104 (0, 0))).cell? ⟨w.heap.size + 1, 0, none⟩ = some (.map (some bm)) by
    have := cell_new (w.alloc (.cells #[.int .i64 3, .int .i64 t, .int .i64 r, .string ⟨l.toArray⟩, .int .i64 v, .slice A kids.len cap] 26 (0, 0))) #[.map (some bm)] 104 (0, 0) 0
    simp)
  have HO := Lib.hid ho
  have HK := Lib.hid hk
  have S3 := Lib.hid s3
  clear hm hs' ho hk s3
  have hk1 : kids.len = 1 := by
    have := HO.out
    simp [ownB] at this
    exact this.2
  obtain ⟨b, o, rfl, hb, hrow⟩ := S3.out (by omega)
  obtain ⟨k', t', r', l', v', kids', rest', hdr⟩ := kids.drop_lt 0 (by omega)
  have hbw : b < w.heap.size := by omega
  have hat := RowAt.at_ kids b o 0 hrow
  rw [hdr] at hat
  obtain ⟨kv', q0, q1, q2, q3, q4, q5, hl', hsl'⟩ := hat.head
  obtain ⟨A', cap', rfl, hsl''⟩ := hsl'
  have hsl3 : SlAt w hi (.slice A' kids'.len cap') kids' := ⟨A', cap', rfl, hsl''⟩
  have HSL := Lib.hid (hsl3.below hhi (HB.out.drew))
  have HC := Lib.hid (AllH.at_ kids 0 hH hdr)
  have HOK := Lib.hid (okF.at_ kids 0 HK.out hdr)
  have hbj := hL_at f kids 0 hdr
  have hV : hOf f 3 t r l v (hL f kids) = !(hOf f k' t' r' l' v' (hL f kids')) := by
    cases hh : hL f kids with
    | nil => rw [hh] at hbj; simp at hbj
    | cons x xs =>
      rw [hh] at hbj
      simp at hbj
      simp [hOf, hbj]
  obtain ⟨c, hc⟩ : ∃ c, hOf f k' t' r' l' v' (hL f kids') = c := ⟨_, rfl⟩
  rw [hc] at hV
  have HV := Lib.hid hV
  have HCC := Lib.hid hc
  have hmv : ∀ (i : Nat) (u : Value), w.cell? ⟨b, o + i, none⟩ = some u → (((w.alloc (.cells #[.int .i64 3, .int .i64 t, .int .i64 r, .string ⟨l.toArray⟩, .int .i64 v, .slice (some ⟨b, o, none⟩) kids.len cap] 26 (0, 0))).alloc (.cells #[.map (some bm)] 104 (0, 0))).drew).cell? ⟨b, o + i, none⟩ = some u := fun i u h => cell_dr (cell_al (cell_al h _) _)
  simp only [Nat.zero_mul, Nat.add_zero] at q0 q1 q2 q3 q4 q5
  have m0 := hmv 0 _ q0
  have m1 := hmv 1 _ q1
  have m2 := hmv 2 _ q2
  have m3 := hmv 3 _ q3
  have m4 := hmv 4 _ q4
  have m5 := hmv 5 _ q5
  have HMD : Hid (MapIs ((w.alloc (.cells #[.int .i64 3, .int .i64 t, .int .i64 r, .string ⟨l.toArray⟩, .int .i64 v, .slice (some ⟨b, o, none⟩) kids.len cap] 26 (0, 0))).alloc (.cells #[.map (some bm)] 104 (0, 0))).drew bm n f) := HM
  have hl1 : (0 : Int) < (kids.len : Int) := by omega
  have hl2 : 0 < kids.len := by omega
  clear hk1
  simp only [Nat.add_zero] at m0
  clear hrow hat hsl'' hsl3 hdr hbj hV hc hmv hH q0 q1 q2 q3 q4 q5
  go_enter Tryz.func57, Tryz.ntmps57
  go_wp2_with fail
  refine still_tail 5 (by kernel_rfl) (by kernel_rfl) ?_
  simp only [List.take_succ_cons, List.take_zero, List.drop_succ_cons, List.drop_zero]
  repeat still_step
  refine wpStill_nil ?_
  go_wp2_with (go_at_call 57; refine (HC.out _ hi bm n _ (by simp; omega) HMD.out HSL.out hl' HOK.out.1 HOK.out.2).mono ?_; rw [HCC.out]; rintro e w2 ⟨rfl, hb2⟩)
  all_goals
    go_ret
    exact ⟨ret_bool (by rw [HV.out]), below_trans HB.out (below_of_drew hb2)⟩
theorem nodeH_step (hH : AllH f kids) : NodeH f k t r l v kids := by
  intro w hi bm n kv hhi hm hs hl ho hk
  have hk5 : k = 1 ∨ k = 2 ∨ k = 3 ∨ k = 4 ∨ k = 5 := by
    by_cases h1 : k = 2
    · omega
    · have := ho
      simp only [ownB, if_neg h1, Bool.and_eq_true] at this
      have h3 := this.2
      by_cases a1 : k = 1
      · omega
      by_cases a3 : k = 3
      · omega
      by_cases a4 : k = 4
      · omega
      by_cases a5 : k = 5
      · omega
      simp [a1, a3, a4, a5] at h3
  rcases hk5 with rfl | rfl | rfl | rfl | rfl
  · exact nodeH_1 w hi bm n kv hhi hm hs hl ho hk
  · exact nodeH_2 w hi bm n kv hhi hm hs hl ho hk
  · exact nodeH_3 hH w hi bm n kv hhi hm hs hl ho hk
  · exact nodeH_4 hH w hi bm n kv hhi hm hs hl ho hk
  · exact nodeH_5 hH w hi bm n kv hhi hm hs hl ho hk
theorem allH (f : Th → Int) : ∀ g, AllH f g
  | .nil => trivial
  | .cons _ _ _ _ _ kids rest => ⟨nodeH_step (allH f kids), allH f rest⟩
theorem nodeH_all : NodeH f k t r l v kids := nodeH_step (allH f kids)
end

section
variable {w : World}
theorem notNumP (n : Int) (w : World) : Calls Tryz.prog 92 #[.int .i64 n] w fun e w' => e = .returned (.bool (!numB n)) ∧ w = w' := by
  obtain ⟨b, hb⟩ : ∃ b, numB n = b := ⟨_, rfl⟩
  have HB := Lib.hid hb
  rw [hb]
  clear hb
  go_enter Tryz.func92, Tryz.ntmps92
  go_wp2_with (go_at_call 64; refine (numP _ _).mono ?_; rw [HB.out]; rintro e w2 ⟨rfl, rfl⟩)
  go_ret
  exact ⟨rfl, rfl⟩
def IntsAt (w : World) (A : Option Addr) (st : List Int) : Prop := ∀ i v, st[i]? = some v → ∃ b o, A = some ⟨b, o, none⟩ ∧ w.cell? ⟨b, o + i, none⟩ = some (.int .i64 v)
theorem IntsAt.below {w w' : World} {A : Option Addr} {st : List Int} (h : IntsAt w A st) (hb : Below w.heap.size w w') : IntsAt w' A st := fun i v hv => by
  obtain ⟨b, o, e, c⟩ := h i v hv
  exact ⟨b, o, e, (hb.cell (p := ⟨b, o + i, none⟩) (World.block_lt_of_cell? w _ c)).trans c⟩
set_option maxHeartbeats 2000000 in
set_option maxRecDepth 100000 in
theorem idxInt (st : List Int) (A : Option Addr) (cap : Nat) (w : World) (hlen : st.length ≤ 9223372036854775806) (hA : IntsAt w A st) :
    Calls Tryz.prog 117 #[.slice A st.length cap, .func (.func 92) #[] #[]] w (IdxPost (st.any (fun v => !numB v)) w) := by
  have HA := Lib.hid hA
  clear hA
  go_enter Tryz.func117, Tryz.ntmps117
  go_wp2_with fail
  go_loopw [8] (fun i wr => ∃ j : Nat, j ≤ st.length ∧ i = .int .i64 j ∧ (st.take j).any (fun v => !numB v) = false ∧ w = wr) (fun i _ => st.length - (intOf i).toNat)
  case atStart => exact ⟨0, Nat.zero_le _, rfl, by simp, rfl⟩
  case round =>
    obtain ⟨j, hj, rfl, hno, rfl⟩ := hrel
    have HNO := Lib.hid hno
    clear hno
    by_cases hlt : j < st.length
    · have ex := List.getElem?_eq_getElem hlt
      obtain ⟨x, hx⟩ : ∃ x, st[j] = x := ⟨_, rfl⟩
      rw [hx] at ex
      obtain ⟨b, o, rfl, c0⟩ := HA.out _ _ ex
      obtain ⟨bj, hbj⟩ : ∃ bj, numB x = bj := ⟨_, rfl⟩
      have HBJ := Lib.hid hbj
      have HEX := Lib.hid ex
      clear hx ex hbj
      cases bj
      all_goals
        go_wp2_with (go_at_call 92; refine (notNumP x _).mono ?_; rw [HBJ.out]; rintro e w2 ⟨rfl, rfl⟩)
        skip
      · go_ret
        refine ⟨j, rfl, ?_, Below.refl _ _⟩
        obtain ⟨h1, he⟩ := List.getElem?_eq_some_iff.1 HEX.out
        rw [show st.any (fun v => !numB v) = true from List.any_eq_true.2 ⟨_, List.getElem_mem h1, by rw [he, HBJ.out]; rfl⟩]
        simp
      · go_roundw
        case rel =>
          refine ⟨j + 1, by omega, by go_num, ?_, trivial⟩
          obtain ⟨h1, he⟩ := List.getElem?_eq_some_iff.1 HEX.out
          rw [List.take_succ_eq_append_getElem h1, List.any_append, HNO.out, he]
          simp [HBJ.out]
        case measure => simp [intOf]; omega
    · have hjk : j = st.length := by omega
      have HFIN := Lib.hid (show st.any (fun v => !numB v) = false by have := HNO.out; rwa [List.take_of_length_le (by omega)] at this)
      go_wp2_with fail
      go_ret
      exact ⟨-1, rfl, by rw [HFIN.out]; rfl, Below.refl _ _⟩
set_option maxHeartbeats 2000000 in
set_option maxRecDepth 100000 in
theorem hasInt (st : List Int) (A : Option Addr) (cap : Nat) (w : World) (hlen : st.length ≤ 9223372036854775806) (hA : IntsAt w A st) :
    Calls Tryz.prog 91 #[.slice A st.length cap, .func (.func 92) #[] #[]] w fun e w' => e = .returned (.bool (st.any (fun v => !numB v))) ∧ Below w.heap.size w w' := by
  have HA := Lib.hid hA
  clear hA
  go_enter Tryz.func91, Tryz.ntmps91
  go_wp2_with (go_at_call 117; refine (idxInt st A cap w hlen HA.out).mono ?_; rintro e w2 ⟨i, rfl, hi, hb2⟩; have HI := Lib.hid hi; have HB := Lib.hid hb2; clear hi hb2)
  go_ret
  exact ⟨ret_bool HI.out, HB.out⟩
def numsB (st : List Int) (n : Nat) : Bool := decide (st.length = n) && st.all numB
set_option maxHeartbeats 2000000 in
set_option maxRecDepth 100000 in
theorem numbersP (st : List Int) (n : Nat) (A : Option Addr) (cap : Nat) (w : World) (hlen : st.length ≤ 9223372036854775806) (hn : n ≤ 1000000) (hA : IntsAt w A st) :
    Calls Tryz.prog 56 #[.slice A st.length cap, .int .i64 n] w fun e w' => e = .returned (.bool (numsB st n)) ∧ Below w.heap.size w w' := by
  have HA := Lib.hid hA
  clear hA
  by_cases he : st.length = n
  · subst he
    obtain ⟨b, hb⟩ : ∃ b, st.any (fun v => !numB v) = b := ⟨_, rfl⟩
    have HV := Lib.hid (show numsB st st.length = !b by rw [← hb]; simp [numsB, List.all_eq_not_any_not])
    have HB := Lib.hid hb
    have he' : ((st.length : Int) == (st.length : Int)) = true := by simp
    have hi := hasInt st A cap w hlen HA.out
    rw [hb] at hi
    have HI := Lib.hid hi
    clear hb hi
    go_enter Tryz.func56, Tryz.ntmps56
    go_wp2_with (go_at_call 91; refine HI.out.mono ?_; rintro e w2 ⟨rfl, hb2⟩)
    go_ret
    exact ⟨ret_bool HV.out.symm, hb2⟩
  · have HV := Lib.hid (show numsB st n = false by simp [numsB, he])
    have he' : ((st.length : Int) == (n : Int)) = false := by simp; omega
    go_enter Tryz.func56, Tryz.ntmps56
    go_wp2_with fail
    go_ret
    exact ⟨ret_bool HV.out.symm, Below.refl _ _⟩
end
end Go.Proofs.YtmlnibjnacfanaaGreatDoor
