/- Layer 8: the printer's kid, kids, node. -/
import Derived.Test.YtmlnibjnacfanaaGreatDoorCg
import Derived.Test.YtmlnibjnacfanaaGreatDoorCi
namespace Go.Proofs.YtmlnibjnacfanaaGreatDoor
open Go.RowKit

theorem SlAt.low {w w' : World} {hi B : Nat} {kv : Value} {f : Fr} (h : SlAt w hi kv f) (hh : hi ≤ B) (hb : Below B w w') : SlAt w' hi kv f :=
  h.keep fun b o h1 => hb.cell (p := ⟨b, o, none⟩) (Nat.lt_of_lt_of_le h1 hh)
def PrPost (B b : Nat) (L : List UInt8) (a : Int) (w : World) (e : Ending) (w' : World) : Prop := e = .returned (.tuple #[]) ∧ IsPr w' B b L a ∧ Pq B b w w'
def NodeW (a k t r : Int) (l : List UInt8) (v : Int) (kids : Fr) : Prop :=
  ∀ (w : World) (B b hi : Nat) (kv : Value) (L : List UInt8), IsPr w B b L a → hi ≤ B → B ≤ w.heap.size → 6 ≤ B → Env w → ownB a k t r l v kids.len = true → okF a kids → L.length + (nodeT a k t r l v kids).length ≤ 140737488355328 → l.length ≤ 9223372036854775807 → SlAt w hi kv kids →
    Calls Tryz.prog 38 #[.pointer (some ⟨b, 0, none⟩), nodeV k t r l v kv] w (PrPost B b (L ++ nodeT a k t r l v kids) a w)
theorem write_c (B b : Nat) (l : List UInt8) (a : Int) (s : List UInt8) (w : World) (h : IsPr w B b l a) (hlen : l.length + s.length ≤ 140737488355328) (hBw : B ≤ w.heap.size) :
    Calls Tryz.prog 37 #[.pointer (some ⟨b, 0, none⟩), .string ⟨s.toArray⟩] w fun e w' => e = .returned (.tuple #[.int .i64 s.length, .nilIface]) ∧ PrAt w' B b (.pointer (some ⟨b, 0, none⟩)) (l ++ s) a ∧ Pq B b w w' := by
  have := writeString_c B b l a ⟨s.toArray⟩ w h (by rw [str_size]; exact hlen) hBw
  rw [str_size] at this
  exact this
section
variable {a k t r v : Int} {l : List UInt8} {kids : Fr}
set_option maxHeartbeats 2000000 in
set_option maxRecDepth 100000 in
theorem kidP (hN : NodeW a k t r l v kids) (br : Bool) (w : World) (B b hi : Nat) (kv : Value) (L : List UInt8) (h : IsPr w B b L a) (hhi : hi ≤ B) (hB : B ≤ w.heap.size) (h6 : 6 ≤ B) (hE : Env w) (ho : ownB a k t r l v kids.len = true) (hk : okF a kids)
    (hlen : L.length + (brkT br (nodeT a k t r l v kids)).length ≤ 140737488355328) (hl : l.length ≤ 9223372036854775807) (hs : SlAt w hi kv kids) :
    Calls Tryz.prog 71 #[.pointer (some ⟨b, 0, none⟩), nodeV k t r l v kv, .bool br] w (PrPost B b (L ++ brkT br (nodeT a k t r l v kids)) a w) := by
  obtain ⟨A, cap, rfl, hs'⟩ := hs
  have hs2 : SlAt w hi (.slice A kids.len cap) kids := ⟨A, cap, rfl, hs'⟩
  have HS := Lib.hid hs2
  have HN := Lib.hid hN
  have HO := Lib.hid ho
  have HK := Lib.hid hk
  have hbl := h.lt
  have H0 := Lib.hid (h.below (alloc_b w (.cells #[.int .i64 k, .int .i64 t, .int .i64 r, .string ⟨l.toArray⟩, .int .i64 v, .slice A kids.len cap] 26 (0, 0))))
  have HBX := Lib.hid (Blk.new w 26 #[.int .i64 k, .int .i64 t, .int .i64 r, .string ⟨l.toArray⟩, .int .i64 v, .slice A kids.len cap])
  have HQ0 := Lib.hid (Pq.of_below (B := B) (b := b) (alloc_b w (.cells #[.int .i64 k, .int .i64 t, .int .i64 r, .string ⟨l.toArray⟩, .int .i64 v, .slice A kids.len cap] 26 (0, 0))) hB)
  clear hs' hs2 hN ho hk h
  cases br with
  | false =>
    have hlen' : L.length + (nodeT a k t r l v kids).length ≤ 140737488355328 := hlen
    have HL := Lib.hid hlen'
    clear hlen hlen'
    go_enter Tryz.func71, Tryz.ntmps71
    go_wp2_with (go_at_call 38; refine (HN.out _ B b hi _ L H0.out hhi (by simp; omega) h6 (hE.low HQ0.out.low h6) HO.out HK.out HL.out hl (HS.out.low hhi HQ0.out.low)).mono ?_; rintro e w2 ⟨rfl, hp, hq⟩)
    go_end0
    exact ⟨rfl, hp, HQ0.out.trans hq⟩
  | true =>
    have hlen' : L.length + ((nodeT a k t r l v kids).length + 2) ≤ 140737488355328 := by simpa [brkT] using hlen
    have HT := Lib.hid (show L ++ brkT true (nodeT a k t r l v kids) = ((L ++ [40]) ++ nodeT a k t r l v kids) ++ [41] by simp [brkT])
    have HL := Lib.hid hlen'
    clear hlen hlen'
    go_enter Tryz.func71, Tryz.ntmps71
    go_wp2_with fail
    refine (write_c B b L a [40] _ H0.out (by have := HL.out; simp; omega) (by simp; omega)).mono ?_
    rintro e w1 ⟨rfl, hp1, hq1⟩
    have hq1' := HQ0.out.trans hq1
    have HP1 := Lib.hid hp1
    have HQ1 := Lib.hid hq1'
    have bx := Pq.blk HBX.out hq1 (by omega) (by decide)
    have q0 := bx.cell 0
    have q1 := bx.cell 1
    have q2 := bx.cell 2
    have q3 := bx.cell 3
    have q4 := bx.cell 4
    have q5 := bx.cell 5
    have hz1 : B ≤ w1.heap.size := Nat.le_trans hB hq1'.low.size
    clear hp1 hq1 hq1' bx
    go_wp2_with fail
    refine (HN.out _ B b hi _ (L ++ [40]) (.inr HP1.out) hhi hz1 h6 (hE.low HQ1.out.low h6) HO.out HK.out (by have := HL.out; simp; omega) hl (HS.out.low hhi HQ1.out.low)).mono ?_
    rintro e w2 ⟨rfl, hp2, hq2⟩
    have HP2 := Lib.hid hp2
    have hq2' := HQ1.out.trans hq2
    have HQ2 := Lib.hid hq2'
    have hz2 : B ≤ w2.heap.size := Nat.le_trans hB hq2'.low.size
    clear hp2 hq2 hq2' q0 q1 q2 q3 q4 q5
    go_wp2_with fail
    refine (write_c B b _ a [41] _ HP2.out (by have := HL.out; simp; omega) hz2).mono ?_
    rintro e w3 ⟨rfl, hp3, hq3⟩
    have HP3 := Lib.hid hp3
    have HQ3 := Lib.hid (HQ2.out.trans hq3)
    clear hp3 hq3
    go_wp2_with fail
    go_end0
    exact ⟨rfl, by rw [HT.out]; exact .inr HP3.out, HQ3.out⟩
end

/-! ### kids, node -/
def AllW (a : Int) : Fr → Prop
  | .nil => True
  | .cons k t r l v kids rest => NodeW a k t r l v kids ∧ AllW a rest
theorem AllW.at_ {a : Int} : ∀ (f : Fr) (j : Nat) {k t r : Int} {l : List UInt8} {v : Int} {kids rest : Fr}, AllW a f → f.drop j = .cons k t r l v kids rest → NodeW a k t r l v kids
  | .nil, 0, _, _, _, _, _, _, _, _, h => by cases h
  | .nil, _ + 1, _, _, _, _, _, _, _, _, h => by cases h
  | .cons _ _ _ _ _ _ _, 0, _, _, _, _, _, _, _, h, e => by cases e; exact h.1
  | .cons _ _ _ _ _ _ rest, j + 1, _, _, _, _, _, _, _, h, e => AllW.at_ rest j h.2 e
theorem weak4 (k : Int) (w : World) : Calls Tryz.prog 68 #[.int .i64 k] w fun e w' => e = .returned (.bool (brkB 4 k)) ∧ w = w' := by
  go_enter Tryz.func68, Tryz.ntmps68
  go_wp2
  all_goals (go_ret; exact ⟨ret_bool (by simp_all [brkB]), rfl⟩)
theorem weak5 (k : Int) (w : World) : Calls Tryz.prog 73 #[.int .i64 k] w fun e w' => e = .returned (.bool (brkB 5 k)) ∧ w = w' := by
  go_enter Tryz.func73, Tryz.ntmps73
  go_wp2
  all_goals (go_ret; exact ⟨ret_bool (by simp [brkB]), rfl⟩)
theorem txtF_step {a : Int} {k t r : Int} {l : List UInt8} {v : Int} {kids rest : Fr} {m : Int} {b : Bool} : txtF a (.cons k t r l v kids rest) m b = ((if b then [] else sepT m) ++ brkT (brkB m k) (nodeT a k t r l v kids)) ++ txtF a rest m false := rfl

section
variable {a : Int} {kids : Fr}
set_option maxHeartbeats 4000000 in
set_option maxRecDepth 100000 in
theorem kidsP4 (hN : AllW a kids) (w : World) (B b hi : Nat) (A : Option Addr) (cap : Nat) (L : List UInt8) (h : IsPr w B b L a) (hhi : hi ≤ B) (hB : B ≤ w.heap.size) (h6 : 6 ≤ B) (hE : Env w) (hk : okF a kids)
    (hlen : L.length + (txtF a kids 4 true).length ≤ 140737488355328) (hs : SlAt w hi (.slice A kids.len cap) kids) :
    Calls Tryz.prog 72 #[.pointer (some ⟨b, 0, none⟩), .slice A kids.len cap, .string ⟨#[32, 47, 92, 32]⟩, .func (.func 68) #[] #[]] w (PrPost B b (L ++ txtF a kids 4 true) a w) := by
  obtain ⟨A', cap', hse, hs1, hs2, hs3⟩ := hs
  injection hse with e1 _ e2
  subst e1 e2
  have S3 := Lib.hid hs3
  have HN := Lib.hid hN
  have HK := Lib.hid hk
  have H0 := Lib.hid h
  have HL := Lib.hid hlen
  have hbl := h.lt
  clear hs3 hN hk h hlen
  go_enter Tryz.func72, Tryz.ntmps72
  go_wp2_with fail
  go_loopw [12] (fun i wr => ∃ (j : Nat) (Lj : List UInt8), j ≤ kids.len ∧ i = .int .i64 j ∧ Lj ++ txtF a (kids.drop j) 4 (decide (j = 0)) = L ++ txtF a kids 4 true ∧ IsPr wr B b Lj a ∧ Pq B b w wr) (fun i _ => kids.len - (intOf i).toNat)
  case atStart => exact ⟨0, L, Nat.zero_le _, rfl, rfl, H0.out, Pq.refl _ _ _⟩
  case round =>
    obtain ⟨j, Lj, hj, rfl, hL, hp, hq⟩ := hrel
    have HLJ := Lib.hid hL
    have HP := Lib.hid hp
    have HQ := Lib.hid hq
    have hzr : B ≤ wr.heap.size := Nat.le_trans hB hq.low.size
    have hbr := hp.lt
    clear hL hp hq
    by_cases hlt : j < kids.len
    · obtain ⟨bb, o, rfl, hb, hrow⟩ := S3.out (by omega)
      obtain ⟨k', t', r', l', v', kids', rest', hdr⟩ := kids.drop_lt j hlt
      have hrow' := RowAt.keep (w' := wr) (fun b o hb => HQ.out.low.cell (p := ⟨b, o, none⟩) (show b < B by omega)) kids bb o hb hrow
      have hat := RowAt.at_ kids bb o j hrow'
      rw [hdr] at hat
      obtain ⟨kv', q0, q1, q2, q3, q4, q5, hl', hsl'⟩ := hat.head
      obtain ⟨A', cap', rfl, hsl''⟩ := hsl'
      have hsl' : SlAt wr hi (.slice A' kids'.len cap') kids' := ⟨A', cap', rfl, hsl''⟩
      have HSL := Lib.hid hsl'
      obtain ⟨hob, hok⟩ := okF.at_ kids j HK.out hdr
      have HOB := Lib.hid hob
      have HOK := Lib.hid hok
      have HC := Lib.hid (AllW.at_ kids j HN.out hdr)
      have HNX := Lib.hid (kids.drop_next j hdr)
      have HST := Lib.hid (show Lj ++ (((if decide (j = 0) then [] else sepT 4) ++ brkT (brkB 4 k') (nodeT a k' t' r' l' v' kids')) ++ txtF a rest' 4 false) = L ++ txtF a kids 4 true by have := HLJ.out; rw [hdr, txtF_step] at this; exact this)
      have HLB := Lib.hid (show Lj.length + (if decide (j = 0) then [] else sepT 4).length + (brkT (brkB 4 k') (nodeT a k' t' r' l' v' kids')).length ≤ 140737488355328 by
        have h1 := congrArg List.length HST.out
        have h2 := HL.out
        simp only [List.length_append] at h1
        omega)
      have HBX := Lib.hid (Blk.new wr 26 #[.int .i64 k', .int .i64 t', .int .i64 r', .string ⟨l'.toArray⟩, .int .i64 v', .slice A' kids'.len cap'])
      have HQ0 := Lib.hid (Pq.of_below (B := B) (b := b) (alloc_b wr (.cells #[.int .i64 k', .int .i64 t', .int .i64 r', .string ⟨l'.toArray⟩, .int .i64 v', .slice A' kids'.len cap'] 26 (0, 0))) hzr)
      have HP0 := Lib.hid (HP.out.below (alloc_b wr (.cells #[.int .i64 k', .int .i64 t', .int .i64 r', .string ⟨l'.toArray⟩, .int .i64 v', .slice A' kids'.len cap'] 26 (0, 0))))
      clear hrow hrow' hat hsl'' hsl' hdr hob hok
      by_cases hj0 : j = 0
      · have hd0 : decide (0 < j) = false := by simp; omega
        have HJ0 := Lib.hid hj0
        clear hj0
        have HPB : IsPr (wr.alloc (.cells #[.int .i64 k', .int .i64 t', .int .i64 r', .string ⟨l'.toArray⟩, .int .i64 v', .slice A' kids'.len cap'] 26 (0, 0))) B b (Lj ++ (if decide (j = 0) then [] else sepT 4)) a := by simpa [HJ0.out] using HP0.out
        have HPB := Lib.hid HPB
        go_wp2_with fail
        generalize hW1 : wr.alloc (.cells #[.int .i64 k', .int .i64 t', .int .i64 r', .string ⟨l'.toArray⟩, .int .i64 v', .slice A' kids'.len cap'] 26 (0, 0)) = W1
        have hb1 := HBX.out
        have hq1 := HQ0.out
        have hp1 := HPB.out
        rw [hW1] at hb1 hq1 hp1
        have hn : wr.heap.size < W1.heap.size := hb1.lt
        have HB1 := Lib.hid hb1
        have HQ1 := Lib.hid (HQ.out.trans hq1)
        have HQX := Lib.hid hq1
        have HP1 := Lib.hid hp1
        clear hW1 hb1 hq1 hp1 q0 q1 q2 q3 q4 q5
        have HS : Hid (∀ x, Below W1.heap.size W1 x → x.cell? ⟨wr.heap.size, 0, none⟩ = some (.int .i64 k') ∧ x.cell? ⟨wr.heap.size, 1, none⟩ = some (.int .i64 t') ∧ x.cell? ⟨wr.heap.size, 2, none⟩ = some (.int .i64 r') ∧ x.cell? ⟨wr.heap.size, 3, none⟩ = some (.string ⟨l'.toArray⟩) ∧
            x.cell? ⟨wr.heap.size, 4, none⟩ = some (.int .i64 v') ∧ x.cell? ⟨wr.heap.size, 5, none⟩ = some (.slice A' kids'.len cap')) := Lib.hid (fun x hx => by
          have hb := HB1.out.go hx
          exact ⟨hb.cell 0, hb.cell 1, hb.cell 2, hb.cell 3, hb.cell 4, hb.cell 5⟩)
        obtain ⟨c0, c1, c2, c3, c4, c5⟩ := HS.out W1 (Below.refl _ _)
        have hz1 : B ≤ W1.heap.size := Nat.le_trans hB HQ1.out.low.size
        have HEW := Lib.hid (hE.low HQ1.out.drew.low h6)
        have HSW := Lib.hid (HSL.out.low hhi HQX.out.drew.low)
        refine still_tail 6 (by kernel_rfl) (by kernel_rfl) ?_
        simp only [List.take_succ_cons, List.take_zero, List.drop_succ_cons, List.drop_zero]
        repeat still_step
        still_call ((weak4 _ _).mono fun _ _ ⟨h, k⟩ => ⟨h, k.symm⟩)
        refine wpStill_nil ?_
        go_wp2_with fail
        refine (kidP HC.out _ W1.drew B b hi _ _ HP1.out.drew hhi hz1 h6 HEW.out HOB.out HOK.out (by have := HLB.out; simp only [List.length_append]; omega) hl' HSW.out).mono ?_
        rintro e w3 ⟨rfl, hp3, hq3⟩
        have HQ3 := Lib.hid (HQ1.out.trans (Pq.of_drew hq3))
        have HP3 := Lib.hid hp3
        clear hp3 hq3 c0 c1 c2 c3 c4 c5
        go_wp2_with fail
        go_roundw
        case rel => exact ⟨j + 1, _, by omega, by go_num, by rw [← HST.out, HNX.out, show decide (j + 1 = 0) = false by simp]; simp only [List.append_assoc], HP3.out, HQ3.out⟩
        case measure => simp [intOf]; omega
      · have hd0 : decide (j = 0) = false := by simpa using hj0
        have hgt : 0 < j := by omega
        have hgt' : decide (0 < j) = true := by simp; omega
        have HD0 := Lib.hid hd0
        clear hj0 hd0
        go_wp2_with fail
        refine (write_c B b Lj a [32, 47, 92, 32] _ HP0.out (by have := HLB.out; rw [HD0.out] at this; simp [sepT] at this ⊢; omega) (by simp; omega)).mono ?_
        rintro e W1 ⟨rfl, hp1, hq1⟩
        have hn : wr.heap.size < W1.heap.size := by have := hq1.low.size; have := (Pq.blk HBX.out hq1 (by omega) (by decide)).lt; omega
        have HB1 := Lib.hid (Pq.blk HBX.out hq1 (by omega) (by decide))
        have HQ1 := Lib.hid (HQ.out.trans (HQ0.out.trans hq1))
        have HQX := Lib.hid (HQ0.out.trans hq1)
        have HP1 : IsPr W1 B b (Lj ++ (if decide (j = 0) then [] else sepT 4)) a := by rw [HD0.out]; exact .inr hp1
        have HP1 := Lib.hid HP1
        clear hp1 hq1 q0 q1 q2 q3 q4 q5
        go_wp2_with fail
        have HS : Hid (∀ x, Below W1.heap.size W1 x → x.cell? ⟨wr.heap.size, 0, none⟩ = some (.int .i64 k') ∧ x.cell? ⟨wr.heap.size, 1, none⟩ = some (.int .i64 t') ∧ x.cell? ⟨wr.heap.size, 2, none⟩ = some (.int .i64 r') ∧ x.cell? ⟨wr.heap.size, 3, none⟩ = some (.string ⟨l'.toArray⟩) ∧
            x.cell? ⟨wr.heap.size, 4, none⟩ = some (.int .i64 v') ∧ x.cell? ⟨wr.heap.size, 5, none⟩ = some (.slice A' kids'.len cap')) := Lib.hid (fun x hx => by
          have hb := HB1.out.go hx
          exact ⟨hb.cell 0, hb.cell 1, hb.cell 2, hb.cell 3, hb.cell 4, hb.cell 5⟩)
        obtain ⟨c0, c1, c2, c3, c4, c5⟩ := HS.out W1 (Below.refl _ _)
        have hz1 : B ≤ W1.heap.size := Nat.le_trans hB HQ1.out.low.size
        have HEW := Lib.hid (hE.low HQ1.out.drew.low h6)
        have HSW := Lib.hid (HSL.out.low hhi HQX.out.drew.low)
        refine still_tail 6 (by kernel_rfl) (by kernel_rfl) ?_
        simp only [List.take_succ_cons, List.take_zero, List.drop_succ_cons, List.drop_zero]
        repeat still_step
        still_call ((weak4 _ _).mono fun _ _ ⟨h, k⟩ => ⟨h, k.symm⟩)
        refine wpStill_nil ?_
        go_wp2_with fail
        refine (kidP HC.out _ W1.drew B b hi _ _ HP1.out.drew hhi hz1 h6 HEW.out HOB.out HOK.out (by have := HLB.out; simp only [List.length_append]; omega) hl' HSW.out).mono ?_
        rintro e w3 ⟨rfl, hp3, hq3⟩
        have HQ3 := Lib.hid (HQ1.out.trans (Pq.of_drew hq3))
        have HP3 := Lib.hid hp3
        clear hp3 hq3 c0 c1 c2 c3 c4 c5
        go_wp2_with fail
        go_roundw
        case rel => exact ⟨j + 1, _, by omega, by go_num, by rw [← HST.out, HNX.out, show decide (j + 1 = 0) = false by simp]; simp only [List.append_assoc], HP3.out, HQ3.out⟩
        case measure => simp [intOf]; omega
    · have HFIN := Lib.hid (show L ++ txtF a kids 4 true = Lj by have := HLJ.out; rw [Fr.drop_ge kids j (by omega)] at this; rw [← this]; simp [txtF])
      go_wp2_with fail
      go_end0
      exact ⟨rfl, by rw [HFIN.out]; exact HP.out, HQ.out⟩
end

section
variable {a : Int} {kids : Fr}
set_option maxHeartbeats 4000000 in
set_option maxRecDepth 100000 in
theorem kidsP5 (hN : AllW a kids) (w : World) (B b hi : Nat) (A : Option Addr) (cap : Nat) (L : List UInt8) (h : IsPr w B b L a) (hhi : hi ≤ B) (hB : B ≤ w.heap.size) (h6 : 6 ≤ B) (hE : Env w) (hk : okF a kids)
    (hlen : L.length + (txtF a kids 5 true).length ≤ 140737488355328) (hs : SlAt w hi (.slice A kids.len cap) kids) :
    Calls Tryz.prog 72 #[.pointer (some ⟨b, 0, none⟩), .slice A kids.len cap, .string ⟨#[32, 92, 47, 32]⟩, .func (.func 73) #[] #[]] w (PrPost B b (L ++ txtF a kids 5 true) a w) := by
  obtain ⟨A', cap', hse, hs1, hs2, hs3⟩ := hs
  injection hse with e1 _ e2
  subst e1 e2
  have S3 := Lib.hid hs3
  have HN := Lib.hid hN
  have HK := Lib.hid hk
  have H0 := Lib.hid h
  have HL := Lib.hid hlen
  have hbl := h.lt
  clear hs3 hN hk h hlen
  go_enter Tryz.func72, Tryz.ntmps72
  go_wp2_with fail
  go_loopw [12] (fun i wr => ∃ (j : Nat) (Lj : List UInt8), j ≤ kids.len ∧ i = .int .i64 j ∧ Lj ++ txtF a (kids.drop j) 5 (decide (j = 0)) = L ++ txtF a kids 5 true ∧ IsPr wr B b Lj a ∧ Pq B b w wr) (fun i _ => kids.len - (intOf i).toNat)
  case atStart => exact ⟨0, L, Nat.zero_le _, rfl, rfl, H0.out, Pq.refl _ _ _⟩
  case round =>
    obtain ⟨j, Lj, hj, rfl, hL, hp, hq⟩ := hrel
    have HLJ := Lib.hid hL
    have HP := Lib.hid hp
    have HQ := Lib.hid hq
    have hzr : B ≤ wr.heap.size := Nat.le_trans hB hq.low.size
    have hbr := hp.lt
    clear hL hp hq
    by_cases hlt : j < kids.len
    · obtain ⟨bb, o, rfl, hb, hrow⟩ := S3.out (by omega)
      obtain ⟨k', t', r', l', v', kids', rest', hdr⟩ := kids.drop_lt j hlt
      have hrow' := RowAt.keep (w' := wr) (fun b o hb => HQ.out.low.cell (p := ⟨b, o, none⟩) (show b < B by omega)) kids bb o hb hrow
      have hat := RowAt.at_ kids bb o j hrow'
      rw [hdr] at hat
      obtain ⟨kv', q0, q1, q2, q3, q4, q5, hl', hsl'⟩ := hat.head
      obtain ⟨A', cap', rfl, hsl''⟩ := hsl'
      have hsl' : SlAt wr hi (.slice A' kids'.len cap') kids' := ⟨A', cap', rfl, hsl''⟩
      have HSL := Lib.hid hsl'
      obtain ⟨hob, hok⟩ := okF.at_ kids j HK.out hdr
      have HOB := Lib.hid hob
      have HOK := Lib.hid hok
      have HC := Lib.hid (AllW.at_ kids j HN.out hdr)
      have HNX := Lib.hid (kids.drop_next j hdr)
      have HST := Lib.hid (show Lj ++ (((if decide (j = 0) then [] else sepT 5) ++ brkT (brkB 5 k') (nodeT a k' t' r' l' v' kids')) ++ txtF a rest' 5 false) = L ++ txtF a kids 5 true by have := HLJ.out; rw [hdr, txtF_step] at this; exact this)
      have HLB := Lib.hid (show Lj.length + (if decide (j = 0) then [] else sepT 5).length + (brkT (brkB 5 k') (nodeT a k' t' r' l' v' kids')).length ≤ 140737488355328 by
        have h1 := congrArg List.length HST.out
        have h2 := HL.out
        simp only [List.length_append] at h1
        omega)
      have HBX := Lib.hid (Blk.new wr 26 #[.int .i64 k', .int .i64 t', .int .i64 r', .string ⟨l'.toArray⟩, .int .i64 v', .slice A' kids'.len cap'])
      have HQ0 := Lib.hid (Pq.of_below (B := B) (b := b) (alloc_b wr (.cells #[.int .i64 k', .int .i64 t', .int .i64 r', .string ⟨l'.toArray⟩, .int .i64 v', .slice A' kids'.len cap'] 26 (0, 0))) hzr)
      have HP0 := Lib.hid (HP.out.below (alloc_b wr (.cells #[.int .i64 k', .int .i64 t', .int .i64 r', .string ⟨l'.toArray⟩, .int .i64 v', .slice A' kids'.len cap'] 26 (0, 0))))
      clear hrow hrow' hat hsl'' hsl' hdr hob hok
      by_cases hj0 : j = 0
      · have hd0 : decide (0 < j) = false := by simp; omega
        have HJ0 := Lib.hid hj0
        clear hj0
        have HPB : IsPr (wr.alloc (.cells #[.int .i64 k', .int .i64 t', .int .i64 r', .string ⟨l'.toArray⟩, .int .i64 v', .slice A' kids'.len cap'] 26 (0, 0))) B b (Lj ++ (if decide (j = 0) then [] else sepT 5)) a := by simpa [HJ0.out] using HP0.out
        have HPB := Lib.hid HPB
        go_wp2_with fail
        generalize hW1 : wr.alloc (.cells #[.int .i64 k', .int .i64 t', .int .i64 r', .string ⟨l'.toArray⟩, .int .i64 v', .slice A' kids'.len cap'] 26 (0, 0)) = W1
        have hb1 := HBX.out
        have hq1 := HQ0.out
        have hp1 := HPB.out
        rw [hW1] at hb1 hq1 hp1
        have hn : wr.heap.size < W1.heap.size := hb1.lt
        have HB1 := Lib.hid hb1
        have HQ1 := Lib.hid (HQ.out.trans hq1)
        have HQX := Lib.hid hq1
        have HP1 := Lib.hid hp1
        clear hW1 hb1 hq1 hp1 q0 q1 q2 q3 q4 q5
        have HS : Hid (∀ x, Below W1.heap.size W1 x → x.cell? ⟨wr.heap.size, 0, none⟩ = some (.int .i64 k') ∧ x.cell? ⟨wr.heap.size, 1, none⟩ = some (.int .i64 t') ∧ x.cell? ⟨wr.heap.size, 2, none⟩ = some (.int .i64 r') ∧ x.cell? ⟨wr.heap.size, 3, none⟩ = some (.string ⟨l'.toArray⟩) ∧
            x.cell? ⟨wr.heap.size, 4, none⟩ = some (.int .i64 v') ∧ x.cell? ⟨wr.heap.size, 5, none⟩ = some (.slice A' kids'.len cap')) := Lib.hid (fun x hx => by
          have hb := HB1.out.go hx
          exact ⟨hb.cell 0, hb.cell 1, hb.cell 2, hb.cell 3, hb.cell 4, hb.cell 5⟩)
        obtain ⟨c0, c1, c2, c3, c4, c5⟩ := HS.out W1 (Below.refl _ _)
        have hz1 : B ≤ W1.heap.size := Nat.le_trans hB HQ1.out.low.size
        have HEW := Lib.hid (hE.low HQ1.out.drew.low h6)
        have HSW := Lib.hid (HSL.out.low hhi HQX.out.drew.low)
        refine still_tail 6 (by kernel_rfl) (by kernel_rfl) ?_
        simp only [List.take_succ_cons, List.take_zero, List.drop_succ_cons, List.drop_zero]
        repeat still_step
        still_call ((weak5 _ _).mono fun _ _ ⟨h, k⟩ => ⟨h, k.symm⟩)
        refine wpStill_nil ?_
        go_wp2_with fail
        refine (kidP HC.out _ W1.drew B b hi _ _ HP1.out.drew hhi hz1 h6 HEW.out HOB.out HOK.out (by have := HLB.out; simp only [List.length_append]; omega) hl' HSW.out).mono ?_
        rintro e w3 ⟨rfl, hp3, hq3⟩
        have HQ3 := Lib.hid (HQ1.out.trans (Pq.of_drew hq3))
        have HP3 := Lib.hid hp3
        clear hp3 hq3 c0 c1 c2 c3 c4 c5
        go_wp2_with fail
        go_roundw
        case rel => exact ⟨j + 1, _, by omega, by go_num, by rw [← HST.out, HNX.out, show decide (j + 1 = 0) = false by simp]; simp only [List.append_assoc], HP3.out, HQ3.out⟩
        case measure => simp [intOf]; omega
      · have hd0 : decide (j = 0) = false := by simpa using hj0
        have hgt : 0 < j := by omega
        have hgt' : decide (0 < j) = true := by simp; omega
        have HD0 := Lib.hid hd0
        clear hj0 hd0
        go_wp2_with fail
        refine (write_c B b Lj a [32, 92, 47, 32] _ HP0.out (by have := HLB.out; rw [HD0.out] at this; simp [sepT] at this ⊢; omega) (by simp; omega)).mono ?_
        rintro e W1 ⟨rfl, hp1, hq1⟩
        have hn : wr.heap.size < W1.heap.size := by have := hq1.low.size; have := (Pq.blk HBX.out hq1 (by omega) (by decide)).lt; omega
        have HB1 := Lib.hid (Pq.blk HBX.out hq1 (by omega) (by decide))
        have HQ1 := Lib.hid (HQ.out.trans (HQ0.out.trans hq1))
        have HQX := Lib.hid (HQ0.out.trans hq1)
        have HP1 : IsPr W1 B b (Lj ++ (if decide (j = 0) then [] else sepT 5)) a := by rw [HD0.out]; exact .inr hp1
        have HP1 := Lib.hid HP1
        clear hp1 hq1 q0 q1 q2 q3 q4 q5
        go_wp2_with fail
        have HS : Hid (∀ x, Below W1.heap.size W1 x → x.cell? ⟨wr.heap.size, 0, none⟩ = some (.int .i64 k') ∧ x.cell? ⟨wr.heap.size, 1, none⟩ = some (.int .i64 t') ∧ x.cell? ⟨wr.heap.size, 2, none⟩ = some (.int .i64 r') ∧ x.cell? ⟨wr.heap.size, 3, none⟩ = some (.string ⟨l'.toArray⟩) ∧
            x.cell? ⟨wr.heap.size, 4, none⟩ = some (.int .i64 v') ∧ x.cell? ⟨wr.heap.size, 5, none⟩ = some (.slice A' kids'.len cap')) := Lib.hid (fun x hx => by
          have hb := HB1.out.go hx
          exact ⟨hb.cell 0, hb.cell 1, hb.cell 2, hb.cell 3, hb.cell 4, hb.cell 5⟩)
        obtain ⟨c0, c1, c2, c3, c4, c5⟩ := HS.out W1 (Below.refl _ _)
        have hz1 : B ≤ W1.heap.size := Nat.le_trans hB HQ1.out.low.size
        have HEW := Lib.hid (hE.low HQ1.out.drew.low h6)
        have HSW := Lib.hid (HSL.out.low hhi HQX.out.drew.low)
        refine still_tail 6 (by kernel_rfl) (by kernel_rfl) ?_
        simp only [List.take_succ_cons, List.take_zero, List.drop_succ_cons, List.drop_zero]
        repeat still_step
        still_call ((weak5 _ _).mono fun _ _ ⟨h, k⟩ => ⟨h, k.symm⟩)
        refine wpStill_nil ?_
        go_wp2_with fail
        refine (kidP HC.out _ W1.drew B b hi _ _ HP1.out.drew hhi hz1 h6 HEW.out HOB.out HOK.out (by have := HLB.out; simp only [List.length_append]; omega) hl' HSW.out).mono ?_
        rintro e w3 ⟨rfl, hp3, hq3⟩
        have HQ3 := Lib.hid (HQ1.out.trans (Pq.of_drew hq3))
        have HP3 := Lib.hid hp3
        clear hp3 hq3 c0 c1 c2 c3 c4 c5
        go_wp2_with fail
        go_roundw
        case rel => exact ⟨j + 1, _, by omega, by go_num, by rw [← HST.out, HNX.out, show decide (j + 1 = 0) = false by simp]; simp only [List.append_assoc], HP3.out, HQ3.out⟩
        case measure => simp [intOf]; omega
    · have HFIN := Lib.hid (show L ++ txtF a kids 5 true = Lj by have := HLJ.out; rw [Fr.drop_ge kids j (by omega)] at this; rw [← this]; simp [txtF])
      go_wp2_with fail
      go_end0
      exact ⟨rfl, by rw [HFIN.out]; exact HP.out, HQ.out⟩
end
end Go.Proofs.YtmlnibjnacfanaaGreatDoor
