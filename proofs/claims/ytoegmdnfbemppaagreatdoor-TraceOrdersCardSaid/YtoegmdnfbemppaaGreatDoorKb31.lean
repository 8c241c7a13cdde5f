/- Layer 15: the runner's reckon: the program's. -/
import Derived.Test.YtoegmdnfbemppaaGreatDoorKb26

namespace Go.Proofs.YtoegmdnfbemppaaGreatDoor
open Go.RowKit

section
set_option maxHeartbeats 4000000
set_option maxRecDepth 100000
variable {w0 w : World} {g nr k : Nat} {S : RunS} {r : Rn} {V : RunV}
theorem reckP_e (op : Int) (d a b : Nat) (imm : Int) (loc label : List UInt8) (fence : Int) (ra rb : Rg) (hop : op = 9) (hab : a = b) (HS : Stat w0 S) (hb : Below w0.heap.size w0 w) (hI : Inv S.C nr k r) (hR : RunAt w w0.heap.size g S r V) (hd : d < r.regs.length) (ha : r.regs[a]? = some ra) (hra : RgOK S.C r.evs ra) (hb2 : r.regs[b]? = some rb) (hrb : RgOK S.C r.evs rb) (hl : r.regs.length ≤ 32) :
    Calls Tryz.prog 95 #[.pointer (some ⟨g, 0, none⟩), insK op d a b imm loc label fence] w (RunPost w0.heap.size g S V (putL S.C r (d : Int) ⟨.num 0, ra.on ||| rb.on⟩) (.tuple #[]) w) := by
  subst hop
  subst hab
  have HR := Lib.hid hR
  have hbs := hb.size
  have room := hI.room
  have HBI := Lib.hid (Blk.new w 77 #[.int .i64 9, .int .i64 (d : Int), .int .i64 (a : Int), .int .i64 (a : Int), .int .i64 imm, .string ⟨loc.toArray⟩, .string ⟨label.toArray⟩, .int .i64 fence])
  have HB0 := Lib.hid (alloc_b w (.cells #[.int .i64 9, .int .i64 (d : Int), .int .i64 (a : Int), .int .i64 (a : Int), .int .i64 imm, .string ⟨loc.toArray⟩, .string ⟨label.toArray⟩, .int .i64 fence] 77 (0, 0)))
  obtain ⟨q, hvr, hqb, hqB⟩ := hR.regs
  have hal := (List.getElem?_eq_some_iff.1 ha).1
  have hi1 : (0 : Int) ≤ (a : Int) := by omega
  have hi2 : (a : Int) < (r.regs.length : Int) := by omega
  obtain ⟨c0, c1, c2, c3, c4⟩ := regs_cell hqb ha
  obtain ⟨b0, b1, b2, b3, b4⟩ := regs_cell hqb hb2
  have hbl := (List.getElem?_eq_some_iff.1 hb2).1
  have hi3 : (0 : Int) ≤ (a : Int) := by omega
  have hi4 : (a : Int) < (r.regs.length : Int) := by omega
  have hao := hra.2.lt64 (show r.evs.length ≤ 64 by omega)
  have hbo := hrb.2.lt64 (show r.evs.length ≤ 64 by omega)
  have hor := fun w => orP ra.on rb.on w hao hbo
  obtain ⟨oo, hoo⟩ : ∃ oo, ra.on ||| rb.on = oo := ⟨_, rfl⟩
  rw [hoo] at hor ⊢
  have HOR := Lib.hid hor
  have hmx := fun w => mixedP 9 w ra.h rb.h hra.1.num hrb.1.num
  obtain ⟨mx, hm⟩ : ∃ mx, mixL 9 ra.h rb.h = mx := ⟨_, rfl⟩
  rw [hm] at hmx
  obtain ⟨mt, mv, hmv⟩ : ∃ t v, holdV mx = .iface t v := by cases mx <;> exact ⟨_, _, rfl⟩
  simp only [hmv] at hmx
  have hone6 : ∀ u ∈ [Value.iface mt mv, .int .u64 (oo : Int), .int .u64 0, .int .u64 0, .int .u64 0], u.oneCell' = true := by rw [← hmv]; exact encR.one ⟨mx, oo⟩
  have HMX := Lib.hid hmx
  have hput := fun (w : World) => putP (w := w) (V := V) (g := g) (r := r) d ⟨.num 0, oo⟩ HS
  simp only [rgV, holdV] at hput
  have HPUT := Lib.hid hput
  have HB00 := Lib.hid hb
  have k14 : w.cell? ⟨g, 14, none⟩ = some (.slice (some ⟨q, 0, none⟩) r.regs.length r.regs.length) := by rw [← hvr]; exact hR.blk.cell 14
  have hone := encR.one ra
  have honeb := encR.one rb
  have hqw := hqb.lt
  have hgw : g < w.heap.size := hR.blk.lt
  clear hR hI HS hqb hb ha hm hmx hor hput hmv hb2 hoo
  go_enter Tryz.func95, Tryz.ntmps95
  go_wp2_with fail
  generalize hw1 : w.alloc (.cells #[.int .i64 9, .int .i64 (d : Int), .int .i64 (a : Int), .int .i64 (a : Int), .int .i64 imm, .string ⟨loc.toArray⟩, .string ⟨label.toArray⟩, .int .i64 fence] 77 (0, 0)) = w1 at *
  clear hw1
  have hz1 : w.heap.size < w1.heap.size := HBI.out.lt
  have i2 : w1.cell? ⟨w.heap.size, 2, none⟩ = some (.int .i64 (a : Int)) := HBI.out.cell 2
  have i4 : w1.cell? ⟨w.heap.size, 4, none⟩ = some (.int .i64 imm) := HBI.out.cell 4
  have d14 := cell_go k14 HB0.out
  have d0 := cell_go c0 HB0.out
  have d1 := cell_go c1 HB0.out
  have d2 := cell_go c2 HB0.out
  have d3 := cell_go c3 HB0.out
  have d4 := cell_go c4 HB0.out
  have e14 := d14
  have e0 := cell_go b0 HB0.out
  have e1 := cell_go b1 HB0.out
  have e2 := cell_go b2 HB0.out
  have e3 := cell_go b3 HB0.out
  have e4 := cell_go b4 HB0.out
  clear k14 c0 c1 c2 c3 c4 b0 b1 b2 b3 b4
  have HSS := Lib.hid (show ∀ y, Below w1.heap.size w1 y → (fun y : World => (y.cell? ⟨w.heap.size, 2, none⟩ = some (.int .i64 (a : Int)) ∧ y.cell? ⟨w.heap.size, 4, none⟩ = some (.int .i64 imm)) ∧ y.cell? ⟨g, 14, none⟩ = some (.slice (some ⟨q, 0, none⟩) r.regs.length r.regs.length) ∧ y.cell? ⟨q, a * 5, none⟩ = some (holdV ra.h) ∧ y.cell? ⟨q, a * 5 + 1, none⟩ = some (.int .u64 (ra.on : Int)) ∧ y.cell? ⟨q, a * 5 + 2, none⟩ = some (.int .u64 0) ∧ y.cell? ⟨q, a * 5 + 3, none⟩ = some (.int .u64 0) ∧ y.cell? ⟨q, a * 5 + 4, none⟩ = some (.int .u64 0)) y from fun y hb => ⟨⟨cell_go i2 hb, cell_go i4 hb⟩, cell_go d14 hb, cell_go d0 hb, cell_go d1 hb, cell_go d2 hb, cell_go d3 hb, cell_go d4 hb⟩)
  refine wpE_start (S := (fun y : World => (y.cell? ⟨w.heap.size, 2, none⟩ = some (.int .i64 (a : Int)) ∧ y.cell? ⟨w.heap.size, 4, none⟩ = some (.int .i64 imm)) ∧ y.cell? ⟨g, 14, none⟩ = some (.slice (some ⟨q, 0, none⟩) r.regs.length r.regs.length) ∧ y.cell? ⟨q, a * 5, none⟩ = some (holdV ra.h) ∧ y.cell? ⟨q, a * 5 + 1, none⟩ = some (.int .u64 (ra.on : Int)) ∧ y.cell? ⟨q, a * 5 + 2, none⟩ = some (.int .u64 0) ∧ y.cell? ⟨q, a * 5 + 3, none⟩ = some (.int .u64 0) ∧ y.cell? ⟨q, a * 5 + 4, none⟩ = some (.int .u64 0))) (E := [3, 5, 7, 9, 10, 11, 12, 13, 14]) (by kernel_rfl) ⟨⟨i2, i4⟩, d14, d0, d1, d2, d3, d4⟩ (fun hHeld => ?_)
  simp only [List.length_cons, List.length_nil, Nat.zero_add, Nat.reduceAdd]
  (refine wpP 0 (v := ?_) rfl (by kernel_rfl) ?_ ?_; rotate_left; (focus (intro x'; go_simp; try with_reducible rfl)); (try simp only [pa1, pa3, Act.put, pa4, pa5, pa6]))
  (refine wpP 1 (v := ?_) rfl (by kernel_rfl) ?_ ?_; rotate_left; (focus (intro x'; go_simp; try with_reducible rfl)); (try simp only [pa1, pa2, pa3, Act.put, pa4, pa5, pa6]))
  (refine wpP 2 (v := ?_) rfl (by kernel_rfl) ?_ ?_; rotate_left; (focus (intro x'; go_simp; try with_reducible rfl)); (try simp only [pa1, pa2, pa3, Act.put, pa4, pa5, pa6]))
  (refine wpP 4 (v := ?_) rfl (by kernel_rfl) ?_ ?_; rotate_left; (focus (intro x'; go_simp; try with_reducible rfl)); (try simp only [pa1, pa2, pa3, Act.put, pa4, pa5, pa6]))
  (refine wpP 8 (v := ?_) rfl (by kernel_rfl) ?_ ?_; rotate_left; (focus (intro x'; go_simp; try with_reducible rfl)); (try simp only [pa1, pa2, pa3, Act.put, pa4, pa5, pa6]))
  (refine wpT 3 (v := ?_) rfl (by kernel_rfl) ?_ (by assumption) ?_; rotate_left; (focus (intro x' hSx; (try dsimp only at hSx); go_simp; try with_reducible rfl)); (try simp only [pa1, pa2, pa3, Act.put, pa4, pa5, pa6]))
  (refine wpT 5 (v := ?_) rfl (by kernel_rfl) ?_ (by assumption) ?_; rotate_left; (focus (intro x' hSx; (try dsimp only at hSx); go_simp; try with_reducible rfl)); (try simp only [pa1, pa2, pa3, Act.put, pa4, pa5, pa6]))
  (refine wpP 6 (v := ?_) rfl (by kernel_rfl) ?_ ?_; rotate_left; (focus (intro x'; go_simp; try with_reducible rfl)); (try simp only [pa1, pa2, pa3, Act.put, pa4, pa5, pa6]))
  (refine wpT 7 (v := ?_) rfl (by kernel_rfl) ?_ (by assumption) ?_; rotate_left; (focus (intro x' hSx; (try dsimp only at hSx); go_simp; try with_reducible rfl)); (try simp only [pa1, pa2, pa3, Act.put, pa4, pa5, pa6]))
  (refine wpT 9 (v := ?_) rfl (by kernel_rfl) ?_ (by assumption) ?_; rotate_left; (focus (intro x' hSx; (try dsimp only at hSx); go_simp; try with_reducible rfl)); (try simp only [pa1, pa2, pa3, Act.put, pa4, pa5, pa6]))
  (refine wpT 10 (v := ?_) rfl (by kernel_rfl) ?_ (by assumption) ?_; rotate_left; (focus (intro x' hSx; (try dsimp only at hSx); go_simp; try with_reducible rfl)); (try simp only [pa1, pa2, pa3, Act.put, pa4, pa5, pa6]))
  (refine wpT 11 (v := ?_) rfl (by kernel_rfl) ?_ (by assumption) ?_; rotate_left; (focus (intro x' hSx; (try dsimp only at hSx); go_simp; try with_reducible rfl)); (try simp only [pa1, pa2, pa3, Act.put, pa4, pa5, pa6]))
  clear hHeld i2 i4 d14 d0 d1 d2 d3 d4
  refine wpE_two (i := 12) (j := 13) (by kernel_rfl) rfl rfl (fun K hK => ?_) (fun K hK => ?_)
  · go_simp
    refine hK.out _ _ (HSS.out _ (by repeat (first | exact Below.refl _ _ | exact Below.refl _ _ | with_reducible refine Below.drew ?_ | with_reducible refine below_alloc ?_ _ | with_reducible refine below_sets ?_ (by omega) _ _))) ?_
    clear hK K
    (try simp only [pa1, pa2, pa3, Act.put, pa4, pa5, pa6])
    refine wpE_one (i := 13) (by kernel_rfl) rfl (fun K hK => ?_)
    go_simp
    refine hK.out _ _ (HSS.out _ (by repeat (first | exact Below.refl _ _ | exact Below.refl _ _ | with_reducible refine Below.drew ?_ | with_reducible refine below_alloc ?_ _ | with_reducible refine below_sets ?_ (by omega) _ _))) ?_
    clear hK K
    (try simp only [pa1, pa2, pa3, Act.put, pa4, pa5, pa6])
    skip
    generalize hW2 : (World.drew (World.alloc _ _)) = W2
    have BZ4 : Hid (Blk W2 (w1.heap.size) 163 #[.nilIface, .int .u64 0, .int .u64 0, .int .u64 0, .int .u64 0]) := by rw [← hW2]; exact Lib.hid ((Blk.new w1 _ _).alloc _).drew
    have BZ5 : Hid (Blk W2 (w1.heap.size + 1) 163 #[.nilIface, .int .u64 0, .int .u64 0, .int .u64 0, .int .u64 0]) := by rw [← hW2]; exact Lib.hid (blk_new2 w1 _ _ _).drew
    have HW2 : Hid (Below w1.heap.size w1 W2) := by rw [← hW2]; exact Lib.hid ((by repeat (first | exact Below.refl _ _ | exact Below.refl _ _ | with_reducible refine Below.drew ?_ | with_reducible refine below_alloc ?_ _ | with_reducible refine below_sets ?_ (by omega) _ _)))
    clear hW2
    refine wpE_one (i := 14) (by kernel_rfl) rfl (fun K hK => ?_)
    rw [if_pos (by kernel_rfl)]
    refine wp_store_mid _ _ _ rfl ((w1.heap.size)) 0 #[holdV ra.h, .int .u64 (ra.on : Int), .int .u64 0, .int .u64 0, .int .u64 0] rfl rfl (there_blk BZ4.out 5 (by simp)) (by kernel_rfl) (all_oneCell_toArray (cs := encR.enc ra) hone) ?_
    refine hK.out _ _ (HSS.out _ (below_sets HW2.out (by omega) _ _)) ?_
    clear hK K
    (try simp only [pa1, pa2, pa3, Act.put])
    refine wpE_tail 15 rfl (by kernel_rfl) ?_
    simp only [List.drop_succ_cons, List.drop_zero]
    refine wpList_store_mid rfl _ _ _ rfl ((w1.heap.size + 1)) 0 #[.iface 159 (.int .i64 imm), .int .u64 0, .int .u64 0, .int .u64 0, .int .u64 0] rfl rfl (there_blk (blk_farS BZ5.out (by omega) _ _) 5 (by simp)) (by kernel_rfl) (all_oneCell_toArray (cs := encR.enc ⟨.num imm, 0⟩) (encR.one ⟨.num imm, 0⟩)) ?_
    have BX4 := Lib.hid (blk_farS (Blk.sets5 BZ4.out rfl (holdV ra.h) (.int .u64 (ra.on : Int)) (.int .u64 0) (.int .u64 0) (.int .u64 0)) (show (w1.heap.size) ≠ (w1.heap.size + 1) by omega) [.iface 159 (.int .i64 imm), .int .u64 0, .int .u64 0, .int .u64 0, .int .u64 0] 0)
    have BX5 := Lib.hid (Blk.sets5 (blk_farS BZ5.out (show (w1.heap.size + 1) ≠ (w1.heap.size) by omega) [holdV ra.h, .int .u64 (ra.on : Int), .int .u64 0, .int .u64 0, .int .u64 0] 0) rfl (.iface 159 (.int .i64 imm)) (.int .u64 0) (.int .u64 0) (.int .u64 0) (.int .u64 0))
    have HW3 := Lib.hid (below_sets (below_sets HW2.out (show w1.heap.size ≤ (w1.heap.size) by omega) [holdV ra.h, .int .u64 (ra.on : Int), .int .u64 0, .int .u64 0, .int .u64 0] 0) (show w1.heap.size ≤ (w1.heap.size + 1) by omega) [.iface 159 (.int .i64 imm), .int .u64 0, .int .u64 0, .int .u64 0, .int .u64 0] 0)
    generalize hW3 : (World.setCells (World.setCells W2 _ _ _) _ _ _) = W3 at *
    clear hW3 BZ4 BZ5 HW2 HSS
    have HBI3 := Lib.hid (HBI.out.go HW3.out)
    have HW30 := Lib.hid (below_trans HB0.out HW3.out)
    have hz3 := HW3.out.size
    have i0 : W3.cell? ⟨w.heap.size, 0, none⟩ = some (.int .i64 9) := HBI3.out.cell 0
    go_wp2_with fail
    have g14 := cell_go e14 HW3.out
    have n3 : W3.cell? ⟨w.heap.size, 3, none⟩ = some (.int .i64 (a : Int)) := HBI3.out.cell 3
    have n0 := cell_go e0 HW3.out
    have n1 := cell_go e1 HW3.out
    have n2 := cell_go e2 HW3.out
    have n4 := cell_go e3 HW3.out
    have n5 := cell_go e4 HW3.out
    refine wpE_start (S := (fun y : World => y.cell? ⟨w.heap.size, 3, none⟩ = some (.int .i64 (a : Int)) ∧ y.cell? ⟨g, 14, none⟩ = some (.slice (some ⟨q, 0, none⟩) r.regs.length r.regs.length) ∧ y.cell? ⟨q, a * 5, none⟩ = some (holdV rb.h) ∧ y.cell? ⟨q, a * 5 + 1, none⟩ = some (.int .u64 (rb.on : Int)) ∧ y.cell? ⟨q, a * 5 + 2, none⟩ = some (.int .u64 0) ∧ y.cell? ⟨q, a * 5 + 3, none⟩ = some (.int .u64 0) ∧ y.cell? ⟨q, a * 5 + 4, none⟩ = some (.int .u64 0))) (E := [3, 5, 7]) (by kernel_rfl) ⟨n3, g14, n0, n1, n2, n4, n5⟩ (fun hHeld => ?_)
    simp only [List.length_cons, List.length_nil, Nat.zero_add, Nat.reduceAdd]
    (refine wpP 0 (v := ?_) rfl (by kernel_rfl) ?_ ?_; rotate_left; (focus (intro x'; go_simp; try with_reducible rfl)); (try simp only [pa1, pa3, Act.put, pa4, pa5, pa6]))
    (refine wpP 1 (v := ?_) rfl (by kernel_rfl) ?_ ?_; rotate_left; (focus (intro x'; go_simp; try with_reducible rfl)); (try simp only [pa1, pa2, pa3, Act.put, pa4, pa5, pa6]))
    (refine wpP 2 (v := ?_) rfl (by kernel_rfl) ?_ ?_; rotate_left; (focus (intro x'; go_simp; try with_reducible rfl)); (try simp only [pa1, pa2, pa3, Act.put, pa4, pa5, pa6]))
    (refine wpP 4 (v := ?_) rfl (by kernel_rfl) ?_ ?_; rotate_left; (focus (intro x'; go_simp; try with_reducible rfl)); (try simp only [pa1, pa2, pa3, Act.put, pa4, pa5, pa6]))
    (refine wpT 3 (v := ?_) rfl (by kernel_rfl) ?_ (by assumption) ?_; rotate_left; (focus (intro x' hSx; (try dsimp only at hSx); go_simp; try with_reducible rfl)); (try simp only [pa1, pa2, pa3, Act.put, pa4, pa5, pa6]))
    (refine wpT 5 (v := ?_) rfl (by kernel_rfl) ?_ (by assumption) ?_; rotate_left; (focus (intro x' hSx; (try dsimp only at hSx); go_simp; try with_reducible rfl)); (try simp only [pa1, pa2, pa3, Act.put, pa4, pa5, pa6]))
    (refine wpP 6 (v := ?_) rfl (by kernel_rfl) ?_ ?_; rotate_left; (focus (intro x'; go_simp; try with_reducible rfl)); (try simp only [pa1, pa2, pa3, Act.put, pa4, pa5, pa6]))
    (refine wpT 7 (v := ?_) rfl (by kernel_rfl) ?_ (by assumption) ?_; rotate_left; (focus (intro x' hSx; (try dsimp only at hSx); go_simp; try with_reducible rfl)); (try simp only [pa1, pa2, pa3, Act.put, pa4, pa5, pa6]))
    refine wpE_tail 8 rfl (by kernel_rfl) ?_
    simp only [List.drop_succ_cons, List.drop_zero]
    clear hHeld n3 g14 n0 n1 n2 n4 n5 i0
    refine wpList_store_mid rfl _ _ _ rfl (w1.heap.size + 1) 0 #[holdV rb.h, .int .u64 (rb.on : Int), .int .u64 0, .int .u64 0, .int .u64 0] rfl rfl (there_blk BX5.out.drew 5 (by simp)) (by kernel_rfl) (all_oneCell_toArray (cs := encR.enc rb) honeb) ?_
    have BX49 := Lib.hid (blk_farS BX4.out.drew (show (w1.heap.size) ≠ (w1.heap.size + 1) by omega) [holdV rb.h, .int .u64 (rb.on : Int), .int .u64 0, .int .u64 0, .int .u64 0] 0)
    have BX59 := Lib.hid (Blk.sets5 BX5.out.drew rfl (holdV rb.h) (.int .u64 (rb.on : Int)) (.int .u64 0) (.int .u64 0) (.int .u64 0))
    have HW39 := Lib.hid (below_sets HW3.out.drew (show w1.heap.size ≤ (w1.heap.size + 1) by omega) [holdV rb.h, .int .u64 (rb.on : Int), .int .u64 0, .int .u64 0, .int .u64 0] 0)
    clear BX4 BX5 HW3 HBI3 HW30 hz3
    have BX4 := BX49
    have BX5 := BX59
    have HW3 := HW39
    clear BX49 BX59 HW39
    generalize hW9 : (World.setCells (World.drew W3) _ _ _) = W9 at *
    clear hW9 W3
    obtain ⟨W3, hW3⟩ : ∃ W, W = W9 := ⟨_, rfl⟩
    subst hW3
    have HBI3 := Lib.hid (HBI.out.go HW3.out)
    have HW30 := Lib.hid (below_trans HB0.out HW3.out)
    have hz3 := HW3.out.size
    have i0 : W3.cell? ⟨w.heap.size, 0, none⟩ = some (.int .i64 9) := HBI3.out.cell 0
    have a0 : W3.cell? ⟨(w1.heap.size), 0, none⟩ = some (holdV ra.h) := BX4.out.cell 0
    have a1 : W3.cell? ⟨(w1.heap.size), 1, none⟩ = some (.int .u64 (ra.on : Int)) := BX4.out.cell 1
    have a2 : W3.cell? ⟨(w1.heap.size), 2, none⟩ = some (.int .u64 0) := BX4.out.cell 2
    have a3 : W3.cell? ⟨(w1.heap.size), 3, none⟩ = some (.int .u64 0) := BX4.out.cell 3
    have a4 : W3.cell? ⟨(w1.heap.size), 4, none⟩ = some (.int .u64 0) := BX4.out.cell 4
    have b0 : W3.cell? ⟨(w1.heap.size + 1), 0, none⟩ = some (holdV rb.h) := BX5.out.cell 0
    have b1 : W3.cell? ⟨(w1.heap.size + 1), 1, none⟩ = some (.int .u64 (rb.on : Int)) := BX5.out.cell 1
    have b2 : W3.cell? ⟨(w1.heap.size + 1), 2, none⟩ = some (.int .u64 0) := BX5.out.cell 2
    have b3 : W3.cell? ⟨(w1.heap.size + 1), 3, none⟩ = some (.int .u64 0) := BX5.out.cell 3
    have b4 : W3.cell? ⟨(w1.heap.size + 1), 4, none⟩ = some (.int .u64 0) := BX5.out.cell 4
    go_wp2_with fail
    have HSS := Lib.hid (show ∀ y, Below W3.heap.size W3 y → (fun y : World => y.cell? ⟨w.heap.size, 0, none⟩ = some (.int .i64 9) ∧ (y.cell? ⟨(w1.heap.size), 0, none⟩ = some (holdV ra.h) ∧ y.cell? ⟨(w1.heap.size), 1, none⟩ = some (.int .u64 (ra.on : Int)) ∧ y.cell? ⟨(w1.heap.size), 2, none⟩ = some (.int .u64 0) ∧ y.cell? ⟨(w1.heap.size), 3, none⟩ = some (.int .u64 0) ∧ y.cell? ⟨(w1.heap.size), 4, none⟩ = some (.int .u64 0)) ∧ y.cell? ⟨(w1.heap.size + 1), 0, none⟩ = some (holdV rb.h) ∧ y.cell? ⟨(w1.heap.size + 1), 1, none⟩ = some (.int .u64 (rb.on : Int)) ∧ y.cell? ⟨(w1.heap.size + 1), 2, none⟩ = some (.int .u64 0) ∧ y.cell? ⟨(w1.heap.size + 1), 3, none⟩ = some (.int .u64 0) ∧ y.cell? ⟨(w1.heap.size + 1), 4, none⟩ = some (.int .u64 0)) y from fun y hb => ⟨cell_go i0 hb, ⟨cell_go a0 hb, cell_go a1 hb, cell_go a2 hb, cell_go a3 hb, cell_go a4 hb⟩, cell_go b0 hb, cell_go b1 hb, cell_go b2 hb, cell_go b3 hb, cell_go b4 hb⟩)
    refine wpE_start (S := (fun y : World => y.cell? ⟨w.heap.size, 0, none⟩ = some (.int .i64 9) ∧ (y.cell? ⟨(w1.heap.size), 0, none⟩ = some (holdV ra.h) ∧ y.cell? ⟨(w1.heap.size), 1, none⟩ = some (.int .u64 (ra.on : Int)) ∧ y.cell? ⟨(w1.heap.size), 2, none⟩ = some (.int .u64 0) ∧ y.cell? ⟨(w1.heap.size), 3, none⟩ = some (.int .u64 0) ∧ y.cell? ⟨(w1.heap.size), 4, none⟩ = some (.int .u64 0)) ∧ y.cell? ⟨(w1.heap.size + 1), 0, none⟩ = some (holdV rb.h) ∧ y.cell? ⟨(w1.heap.size + 1), 1, none⟩ = some (.int .u64 (rb.on : Int)) ∧ y.cell? ⟨(w1.heap.size + 1), 2, none⟩ = some (.int .u64 0) ∧ y.cell? ⟨(w1.heap.size + 1), 3, none⟩ = some (.int .u64 0) ∧ y.cell? ⟨(w1.heap.size + 1), 4, none⟩ = some (.int .u64 0))) (E := [1, 3, 5, 6, 8, 10, 13]) (by kernel_rfl) ⟨i0, ⟨a0, a1, a2, a3, a4⟩, b0, b1, b2, b3, b4⟩ (fun hHeld => ?_)
    simp only [List.length_cons, List.length_nil, Nat.zero_add, Nat.reduceAdd]
    (refine wpP 0 (v := ?_) rfl (by kernel_rfl) ?_ ?_; rotate_left; (focus (intro x'; go_simp; try with_reducible rfl)); (try simp only [pa1, pa3, Act.put, pa4, pa5, pa6]))
    (refine wpP 2 (v := ?_) rfl (by kernel_rfl) ?_ ?_; rotate_left; (focus (intro x'; go_simp; try with_reducible rfl)); (try simp only [pa1, pa2, pa3, Act.put, pa4, pa5, pa6]))
    (refine wpP 4 (v := ?_) rfl (by kernel_rfl) ?_ ?_; rotate_left; (focus (intro x'; go_simp; try with_reducible rfl)); (try simp only [pa1, pa2, pa3, Act.put, pa4, pa5, pa6]))
    (refine wpP 7 (v := ?_) rfl (by kernel_rfl) ?_ ?_; rotate_left; (focus (intro x'; go_simp; try with_reducible rfl)); (try simp only [pa1, pa2, pa3, Act.put, pa4, pa5, pa6]))
    (refine wpP 9 (v := ?_) rfl (by kernel_rfl) ?_ ?_; rotate_left; (focus (intro x'; go_simp; try with_reducible rfl)); (try simp only [pa1, pa2, pa3, Act.put, pa4, pa5, pa6]))
    (refine wpT 1 (v := ?_) rfl (by kernel_rfl) ?_ (by assumption) ?_; rotate_left; (focus (intro x' hSx; (try dsimp only at hSx); go_simp; try with_reducible rfl)); (try simp only [pa1, pa2, pa3, Act.put, pa4, pa5, pa6]))
    (refine wpT 3 (v := ?_) rfl (by kernel_rfl) ?_ (by assumption) ?_; rotate_left; (focus (intro x' hSx; (try dsimp only at hSx); go_simp; try with_reducible rfl)); (try simp only [pa1, pa2, pa3, Act.put, pa4, pa5, pa6]))
    (refine wpT 5 (v := ?_) rfl (by kernel_rfl) ?_ (by assumption) ?_; rotate_left; (focus (intro x' hSx; (try dsimp only at hSx); go_simp; try with_reducible rfl)); (try simp only [pa1, pa2, pa3, Act.put, pa4, pa5, pa6]))
    (refine wpT 8 (v := ?_) rfl (by kernel_rfl) ?_ (by assumption) ?_; rotate_left; (focus (intro x' hSx; (try dsimp only at hSx); go_simp; try with_reducible rfl)); (try simp only [pa1, pa2, pa3, Act.put, pa4, pa5, pa6]))
    (refine wpT 10 (v := ?_) rfl (by kernel_rfl) ?_ (by assumption) ?_; rotate_left; (focus (intro x' hSx; (try dsimp only at hSx); go_simp; try with_reducible rfl)); (try simp only [pa1, pa2, pa3, Act.put, pa4, pa5, pa6]))
    clear hHeld i0 a0 a1 a2 a3 a4 b0 b1 b2 b3 b4
    refine wpE_two (i := 6) (j := 13) (by kernel_rfl) rfl rfl (fun K hK => ?_) (fun K hK => ?_)
    · go_simp
      go_at_call 161
      refine (HMX.out _).mono ?_
      rintro e w' ⟨rfl, rfl⟩
      refine hK.out _ _ (HSS.out _ (by repeat (first | exact Below.refl _ _ | exact Below.refl _ _ | with_reducible refine Below.drew ?_ | with_reducible refine below_alloc ?_ _ | with_reducible refine below_sets ?_ (by omega) _ _))) ?_
      clear hK K
      (try simp only [pa1, pa2, pa3, Act.put, pa4, pa5, pa6])
      refine wpE_two (i := 11) (j := 13) (by kernel_rfl) rfl rfl (fun K hK => ?_) (fun K hK => ?_)
      · go_simp
        go_at_call 162
        refine (HOR.out _).mono ?_
        rintro e w5 ⟨rfl, hb5⟩
        have HB6 := Lib.hid (show Below (W3.drew).heap.size W3.drew w5 from hb5)
        have HB5 := Lib.hid (show Below W3.heap.size W3 w5 from (by first | exact below_of_drew hb5 | exact HW4.out.trans (hb5.mono HW4.out.size)))
        clear hb5
        refine hK.out _ _ (HSS.out _ HB5.out) ?_
        clear hK K
        (try simp only [pa1, pa2, pa3, Act.put, pa4, pa5, pa6])
        (refine wpP 12 (v := ?_) rfl (by kernel_rfl) ?_ ?_; rotate_left; (focus (intro x'; go_simp; try with_reducible rfl)); (try simp only [pa1, pa2, pa3, Act.put, pa4, pa5, pa6]))
        refine wpE_one (i := 13) (by kernel_rfl) rfl (fun K hK => ?_)
        go_simp
        refine hK.out _ _ (HSS.out _ (by repeat (first | exact Below.refl _ _ | exact HB5.out | with_reducible refine Below.drew ?_ | with_reducible refine below_alloc ?_ _ | with_reducible refine below_sets ?_ (by omega) _ _))) ?_
        clear hK K
        (try simp only [pa1, pa2, pa3, Act.put, pa4, pa5, pa6])
        refine wpE_tail 14 rfl (by kernel_rfl) ?_
        simp only [List.drop_succ_cons, List.drop_zero]
        have hz5 := HB5.out.size
        refine wpList_store_mid rfl _ _ _ rfl (w5.heap.size) 0 #[.iface mt mv, .int .u64 (oo : Int), .int .u64 0, .int .u64 0, .int .u64 0] rfl rfl (there_blk (Blk.new w5 163 #[.nilIface, .int .u64 0, .int .u64 0, .int .u64 0, .int .u64 0]) 5 (by simp)) (by kernel_rfl) (all_oneCell_toArray (cs := [.iface mt mv, .int .u64 (oo : Int), .int .u64 0, .int .u64 0, .int .u64 0]) hone6) ?_
        have BX6 := Lib.hid (Blk.sets5 (Blk.new w5 163 #[.nilIface, .int .u64 0, .int .u64 0, .int .u64 0, .int .u64 0]) rfl (.iface mt mv) (.int .u64 (oo : Int)) (.int .u64 0) (.int .u64 0) (.int .u64 0))
        have HW7 := Lib.hid (below_trans HW30.out (below_sets (show Below W3.heap.size W3 (w5.alloc (.cells #[.nilIface, .int .u64 0, .int .u64 0, .int .u64 0, .int .u64 0] 163 (0, 0))) from below_alloc HB5.out _) (show W3.heap.size ≤ (w5.heap.size) by omega) [.iface mt mv, .int .u64 (oo : Int), .int .u64 0, .int .u64 0, .int .u64 0] 0))
        have HBI7 := Lib.hid (HBI3.out.go (below_sets (show Below W3.heap.size W3 (w5.alloc (.cells #[.nilIface, .int .u64 0, .int .u64 0, .int .u64 0, .int .u64 0] 163 (0, 0))) from below_alloc HB5.out _) (show W3.heap.size ≤ (w5.heap.size) by omega) [.iface mt mv, .int .u64 (oo : Int), .int .u64 0, .int .u64 0, .int .u64 0] 0))
        generalize hW7 : (World.setCells _ _ _ [.iface mt mv, .int .u64 (oo : Int), .int .u64 0, .int .u64 0, .int .u64 0]) = W7 at *
        clear hW7
        have j0 : W7.cell? ⟨w.heap.size, 0, none⟩ = some (.int .i64 9) := HBI7.out.cell 0
        have j2 : W7.cell? ⟨w.heap.size, 2, none⟩ = some (.int .i64 (a : Int)) := HBI7.out.cell 2
        have j3 : W7.cell? ⟨w.heap.size, 3, none⟩ = some (.int .i64 (a : Int)) := HBI7.out.cell 3
        have j1 : W7.cell? ⟨w.heap.size, 1, none⟩ = some (.int .i64 (d : Int)) := HBI7.out.cell 1
        have c0 : W7.cell? ⟨(w5.heap.size), 0, none⟩ = some (.iface mt mv) := BX6.out.cell 0
        have c1 : W7.cell? ⟨(w5.heap.size), 1, none⟩ = some (.int .u64 (oo : Int)) := BX6.out.cell 1
        have c2 : W7.cell? ⟨(w5.heap.size), 2, none⟩ = some (.int .u64 0) := BX6.out.cell 2
        have c3 : W7.cell? ⟨(w5.heap.size), 3, none⟩ = some (.int .u64 0) := BX6.out.cell 3
        have c4 : W7.cell? ⟨(w5.heap.size), 4, none⟩ = some (.int .u64 0) := BX6.out.cell 4
        have c5 := BX6.out.frozen 0
        have HR7 := Lib.hid (HR.out.below (HW7.out.setCell (p := ⟨(w5.heap.size), 0, none⟩) (show w.heap.size ≤ (w5.heap.size) by have := HW30.out.size; omega) (.iface 159 (.int .i64 0))))
        have HBS := Lib.hid (HW7.out.setCell (p := ⟨(w5.heap.size), 0, none⟩) (show w.heap.size ≤ (w5.heap.size) by have := HW30.out.size; omega) (.iface 159 (.int .i64 0)))
        have HB7 := Lib.hid (HB00.out.trans (HBS.out.mono hbs))
        go_wp2_with (go_at_call 93; refine (HPUT.out _ HB7.out hd hl HR7.out).mono ?_; rintro e w8 ⟨V8, rfl, hR8, hb8, hf8⟩)
        go_end0
        exact ⟨_, rfl, hR8, (HBS.out.mono hbs).trans hb8, (FrV.of_below HBS.out).trans hf8⟩
      · go_simp
        refine hK.out _ _ (HSS.out _ (by repeat (first | exact Below.refl _ _ | exact Below.refl _ _ | with_reducible refine Below.drew ?_ | with_reducible refine below_alloc ?_ _ | with_reducible refine below_sets ?_ (by omega) _ _))) ?_
        clear hK K
        (try simp only [pa1, pa2, pa3, Act.put, pa4, pa5, pa6])
        generalize hW4 : (World.drew (World.alloc _ _)) = W4
        have BZ6 : Hid (Blk W4 W3.heap.size 163 #[.nilIface, .int .u64 0, .int .u64 0, .int .u64 0, .int .u64 0]) := by rw [← hW4]; exact Lib.hid (Blk.new W3 _ _).drew
        have HW4 : Hid (Below W3.heap.size W3 W4) := by rw [← hW4]; exact Lib.hid ((by repeat (first | exact Below.refl _ _ | exact Below.refl _ _ | with_reducible refine Below.drew ?_ | with_reducible refine below_alloc ?_ _ | with_reducible refine below_sets ?_ (by omega) _ _)))
        clear hW4
        refine wpE_one (i := 11) (by kernel_rfl) rfl (fun K hK => ?_)
        go_simp
        go_at_call 162
        refine (HOR.out _).mono ?_
        rintro e w5 ⟨rfl, hb5⟩
        have HB6 := Lib.hid (show Below (W4).heap.size W4 w5 from hb5)
        have HB5 := Lib.hid (show Below W3.heap.size W3 w5 from (by first | exact below_of_drew hb5 | exact HW4.out.trans (hb5.mono HW4.out.size)))
        clear hb5
        refine hK.out _ _ (HSS.out _ HB5.out) ?_
        clear hK K
        (try simp only [pa1, pa2, pa3, Act.put, pa4, pa5, pa6])
        (refine wpP 12 (v := ?_) rfl (by kernel_rfl) ?_ ?_; rotate_left; (focus (intro x'; go_simp; try with_reducible rfl)); (try simp only [pa1, pa2, pa3, Act.put, pa4, pa5, pa6]))
        refine wpE_tail 14 rfl (by kernel_rfl) ?_
        simp only [List.drop_succ_cons, List.drop_zero]
        have hz5 := HB5.out.size
        refine wpList_store_mid rfl _ _ _ rfl (W3.heap.size) 0 #[.iface mt mv, .int .u64 (oo : Int), .int .u64 0, .int .u64 0, .int .u64 0] rfl rfl (there_blk (BZ6.out.go HB6.out) 5 (by simp)) (by kernel_rfl) (all_oneCell_toArray (cs := [.iface mt mv, .int .u64 (oo : Int), .int .u64 0, .int .u64 0, .int .u64 0]) hone6) ?_
        have BX6 := Lib.hid (Blk.sets5 (BZ6.out.go HB6.out) rfl (.iface mt mv) (.int .u64 (oo : Int)) (.int .u64 0) (.int .u64 0) (.int .u64 0))
        have HW7 := Lib.hid (below_trans HW30.out (below_sets (HB5.out) (show W3.heap.size ≤ (W3.heap.size) by omega) [.iface mt mv, .int .u64 (oo : Int), .int .u64 0, .int .u64 0, .int .u64 0] 0))
        have HBI7 := Lib.hid (HBI3.out.go (below_sets (HB5.out) (show W3.heap.size ≤ (W3.heap.size) by omega) [.iface mt mv, .int .u64 (oo : Int), .int .u64 0, .int .u64 0, .int .u64 0] 0))
        generalize hW7 : (World.setCells _ _ _ [.iface mt mv, .int .u64 (oo : Int), .int .u64 0, .int .u64 0, .int .u64 0]) = W7 at *
        clear hW7
        have j0 : W7.cell? ⟨w.heap.size, 0, none⟩ = some (.int .i64 9) := HBI7.out.cell 0
        have j2 : W7.cell? ⟨w.heap.size, 2, none⟩ = some (.int .i64 (a : Int)) := HBI7.out.cell 2
        have j3 : W7.cell? ⟨w.heap.size, 3, none⟩ = some (.int .i64 (a : Int)) := HBI7.out.cell 3
        have j1 : W7.cell? ⟨w.heap.size, 1, none⟩ = some (.int .i64 (d : Int)) := HBI7.out.cell 1
        have c0 : W7.cell? ⟨(W3.heap.size), 0, none⟩ = some (.iface mt mv) := BX6.out.cell 0
        have c1 : W7.cell? ⟨(W3.heap.size), 1, none⟩ = some (.int .u64 (oo : Int)) := BX6.out.cell 1
        have c2 : W7.cell? ⟨(W3.heap.size), 2, none⟩ = some (.int .u64 0) := BX6.out.cell 2
        have c3 : W7.cell? ⟨(W3.heap.size), 3, none⟩ = some (.int .u64 0) := BX6.out.cell 3
        have c4 : W7.cell? ⟨(W3.heap.size), 4, none⟩ = some (.int .u64 0) := BX6.out.cell 4
        have c5 := BX6.out.frozen 0
        have HR7 := Lib.hid (HR.out.below (HW7.out.setCell (p := ⟨(W3.heap.size), 0, none⟩) (show w.heap.size ≤ (W3.heap.size) by have := HW30.out.size; omega) (.iface 159 (.int .i64 0))))
        have HBS := Lib.hid (HW7.out.setCell (p := ⟨(W3.heap.size), 0, none⟩) (show w.heap.size ≤ (W3.heap.size) by have := HW30.out.size; omega) (.iface 159 (.int .i64 0)))
        have HB7 := Lib.hid (HB00.out.trans (HBS.out.mono hbs))
        go_wp2_with (go_at_call 93; refine (HPUT.out _ HB7.out hd hl HR7.out).mono ?_; rintro e w8 ⟨V8, rfl, hR8, hb8, hf8⟩)
        go_end0
        exact ⟨_, rfl, hR8, (HBS.out.mono hbs).trans hb8, (FrV.of_below HBS.out).trans hf8⟩
    · go_simp
      refine hK.out _ _ (HSS.out _ (by repeat (first | exact Below.refl _ _ | exact Below.refl _ _ | with_reducible refine Below.drew ?_ | with_reducible refine below_alloc ?_ _ | with_reducible refine below_sets ?_ (by omega) _ _))) ?_
      clear hK K
      (try simp only [pa1, pa2, pa3, Act.put, pa4, pa5, pa6])
      generalize hW4 : (World.drew (World.alloc _ _)) = W4
      have BZ6 : Hid (Blk W4 W3.heap.size 163 #[.nilIface, .int .u64 0, .int .u64 0, .int .u64 0, .int .u64 0]) := by rw [← hW4]; exact Lib.hid (Blk.new W3 _ _).drew
      have HW4 : Hid (Below W3.heap.size W3 W4) := by rw [← hW4]; exact Lib.hid ((by repeat (first | exact Below.refl _ _ | exact Below.refl _ _ | with_reducible refine Below.drew ?_ | with_reducible refine below_alloc ?_ _ | with_reducible refine below_sets ?_ (by omega) _ _)))
      clear hW4
      refine wpE_one (i := 6) (by kernel_rfl) rfl (fun K hK => ?_)
      go_simp
      go_at_call 161
      refine (HMX.out _).mono ?_
      rintro e w' ⟨rfl, rfl⟩
      refine hK.out _ _ (HSS.out _ HW4.out) ?_
      clear hK K
      (try simp only [pa1, pa2, pa3, Act.put, pa4, pa5, pa6])
      refine wpE_one (i := 11) (by kernel_rfl) rfl (fun K hK => ?_)
      go_simp
      go_at_call 162
      refine (HOR.out _).mono ?_
      rintro e w5 ⟨rfl, hb5⟩
      have HB6 := Lib.hid (show Below (W4).heap.size W4 w5 from hb5)
      have HB5 := Lib.hid (show Below W3.heap.size W3 w5 from (by first | exact below_of_drew hb5 | exact HW4.out.trans (hb5.mono HW4.out.size)))
      clear hb5
      refine hK.out _ _ (HSS.out _ HB5.out) ?_
      clear hK K
      (try simp only [pa1, pa2, pa3, Act.put, pa4, pa5, pa6])
      (refine wpP 12 (v := ?_) rfl (by kernel_rfl) ?_ ?_; rotate_left; (focus (intro x'; go_simp; try with_reducible rfl)); (try simp only [pa1, pa2, pa3, Act.put, pa4, pa5, pa6]))
      refine wpE_tail 14 rfl (by kernel_rfl) ?_
      simp only [List.drop_succ_cons, List.drop_zero]
      have hz5 := HB5.out.size
      refine wpList_store_mid rfl _ _ _ rfl (W3.heap.size) 0 #[.iface mt mv, .int .u64 (oo : Int), .int .u64 0, .int .u64 0, .int .u64 0] rfl rfl (there_blk (BZ6.out.go HB6.out) 5 (by simp)) (by kernel_rfl) (all_oneCell_toArray (cs := [.iface mt mv, .int .u64 (oo : Int), .int .u64 0, .int .u64 0, .int .u64 0]) hone6) ?_
      have BX6 := Lib.hid (Blk.sets5 (BZ6.out.go HB6.out) rfl (.iface mt mv) (.int .u64 (oo : Int)) (.int .u64 0) (.int .u64 0) (.int .u64 0))
      have HW7 := Lib.hid (below_trans HW30.out (below_sets (HB5.out) (show W3.heap.size ≤ (W3.heap.size) by omega) [.iface mt mv, .int .u64 (oo : Int), .int .u64 0, .int .u64 0, .int .u64 0] 0))
      have HBI7 := Lib.hid (HBI3.out.go (below_sets (HB5.out) (show W3.heap.size ≤ (W3.heap.size) by omega) [.iface mt mv, .int .u64 (oo : Int), .int .u64 0, .int .u64 0, .int .u64 0] 0))
      generalize hW7 : (World.setCells _ _ _ [.iface mt mv, .int .u64 (oo : Int), .int .u64 0, .int .u64 0, .int .u64 0]) = W7 at *
      clear hW7
      have j0 : W7.cell? ⟨w.heap.size, 0, none⟩ = some (.int .i64 9) := HBI7.out.cell 0
      have j2 : W7.cell? ⟨w.heap.size, 2, none⟩ = some (.int .i64 (a : Int)) := HBI7.out.cell 2
      have j3 : W7.cell? ⟨w.heap.size, 3, none⟩ = some (.int .i64 (a : Int)) := HBI7.out.cell 3
      have j1 : W7.cell? ⟨w.heap.size, 1, none⟩ = some (.int .i64 (d : Int)) := HBI7.out.cell 1
      have c0 : W7.cell? ⟨(W3.heap.size), 0, none⟩ = some (.iface mt mv) := BX6.out.cell 0
      have c1 : W7.cell? ⟨(W3.heap.size), 1, none⟩ = some (.int .u64 (oo : Int)) := BX6.out.cell 1
      have c2 : W7.cell? ⟨(W3.heap.size), 2, none⟩ = some (.int .u64 0) := BX6.out.cell 2
      have c3 : W7.cell? ⟨(W3.heap.size), 3, none⟩ = some (.int .u64 0) := BX6.out.cell 3
      have c4 : W7.cell? ⟨(W3.heap.size), 4, none⟩ = some (.int .u64 0) := BX6.out.cell 4
      have c5 := BX6.out.frozen 0
      have HR7 := Lib.hid (HR.out.below (HW7.out.setCell (p := ⟨(W3.heap.size), 0, none⟩) (show w.heap.size ≤ (W3.heap.size) by have := HW30.out.size; omega) (.iface 159 (.int .i64 0))))
      have HBS := Lib.hid (HW7.out.setCell (p := ⟨(W3.heap.size), 0, none⟩) (show w.heap.size ≤ (W3.heap.size) by have := HW30.out.size; omega) (.iface 159 (.int .i64 0)))
      have HB7 := Lib.hid (HB00.out.trans (HBS.out.mono hbs))
      go_wp2_with (go_at_call 93; refine (HPUT.out _ HB7.out hd hl HR7.out).mono ?_; rintro e w8 ⟨V8, rfl, hR8, hb8, hf8⟩)
      go_end0
      exact ⟨_, rfl, hR8, (HBS.out.mono hbs).trans hb8, (FrV.of_below HBS.out).trans hf8⟩
  · go_simp
    refine hK.out _ _ (HSS.out _ (by repeat (first | exact Below.refl _ _ | exact Below.refl _ _ | with_reducible refine Below.drew ?_ | with_reducible refine below_alloc ?_ _ | with_reducible refine below_sets ?_ (by omega) _ _))) ?_
    clear hK K
    (try simp only [pa1, pa2, pa3, Act.put, pa4, pa5, pa6])
    refine wpE_one (i := 12) (by kernel_rfl) rfl (fun K hK => ?_)
    go_simp
    refine hK.out _ _ (HSS.out _ (by repeat (first | exact Below.refl _ _ | exact Below.refl _ _ | with_reducible refine Below.drew ?_ | with_reducible refine below_alloc ?_ _ | with_reducible refine below_sets ?_ (by omega) _ _))) ?_
    clear hK K
    (try simp only [pa1, pa2, pa3, Act.put, pa4, pa5, pa6])
    skip
    generalize hW2 : (World.drew (World.alloc _ _)) = W2
    have BZ4 : Hid (Blk W2 (w1.heap.size + 1) 163 #[.nilIface, .int .u64 0, .int .u64 0, .int .u64 0, .int .u64 0]) := by rw [← hW2]; exact Lib.hid (blk_new2 w1 _ _ _).drew
    have BZ5 : Hid (Blk W2 (w1.heap.size) 163 #[.nilIface, .int .u64 0, .int .u64 0, .int .u64 0, .int .u64 0]) := by rw [← hW2]; exact Lib.hid ((Blk.new w1 _ _).alloc _).drew
    have HW2 : Hid (Below w1.heap.size w1 W2) := by rw [← hW2]; exact Lib.hid ((by repeat (first | exact Below.refl _ _ | exact Below.refl _ _ | with_reducible refine Below.drew ?_ | with_reducible refine below_alloc ?_ _ | with_reducible refine below_sets ?_ (by omega) _ _)))
    clear hW2
    refine wpE_one (i := 14) (by kernel_rfl) rfl (fun K hK => ?_)
    rw [if_pos (by kernel_rfl)]
    refine wp_store_mid _ _ _ rfl ((w1.heap.size + 1)) 0 #[holdV ra.h, .int .u64 (ra.on : Int), .int .u64 0, .int .u64 0, .int .u64 0] rfl rfl (there_blk BZ4.out 5 (by simp)) (by kernel_rfl) (all_oneCell_toArray (cs := encR.enc ra) hone) ?_
    refine hK.out _ _ (HSS.out _ (below_sets HW2.out (by omega) _ _)) ?_
    clear hK K
    (try simp only [pa1, pa2, pa3, Act.put])
    refine wpE_tail 15 rfl (by kernel_rfl) ?_
    simp only [List.drop_succ_cons, List.drop_zero]
    refine wpList_store_mid rfl _ _ _ rfl ((w1.heap.size)) 0 #[.iface 159 (.int .i64 imm), .int .u64 0, .int .u64 0, .int .u64 0, .int .u64 0] rfl rfl (there_blk (blk_farS BZ5.out (by omega) _ _) 5 (by simp)) (by kernel_rfl) (all_oneCell_toArray (cs := encR.enc ⟨.num imm, 0⟩) (encR.one ⟨.num imm, 0⟩)) ?_
    have BX4 := Lib.hid (blk_farS (Blk.sets5 BZ4.out rfl (holdV ra.h) (.int .u64 (ra.on : Int)) (.int .u64 0) (.int .u64 0) (.int .u64 0)) (show (w1.heap.size + 1) ≠ (w1.heap.size) by omega) [.iface 159 (.int .i64 imm), .int .u64 0, .int .u64 0, .int .u64 0, .int .u64 0] 0)
    have BX5 := Lib.hid (Blk.sets5 (blk_farS BZ5.out (show (w1.heap.size) ≠ (w1.heap.size + 1) by omega) [holdV ra.h, .int .u64 (ra.on : Int), .int .u64 0, .int .u64 0, .int .u64 0] 0) rfl (.iface 159 (.int .i64 imm)) (.int .u64 0) (.int .u64 0) (.int .u64 0) (.int .u64 0))
    have HW3 := Lib.hid (below_sets (below_sets HW2.out (show w1.heap.size ≤ (w1.heap.size + 1) by omega) [holdV ra.h, .int .u64 (ra.on : Int), .int .u64 0, .int .u64 0, .int .u64 0] 0) (show w1.heap.size ≤ (w1.heap.size) by omega) [.iface 159 (.int .i64 imm), .int .u64 0, .int .u64 0, .int .u64 0, .int .u64 0] 0)
    generalize hW3 : (World.setCells (World.setCells W2 _ _ _) _ _ _) = W3 at *
    clear hW3 BZ4 BZ5 HW2 HSS
    have HBI3 := Lib.hid (HBI.out.go HW3.out)
    have HW30 := Lib.hid (below_trans HB0.out HW3.out)
    have hz3 := HW3.out.size
    have i0 : W3.cell? ⟨w.heap.size, 0, none⟩ = some (.int .i64 9) := HBI3.out.cell 0
    go_wp2_with fail
    have g14 := cell_go e14 HW3.out
    have n3 : W3.cell? ⟨w.heap.size, 3, none⟩ = some (.int .i64 (a : Int)) := HBI3.out.cell 3
    have n0 := cell_go e0 HW3.out
    have n1 := cell_go e1 HW3.out
    have n2 := cell_go e2 HW3.out
    have n4 := cell_go e3 HW3.out
    have n5 := cell_go e4 HW3.out
    refine wpE_start (S := (fun y : World => y.cell? ⟨w.heap.size, 3, none⟩ = some (.int .i64 (a : Int)) ∧ y.cell? ⟨g, 14, none⟩ = some (.slice (some ⟨q, 0, none⟩) r.regs.length r.regs.length) ∧ y.cell? ⟨q, a * 5, none⟩ = some (holdV rb.h) ∧ y.cell? ⟨q, a * 5 + 1, none⟩ = some (.int .u64 (rb.on : Int)) ∧ y.cell? ⟨q, a * 5 + 2, none⟩ = some (.int .u64 0) ∧ y.cell? ⟨q, a * 5 + 3, none⟩ = some (.int .u64 0) ∧ y.cell? ⟨q, a * 5 + 4, none⟩ = some (.int .u64 0))) (E := [3, 5, 7]) (by kernel_rfl) ⟨n3, g14, n0, n1, n2, n4, n5⟩ (fun hHeld => ?_)
    simp only [List.length_cons, List.length_nil, Nat.zero_add, Nat.reduceAdd]
    (refine wpP 0 (v := ?_) rfl (by kernel_rfl) ?_ ?_; rotate_left; (focus (intro x'; go_simp; try with_reducible rfl)); (try simp only [pa1, pa3, Act.put, pa4, pa5, pa6]))
    (refine wpP 1 (v := ?_) rfl (by kernel_rfl) ?_ ?_; rotate_left; (focus (intro x'; go_simp; try with_reducible rfl)); (try simp only [pa1, pa2, pa3, Act.put, pa4, pa5, pa6]))
    (refine wpP 2 (v := ?_) rfl (by kernel_rfl) ?_ ?_; rotate_left; (focus (intro x'; go_simp; try with_reducible rfl)); (try simp only [pa1, pa2, pa3, Act.put, pa4, pa5, pa6]))
    (refine wpP 4 (v := ?_) rfl (by kernel_rfl) ?_ ?_; rotate_left; (focus (intro x'; go_simp; try with_reducible rfl)); (try simp only [pa1, pa2, pa3, Act.put, pa4, pa5, pa6]))
    (refine wpT 3 (v := ?_) rfl (by kernel_rfl) ?_ (by assumption) ?_; rotate_left; (focus (intro x' hSx; (try dsimp only at hSx); go_simp; try with_reducible rfl)); (try simp only [pa1, pa2, pa3, Act.put, pa4, pa5, pa6]))
    (refine wpT 5 (v := ?_) rfl (by kernel_rfl) ?_ (by assumption) ?_; rotate_left; (focus (intro x' hSx; (try dsimp only at hSx); go_simp; try with_reducible rfl)); (try simp only [pa1, pa2, pa3, Act.put, pa4, pa5, pa6]))
    (refine wpP 6 (v := ?_) rfl (by kernel_rfl) ?_ ?_; rotate_left; (focus (intro x'; go_simp; try with_reducible rfl)); (try simp only [pa1, pa2, pa3, Act.put, pa4, pa5, pa6]))
    (refine wpT 7 (v := ?_) rfl (by kernel_rfl) ?_ (by assumption) ?_; rotate_left; (focus (intro x' hSx; (try dsimp only at hSx); go_simp; try with_reducible rfl)); (try simp only [pa1, pa2, pa3, Act.put, pa4, pa5, pa6]))
    refine wpE_tail 8 rfl (by kernel_rfl) ?_
    simp only [List.drop_succ_cons, List.drop_zero]
    clear hHeld n3 g14 n0 n1 n2 n4 n5 i0
    refine wpList_store_mid rfl _ _ _ rfl (w1.heap.size) 0 #[holdV rb.h, .int .u64 (rb.on : Int), .int .u64 0, .int .u64 0, .int .u64 0] rfl rfl (there_blk BX5.out.drew 5 (by simp)) (by kernel_rfl) (all_oneCell_toArray (cs := encR.enc rb) honeb) ?_
    have BX49 := Lib.hid (blk_farS BX4.out.drew (show (w1.heap.size + 1) ≠ (w1.heap.size) by omega) [holdV rb.h, .int .u64 (rb.on : Int), .int .u64 0, .int .u64 0, .int .u64 0] 0)
    have BX59 := Lib.hid (Blk.sets5 BX5.out.drew rfl (holdV rb.h) (.int .u64 (rb.on : Int)) (.int .u64 0) (.int .u64 0) (.int .u64 0))
    have HW39 := Lib.hid (below_sets HW3.out.drew (show w1.heap.size ≤ (w1.heap.size) by omega) [holdV rb.h, .int .u64 (rb.on : Int), .int .u64 0, .int .u64 0, .int .u64 0] 0)
    clear BX4 BX5 HW3 HBI3 HW30 hz3
    have BX4 := BX49
    have BX5 := BX59
    have HW3 := HW39
    clear BX49 BX59 HW39
    generalize hW9 : (World.setCells (World.drew W3) _ _ _) = W9 at *
    clear hW9 W3
    obtain ⟨W3, hW3⟩ : ∃ W, W = W9 := ⟨_, rfl⟩
    subst hW3
    have HBI3 := Lib.hid (HBI.out.go HW3.out)
    have HW30 := Lib.hid (below_trans HB0.out HW3.out)
    have hz3 := HW3.out.size
    have i0 : W3.cell? ⟨w.heap.size, 0, none⟩ = some (.int .i64 9) := HBI3.out.cell 0
    have a0 : W3.cell? ⟨(w1.heap.size + 1), 0, none⟩ = some (holdV ra.h) := BX4.out.cell 0
    have a1 : W3.cell? ⟨(w1.heap.size + 1), 1, none⟩ = some (.int .u64 (ra.on : Int)) := BX4.out.cell 1
    have a2 : W3.cell? ⟨(w1.heap.size + 1), 2, none⟩ = some (.int .u64 0) := BX4.out.cell 2
    have a3 : W3.cell? ⟨(w1.heap.size + 1), 3, none⟩ = some (.int .u64 0) := BX4.out.cell 3
    have a4 : W3.cell? ⟨(w1.heap.size + 1), 4, none⟩ = some (.int .u64 0) := BX4.out.cell 4
    have b0 : W3.cell? ⟨(w1.heap.size), 0, none⟩ = some (holdV rb.h) := BX5.out.cell 0
    have b1 : W3.cell? ⟨(w1.heap.size), 1, none⟩ = some (.int .u64 (rb.on : Int)) := BX5.out.cell 1
    have b2 : W3.cell? ⟨(w1.heap.size), 2, none⟩ = some (.int .u64 0) := BX5.out.cell 2
    have b3 : W3.cell? ⟨(w1.heap.size), 3, none⟩ = some (.int .u64 0) := BX5.out.cell 3
    have b4 : W3.cell? ⟨(w1.heap.size), 4, none⟩ = some (.int .u64 0) := BX5.out.cell 4
    go_wp2_with fail
    have HSS := Lib.hid (show ∀ y, Below W3.heap.size W3 y → (fun y : World => y.cell? ⟨w.heap.size, 0, none⟩ = some (.int .i64 9) ∧ (y.cell? ⟨(w1.heap.size + 1), 0, none⟩ = some (holdV ra.h) ∧ y.cell? ⟨(w1.heap.size + 1), 1, none⟩ = some (.int .u64 (ra.on : Int)) ∧ y.cell? ⟨(w1.heap.size + 1), 2, none⟩ = some (.int .u64 0) ∧ y.cell? ⟨(w1.heap.size + 1), 3, none⟩ = some (.int .u64 0) ∧ y.cell? ⟨(w1.heap.size + 1), 4, none⟩ = some (.int .u64 0)) ∧ y.cell? ⟨(w1.heap.size), 0, none⟩ = some (holdV rb.h) ∧ y.cell? ⟨(w1.heap.size), 1, none⟩ = some (.int .u64 (rb.on : Int)) ∧ y.cell? ⟨(w1.heap.size), 2, none⟩ = some (.int .u64 0) ∧ y.cell? ⟨(w1.heap.size), 3, none⟩ = some (.int .u64 0) ∧ y.cell? ⟨(w1.heap.size), 4, none⟩ = some (.int .u64 0)) y from fun y hb => ⟨cell_go i0 hb, ⟨cell_go a0 hb, cell_go a1 hb, cell_go a2 hb, cell_go a3 hb, cell_go a4 hb⟩, cell_go b0 hb, cell_go b1 hb, cell_go b2 hb, cell_go b3 hb, cell_go b4 hb⟩)
    refine wpE_start (S := (fun y : World => y.cell? ⟨w.heap.size, 0, none⟩ = some (.int .i64 9) ∧ (y.cell? ⟨(w1.heap.size + 1), 0, none⟩ = some (holdV ra.h) ∧ y.cell? ⟨(w1.heap.size + 1), 1, none⟩ = some (.int .u64 (ra.on : Int)) ∧ y.cell? ⟨(w1.heap.size + 1), 2, none⟩ = some (.int .u64 0) ∧ y.cell? ⟨(w1.heap.size + 1), 3, none⟩ = some (.int .u64 0) ∧ y.cell? ⟨(w1.heap.size + 1), 4, none⟩ = some (.int .u64 0)) ∧ y.cell? ⟨(w1.heap.size), 0, none⟩ = some (holdV rb.h) ∧ y.cell? ⟨(w1.heap.size), 1, none⟩ = some (.int .u64 (rb.on : Int)) ∧ y.cell? ⟨(w1.heap.size), 2, none⟩ = some (.int .u64 0) ∧ y.cell? ⟨(w1.heap.size), 3, none⟩ = some (.int .u64 0) ∧ y.cell? ⟨(w1.heap.size), 4, none⟩ = some (.int .u64 0))) (E := [1, 3, 5, 6, 8, 10, 13]) (by kernel_rfl) ⟨i0, ⟨a0, a1, a2, a3, a4⟩, b0, b1, b2, b3, b4⟩ (fun hHeld => ?_)
    simp only [List.length_cons, List.length_nil, Nat.zero_add, Nat.reduceAdd]
    (refine wpP 0 (v := ?_) rfl (by kernel_rfl) ?_ ?_; rotate_left; (focus (intro x'; go_simp; try with_reducible rfl)); (try simp only [pa1, pa3, Act.put, pa4, pa5, pa6]))
    (refine wpP 2 (v := ?_) rfl (by kernel_rfl) ?_ ?_; rotate_left; (focus (intro x'; go_simp; try with_reducible rfl)); (try simp only [pa1, pa2, pa3, Act.put, pa4, pa5, pa6]))
    (refine wpP 4 (v := ?_) rfl (by kernel_rfl) ?_ ?_; rotate_left; (focus (intro x'; go_simp; try with_reducible rfl)); (try simp only [pa1, pa2, pa3, Act.put, pa4, pa5, pa6]))
    (refine wpP 7 (v := ?_) rfl (by kernel_rfl) ?_ ?_; rotate_left; (focus (intro x'; go_simp; try with_reducible rfl)); (try simp only [pa1, pa2, pa3, Act.put, pa4, pa5, pa6]))
    (refine wpP 9 (v := ?_) rfl (by kernel_rfl) ?_ ?_; rotate_left; (focus (intro x'; go_simp; try with_reducible rfl)); (try simp only [pa1, pa2, pa3, Act.put, pa4, pa5, pa6]))
    (refine wpT 1 (v := ?_) rfl (by kernel_rfl) ?_ (by assumption) ?_; rotate_left; (focus (intro x' hSx; (try dsimp only at hSx); go_simp; try with_reducible rfl)); (try simp only [pa1, pa2, pa3, Act.put, pa4, pa5, pa6]))
    (refine wpT 3 (v := ?_) rfl (by kernel_rfl) ?_ (by assumption) ?_; rotate_left; (focus (intro x' hSx; (try dsimp only at hSx); go_simp; try with_reducible rfl)); (try simp only [pa1, pa2, pa3, Act.put, pa4, pa5, pa6]))
    (refine wpT 5 (v := ?_) rfl (by kernel_rfl) ?_ (by assumption) ?_; rotate_left; (focus (intro x' hSx; (try dsimp only at hSx); go_simp; try with_reducible rfl)); (try simp only [pa1, pa2, pa3, Act.put, pa4, pa5, pa6]))
    (refine wpT 8 (v := ?_) rfl (by kernel_rfl) ?_ (by assumption) ?_; rotate_left; (focus (intro x' hSx; (try dsimp only at hSx); go_simp; try with_reducible rfl)); (try simp only [pa1, pa2, pa3, Act.put, pa4, pa5, pa6]))
    (refine wpT 10 (v := ?_) rfl (by kernel_rfl) ?_ (by assumption) ?_; rotate_left; (focus (intro x' hSx; (try dsimp only at hSx); go_simp; try with_reducible rfl)); (try simp only [pa1, pa2, pa3, Act.put, pa4, pa5, pa6]))
    clear hHeld i0 a0 a1 a2 a3 a4 b0 b1 b2 b3 b4
    refine wpE_two (i := 6) (j := 13) (by kernel_rfl) rfl rfl (fun K hK => ?_) (fun K hK => ?_)
    · go_simp
      go_at_call 161
      refine (HMX.out _).mono ?_
      rintro e w' ⟨rfl, rfl⟩
      refine hK.out _ _ (HSS.out _ (by repeat (first | exact Below.refl _ _ | exact Below.refl _ _ | with_reducible refine Below.drew ?_ | with_reducible refine below_alloc ?_ _ | with_reducible refine below_sets ?_ (by omega) _ _))) ?_
      clear hK K
      (try simp only [pa1, pa2, pa3, Act.put, pa4, pa5, pa6])
      refine wpE_two (i := 11) (j := 13) (by kernel_rfl) rfl rfl (fun K hK => ?_) (fun K hK => ?_)
      · go_simp
        go_at_call 162
        refine (HOR.out _).mono ?_
        rintro e w5 ⟨rfl, hb5⟩
        have HB6 := Lib.hid (show Below (W3.drew).heap.size W3.drew w5 from hb5)
        have HB5 := Lib.hid (show Below W3.heap.size W3 w5 from (by first | exact below_of_drew hb5 | exact HW4.out.trans (hb5.mono HW4.out.size)))
        clear hb5
        refine hK.out _ _ (HSS.out _ HB5.out) ?_
        clear hK K
        (try simp only [pa1, pa2, pa3, Act.put, pa4, pa5, pa6])
        (refine wpP 12 (v := ?_) rfl (by kernel_rfl) ?_ ?_; rotate_left; (focus (intro x'; go_simp; try with_reducible rfl)); (try simp only [pa1, pa2, pa3, Act.put, pa4, pa5, pa6]))
        refine wpE_one (i := 13) (by kernel_rfl) rfl (fun K hK => ?_)
        go_simp
        refine hK.out _ _ (HSS.out _ (by repeat (first | exact Below.refl _ _ | exact HB5.out | with_reducible refine Below.drew ?_ | with_reducible refine below_alloc ?_ _ | with_reducible refine below_sets ?_ (by omega) _ _))) ?_
        clear hK K
        (try simp only [pa1, pa2, pa3, Act.put, pa4, pa5, pa6])
        refine wpE_tail 14 rfl (by kernel_rfl) ?_
        simp only [List.drop_succ_cons, List.drop_zero]
        have hz5 := HB5.out.size
        refine wpList_store_mid rfl _ _ _ rfl (w5.heap.size) 0 #[.iface mt mv, .int .u64 (oo : Int), .int .u64 0, .int .u64 0, .int .u64 0] rfl rfl (there_blk (Blk.new w5 163 #[.nilIface, .int .u64 0, .int .u64 0, .int .u64 0, .int .u64 0]) 5 (by simp)) (by kernel_rfl) (all_oneCell_toArray (cs := [.iface mt mv, .int .u64 (oo : Int), .int .u64 0, .int .u64 0, .int .u64 0]) hone6) ?_
        have BX6 := Lib.hid (Blk.sets5 (Blk.new w5 163 #[.nilIface, .int .u64 0, .int .u64 0, .int .u64 0, .int .u64 0]) rfl (.iface mt mv) (.int .u64 (oo : Int)) (.int .u64 0) (.int .u64 0) (.int .u64 0))
        have HW7 := Lib.hid (below_trans HW30.out (below_sets (show Below W3.heap.size W3 (w5.alloc (.cells #[.nilIface, .int .u64 0, .int .u64 0, .int .u64 0, .int .u64 0] 163 (0, 0))) from below_alloc HB5.out _) (show W3.heap.size ≤ (w5.heap.size) by omega) [.iface mt mv, .int .u64 (oo : Int), .int .u64 0, .int .u64 0, .int .u64 0] 0))
        have HBI7 := Lib.hid (HBI3.out.go (below_sets (show Below W3.heap.size W3 (w5.alloc (.cells #[.nilIface, .int .u64 0, .int .u64 0, .int .u64 0, .int .u64 0] 163 (0, 0))) from below_alloc HB5.out _) (show W3.heap.size ≤ (w5.heap.size) by omega) [.iface mt mv, .int .u64 (oo : Int), .int .u64 0, .int .u64 0, .int .u64 0] 0))
        generalize hW7 : (World.setCells _ _ _ [.iface mt mv, .int .u64 (oo : Int), .int .u64 0, .int .u64 0, .int .u64 0]) = W7 at *
        clear hW7
        have j0 : W7.cell? ⟨w.heap.size, 0, none⟩ = some (.int .i64 9) := HBI7.out.cell 0
        have j2 : W7.cell? ⟨w.heap.size, 2, none⟩ = some (.int .i64 (a : Int)) := HBI7.out.cell 2
        have j3 : W7.cell? ⟨w.heap.size, 3, none⟩ = some (.int .i64 (a : Int)) := HBI7.out.cell 3
        have j1 : W7.cell? ⟨w.heap.size, 1, none⟩ = some (.int .i64 (d : Int)) := HBI7.out.cell 1
        have c0 : W7.cell? ⟨(w5.heap.size), 0, none⟩ = some (.iface mt mv) := BX6.out.cell 0
        have c1 : W7.cell? ⟨(w5.heap.size), 1, none⟩ = some (.int .u64 (oo : Int)) := BX6.out.cell 1
        have c2 : W7.cell? ⟨(w5.heap.size), 2, none⟩ = some (.int .u64 0) := BX6.out.cell 2
        have c3 : W7.cell? ⟨(w5.heap.size), 3, none⟩ = some (.int .u64 0) := BX6.out.cell 3
        have c4 : W7.cell? ⟨(w5.heap.size), 4, none⟩ = some (.int .u64 0) := BX6.out.cell 4
        have c5 := BX6.out.frozen 0
        have HR7 := Lib.hid (HR.out.below (HW7.out.setCell (p := ⟨(w5.heap.size), 0, none⟩) (show w.heap.size ≤ (w5.heap.size) by have := HW30.out.size; omega) (.iface 159 (.int .i64 0))))
        have HBS := Lib.hid (HW7.out.setCell (p := ⟨(w5.heap.size), 0, none⟩) (show w.heap.size ≤ (w5.heap.size) by have := HW30.out.size; omega) (.iface 159 (.int .i64 0)))
        have HB7 := Lib.hid (HB00.out.trans (HBS.out.mono hbs))
        go_wp2_with (go_at_call 93; refine (HPUT.out _ HB7.out hd hl HR7.out).mono ?_; rintro e w8 ⟨V8, rfl, hR8, hb8, hf8⟩)
        go_end0
        exact ⟨_, rfl, hR8, (HBS.out.mono hbs).trans hb8, (FrV.of_below HBS.out).trans hf8⟩
      · go_simp
        refine hK.out _ _ (HSS.out _ (by repeat (first | exact Below.refl _ _ | exact Below.refl _ _ | with_reducible refine Below.drew ?_ | with_reducible refine below_alloc ?_ _ | with_reducible refine below_sets ?_ (by omega) _ _))) ?_
        clear hK K
        (try simp only [pa1, pa2, pa3, Act.put, pa4, pa5, pa6])
        generalize hW4 : (World.drew (World.alloc _ _)) = W4
        have BZ6 : Hid (Blk W4 W3.heap.size 163 #[.nilIface, .int .u64 0, .int .u64 0, .int .u64 0, .int .u64 0]) := by rw [← hW4]; exact Lib.hid (Blk.new W3 _ _).drew
        have HW4 : Hid (Below W3.heap.size W3 W4) := by rw [← hW4]; exact Lib.hid ((by repeat (first | exact Below.refl _ _ | exact Below.refl _ _ | with_reducible refine Below.drew ?_ | with_reducible refine below_alloc ?_ _ | with_reducible refine below_sets ?_ (by omega) _ _)))
        clear hW4
        refine wpE_one (i := 11) (by kernel_rfl) rfl (fun K hK => ?_)
        go_simp
        go_at_call 162
        refine (HOR.out _).mono ?_
        rintro e w5 ⟨rfl, hb5⟩
        have HB6 := Lib.hid (show Below (W4).heap.size W4 w5 from hb5)
        have HB5 := Lib.hid (show Below W3.heap.size W3 w5 from (by first | exact below_of_drew hb5 | exact HW4.out.trans (hb5.mono HW4.out.size)))
        clear hb5
        refine hK.out _ _ (HSS.out _ HB5.out) ?_
        clear hK K
        (try simp only [pa1, pa2, pa3, Act.put, pa4, pa5, pa6])
        (refine wpP 12 (v := ?_) rfl (by kernel_rfl) ?_ ?_; rotate_left; (focus (intro x'; go_simp; try with_reducible rfl)); (try simp only [pa1, pa2, pa3, Act.put, pa4, pa5, pa6]))
        refine wpE_tail 14 rfl (by kernel_rfl) ?_
        simp only [List.drop_succ_cons, List.drop_zero]
        have hz5 := HB5.out.size
        refine wpList_store_mid rfl _ _ _ rfl (W3.heap.size) 0 #[.iface mt mv, .int .u64 (oo : Int), .int .u64 0, .int .u64 0, .int .u64 0] rfl rfl (there_blk (BZ6.out.go HB6.out) 5 (by simp)) (by kernel_rfl) (all_oneCell_toArray (cs := [.iface mt mv, .int .u64 (oo : Int), .int .u64 0, .int .u64 0, .int .u64 0]) hone6) ?_
        have BX6 := Lib.hid (Blk.sets5 (BZ6.out.go HB6.out) rfl (.iface mt mv) (.int .u64 (oo : Int)) (.int .u64 0) (.int .u64 0) (.int .u64 0))
        have HW7 := Lib.hid (below_trans HW30.out (below_sets (HB5.out) (show W3.heap.size ≤ (W3.heap.size) by omega) [.iface mt mv, .int .u64 (oo : Int), .int .u64 0, .int .u64 0, .int .u64 0] 0))
        have HBI7 := Lib.hid (HBI3.out.go (below_sets (HB5.out) (show W3.heap.size ≤ (W3.heap.size) by omega) [.iface mt mv, .int .u64 (oo : Int), .int .u64 0, .int .u64 0, .int .u64 0] 0))
        generalize hW7 : (World.setCells _ _ _ [.iface mt mv, .int .u64 (oo : Int), .int .u64 0, .int .u64 0, .int .u64 0]) = W7 at *
        clear hW7
        have j0 : W7.cell? ⟨w.heap.size, 0, none⟩ = some (.int .i64 9) := HBI7.out.cell 0
        have j2 : W7.cell? ⟨w.heap.size, 2, none⟩ = some (.int .i64 (a : Int)) := HBI7.out.cell 2
        have j3 : W7.cell? ⟨w.heap.size, 3, none⟩ = some (.int .i64 (a : Int)) := HBI7.out.cell 3
        have j1 : W7.cell? ⟨w.heap.size, 1, none⟩ = some (.int .i64 (d : Int)) := HBI7.out.cell 1
        have c0 : W7.cell? ⟨(W3.heap.size), 0, none⟩ = some (.iface mt mv) := BX6.out.cell 0
        have c1 : W7.cell? ⟨(W3.heap.size), 1, none⟩ = some (.int .u64 (oo : Int)) := BX6.out.cell 1
        have c2 : W7.cell? ⟨(W3.heap.size), 2, none⟩ = some (.int .u64 0) := BX6.out.cell 2
        have c3 : W7.cell? ⟨(W3.heap.size), 3, none⟩ = some (.int .u64 0) := BX6.out.cell 3
        have c4 : W7.cell? ⟨(W3.heap.size), 4, none⟩ = some (.int .u64 0) := BX6.out.cell 4
        have c5 := BX6.out.frozen 0
        have HR7 := Lib.hid (HR.out.below (HW7.out.setCell (p := ⟨(W3.heap.size), 0, none⟩) (show w.heap.size ≤ (W3.heap.size) by have := HW30.out.size; omega) (.iface 159 (.int .i64 0))))
        have HBS := Lib.hid (HW7.out.setCell (p := ⟨(W3.heap.size), 0, none⟩) (show w.heap.size ≤ (W3.heap.size) by have := HW30.out.size; omega) (.iface 159 (.int .i64 0)))
        have HB7 := Lib.hid (HB00.out.trans (HBS.out.mono hbs))
        go_wp2_with (go_at_call 93; refine (HPUT.out _ HB7.out hd hl HR7.out).mono ?_; rintro e w8 ⟨V8, rfl, hR8, hb8, hf8⟩)
        go_end0
        exact ⟨_, rfl, hR8, (HBS.out.mono hbs).trans hb8, (FrV.of_below HBS.out).trans hf8⟩
    · go_simp
      refine hK.out _ _ (HSS.out _ (by repeat (first | exact Below.refl _ _ | exact Below.refl _ _ | with_reducible refine Below.drew ?_ | with_reducible refine below_alloc ?_ _ | with_reducible refine below_sets ?_ (by omega) _ _))) ?_
      clear hK K
      (try simp only [pa1, pa2, pa3, Act.put, pa4, pa5, pa6])
      generalize hW4 : (World.drew (World.alloc _ _)) = W4
      have BZ6 : Hid (Blk W4 W3.heap.size 163 #[.nilIface, .int .u64 0, .int .u64 0, .int .u64 0, .int .u64 0]) := by rw [← hW4]; exact Lib.hid (Blk.new W3 _ _).drew
      have HW4 : Hid (Below W3.heap.size W3 W4) := by rw [← hW4]; exact Lib.hid ((by repeat (first | exact Below.refl _ _ | exact Below.refl _ _ | with_reducible refine Below.drew ?_ | with_reducible refine below_alloc ?_ _ | with_reducible refine below_sets ?_ (by omega) _ _)))
      clear hW4
      refine wpE_one (i := 6) (by kernel_rfl) rfl (fun K hK => ?_)
      go_simp
      go_at_call 161
      refine (HMX.out _).mono ?_
      rintro e w' ⟨rfl, rfl⟩
      refine hK.out _ _ (HSS.out _ HW4.out) ?_
      clear hK K
      (try simp only [pa1, pa2, pa3, Act.put, pa4, pa5, pa6])
      refine wpE_one (i := 11) (by kernel_rfl) rfl (fun K hK => ?_)
      go_simp
      go_at_call 162
      refine (HOR.out _).mono ?_
      rintro e w5 ⟨rfl, hb5⟩
      have HB6 := Lib.hid (show Below (W4).heap.size W4 w5 from hb5)
      have HB5 := Lib.hid (show Below W3.heap.size W3 w5 from (by first | exact below_of_drew hb5 | exact HW4.out.trans (hb5.mono HW4.out.size)))
      clear hb5
      refine hK.out _ _ (HSS.out _ HB5.out) ?_
      clear hK K
      (try simp only [pa1, pa2, pa3, Act.put, pa4, pa5, pa6])
      (refine wpP 12 (v := ?_) rfl (by kernel_rfl) ?_ ?_; rotate_left; (focus (intro x'; go_simp; try with_reducible rfl)); (try simp only [pa1, pa2, pa3, Act.put, pa4, pa5, pa6]))
      refine wpE_tail 14 rfl (by kernel_rfl) ?_
      simp only [List.drop_succ_cons, List.drop_zero]
      have hz5 := HB5.out.size
      refine wpList_store_mid rfl _ _ _ rfl (W3.heap.size) 0 #[.iface mt mv, .int .u64 (oo : Int), .int .u64 0, .int .u64 0, .int .u64 0] rfl rfl (there_blk (BZ6.out.go HB6.out) 5 (by simp)) (by kernel_rfl) (all_oneCell_toArray (cs := [.iface mt mv, .int .u64 (oo : Int), .int .u64 0, .int .u64 0, .int .u64 0]) hone6) ?_
      have BX6 := Lib.hid (Blk.sets5 (BZ6.out.go HB6.out) rfl (.iface mt mv) (.int .u64 (oo : Int)) (.int .u64 0) (.int .u64 0) (.int .u64 0))
      have HW7 := Lib.hid (below_trans HW30.out (below_sets (HB5.out) (show W3.heap.size ≤ (W3.heap.size) by omega) [.iface mt mv, .int .u64 (oo : Int), .int .u64 0, .int .u64 0, .int .u64 0] 0))
      have HBI7 := Lib.hid (HBI3.out.go (below_sets (HB5.out) (show W3.heap.size ≤ (W3.heap.size) by omega) [.iface mt mv, .int .u64 (oo : Int), .int .u64 0, .int .u64 0, .int .u64 0] 0))
      generalize hW7 : (World.setCells _ _ _ [.iface mt mv, .int .u64 (oo : Int), .int .u64 0, .int .u64 0, .int .u64 0]) = W7 at *
      clear hW7
      have j0 : W7.cell? ⟨w.heap.size, 0, none⟩ = some (.int .i64 9) := HBI7.out.cell 0
      have j2 : W7.cell? ⟨w.heap.size, 2, none⟩ = some (.int .i64 (a : Int)) := HBI7.out.cell 2
      have j3 : W7.cell? ⟨w.heap.size, 3, none⟩ = some (.int .i64 (a : Int)) := HBI7.out.cell 3
      have j1 : W7.cell? ⟨w.heap.size, 1, none⟩ = some (.int .i64 (d : Int)) := HBI7.out.cell 1
      have c0 : W7.cell? ⟨(W3.heap.size), 0, none⟩ = some (.iface mt mv) := BX6.out.cell 0
      have c1 : W7.cell? ⟨(W3.heap.size), 1, none⟩ = some (.int .u64 (oo : Int)) := BX6.out.cell 1
      have c2 : W7.cell? ⟨(W3.heap.size), 2, none⟩ = some (.int .u64 0) := BX6.out.cell 2
      have c3 : W7.cell? ⟨(W3.heap.size), 3, none⟩ = some (.int .u64 0) := BX6.out.cell 3
      have c4 : W7.cell? ⟨(W3.heap.size), 4, none⟩ = some (.int .u64 0) := BX6.out.cell 4
      have c5 := BX6.out.frozen 0
      have HR7 := Lib.hid (HR.out.below (HW7.out.setCell (p := ⟨(W3.heap.size), 0, none⟩) (show w.heap.size ≤ (W3.heap.size) by have := HW30.out.size; omega) (.iface 159 (.int .i64 0))))
      have HBS := Lib.hid (HW7.out.setCell (p := ⟨(W3.heap.size), 0, none⟩) (show w.heap.size ≤ (W3.heap.size) by have := HW30.out.size; omega) (.iface 159 (.int .i64 0)))
      have HB7 := Lib.hid (HB00.out.trans (HBS.out.mono hbs))
      go_wp2_with (go_at_call 93; refine (HPUT.out _ HB7.out hd hl HR7.out).mono ?_; rintro e w8 ⟨V8, rfl, hR8, hb8, hf8⟩)
      go_end0
      exact ⟨_, rfl, hR8, (HBS.out.mono hbs).trans hb8, (FrV.of_below HBS.out).trans hf8⟩
end
end Go.Proofs.YtoegmdnfbemppaaGreatDoor
