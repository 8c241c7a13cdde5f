/- Layer 15: the runner's memory: the program's. -/
import Derived.Test.YtjhafgnmahhacaaGreatDoorTe23

namespace Go.Proofs.YtjhafgnmahhacaaGreatDoor
open Go.RowKit
section
theorem WritePost.no {B g : Nat} {S : RunS} {V : RunV} {r : Rn} {o : Option Rn} {w w' : World} {e : Ending} (h : o = none) (p : RunPost B g S V r (.bool false) w e w') : WritePost B g S V r o w e w' := by subst h; exact p
theorem WritePost.yes {B g : Nat} {S : RunS} {V : RunV} {r r' : Rn} {o : Option Rn} {w w' : World} {e : Ending} (h : o = some r') (p : RunPost B g S V r' (.bool true) w e w') : WritePost B g S V r o w e w' := by subst h; exact p
section
set_option maxHeartbeats 4000000
set_option maxRecDepth 100000
variable {w0 w : World} {g nr k : Nat} {S : RunS} {r : Rn} {V : RunV}
theorem memP_n (pl : Nat) (op : Int) (d a b : Nat) (imm : Int) (loc label : List UInt8) (fence : Int) (n : Int) (ao : Nat) (hb : Below w0.heap.size w0 w) (hI : Inv S.C nr k r) (hR : RunAt w w0.heap.size g S r V) (ha : r.regs[a]? = some ⟨.num n, ao⟩) :
    Calls Tryz.prog 138 #[.pointer (some ⟨g, 0, none⟩), .int .i64 (pl : Int), insK op d a b imm loc label fence] w (RunPost w0.heap.size g S V r (.bool false) w) := by
  have HR := Lib.hid hR
  have hbs := hb.size
  have room := hI.room
  have HBI := Lib.hid (Blk.new w 70 #[.int .i64 op, .int .i64 (d : Int), .int .i64 (a : Int), .int .i64 (b : Int), .int .i64 imm, .string ⟨loc.toArray⟩, .string ⟨label.toArray⟩, .int .i64 fence])
  have HB0 := Lib.hid (alloc_b w (.cells #[.int .i64 op, .int .i64 (d : Int), .int .i64 (a : Int), .int .i64 (b : Int), .int .i64 imm, .string ⟨loc.toArray⟩, .string ⟨label.toArray⟩, .int .i64 fence] 70 (0, 0)))
  obtain ⟨q, hvr, hqb, hqB⟩ := hR.regs
  have hal := (List.getElem?_eq_some_iff.1 ha).1
  have hi1 : (0 : Int) ≤ (a : Int) := by omega
  have hi2 : (a : Int) < (r.regs.length : Int) := by omega
  obtain ⟨c0, c1, c2, c3, c4⟩ := regs_cell hqb ha
  have k14 : w.cell? ⟨g, 14, none⟩ = some (.slice (some ⟨q, 0, none⟩) r.regs.length r.regs.length) := by rw [← hvr]; exact hR.blk.cell 14
  have hone := encR.one ⟨.num n, ao⟩
  have HTA := Lib.hid (fun w => taA w (.num n))
  have hqw := hqb.lt
  have hgw : g < w.heap.size := hR.blk.lt
  have HB00 := Lib.hid hb
  clear hR hI hqb hb ha
  go_enter Tryz.func138, Tryz.ntmps138
  go_wp2_with fail
  generalize hw1 : w.alloc (.cells #[.int .i64 (op), .int .i64 (d : Int), .int .i64 (a : Int), .int .i64 (b : Int), .int .i64 imm, .string ⟨loc.toArray⟩, .string ⟨label.toArray⟩, .int .i64 fence] 70 (0, 0)) = w1 at *
  clear hw1
  have hz1 : w.heap.size < w1.heap.size := HBI.out.lt
  have i2 : w1.cell? ⟨w.heap.size, 2, none⟩ = some (.int .i64 (a : Int)) := HBI.out.cell 2
  have d14 := cell_go k14 HB0.out
  have d0 := cell_go c0 HB0.out
  have d1 := cell_go c1 HB0.out
  have d2 := cell_go c2 HB0.out
  have d3 := cell_go c3 HB0.out
  have d4 := cell_go c4 HB0.out
  clear k14 c0 c1 c2 c3 c4
  refine wz (fun y : World => y.cell? ⟨w.heap.size, 2, none⟩ = some (.int .i64 (a : Int)) ∧ y.cell? ⟨g, 14, none⟩ = some (.slice (some ⟨q, 0, none⟩) r.regs.length r.regs.length) ∧ y.cell? ⟨q, a * 5, none⟩ = some (holdV (.num n)) ∧ y.cell? ⟨q, a * 5 + 1, none⟩ = some (.int .u64 (ao : Int)) ∧ y.cell? ⟨q, a * 5 + 2, none⟩ = some (.int .u64 0) ∧ y.cell? ⟨q, a * 5 + 3, none⟩ = some (.int .u64 0) ∧ y.cell? ⟨q, a * 5 + 4, none⟩ = some (.int .u64 0)) [3, 5, 7, 8] ⟨i2, d14, d0, d1, d2, d3, d4⟩ (fun hHeld => ?_)
  refine wq 0 ?_
  refine wq 1 ?_
  refine wq 2 ?_
  refine wq 4 ?_
  refine wt 3 (by assumption) ?_
  refine wt 5 (by assumption) ?_
  refine wq 6 ?_
  refine wt 7 (by assumption) ?_
  refine wpE_one (i := 8) (by kernel_rfl) rfl (fun K hK => ?_)
  go_simp
  refine hK.out _ _ ⟨cell_al hHeld.1 _, cell_al hHeld.2.1 _, cell_al hHeld.2.2.1 _, cell_al hHeld.2.2.2.1 _, cell_al hHeld.2.2.2.2.1 _, cell_al hHeld.2.2.2.2.2.1 _, cell_al hHeld.2.2.2.2.2.2 _⟩ ?_
  clear hK K
  refine pu ?_
  refine wl 9 ?_
  have BZ := Lib.hid ((Blk.new w1 217 #[.nilIface, .int .u64 0, .int .u64 0, .int .u64 0, .int .u64 0]).drew)
  refine wpList_store_mid rfl _ _ _ rfl w1.heap.size 0 #[holdV (.num n), .int .u64 (ao : Int), .int .u64 0, .int .u64 0, .int .u64 0] rfl rfl (there_blk BZ.out 5 (by simp)) (by kernel_rfl) (all_oneCell_toArray (cs := encR.enc ⟨.num n, ao⟩) hone) ?_
  have BX := Lib.hid (Blk.sets5 BZ.out rfl (holdV (.num n)) (.int .u64 (ao : Int)) (.int .u64 0) (.int .u64 0) (.int .u64 0))
  have HW3 := Lib.hid (below_sets ((alloc_b w1 (.cells #[.nilIface, .int .u64 0, .int .u64 0, .int .u64 0, .int .u64 0] 217 (0, 0))).drew) (show w1.heap.size ≤ w1.heap.size by omega) [holdV (.num n), .int .u64 (ao : Int), .int .u64 0, .int .u64 0, .int .u64 0] 0)
  clear hHeld i2 BZ
  generalize hW3 : (World.setCells _ _ _ _ : World) = W3 at *
  clear hW3
  have HBI3 := Lib.hid (HBI.out.go HW3.out)
  have HW30 := Lib.hid (below_trans HB0.out HW3.out)
  have hz3 := HW3.out.size
  have a0 : W3.cell? ⟨w1.heap.size, 0, none⟩ = some (holdV (.num n)) := BX.out.cell 0
  have q1 := HTA.out
  simp only [adrOf, isAdr] at q1
  go_wp2_with fail
  go_ret
  exact ⟨_, rfl, HR.out.below HW30.out, HW30.out.mono hbs, FrV.of_below HW30.out⟩
theorem memP_t (pl : Nat) (op : Int) (d a b : Nat) (imm : Int) (loc label : List UInt8) (fence : Int) (n : Nat) (ao : Nat) (hb : Below w0.heap.size w0 w) (hI : Inv S.C nr k r) (hR : RunAt w w0.heap.size g S r V) (ha : r.regs[a]? = some ⟨.rd n, ao⟩) :
    Calls Tryz.prog 138 #[.pointer (some ⟨g, 0, none⟩), .int .i64 (pl : Int), insK op d a b imm loc label fence] w (RunPost w0.heap.size g S V r (.bool false) w) := by
  have HR := Lib.hid hR
  have hbs := hb.size
  have room := hI.room
  have HBI := Lib.hid (Blk.new w 70 #[.int .i64 op, .int .i64 (d : Int), .int .i64 (a : Int), .int .i64 (b : Int), .int .i64 imm, .string ⟨loc.toArray⟩, .string ⟨label.toArray⟩, .int .i64 fence])
  have HB0 := Lib.hid (alloc_b w (.cells #[.int .i64 op, .int .i64 (d : Int), .int .i64 (a : Int), .int .i64 (b : Int), .int .i64 imm, .string ⟨loc.toArray⟩, .string ⟨label.toArray⟩, .int .i64 fence] 70 (0, 0)))
  obtain ⟨q, hvr, hqb, hqB⟩ := hR.regs
  have hal := (List.getElem?_eq_some_iff.1 ha).1
  have hi1 : (0 : Int) ≤ (a : Int) := by omega
  have hi2 : (a : Int) < (r.regs.length : Int) := by omega
  obtain ⟨c0, c1, c2, c3, c4⟩ := regs_cell hqb ha
  have k14 : w.cell? ⟨g, 14, none⟩ = some (.slice (some ⟨q, 0, none⟩) r.regs.length r.regs.length) := by rw [← hvr]; exact hR.blk.cell 14
  have hone := encR.one ⟨.rd n, ao⟩
  have HTA := Lib.hid (fun w => taA w (.rd n))
  have hqw := hqb.lt
  have hgw : g < w.heap.size := hR.blk.lt
  have HB00 := Lib.hid hb
  clear hR hI hqb hb ha
  go_enter Tryz.func138, Tryz.ntmps138
  go_wp2_with fail
  generalize hw1 : w.alloc (.cells #[.int .i64 (op), .int .i64 (d : Int), .int .i64 (a : Int), .int .i64 (b : Int), .int .i64 imm, .string ⟨loc.toArray⟩, .string ⟨label.toArray⟩, .int .i64 fence] 70 (0, 0)) = w1 at *
  clear hw1
  have hz1 : w.heap.size < w1.heap.size := HBI.out.lt
  have i2 : w1.cell? ⟨w.heap.size, 2, none⟩ = some (.int .i64 (a : Int)) := HBI.out.cell 2
  have d14 := cell_go k14 HB0.out
  have d0 := cell_go c0 HB0.out
  have d1 := cell_go c1 HB0.out
  have d2 := cell_go c2 HB0.out
  have d3 := cell_go c3 HB0.out
  have d4 := cell_go c4 HB0.out
  clear k14 c0 c1 c2 c3 c4
  refine wz (fun y : World => y.cell? ⟨w.heap.size, 2, none⟩ = some (.int .i64 (a : Int)) ∧ y.cell? ⟨g, 14, none⟩ = some (.slice (some ⟨q, 0, none⟩) r.regs.length r.regs.length) ∧ y.cell? ⟨q, a * 5, none⟩ = some (holdV (.rd n)) ∧ y.cell? ⟨q, a * 5 + 1, none⟩ = some (.int .u64 (ao : Int)) ∧ y.cell? ⟨q, a * 5 + 2, none⟩ = some (.int .u64 0) ∧ y.cell? ⟨q, a * 5 + 3, none⟩ = some (.int .u64 0) ∧ y.cell? ⟨q, a * 5 + 4, none⟩ = some (.int .u64 0)) [3, 5, 7, 8] ⟨i2, d14, d0, d1, d2, d3, d4⟩ (fun hHeld => ?_)
  refine wq 0 ?_
  refine wq 1 ?_
  refine wq 2 ?_
  refine wq 4 ?_
  refine wt 3 (by assumption) ?_
  refine wt 5 (by assumption) ?_
  refine wq 6 ?_
  refine wt 7 (by assumption) ?_
  refine wpE_one (i := 8) (by kernel_rfl) rfl (fun K hK => ?_)
  go_simp
  refine hK.out _ _ ⟨cell_al hHeld.1 _, cell_al hHeld.2.1 _, cell_al hHeld.2.2.1 _, cell_al hHeld.2.2.2.1 _, cell_al hHeld.2.2.2.2.1 _, cell_al hHeld.2.2.2.2.2.1 _, cell_al hHeld.2.2.2.2.2.2 _⟩ ?_
  clear hK K
  refine pu ?_
  refine wl 9 ?_
  have BZ := Lib.hid ((Blk.new w1 217 #[.nilIface, .int .u64 0, .int .u64 0, .int .u64 0, .int .u64 0]).drew)
  refine wpList_store_mid rfl _ _ _ rfl w1.heap.size 0 #[holdV (.rd n), .int .u64 (ao : Int), .int .u64 0, .int .u64 0, .int .u64 0] rfl rfl (there_blk BZ.out 5 (by simp)) (by kernel_rfl) (all_oneCell_toArray (cs := encR.enc ⟨.rd n, ao⟩) hone) ?_
  have BX := Lib.hid (Blk.sets5 BZ.out rfl (holdV (.rd n)) (.int .u64 (ao : Int)) (.int .u64 0) (.int .u64 0) (.int .u64 0))
  have HW3 := Lib.hid (below_sets ((alloc_b w1 (.cells #[.nilIface, .int .u64 0, .int .u64 0, .int .u64 0, .int .u64 0] 217 (0, 0))).drew) (show w1.heap.size ≤ w1.heap.size by omega) [holdV (.rd n), .int .u64 (ao : Int), .int .u64 0, .int .u64 0, .int .u64 0] 0)
  clear hHeld i2 BZ
  generalize hW3 : (World.setCells _ _ _ _ : World) = W3 at *
  clear hW3
  have HBI3 := Lib.hid (HBI.out.go HW3.out)
  have HW30 := Lib.hid (below_trans HB0.out HW3.out)
  have hz3 := HW3.out.size
  have a0 : W3.cell? ⟨w1.heap.size, 0, none⟩ = some (holdV (.rd n)) := BX.out.cell 0
  have q1 := HTA.out
  simp only [adrOf, isAdr] at q1
  go_wp2_with fail
  go_ret
  exact ⟨_, rfl, HR.out.below HW30.out, HW30.out.mono hbs, FrV.of_below HW30.out⟩
theorem memP_h (pl : Nat) (op : Int) (d a b : Nat) (imm : Int) (loc label : List UInt8) (fence : Int)  (ao : Nat) (hb : Below w0.heap.size w0 w) (hI : Inv S.C nr k r) (hR : RunAt w w0.heap.size g S r V) (ha : r.regs[a]? = some ⟨.non, ao⟩) :
    Calls Tryz.prog 138 #[.pointer (some ⟨g, 0, none⟩), .int .i64 (pl : Int), insK op d a b imm loc label fence] w (RunPost w0.heap.size g S V r (.bool false) w) := by
  have HR := Lib.hid hR
  have hbs := hb.size
  have room := hI.room
  have HBI := Lib.hid (Blk.new w 70 #[.int .i64 op, .int .i64 (d : Int), .int .i64 (a : Int), .int .i64 (b : Int), .int .i64 imm, .string ⟨loc.toArray⟩, .string ⟨label.toArray⟩, .int .i64 fence])
  have HB0 := Lib.hid (alloc_b w (.cells #[.int .i64 op, .int .i64 (d : Int), .int .i64 (a : Int), .int .i64 (b : Int), .int .i64 imm, .string ⟨loc.toArray⟩, .string ⟨label.toArray⟩, .int .i64 fence] 70 (0, 0)))
  obtain ⟨q, hvr, hqb, hqB⟩ := hR.regs
  have hal := (List.getElem?_eq_some_iff.1 ha).1
  have hi1 : (0 : Int) ≤ (a : Int) := by omega
  have hi2 : (a : Int) < (r.regs.length : Int) := by omega
  obtain ⟨c0, c1, c2, c3, c4⟩ := regs_cell hqb ha
  have k14 : w.cell? ⟨g, 14, none⟩ = some (.slice (some ⟨q, 0, none⟩) r.regs.length r.regs.length) := by rw [← hvr]; exact hR.blk.cell 14
  have hone := encR.one ⟨.non, ao⟩
  have HTA := Lib.hid (fun w => taA w (.non))
  have hqw := hqb.lt
  have hgw : g < w.heap.size := hR.blk.lt
  have HB00 := Lib.hid hb
  clear hR hI hqb hb ha
  go_enter Tryz.func138, Tryz.ntmps138
  go_wp2_with fail
  generalize hw1 : w.alloc (.cells #[.int .i64 (op), .int .i64 (d : Int), .int .i64 (a : Int), .int .i64 (b : Int), .int .i64 imm, .string ⟨loc.toArray⟩, .string ⟨label.toArray⟩, .int .i64 fence] 70 (0, 0)) = w1 at *
  clear hw1
  have hz1 : w.heap.size < w1.heap.size := HBI.out.lt
  have i2 : w1.cell? ⟨w.heap.size, 2, none⟩ = some (.int .i64 (a : Int)) := HBI.out.cell 2
  have d14 := cell_go k14 HB0.out
  have d0 := cell_go c0 HB0.out
  have d1 := cell_go c1 HB0.out
  have d2 := cell_go c2 HB0.out
  have d3 := cell_go c3 HB0.out
  have d4 := cell_go c4 HB0.out
  clear k14 c0 c1 c2 c3 c4
  refine wz (fun y : World => y.cell? ⟨w.heap.size, 2, none⟩ = some (.int .i64 (a : Int)) ∧ y.cell? ⟨g, 14, none⟩ = some (.slice (some ⟨q, 0, none⟩) r.regs.length r.regs.length) ∧ y.cell? ⟨q, a * 5, none⟩ = some (holdV (.non)) ∧ y.cell? ⟨q, a * 5 + 1, none⟩ = some (.int .u64 (ao : Int)) ∧ y.cell? ⟨q, a * 5 + 2, none⟩ = some (.int .u64 0) ∧ y.cell? ⟨q, a * 5 + 3, none⟩ = some (.int .u64 0) ∧ y.cell? ⟨q, a * 5 + 4, none⟩ = some (.int .u64 0)) [3, 5, 7, 8] ⟨i2, d14, d0, d1, d2, d3, d4⟩ (fun hHeld => ?_)
  refine wq 0 ?_
  refine wq 1 ?_
  refine wq 2 ?_
  refine wq 4 ?_
  refine wt 3 (by assumption) ?_
  refine wt 5 (by assumption) ?_
  refine wq 6 ?_
  refine wt 7 (by assumption) ?_
  refine wpE_one (i := 8) (by kernel_rfl) rfl (fun K hK => ?_)
  go_simp
  refine hK.out _ _ ⟨cell_al hHeld.1 _, cell_al hHeld.2.1 _, cell_al hHeld.2.2.1 _, cell_al hHeld.2.2.2.1 _, cell_al hHeld.2.2.2.2.1 _, cell_al hHeld.2.2.2.2.2.1 _, cell_al hHeld.2.2.2.2.2.2 _⟩ ?_
  clear hK K
  refine pu ?_
  refine wl 9 ?_
  have BZ := Lib.hid ((Blk.new w1 217 #[.nilIface, .int .u64 0, .int .u64 0, .int .u64 0, .int .u64 0]).drew)
  refine wpList_store_mid rfl _ _ _ rfl w1.heap.size 0 #[holdV (.non), .int .u64 (ao : Int), .int .u64 0, .int .u64 0, .int .u64 0] rfl rfl (there_blk BZ.out 5 (by simp)) (by kernel_rfl) (all_oneCell_toArray (cs := encR.enc ⟨.non, ao⟩) hone) ?_
  have BX := Lib.hid (Blk.sets5 BZ.out rfl (holdV (.non)) (.int .u64 (ao : Int)) (.int .u64 0) (.int .u64 0) (.int .u64 0))
  have HW3 := Lib.hid (below_sets ((alloc_b w1 (.cells #[.nilIface, .int .u64 0, .int .u64 0, .int .u64 0, .int .u64 0] 217 (0, 0))).drew) (show w1.heap.size ≤ w1.heap.size by omega) [holdV (.non), .int .u64 (ao : Int), .int .u64 0, .int .u64 0, .int .u64 0] 0)
  clear hHeld i2 BZ
  generalize hW3 : (World.setCells _ _ _ _ : World) = W3 at *
  clear hW3
  have HBI3 := Lib.hid (HBI.out.go HW3.out)
  have HW30 := Lib.hid (below_trans HB0.out HW3.out)
  have hz3 := HW3.out.size
  have a0 : W3.cell? ⟨w1.heap.size, 0, none⟩ = some (holdV (.non)) := BX.out.cell 0
  have q1 := HTA.out
  simp only [adrOf, isAdr] at q1
  go_wp2_with fail
  go_ret
  exact ⟨_, rfl, HR.out.below HW30.out, HW30.out.mono hbs, FrV.of_below HW30.out⟩
theorem memP_r (pl d a b : Nat) (op imm : Int) (hop : op = 6) (loc label : List UInt8) (fence : Int) (s : Nm) (ao : Nat) (HS : Stat w0 S) (hb : Below w0.heap.size w0 w) (hI : Inv S.C nr k r) (hf : r.full = false) (hR : RunAt w w0.heap.size g S r V) (hd : d < r.regs.length) (hl : r.regs.length ≤ 32) (ha : r.regs[a]? = some ⟨.adr s, ao⟩) (hra : RgOK S.C r.evs ⟨.adr s, ao⟩) :
    Calls Tryz.prog 138 #[.pointer (some ⟨g, 0, none⟩), .int .i64 (pl : Int), insK op d a b imm loc label fence] w (RunPost w0.heap.size g S V (readL S.C r pl s ao (d : Int)) (.bool true) w) := by
  have HR := Lib.hid hR
  have hbs := hb.size
  have room := hI.room
  have HBI := Lib.hid (Blk.new w 70 #[.int .i64 op, .int .i64 (d : Int), .int .i64 (a : Int), .int .i64 (b : Int), .int .i64 imm, .string ⟨loc.toArray⟩, .string ⟨label.toArray⟩, .int .i64 fence])
  have HB0 := Lib.hid (alloc_b w (.cells #[.int .i64 op, .int .i64 (d : Int), .int .i64 (a : Int), .int .i64 (b : Int), .int .i64 imm, .string ⟨loc.toArray⟩, .string ⟨label.toArray⟩, .int .i64 fence] 70 (0, 0)))
  obtain ⟨q, hvr, hqb, hqB⟩ := hR.regs
  have hal := (List.getElem?_eq_some_iff.1 ha).1
  have hi1 : (0 : Int) ≤ (a : Int) := by omega
  have hi2 : (a : Int) < (r.regs.length : Int) := by omega
  obtain ⟨c0, c1, c2, c3, c4⟩ := regs_cell hqb ha
  have k14 : w.cell? ⟨g, 14, none⟩ = some (.slice (some ⟨q, 0, none⟩) r.regs.length r.regs.length) := by rw [← hvr]; exact hR.blk.cell 14
  have hone := encR.one ⟨.adr s, ao⟩
  have HTA := Lib.hid (fun w => taA w (.adr s))
  have hqw := hqb.lt
  have hgw : g < w.heap.size := hR.blk.lt
  have HB00 := Lib.hid hb
  have HRD := Lib.hid (fun (w : World) (hb : Below w0.heap.size w0 w) (hR : RunAt w w0.heap.size g S r V) => readP (w := w) pl s ao d HS hb hI hf hR hra.1 hra.2 hd hl)
  subst hop
  clear hR hI hqb hb ha HS hra hf
  go_enter Tryz.func138, Tryz.ntmps138
  go_wp2_with fail
  generalize hw1 : w.alloc (.cells #[.int .i64 (6), .int .i64 (d : Int), .int .i64 (a : Int), .int .i64 (b : Int), .int .i64 imm, .string ⟨loc.toArray⟩, .string ⟨label.toArray⟩, .int .i64 fence] 70 (0, 0)) = w1 at *
  clear hw1
  have hz1 : w.heap.size < w1.heap.size := HBI.out.lt
  have i2 : w1.cell? ⟨w.heap.size, 2, none⟩ = some (.int .i64 (a : Int)) := HBI.out.cell 2
  have d14 := cell_go k14 HB0.out
  have d0 := cell_go c0 HB0.out
  have d1 := cell_go c1 HB0.out
  have d2 := cell_go c2 HB0.out
  have d3 := cell_go c3 HB0.out
  have d4 := cell_go c4 HB0.out
  clear k14 c0 c1 c2 c3 c4
  refine wz (fun y : World => y.cell? ⟨w.heap.size, 2, none⟩ = some (.int .i64 (a : Int)) ∧ y.cell? ⟨g, 14, none⟩ = some (.slice (some ⟨q, 0, none⟩) r.regs.length r.regs.length) ∧ y.cell? ⟨q, a * 5, none⟩ = some (holdV (.adr s)) ∧ y.cell? ⟨q, a * 5 + 1, none⟩ = some (.int .u64 (ao : Int)) ∧ y.cell? ⟨q, a * 5 + 2, none⟩ = some (.int .u64 0) ∧ y.cell? ⟨q, a * 5 + 3, none⟩ = some (.int .u64 0) ∧ y.cell? ⟨q, a * 5 + 4, none⟩ = some (.int .u64 0)) [3, 5, 7, 8] ⟨i2, d14, d0, d1, d2, d3, d4⟩ (fun hHeld => ?_)
  refine wq 0 ?_
  refine wq 1 ?_
  refine wq 2 ?_
  refine wq 4 ?_
  refine wt 3 (by assumption) ?_
  refine wt 5 (by assumption) ?_
  refine wq 6 ?_
  refine wt 7 (by assumption) ?_
  refine wpE_one (i := 8) (by kernel_rfl) rfl (fun K hK => ?_)
  go_simp
  refine hK.out _ _ ⟨cell_al hHeld.1 _, cell_al hHeld.2.1 _, cell_al hHeld.2.2.1 _, cell_al hHeld.2.2.2.1 _, cell_al hHeld.2.2.2.2.1 _, cell_al hHeld.2.2.2.2.2.1 _, cell_al hHeld.2.2.2.2.2.2 _⟩ ?_
  clear hK K
  refine pu ?_
  refine wl 9 ?_
  have BZ := Lib.hid ((Blk.new w1 217 #[.nilIface, .int .u64 0, .int .u64 0, .int .u64 0, .int .u64 0]).drew)
  refine wpList_store_mid rfl _ _ _ rfl w1.heap.size 0 #[holdV (.adr s), .int .u64 (ao : Int), .int .u64 0, .int .u64 0, .int .u64 0] rfl rfl (there_blk BZ.out 5 (by simp)) (by kernel_rfl) (all_oneCell_toArray (cs := encR.enc ⟨.adr s, ao⟩) hone) ?_
  have BX := Lib.hid (Blk.sets5 BZ.out rfl (holdV (.adr s)) (.int .u64 (ao : Int)) (.int .u64 0) (.int .u64 0) (.int .u64 0))
  have HW3 := Lib.hid (below_sets ((alloc_b w1 (.cells #[.nilIface, .int .u64 0, .int .u64 0, .int .u64 0, .int .u64 0] 217 (0, 0))).drew) (show w1.heap.size ≤ w1.heap.size by omega) [holdV (.adr s), .int .u64 (ao : Int), .int .u64 0, .int .u64 0, .int .u64 0] 0)
  clear hHeld i2 BZ
  generalize hW3 : (World.setCells _ _ _ _ : World) = W3 at *
  clear hW3
  have HBI3 := Lib.hid (HBI.out.go HW3.out)
  have HW30 := Lib.hid (below_trans HB0.out HW3.out)
  have hz3 := HW3.out.size
  have a0 : W3.cell? ⟨w1.heap.size, 0, none⟩ = some (holdV (.adr s)) := BX.out.cell 0
  have q1 := HTA.out
  simp only [adrOf, isAdr] at q1
  have i0 : W3.cell? ⟨w.heap.size, 0, none⟩ = some (.int .i64 6) := HBI3.out.cell 0
  have i1 : W3.cell? ⟨w.heap.size, 1, none⟩ = some (.int .i64 (d : Int)) := HBI3.out.cell 1
  have a1 : W3.cell? ⟨w1.heap.size, 1, none⟩ = some (.int .u64 (ao : Int)) := BX.out.cell 1
  have a2 : W3.cell? ⟨w1.heap.size, 2, none⟩ = some (.int .u64 0) := BX.out.cell 2
  have a3 : W3.cell? ⟨w1.heap.size, 3, none⟩ = some (.int .u64 0) := BX.out.cell 3
  have a4 : W3.cell? ⟨w1.heap.size, 4, none⟩ = some (.int .u64 0) := BX.out.cell 4
  have HR3 := Lib.hid (HR.out.below HW30.out)
  have HB3 := Lib.hid (HB00.out.trans (HW30.out.mono hbs))
  go_wp2_with (go_at_call 136; refine (HRD.out _ HB3.out HR3.out).mono ?_; rintro e w8 ⟨V8, rfl, hR8, hb8, hf8⟩; have HR8 := Lib.hid hR8; have HB8 := Lib.hid hb8; have HF8 := Lib.hid hf8; clear hR8 hb8 hf8)
  go_ret
  exact ⟨_, rfl, HR8.out, (HW30.out.mono hbs).trans HB8.out, (FrV.of_below HW30.out).trans HF8.out⟩
theorem memP_w (pl d a b : Nat) (op imm : Int) (hop : op = 7) (loc label : List UInt8) (fence : Int) (s : Nm) (ao : Nat) (rb : Rg) (HS : Stat w0 S) (hb : Below w0.heap.size w0 w) (hI : Inv S.C nr k r) (hf : r.full = false) (hR : RunAt w w0.heap.size g S r V) (ha : r.regs[a]? = some ⟨.adr s, ao⟩) (hra : RgOK S.C r.evs ⟨.adr s, ao⟩) (hb2 : r.regs[b]? = some rb) (hrb : RgOK S.C r.evs rb) :
    Calls Tryz.prog 138 #[.pointer (some ⟨g, 0, none⟩), .int .i64 (pl : Int), insK op d a b imm loc label fence] w (WritePost w0.heap.size g S V r (writeL S.C r pl s ao rb) w) := by
  have HR := Lib.hid hR
  have hbs := hb.size
  have room := hI.room
  have HBI := Lib.hid (Blk.new w 70 #[.int .i64 op, .int .i64 (d : Int), .int .i64 (a : Int), .int .i64 (b : Int), .int .i64 imm, .string ⟨loc.toArray⟩, .string ⟨label.toArray⟩, .int .i64 fence])
  have HB0 := Lib.hid (alloc_b w (.cells #[.int .i64 op, .int .i64 (d : Int), .int .i64 (a : Int), .int .i64 (b : Int), .int .i64 imm, .string ⟨loc.toArray⟩, .string ⟨label.toArray⟩, .int .i64 fence] 70 (0, 0)))
  obtain ⟨q, hvr, hqb, hqB⟩ := hR.regs
  have hal := (List.getElem?_eq_some_iff.1 ha).1
  have hi1 : (0 : Int) ≤ (a : Int) := by omega
  have hi2 : (a : Int) < (r.regs.length : Int) := by omega
  obtain ⟨c0, c1, c2, c3, c4⟩ := regs_cell hqb ha
  have k14 : w.cell? ⟨g, 14, none⟩ = some (.slice (some ⟨q, 0, none⟩) r.regs.length r.regs.length) := by rw [← hvr]; exact hR.blk.cell 14
  have hone := encR.one ⟨.adr s, ao⟩
  have HTA := Lib.hid (fun w => taA w (.adr s))
  have hqw := hqb.lt
  have hgw : g < w.heap.size := hR.blk.lt
  have HB00 := Lib.hid hb
  have HWR := Lib.hid (fun (w : World) (hb : Below w0.heap.size w0 w) (hR : RunAt w w0.heap.size g S r V) => writeP (w := w) pl s ao rb HS hb hI hf hR hra.1 hra.2 hrb)
  obtain ⟨b0, b1, b2, b3, b4⟩ := regs_cell hqb hb2
  have hbl := (List.getElem?_eq_some_iff.1 hb2).1
  have hi3 : (0 : Int) ≤ (b : Int) := by omega
  have hi4 : (b : Int) < (r.regs.length : Int) := by omega
  have e14 := k14
  have hone2 := encR.one rb
  subst hop
  clear hR hI hqb hb ha HS hra hf hrb hb2
  go_enter Tryz.func138, Tryz.ntmps138
  go_wp2_with fail
  generalize hw1 : w.alloc (.cells #[.int .i64 (7), .int .i64 (d : Int), .int .i64 (a : Int), .int .i64 (b : Int), .int .i64 imm, .string ⟨loc.toArray⟩, .string ⟨label.toArray⟩, .int .i64 fence] 70 (0, 0)) = w1 at *
  clear hw1
  have hz1 : w.heap.size < w1.heap.size := HBI.out.lt
  have i2 : w1.cell? ⟨w.heap.size, 2, none⟩ = some (.int .i64 (a : Int)) := HBI.out.cell 2
  have d14 := cell_go k14 HB0.out
  have d0 := cell_go c0 HB0.out
  have d1 := cell_go c1 HB0.out
  have d2 := cell_go c2 HB0.out
  have d3 := cell_go c3 HB0.out
  have d4 := cell_go c4 HB0.out
  clear k14 c0 c1 c2 c3 c4
  refine wz (fun y : World => y.cell? ⟨w.heap.size, 2, none⟩ = some (.int .i64 (a : Int)) ∧ y.cell? ⟨g, 14, none⟩ = some (.slice (some ⟨q, 0, none⟩) r.regs.length r.regs.length) ∧ y.cell? ⟨q, a * 5, none⟩ = some (holdV (.adr s)) ∧ y.cell? ⟨q, a * 5 + 1, none⟩ = some (.int .u64 (ao : Int)) ∧ y.cell? ⟨q, a * 5 + 2, none⟩ = some (.int .u64 0) ∧ y.cell? ⟨q, a * 5 + 3, none⟩ = some (.int .u64 0) ∧ y.cell? ⟨q, a * 5 + 4, none⟩ = some (.int .u64 0)) [3, 5, 7, 8] ⟨i2, d14, d0, d1, d2, d3, d4⟩ (fun hHeld => ?_)
  refine wq 0 ?_
  refine wq 1 ?_
  refine wq 2 ?_
  refine wq 4 ?_
  refine wt 3 (by assumption) ?_
  refine wt 5 (by assumption) ?_
  refine wq 6 ?_
  refine wt 7 (by assumption) ?_
  refine wpE_one (i := 8) (by kernel_rfl) rfl (fun K hK => ?_)
  go_simp
  refine hK.out _ _ ⟨cell_al hHeld.1 _, cell_al hHeld.2.1 _, cell_al hHeld.2.2.1 _, cell_al hHeld.2.2.2.1 _, cell_al hHeld.2.2.2.2.1 _, cell_al hHeld.2.2.2.2.2.1 _, cell_al hHeld.2.2.2.2.2.2 _⟩ ?_
  clear hK K
  refine pu ?_
  refine wl 9 ?_
  have BZ := Lib.hid ((Blk.new w1 217 #[.nilIface, .int .u64 0, .int .u64 0, .int .u64 0, .int .u64 0]).drew)
  refine wpList_store_mid rfl _ _ _ rfl w1.heap.size 0 #[holdV (.adr s), .int .u64 (ao : Int), .int .u64 0, .int .u64 0, .int .u64 0] rfl rfl (there_blk BZ.out 5 (by simp)) (by kernel_rfl) (all_oneCell_toArray (cs := encR.enc ⟨.adr s, ao⟩) hone) ?_
  have BX := Lib.hid (Blk.sets5 BZ.out rfl (holdV (.adr s)) (.int .u64 (ao : Int)) (.int .u64 0) (.int .u64 0) (.int .u64 0))
  have HW3 := Lib.hid (below_sets ((alloc_b w1 (.cells #[.nilIface, .int .u64 0, .int .u64 0, .int .u64 0, .int .u64 0] 217 (0, 0))).drew) (show w1.heap.size ≤ w1.heap.size by omega) [holdV (.adr s), .int .u64 (ao : Int), .int .u64 0, .int .u64 0, .int .u64 0] 0)
  clear hHeld i2 BZ
  generalize hW3 : (World.setCells _ _ _ _ : World) = W3 at *
  clear hW3
  have HBI3 := Lib.hid (HBI.out.go HW3.out)
  have HW30 := Lib.hid (below_trans HB0.out HW3.out)
  have hz3 := HW3.out.size
  have a0 : W3.cell? ⟨w1.heap.size, 0, none⟩ = some (holdV (.adr s)) := BX.out.cell 0
  have q1 := HTA.out
  simp only [adrOf, isAdr] at q1
  have i0 : W3.cell? ⟨w.heap.size, 0, none⟩ = some (.int .i64 7) := HBI3.out.cell 0
  go_wp2_with fail
  have i3 : W3.cell? ⟨w.heap.size, 3, none⟩ = some (.int .i64 (b : Int)) := HBI3.out.cell 3
  have a1 : W3.cell? ⟨w1.heap.size, 1, none⟩ = some (.int .u64 (ao : Int)) := BX.out.cell 1
  have a2 : W3.cell? ⟨w1.heap.size, 2, none⟩ = some (.int .u64 0) := BX.out.cell 2
  have a3 : W3.cell? ⟨w1.heap.size, 3, none⟩ = some (.int .u64 0) := BX.out.cell 3
  have a4 : W3.cell? ⟨w1.heap.size, 4, none⟩ = some (.int .u64 0) := BX.out.cell 4
  have k14 := cell_go e14 HW30.out
  have c0 := cell_go b0 HW30.out
  have c1 := cell_go b1 HW30.out
  have c2 := cell_go b2 HW30.out
  have c3 := cell_go b3 HW30.out
  have c4 := cell_go b4 HW30.out
  clear e14 b0 b1 b2 b3 b4 d14 d0 d1 d2 d3 d4
  refine wz (fun y : World => (y.cell? ⟨w1.heap.size, 1, none⟩ = some (.int .u64 (ao : Int)) ∧ y.cell? ⟨w1.heap.size, 2, none⟩ = some (.int .u64 0) ∧ y.cell? ⟨w1.heap.size, 3, none⟩ = some (.int .u64 0) ∧ y.cell? ⟨w1.heap.size, 4, none⟩ = some (.int .u64 0)) ∧ y.cell? ⟨w.heap.size, 3, none⟩ = some (.int .i64 (b : Int)) ∧ y.cell? ⟨g, 14, none⟩ = some (.slice (some ⟨q, 0, none⟩) r.regs.length r.regs.length) ∧ y.cell? ⟨q, b * 5, none⟩ = some (holdV rb.h) ∧ y.cell? ⟨q, b * 5 + 1, none⟩ = some (.int .u64 (rb.on : Int)) ∧ y.cell? ⟨q, b * 5 + 2, none⟩ = some (.int .u64 0) ∧ y.cell? ⟨q, b * 5 + 3, none⟩ = some (.int .u64 0) ∧ y.cell? ⟨q, b * 5 + 4, none⟩ = some (.int .u64 0)) [4, 8, 10, 11, 12] ⟨⟨a1, a2, a3, a4⟩, i3, k14, c0, c1, c2, c3, c4⟩ (fun hHeld => ?_)
  refine wq 0 ?_
  refine wq 1 ?_
  refine wq 2 ?_
  refine wq 3 ?_
  refine wq 5 ?_
  refine wq 6 ?_
  refine wq 7 ?_
  refine wq 9 ?_
  refine wt 4 (by assumption) ?_
  refine wt 8 (by assumption) ?_
  refine wt 10 (by assumption) ?_
  refine wt 11 (by assumption) ?_
  refine wt 12 (by assumption) ?_
  refine wl 13 ?_
  clear hHeld i3 a1 a2 a3 a4 k14 c0 c1 c2 c3 c4 i0 a0
  have HR3 := Lib.hid (HR.out.below HW30.out.drew)
  have HB3 := Lib.hid (HB00.out.trans (HW30.out.drew.mono hbs))
  have HW3d := Lib.hid HW30.out.drew
  cases hw : writeL S.C r pl s ao rb with
  | none =>
    have HWX := Lib.hid (fun (w : World) (hb : Below w0.heap.size w0 w) (hR : RunAt w w0.heap.size g S r V) => by have := HWR.out w hb hR; rw [hw] at this; exact this)
    have HWE := Lib.hid hw
    clear hw HWR
    go_wp2_with (go_at_call 135; refine (HWX.out _ HB3.out HR3.out).mono ?_; rintro e w8 ⟨V8, rfl, hR8, hb8, hf8⟩; have HR8 := Lib.hid hR8; have HB8 := Lib.hid hb8; have HF8 := Lib.hid hf8; clear hR8 hb8 hf8)
    go_ret
    exact WritePost.no HWE.out ⟨_, rfl, HR8.out, (HW3d.out.mono hbs).trans HB8.out, (FrV.of_below HW3d.out).trans HF8.out⟩
  | some r2 =>
    have HWX := Lib.hid (fun (w : World) (hb : Below w0.heap.size w0 w) (hR : RunAt w w0.heap.size g S r V) => by have := HWR.out w hb hR; rw [hw] at this; exact this)
    have HWE := Lib.hid hw
    clear hw HWR
    go_wp2_with (go_at_call 135; refine (HWX.out _ HB3.out HR3.out).mono ?_; rintro e w8 ⟨V8, rfl, hR8, hb8, hf8⟩; have HR8 := Lib.hid hR8; have HB8 := Lib.hid hb8; have HF8 := Lib.hid hf8; clear hR8 hb8 hf8)
    go_ret
    exact WritePost.yes HWE.out ⟨_, rfl, HR8.out, (HW3d.out.mono hbs).trans HB8.out, (FrV.of_below HW3d.out).trans HF8.out⟩
end
end
section
theorem RunAt.ctrl {w : World} {B g : Nat} {S : RunS} {r : Rn} {V : RunV} (h : RunAt w B g S r V) (c : Nat) :
    RunAt ((((w.setCell ⟨g, 15, none⟩ (.int .u64 (c : Int))).setCell ⟨g, 16, none⟩ (.int .u64 0)).setCell ⟨g, 17, none⟩ (.int .u64 0)).setCell ⟨g, 18, none⟩ (.int .u64 0)) B g S { r with ctrl := c } V := by
  have b1 := h.blk.set_ 15 (.int .u64 (c : Int))
  have b2 := b1.set_ 16 (.int .u64 0)
  have b3 := b2.set_ 17 (.int .u64 0)
  have b4 := b3.set_ 18 (.int .u64 0)
  have ho : ∀ {t : TypeId} {z n : Nat} {v : Value} {cs : List Value}, w.ownsRow B t z v n cs → t ≠ 143 → ((((w.setCell ⟨g, 15, none⟩ (.int .u64 (c : Int))).setCell ⟨g, 16, none⟩ (.int .u64 0)).setCell ⟨g, 17, none⟩ (.int .u64 0)).setCell ⟨g, 18, none⟩ (.int .u64 0)).ownsRow B t z v n cs :=
    fun h1 hne => own_setO (own_setO (own_setO (own_setO h1 h.blk hne _ _) b1 hne _ _) b2 hne _ _) b3 hne _ _
  obtain ⟨q, hv, hq, hB⟩ := h.regs
  have hqg : q ≠ g := blk_ne hq h.blk (by decide)
  exact ⟨b4, h.hg, ⟨q, hv, (((hq.far hqg _).far hqg _).far hqg _).far hqg _, hB⟩, ho h.evs (by decide), ho h.bars (by decide), ho h.addr (by decide), ho h.data (by decide), ho h.hang (by decide), h.a1, h.a2, h.a3⟩
section
set_option maxHeartbeats 4000000
set_option maxRecDepth 100000
theorem open_n (v : Value) (w : World) : Calls Tryz.prog 390 #[v] w fun e w' => e = .returned (.bool false) ∧ Below w.heap.size w w' := by
  go_enter Tryz.func390, Tryz.ntmps390
  go_wp2_with fail
  go_ret
  exact ⟨rfl, by first | exact Below.refl _ _ | exact alloc_b _ _⟩
theorem open_a (v : Value) (w : World) : Calls Tryz.prog 391 #[v] w fun e w' => e = .returned (.bool false) ∧ Below w.heap.size w w' := by
  go_enter Tryz.func391, Tryz.ntmps391
  go_wp2_with fail
  go_ret
  exact ⟨rfl, by first | exact Below.refl _ _ | exact alloc_b _ _⟩
theorem open_t (v : Value) (w : World) : Calls Tryz.prog 392 #[v] w fun e w' => e = .returned (.bool true) ∧ Below w.heap.size w w' := by
  go_enter Tryz.func392, Tryz.ntmps392
  go_wp2_with fail
  go_ret
  exact ⟨rfl, by first | exact Below.refl _ _ | exact alloc_b _ _⟩
theorem open_h (w : World) : Calls Tryz.prog 393 #[.agg #[]] w fun e w' => e = .returned (.bool true) ∧ Below w.heap.size w w' := by
  go_enter Tryz.func393, Tryz.ntmps393
  go_wp2_with fail
  go_ret
  exact ⟨rfl, by first | exact Below.refl _ _ | exact alloc_b _ _⟩
theorem open_lets : ∀ h : Hold, ∃ (t : TypeId) (v : Value) (f : FuncId) (a : Value), holdV h = .iface t v ∧ (∀ (n : Nat) (w : World), (method (n + 1) t v "alembic/trace.open").run Tryz.prog w = .ok (f, a) w) ∧ (∀ w, (callFunc f #[a]).run Tryz.prog w = .ok (.enter f #[a]) w) ∧ ∀ w, Calls Tryz.prog f #[a] w fun e w' => e = .returned (.bool (openL h)) ∧ Below w.heap.size w w'
  | .num n => ⟨_, _, 390, .int .i64 n, rfl, fun _ _ => by kernel_rfl, fun w => enters_of Tryz.func390 (by kernel_rfl) rfl _ w, fun w => open_n _ w⟩
  | .adr s => ⟨_, _, 391, .string ⟨s.toArray⟩, rfl, fun _ _ => by kernel_rfl, fun w => enters_of Tryz.func391 (by kernel_rfl) rfl _ w, fun w => open_a _ w⟩
  | .rd i => ⟨_, _, 392, .int .i64 (i : Int), rfl, fun _ _ => by kernel_rfl, fun w => enters_of Tryz.func392 (by kernel_rfl) rfl _ w, fun w => open_t _ w⟩
  | .non => ⟨_, _, 393, .agg #[], rfl, fun _ _ => by kernel_rfl, fun w => enters_of Tryz.func393 (by kernel_rfl) rfl _ w, fun w => open_h w⟩
end
end
end Go.Proofs.YtjhafgnmahhacaaGreatDoor
