/- Layer 15: the runner's branch: the program's. -/
import Derived.Test.YtjhafgnmahhacaaGreatDoorTe25

namespace Go.Proofs.YtjhafgnmahhacaaGreatDoor
open Go.RowKit
section
theorem labQ_at {c : List Ins} {k : Nat} {x : Ins} (h : labQ c k x < c.length) : k + 1 ≤ labQ c k x ∧ (∃ y, c[labQ c k x]? = some y ∧ labB x.label y = true) ∧ ∀ j z, k + 1 ≤ j → j < labQ c k x → c[j]? = some z → labB x.label z = false := by
  unfold labQ at *
  have hf : (c.drop (k + 1)).findIdx (labB x.label) < (c.drop (k + 1)).length := by rw [List.length_drop]; omega
  refine ⟨by omega, ⟨_, List.getElem?_eq_getElem h, ?_⟩, fun j z hj hlt hz => ?_⟩
  · have := List.findIdx_getElem (w := hf)
    rwa [List.getElem_drop] at this
  · have h2 := List.not_of_lt_findIdx (p := labB x.label) (xs := c.drop (k + 1)) (i := j - (k + 1)) (by omega)
    obtain ⟨h3, rfl⟩ := List.getElem?_eq_some_iff.1 hz
    have h4 : (c.drop (k + 1))[j - (k + 1)]'(by rw [List.length_drop]; omega) = c[j] := by
      rw [List.getElem_drop]
      congr 1; omega
    rw [h4] at h2
    simpa using h2
theorem InsAt.cells {w : World} {A : Option Addr} {c : List Ins} (h : InsAt w A c) {i : Nat} {x : Ins} (hx : c[i]? = some x) : ∃ b o, A = some ⟨b, o, none⟩ ∧ w.cell? ⟨b, o + i * 8, none⟩ = some (.int .i64 x.op) ∧ w.cell? ⟨b, o + i * 8 + 1, none⟩ = some (.int .i64 x.d) ∧ w.cell? ⟨b, o + i * 8 + 2, none⟩ = some (.int .i64 x.a) ∧ w.cell? ⟨b, o + i * 8 + 3, none⟩ = some (.int .i64 x.b) ∧
    w.cell? ⟨b, o + i * 8 + 4, none⟩ = some (.int .i64 x.imm) ∧ w.cell? ⟨b, o + i * 8 + 5, none⟩ = some (.string ⟨x.loc.toArray⟩) ∧ w.cell? ⟨b, o + i * 8 + 6, none⟩ = some (.string ⟨x.label.toArray⟩) ∧ w.cell? ⟨b, o + i * 8 + 7, none⟩ = some (.int .i64 x.fence) := by
  obtain ⟨b, o, e, h0, h1, h2, h3, h4, h5, h6, h7, _⟩ := h i x hx
  exact ⟨b, o, e, h0, h1, h2, h3, h4, h5, h6, h7⟩
/-- Behind a branch: where it leads, or that is not known. -/
def BrPost (B g : Nat) (S : RunS) (V : RunV) (_r : Rn) (o : Option (Rn × Nat)) (w : World) (e : Ending) (w' : World) : Prop := match o with
  | some p => RunPost B g S V p.1 (.tuple #[.int .i64 (p.2 : Int), .bool true]) w e w'
  | none => ∃ r', RunPost B g S V r' (.tuple #[.int .i64 0, .bool false]) w e w'
theorem BrPost.yes {B g : Nat} {S : RunS} {V : RunV} {r r1 : Rn} {n : Nat} {o : Option (Rn × Nat)} {w w' : World} {e : Ending} (h : o = some (r1, n)) (p : RunPost B g S V r1 (.tuple #[.int .i64 (n : Int), .bool true]) w e w') : BrPost B g S V r o w e w' := by subst h; exact p
theorem BrPost.no {B g : Nat} {S : RunS} {V : RunV} {r r1 : Rn} {o : Option (Rn × Nat)} {w w' : World} {e : Ending} (h : o = none) (p : RunPost B g S V r1 (.tuple #[.int .i64 0, .bool false]) w e w') : BrPost B g S V r o w e w' := by subst h; exact ⟨r1, p⟩
theorem rgA_at {r : Rn} {a : Nat} {x : Rg} (h : r.regs[a]? = some x) : rgA r (a : Int) = x := by
  unfold rgA
  rw [Int.toNat_natCast, h]; rfl
theorem brL_closed {r : Rn} {c : List Ins} {k : Nat} {x : Ins} {ra rb : Rg} (ha : rgA r x.a = ra) (hb : rgA r x.b = rb) (ho : (openL ra.h || openL rb.h) = false) : brL r c k x = some ({ r with ctrl := r.ctrl ||| ra.on ||| rb.on }, if unlikeL ra.h rb.h then labQ c k x else k + 1) := by
  unfold brL
  simp only []
  rw [ha, hb, ho]
  rfl
theorem brL_open {r : Rn} {c : List Ins} {k : Nat} {x : Ins} {ra rb : Rg} (ha : rgA r x.a = ra) (hb : rgA r x.b = rb) (ho : (openL ra.h || openL rb.h) = true) : brL r c k x = if ((c.take (labQ c k x)).drop (k + 1)).any (fun y => decide (y.op ≠ 12)) then none else some ({ r with ctrl := r.ctrl ||| ra.on ||| rb.on }, k + 1) := by
  unfold brL
  simp only []
  rw [ha, hb, ho]
  rfl
section
set_option maxHeartbeats 4000000
set_option maxRecDepth 100000
variable {w0 w : World} {g nr k : Nat} {S : RunS} {r : Rn} {V : RunV}
theorem branchP (c : List Ins) (Ac : Option Addr) (cc : Nat) (at_ : Nat) (op imm fence : Int) (d a b : Nat) (loc label : List UInt8) (ra rb : Rg) (hb : Below w0.heap.size w0 w) (hI : Inv S.C nr k r) (hR : RunAt w w0.heap.size g S r V) (hc : InsAt w0 Ac c) (hcl : c.length ≤ 256) (hcc : c.length ≤ cc) (hx : c[at_]? = some ⟨op, d, a, b, imm, loc, label, fence⟩)
    (hlab : labQ c at_ ⟨op, d, a, b, imm, loc, label, fence⟩ < c.length) (ha : r.regs[a]? = some ra) (hb2 : r.regs[b]? = some rb) (hra : RgOK S.C r.evs ra) (hrb : RgOK S.C r.evs rb) :
    Calls Tryz.prog 140 #[.pointer (some ⟨g, 0, none⟩), .slice Ac c.length cc, .int .i64 (at_ : Int)] w (BrPost w0.heap.size g S V r (brL r c at_ ⟨op, d, a, b, imm, loc, label, fence⟩) w) := by
  have HR := Lib.hid hR
  have hbs := hb.size
  have room := hI.room
  have HB00 := Lib.hid hb
  obtain ⟨L, hL⟩ : ∃ L, labQ c at_ ⟨op, d, a, b, imm, loc, label, fence⟩ = L := ⟨_, rfl⟩
  obtain ⟨h1, ⟨y, hy, hyl⟩, hno⟩ := labQ_at hlab
  rw [hL] at h1 hy hno hlab
  have HL := Lib.hid hL
  have HNO := Lib.hid hno
  have HCW := Lib.hid (hc.below hb)
  have HX := Lib.hid hx
  have hat := (List.getElem?_eq_some_iff.1 hx).1
  obtain ⟨bb, o, rfl, c0, c1, c2, c3, c4, c5, c6, c7⟩ := HCW.out.cells hx
  simp only at c0 c1 c2 c3 c4 c5 c6 c7
  have hbw : bb < w.heap.size := World.block_lt_of_cell? w _ c0
  have hi1 : (0 : Int) ≤ (at_ : Int) := by omega
  have hi2 : (at_ : Int) < (c.length : Int) := by omega
  have HBI := Lib.hid (Blk.new w 70 #[.int .i64 op, .int .i64 (d : Int), .int .i64 (a : Int), .int .i64 (b : Int), .int .i64 imm, .string ⟨loc.toArray⟩, .string ⟨label.toArray⟩, .int .i64 fence])
  have HB0 := Lib.hid (alloc_b w (.cells #[.int .i64 op, .int .i64 (d : Int), .int .i64 (a : Int), .int .i64 (b : Int), .int .i64 imm, .string ⟨loc.toArray⟩, .string ⟨label.toArray⟩, .int .i64 fence] 70 (0, 0)))
  obtain ⟨q, hvr, hqb, hqB⟩ := hR.regs
  have hal := (List.getElem?_eq_some_iff.1 ha).1
  have hbl := (List.getElem?_eq_some_iff.1 hb2).1
  have hi5 : (0 : Int) ≤ (a : Int) := by omega
  have hi6 : (a : Int) < (r.regs.length : Int) := by omega
  have hi7 : (0 : Int) ≤ (b : Int) := by omega
  have hi8 : (b : Int) < (r.regs.length : Int) := by omega
  have HQ := Lib.hid hqb
  have HA := Lib.hid ha
  have HC0 := Lib.hid hc
  have HGA := Lib.hid (show rgA r (a : Int) = ra from rgA_at ha)
  have HGB := Lib.hid (show rgA r (b : Int) = rb from rgA_at hb2)
  have hun := fun w => unlikeP w ra.h rb.h
  have HB2 := Lib.hid hb2
  have hgw : g < w.heap.size := hR.blk.lt
  have hgB := hR.hg
  have hco := hI.ctrl.lt64 (show r.evs.length ≤ 64 by omega)
  have hao := hra.2.lt64 (show r.evs.length ≤ 64 by omega)
  have hbo := hrb.2.lt64 (show r.evs.length ≤ 64 by omega)
  have HO1 := Lib.hid (fun w => orP r.ctrl ra.on w hco hao)
  have HO2 := Lib.hid (fun w => orP (r.ctrl ||| ra.on) rb.on w (Nat.or_lt_two_pow (n := 64) hco hao) hbo)
  obtain ⟨ta, va, fa, aa, hva, hma, hca, HCA⟩ := open_lets ra.h
  obtain ⟨tb, vb, fb, ab, hvb, hmb, hcb, HCB⟩ := open_lets rb.h
  simp only [hva, hvb] at hun
  have HUN := Lib.hid hun
  clear hun
  have HVA := Lib.hid hva
  have HVB := Lib.hid hvb
  have hma := hma 487
  have hmb := hmb 487
  have HQA := Lib.hid HCA
  have HQB := Lib.hid HCB
  clear hva hvb HCA HCB
  clear hR hI hb hc hx hL hno hqb ha hb2 hco hao hbo
  go_enter Tryz.func140, Tryz.ntmps140
  go_wp2_with fail
  generalize hw1 : w.alloc (.cells #[.int .i64 op, .int .i64 (d : Int), .int .i64 (a : Int), .int .i64 (b : Int), .int .i64 imm, .string ⟨loc.toArray⟩, .string ⟨label.toArray⟩, .int .i64 fence] 70 (0, 0)) = w1 at *
  clear hw1
  have hz1 : w.heap.size < w1.heap.size := HBI.out.lt
  have HC1 := Lib.hid (HCW.out.below HB0.out)
  clear c0 c1 c2 c3 c4 c5 c6 c7
  go_loopw [9] (fun v wr => ∃ j : Nat, at_ + 1 ≤ j ∧ j ≤ L ∧ v = .int .i64 j ∧ Below w1.heap.size w1 wr) (fun v _ => L - (intOf v).toNat)
  case atStart => exact ⟨at_ + 1, Nat.le_refl _, h1, rfl, Below.refl _ _⟩
  case round =>
    obtain ⟨j, hj1, hj2, rfl, hbr⟩ := hrel
    have HBR := Lib.hid hbr
    have hzr := hbr.size
    have HCR := Lib.hid (HC1.out.below hbr)
    have HBIR := Lib.hid (HBI.out.go hbr)
    have l6 : wr.cell? ⟨w.heap.size, 6, none⟩ = some (.string ⟨label.toArray⟩) := HBIR.out.cell 6
    clear hbr
    have hjc : j < c.length := by omega
    have hi3 : (0 : Int) ≤ (j : Int) := by omega
    have hi4 : (j : Int) < (c.length : Int) := by omega
    by_cases hjl : j < L
    · obtain ⟨z, hz⟩ : ∃ z, c[j]? = some z := ⟨_, List.getElem?_eq_getElem hjc⟩
      have hzl := HNO.out j z hj1 hjl hz
      obtain ⟨b', o', e, c0, c1, c2, c3, c4, c5, c6, c7⟩ := HCR.out.cells hz
      simp only [Option.some.injEq, Addr.mk.injEq, and_true] at e
      obtain ⟨rfl, rfl⟩ := e
      have HZ := Lib.hid hzl
      have d0 := cell_dr c0
      have d6 := cell_dr c6
      have l6d := cell_dr l6
      clear hz hzl c0 c1 c2 c3 c4 c5 c6 c7
      by_cases h12 : z.op = 12
      · have e3 : (z.label == label) = false := by have := HZ.out; unfold labB at this; rw [h12] at this; simpa using this
        have e4 : (label == z.label) = false := by rw [beqL_comm]; exact e3
        go_wp2_with fail
        refine still_all (by kernel_rfl) (by kernel_rfl) ?_
        repeat still_step
        refine wpStill_nil ?_
        go_wp2_with fail
        go_roundw
        case rel => exact ⟨j + 1, by omega, by omega, by go_num, HBR.out.drew⟩
        case measure => simp [intOf]; omega
      · go_wp2_with fail
        refine still_all (by kernel_rfl) (by kernel_rfl) ?_
        repeat still_step
        refine wpStill_nil ?_
        go_wp2_with fail
        go_roundw
        case rel => exact ⟨j + 1, by omega, by omega, by go_num, HBR.out.drew⟩
        case measure => simp [intOf]; omega
    · have hje : j = L := by omega
      subst hje
      obtain ⟨b', o', e, c0, c1, c2, c3, c4, c5, c6, c7⟩ := HCR.out.cells hy
      simp only [Option.some.injEq, Addr.mk.injEq, and_true] at e
      obtain ⟨rfl, rfl⟩ := e
      have d0 := cell_dr c0
      have d6 := cell_dr c6
      have l6d := cell_dr l6
      have h12 : y.op = 12 := by unfold labB at hyl; simp at hyl; exact hyl.1
      have hyl2 : y.label = label := by unfold labB at hyl; simp at hyl; exact hyl.2
      rw [hyl2] at d6
      clear c0 c1 c2 c3 c4 c5 c6 c7 hyl hyl2 hy
      go_wp2_with fail
      refine still_all (by kernel_rfl) (by kernel_rfl) ?_
      repeat still_step
      refine wpStill_nil ?_
      go_wp2_with fail
      have HBU : Hid (Below w.heap.size w wr.drew) := Lib.hid (below_trans HB0.out HBR.out.drew)
      have HBIU := Lib.hid HBIR.out.drew
      clear HBR HBIR HCR HC1 HB0 HBI l6 l6d d0 d6 HNO hzr
      generalize hwu : wr.drew = wu at *
      clear hwu
      have hzu : w.heap.size < wu.heap.size := HBIU.out.lt
      have i2 : wu.cell? ⟨w.heap.size, 2, none⟩ = some (.int .i64 (a : Int)) := HBIU.out.cell 2
      have i3 : wu.cell? ⟨w.heap.size, 3, none⟩ = some (.int .i64 (b : Int)) := HBIU.out.cell 3
      have HRU := Lib.hid (HR.out.below HBU.out)
      have d14 : wu.cell? ⟨g, 14, none⟩ = some (.slice (some ⟨q, 0, none⟩) r.regs.length r.regs.length) := by rw [← hvr]; exact HRU.out.blk.cell 14
      obtain ⟨c0, c1, c2, c3, c4⟩ := regs_cell (HQ.out.go HBU.out) HA.out
      obtain ⟨e0, e1, e2, e3, e4⟩ := regs_cell (HQ.out.go HBU.out) HB2.out
      have HSS := Lib.hid (show ∀ y, Below wu.heap.size wu y → (fun y : World => (y.cell? ⟨w.heap.size, 2, none⟩ = some (.int .i64 (a : Int)) ∧ y.cell? ⟨w.heap.size, 3, none⟩ = some (.int .i64 (b : Int))) ∧ y.cell? ⟨g, 14, none⟩ = some (.slice (some ⟨q, 0, none⟩) r.regs.length r.regs.length) ∧ (y.cell? ⟨q, a * 5, none⟩ = some (holdV ra.h) ∧ y.cell? ⟨q, a * 5 + 1, none⟩ = some (.int .u64 (ra.on : Int)) ∧ y.cell? ⟨q, a * 5 + 2, none⟩ = some (.int .u64 0) ∧ y.cell? ⟨q, a * 5 + 3, none⟩ = some (.int .u64 0) ∧ y.cell? ⟨q, a * 5 + 4, none⟩ = some (.int .u64 0)) ∧ y.cell? ⟨q, b * 5, none⟩ = some (holdV rb.h) ∧ y.cell? ⟨q, b * 5 + 1, none⟩ = some (.int .u64 (rb.on : Int)) ∧ y.cell? ⟨q, b * 5 + 2, none⟩ = some (.int .u64 0) ∧ y.cell? ⟨q, b * 5 + 3, none⟩ = some (.int .u64 0) ∧ y.cell? ⟨q, b * 5 + 4, none⟩ = some (.int .u64 0)) y from fun y hb => ⟨⟨cell_go i2 hb, cell_go i3 hb⟩, cell_go d14 hb, ⟨cell_go c0 hb, cell_go c1 hb, cell_go c2 hb, cell_go c3 hb, cell_go c4 hb⟩, cell_go e0 hb, cell_go e1 hb, cell_go e2 hb, cell_go e3 hb, cell_go e4 hb⟩)
      clear i2 i3 d14 c0 c1 c2 c3 c4 e0 e1 e2 e3 e4
      refine wz (fun y : World => (y.cell? ⟨w.heap.size, 2, none⟩ = some (.int .i64 (a : Int)) ∧ y.cell? ⟨w.heap.size, 3, none⟩ = some (.int .i64 (b : Int))) ∧ y.cell? ⟨g, 14, none⟩ = some (.slice (some ⟨q, 0, none⟩) r.regs.length r.regs.length) ∧ (y.cell? ⟨q, a * 5, none⟩ = some (holdV ra.h) ∧ y.cell? ⟨q, a * 5 + 1, none⟩ = some (.int .u64 (ra.on : Int)) ∧ y.cell? ⟨q, a * 5 + 2, none⟩ = some (.int .u64 0) ∧ y.cell? ⟨q, a * 5 + 3, none⟩ = some (.int .u64 0) ∧ y.cell? ⟨q, a * 5 + 4, none⟩ = some (.int .u64 0)) ∧ y.cell? ⟨q, b * 5, none⟩ = some (holdV rb.h) ∧ y.cell? ⟨q, b * 5 + 1, none⟩ = some (.int .u64 (rb.on : Int)) ∧ y.cell? ⟨q, b * 5 + 2, none⟩ = some (.int .u64 0) ∧ y.cell? ⟨q, b * 5 + 3, none⟩ = some (.int .u64 0) ∧ y.cell? ⟨q, b * 5 + 4, none⟩ = some (.int .u64 0)) [3, 5, 7, 11, 13, 14, 15, 16, 17, 18] (HSS.out _ (Below.refl _ _).drew) (fun hHeld => ?_)
      refine wq 0 ?_
      refine wq 1 ?_
      refine wq 2 ?_
      refine wq 4 ?_
      refine wq 8 ?_
      refine wq 9 ?_
      refine wq 10 ?_
      refine wq 12 ?_
      refine wt 3 (by assumption) ?_
      refine wt 5 (by assumption) ?_
      refine wq 6 ?_
      refine wt 7 (by assumption) ?_
      refine wt 11 (by assumption) ?_
      refine wt 13 (by assumption) ?_
      refine wt 14 (by assumption) ?_
      refine wt 15 (by assumption) ?_
      clear hHeld
      refine wpE_two (i := 16) (j := 17) (by kernel_rfl) rfl rfl (fun K hK => ?_) (fun K hK => ?_)
      · go_simp
        refine hK.out _ _ (HSS.out _ (by repeat (first | exact Below.refl _ _ | exact Below.refl _ _ | with_reducible refine Below.drew ?_ | with_reducible refine below_alloc ?_ _ | with_reducible refine below_sets ?_ (by omega) _ _))) ?_
        clear hK K
        refine pu ?_
        refine wpE_one (i := 17) (by kernel_rfl) rfl (fun K hK => ?_)
        go_simp
        refine hK.out _ _ (HSS.out _ (by repeat (first | exact Below.refl _ _ | exact Below.refl _ _ | with_reducible refine Below.drew ?_ | with_reducible refine below_alloc ?_ _ | with_reducible refine below_sets ?_ (by omega) _ _))) ?_
        clear hK K
        refine pu ?_
        generalize hW2 : (World.drew (World.alloc _ _)) = W2
        have BZ4 : Hid (Blk W2 (wu.heap.size) 217 #[.nilIface, .int .u64 0, .int .u64 0, .int .u64 0, .int .u64 0]) := by rw [← hW2]; exact Lib.hid ((Blk.new wu _ _).alloc _).drew
        have BZ5 : Hid (Blk W2 (wu.heap.size + 1) 217 #[.nilIface, .int .u64 0, .int .u64 0, .int .u64 0, .int .u64 0]) := by rw [← hW2]; exact Lib.hid (blk_new2 wu _ _ _).drew
        have HW2 : Hid (Below wu.heap.size wu W2) := by rw [← hW2]; exact Lib.hid ((by repeat (first | exact Below.refl _ _ | exact Below.refl _ _ | with_reducible refine Below.drew ?_ | with_reducible refine below_alloc ?_ _ | with_reducible refine below_sets ?_ (by omega) _ _)))
        clear hW2
        refine wpE_one (i := 18) (by kernel_rfl) rfl (fun K hK => ?_)
        rw [if_pos (by kernel_rfl)]
        refine wp_store_mid _ _ _ rfl ((wu.heap.size)) 0 #[holdV ra.h, .int .u64 (ra.on : Int), .int .u64 0, .int .u64 0, .int .u64 0] rfl rfl (there_blk BZ4.out 5 (by simp)) (by kernel_rfl) (all_oneCell_toArray (cs := encR.enc ra) (encR.one ra)) ?_
        refine hK.out _ _ (HSS.out _ (below_sets HW2.out (by omega) _ _)) ?_
        clear hK K
        refine pu ?_
        refine wl 19 ?_
        refine wpList_store_mid rfl _ _ _ rfl ((wu.heap.size + 1)) 0 #[holdV rb.h, .int .u64 (rb.on : Int), .int .u64 0, .int .u64 0, .int .u64 0] rfl rfl (there_blk (blk_farS BZ5.out (by omega) _ _) 5 (by simp)) (by kernel_rfl) (all_oneCell_toArray (cs := encR.enc rb) (encR.one rb)) ?_
        have BX4 := Lib.hid (blk_farS (Blk.sets5 BZ4.out rfl (holdV ra.h) (.int .u64 (ra.on : Int)) (.int .u64 0) (.int .u64 0) (.int .u64 0)) (show (wu.heap.size) ≠ (wu.heap.size + 1) by omega) [holdV rb.h, .int .u64 (rb.on : Int), .int .u64 0, .int .u64 0, .int .u64 0] 0)
        have BX5 := Lib.hid (Blk.sets5 (blk_farS BZ5.out (show (wu.heap.size + 1) ≠ (wu.heap.size) by omega) [holdV ra.h, .int .u64 (ra.on : Int), .int .u64 0, .int .u64 0, .int .u64 0] 0) rfl (holdV rb.h) (.int .u64 (rb.on : Int)) (.int .u64 0) (.int .u64 0) (.int .u64 0))
        have HW3 := Lib.hid (below_sets (below_sets HW2.out (show wu.heap.size ≤ (wu.heap.size) by omega) [holdV ra.h, .int .u64 (ra.on : Int), .int .u64 0, .int .u64 0, .int .u64 0] 0) (show wu.heap.size ≤ (wu.heap.size + 1) by omega) [holdV rb.h, .int .u64 (rb.on : Int), .int .u64 0, .int .u64 0, .int .u64 0] 0)
        generalize hW3 : (World.setCells (World.setCells W2 _ _ _) _ _ _) = W3 at *
        clear hW3 BZ4 BZ5 HW2 HSS
        have HBI3 := Lib.hid (HBIU.out.go HW3.out)
        have HW30 := Lib.hid (below_trans HBU.out HW3.out)
        have hz3 := HW3.out.size
        have HR3 := Lib.hid (HR.out.below HW30.out)
        have HC3 := Lib.hid (HCW.out.below HW30.out)
        have a0 : W3.cell? ⟨(wu.heap.size), 0, none⟩ = some (holdV ra.h) := BX4.out.cell 0
        have a1 : W3.cell? ⟨(wu.heap.size), 1, none⟩ = some (.int .u64 (ra.on : Int)) := BX4.out.cell 1
        have a2 : W3.cell? ⟨(wu.heap.size), 2, none⟩ = some (.int .u64 0) := BX4.out.cell 2
        have a3 : W3.cell? ⟨(wu.heap.size), 3, none⟩ = some (.int .u64 0) := BX4.out.cell 3
        have a4 : W3.cell? ⟨(wu.heap.size), 4, none⟩ = some (.int .u64 0) := BX4.out.cell 4
        have b0 : W3.cell? ⟨(wu.heap.size + 1), 0, none⟩ = some (holdV rb.h) := BX5.out.cell 0
        have b1 : W3.cell? ⟨(wu.heap.size + 1), 1, none⟩ = some (.int .u64 (rb.on : Int)) := BX5.out.cell 1
        have b2 : W3.cell? ⟨(wu.heap.size + 1), 2, none⟩ = some (.int .u64 0) := BX5.out.cell 2
        have b3 : W3.cell? ⟨(wu.heap.size + 1), 3, none⟩ = some (.int .u64 0) := BX5.out.cell 3
        have b4 : W3.cell? ⟨(wu.heap.size + 1), 4, none⟩ = some (.int .u64 0) := BX5.out.cell 4
        have k15 : W3.cell? ⟨g, 15, none⟩ = some (.int .u64 (r.ctrl : Int)) := HR3.out.blk.cell 15
        have k16 : W3.cell? ⟨g, 16, none⟩ = some (.int .u64 0) := HR3.out.blk.cell 16
        have k17 : W3.cell? ⟨g, 17, none⟩ = some (.int .u64 0) := HR3.out.blk.cell 17
        have k18 : W3.cell? ⟨g, 18, none⟩ = some (.int .u64 0) := HR3.out.blk.cell 18
        go_wp2_with fail
        have HSS := Lib.hid (show ∀ y, Below W3.heap.size W3 y → (fun y : World => (y.cell? ⟨g, 15, none⟩ = some (.int .u64 (r.ctrl : Int)) ∧ y.cell? ⟨g, 16, none⟩ = some (.int .u64 0) ∧ y.cell? ⟨g, 17, none⟩ = some (.int .u64 0) ∧ y.cell? ⟨g, 18, none⟩ = some (.int .u64 0)) ∧ (y.cell? ⟨(wu.heap.size), 1, none⟩ = some (.int .u64 (ra.on : Int)) ∧ y.cell? ⟨(wu.heap.size), 2, none⟩ = some (.int .u64 0) ∧ y.cell? ⟨(wu.heap.size), 3, none⟩ = some (.int .u64 0) ∧ y.cell? ⟨(wu.heap.size), 4, none⟩ = some (.int .u64 0)) ∧ y.cell? ⟨(wu.heap.size + 1), 1, none⟩ = some (.int .u64 (rb.on : Int)) ∧ y.cell? ⟨(wu.heap.size + 1), 2, none⟩ = some (.int .u64 0) ∧ y.cell? ⟨(wu.heap.size + 1), 3, none⟩ = some (.int .u64 0) ∧ y.cell? ⟨(wu.heap.size + 1), 4, none⟩ = some (.int .u64 0)) y from fun y hb => ⟨⟨cell_go k15 hb, cell_go k16 hb, cell_go k17 hb, cell_go k18 hb⟩, ⟨cell_go a1 hb, cell_go a2 hb, cell_go a3 hb, cell_go a4 hb⟩, cell_go b1 hb, cell_go b2 hb, cell_go b3 hb, cell_go b4 hb⟩)
        refine wz (fun y : World => (y.cell? ⟨g, 15, none⟩ = some (.int .u64 (r.ctrl : Int)) ∧ y.cell? ⟨g, 16, none⟩ = some (.int .u64 0) ∧ y.cell? ⟨g, 17, none⟩ = some (.int .u64 0) ∧ y.cell? ⟨g, 18, none⟩ = some (.int .u64 0)) ∧ (y.cell? ⟨(wu.heap.size), 1, none⟩ = some (.int .u64 (ra.on : Int)) ∧ y.cell? ⟨(wu.heap.size), 2, none⟩ = some (.int .u64 0) ∧ y.cell? ⟨(wu.heap.size), 3, none⟩ = some (.int .u64 0) ∧ y.cell? ⟨(wu.heap.size), 4, none⟩ = some (.int .u64 0)) ∧ y.cell? ⟨(wu.heap.size + 1), 1, none⟩ = some (.int .u64 (rb.on : Int)) ∧ y.cell? ⟨(wu.heap.size + 1), 2, none⟩ = some (.int .u64 0) ∧ y.cell? ⟨(wu.heap.size + 1), 3, none⟩ = some (.int .u64 0) ∧ y.cell? ⟨(wu.heap.size + 1), 4, none⟩ = some (.int .u64 0)) [4, 6, 7, 9] (HSS.out _ (Below.refl _ _).drew) (fun hHeld => ?_)
        refine wq 0 ?_
        refine wq 1 ?_
        refine wq 2 ?_
        refine wq 3 ?_
        refine wq 5 ?_
        refine wq 8 ?_
        refine wt 4 (by assumption) ?_
        refine wt 6 (by assumption) ?_
        refine wt 9 (by assumption) ?_
        clear hHeld k15 k16 k17 k18 a1 a2 a3 a4 b1 b2 b3 b4
        refine wpE_one (i := 7) (by kernel_rfl) rfl (fun K hK => ?_)
        go_simp
        go_at_call 210
        refine (HO1.out _).mono ?_
        rintro e w5 ⟨rfl, hb5⟩
        have HB5 := Lib.hid (show Below W3.heap.size W3 w5 from below_of_drew hb5)
        clear hb5
        refine hK.out _ _ (HSS.out _ HB5.out) ?_
        clear hK K
        refine pu ?_
        refine wl 10 ?_
        rw [HVA.out] at a0
        rw [HVB.out] at b0
        have HW50 := Lib.hid (below_trans HW30.out HB5.out)
        clear HSS
        go_wp2_with (go_at_call 210; refine (HO2.out _).mono ?_; rintro e w6 ⟨rfl, hb6⟩; have HB6 := Lib.hid (below_trans HB5.out hb6); have HR6 := Lib.hid (HR3.out.below HB6.out); have a0 := cell_go a0 HB6.out; have b0 := cell_go b0 HB6.out; have k15 : w6.cell? ⟨g, 15, none⟩ = some (.int .u64 (r.ctrl : Int)) := HR6.out.blk.cell 15; have k16 : w6.cell? ⟨g, 16, none⟩ = some (.int .u64 0) := HR6.out.blk.cell 16; have k17 : w6.cell? ⟨g, 17, none⟩ = some (.int .u64 0) := HR6.out.blk.cell 17; have k18 : w6.cell? ⟨g, 18, none⟩ = some (.int .u64 0) := HR6.out.blk.cell 18; have f15 := HR6.out.blk.frozen 15; have f16 := HR6.out.blk.frozen 16; have f17 := HR6.out.blk.frozen 17; have f18 := HR6.out.blk.frozen 18; clear hb6)
        have hgp5 : g ≠ (wu.heap.size + 1) := by omega
        have HRC := Lib.hid (HR6.out.ctrl (r.ctrl ||| ra.on ||| rb.on))
        have HW60 := Lib.hid (below_trans HW30.out HB6.out)
        have HB0C := Lib.hid (((((HW60.out.mono hbs).setCell (p := ⟨g, 15, none⟩) hgB (.int .u64 ((r.ctrl ||| ra.on ||| rb.on : Nat) : Int))).setCell (p := ⟨g, 16, none⟩) hgB (.int .u64 0)).setCell (p := ⟨g, 17, none⟩) hgB (.int .u64 0)).setCell (p := ⟨g, 18, none⟩) hgB (.int .u64 0))
        have HFC := Lib.hid (((((FrV.of_below (g := g) (V := V) HW60.out).trans (FrV.set _ g V 15 (.int .u64 ((r.ctrl ||| ra.on ||| rb.on : Nat) : Int)))).trans (FrV.set _ g V 16 (.int .u64 0))).trans (FrV.set _ g V 17 (.int .u64 0))).trans (FrV.set _ g V 18 (.int .u64 0)))
        have hpa := Lib.hid (cell_set (cell_set (cell_set (cell_set a0 (p := ⟨g, 15, none⟩) (show g ≠ (wu.heap.size) by omega) (.int .u64 ((r.ctrl ||| ra.on ||| rb.on : Nat) : Int))) (p := ⟨g, 16, none⟩) (show g ≠ (wu.heap.size) by omega) (.int .u64 0)) (p := ⟨g, 17, none⟩) (show g ≠ (wu.heap.size) by omega) (.int .u64 0)) (p := ⟨g, 18, none⟩) (show g ≠ (wu.heap.size) by omega) (.int .u64 0))
        have hpb := Lib.hid (cell_set (cell_set (cell_set (cell_set b0 (p := ⟨g, 15, none⟩) (show g ≠ (wu.heap.size + 1) by omega) (.int .u64 ((r.ctrl ||| ra.on ||| rb.on : Nat) : Int))) (p := ⟨g, 16, none⟩) (show g ≠ (wu.heap.size + 1) by omega) (.int .u64 0)) (p := ⟨g, 17, none⟩) (show g ≠ (wu.heap.size + 1) by omega) (.int .u64 0)) (p := ⟨g, 18, none⟩) (show g ≠ (wu.heap.size + 1) by omega) (.int .u64 0))
        generalize hW8 : (World.setCell (World.setCell (World.setCell (World.setCell w6 _ _) _ _) _ _) _ _) = W8 at *
        clear hW8 a0 b0 k15 k16 k17 k18 f15 f16 f17 f18 HR6 HB6 HW60 HW50 HB5 HW3 HW30 HBI3 HR3 HC3 BX4 BX5 hz3
        refine (HQA.out W8).mono ?_
        rintro e w7 ⟨rfl, hb7⟩
        have HR7 := Lib.hid (HRC.out.below hb7)
        have HB07 := Lib.hid (HB0C.out.trans (hb7.mono (Nat.le_trans hbs HB0C.out.size)))
        have HF7 := Lib.hid (HFC.out.trans (FrV.of_below hb7))
        have a0 := cell_go hpa.out hb7
        have b0 := cell_go hpb.out hb7
        clear hb7 hpa hpb HRC HB0C HFC
        cases hoa : openL ra.h with
        | true =>
          have HOP := Lib.hid (show (openL ra.h || openL rb.h) = true by rw [hoa]; rfl)
          clear hoa
          have HC8 := Lib.hid (HC0.out.below (HB00.out.trans HB07.out))
          have hzw := HB07.out.size
          have hs1 : ((at_ : Int) + 1) ≤ (j : Int) := by omega
          have hs2 : (j : Int) ≤ (c.length : Int) := by omega
          have hs3 : (j : Int) ≤ (cc : Int) := by omega
          have hs4 : ¬ cc = at_ + 1 := by omega
          have hs5 : at_ + 1 ≤ j := by omega
          go_wp2_with fail
          obtain ⟨m, hm⟩ : ∃ m, j - (at_ + 1) = m := ⟨_, rfl⟩
          go_loopw [81] (fun v wr => ∃ i : Nat, i ≤ m ∧ v = .int .i64 i ∧ (∀ t z, t < i → c[at_ + 1 + t]? = some z → z.op = 12) ∧ Below (w7).heap.size w7 wr) (fun v _ => m - (intOf v).toNat)
          case atStart => exact ⟨0, Nat.zero_le _, rfl, (fun t z ht => absurd ht (Nat.not_lt_zero _)), Below.refl _ _⟩
          case round =>
            obtain ⟨i, hi, rfl, hno, hbr⟩ := hrel
            have HN := Lib.hid hno
            have HBR := Lib.hid hbr
            have hzr := hbr.size
            have HBT := Lib.hid (HB07.out.trans (hbr.mono (Nat.le_trans hbs hzw)))
            have HRR := Lib.hid (HR7.out.below hbr)
            have HFR := Lib.hid (HF7.out.trans (FrV.of_below hbr))
            clear hno hbr
            by_cases hlt : i < m
            · have hjc : at_ + 1 + i < c.length := by omega
              obtain ⟨z, hz⟩ : ∃ z, c[at_ + 1 + i]? = some z := ⟨_, List.getElem?_eq_getElem hjc⟩
              obtain ⟨b', o', e, c0, c1, c2, c3, c4, c5, c6, c7⟩ := (HC8.out.below HBR.out).cells hz
              simp only [Option.some.injEq, Addr.mk.injEq, and_true] at e
              obtain ⟨rfl, rfl⟩ := e
              rw [show o + (at_ + 1 + i) * 8 = o + (at_ + 1) * 8 + i * 8 by omega] at c0 c1 c2 c3 c4 c5 c6 c7
              have hi9 : (i : Int) < ((j : Int) - ((at_ : Int) + 1)) := by omega
              by_cases h12 : z.op = 12
              · have HN2 := Lib.hid (show ∀ t y, t < i + 1 → c[at_ + 1 + t]? = some y → y.op = 12 from fun t y ht hy => by
                  by_cases e : t = i
                  · subst e; rw [hz] at hy; cases hy; exact h12
                  · exact HN.out t y (by omega) hy)
                rw [h12] at c0
                clear hz h12
                go_wp2_with fail
                go_roundw
                case rel => exact ⟨i + 1, by omega, by go_num, HN2.out, HBR.out.trans ((alloc_b _ _).mono hzr)⟩
                case measure => simp [intOf]; omega
              · have HV := Lib.hid (show brL r c at_ ⟨op, d, a, b, imm, loc, label, fence⟩ = none by
                  rw [brL_open HGA.out HGB.out HOP.out, HL.out, if_pos]
                  rw [List.any_eq_true]
                  refine ⟨z, ?_, by simpa using h12⟩
                  apply List.mem_of_getElem? (i := i)
                  rw [List.getElem?_drop, List.getElem?_take, if_pos (by omega)]
                  exact hz)
                clear hz
                go_wp2_with fail
                go_ret2
                exact BrPost.no HV.out ⟨_, rfl, HRR.out.below (alloc_b _ _), HBT.out.trans ((alloc_b _ _).mono (by have := HBT.out.size; omega)), HFR.out.trans (FrV.of_below (alloc_b _ _))⟩
            · have hie : i = m := by omega
              have HV := Lib.hid (show brL r c at_ ⟨op, d, a, b, imm, loc, label, fence⟩ = some ({ r with ctrl := r.ctrl ||| ra.on ||| rb.on }, at_ + 1) by
                rw [brL_open HGA.out HGB.out HOP.out, HL.out, if_neg]
                intro h
                rw [List.any_eq_true] at h
                obtain ⟨y, hy, hy2⟩ := h
                obtain ⟨t, ht⟩ := List.getElem?_of_mem hy
                rw [List.getElem?_drop, List.getElem?_take] at ht
                split at ht
                · have := HN.out t y (by omega) ht
                  simp [this] at hy2
                · cases ht)
              have hi9 : ¬ (i : Int) < ((j : Int) - ((at_ : Int) + 1)) := by omega
              go_wp2_with fail
              go_ret2
              exact BrPost.yes HV.out ⟨_, rfl, HRR.out, HBT.out, HFR.out⟩
        | false =>
          have HOA := Lib.hid hoa
          clear hoa
          go_wp2_with fail
          refine (HQB.out w7).mono ?_
          rintro e w8 ⟨rfl, hb8⟩
          have HR8 := Lib.hid (HR7.out.below hb8)
          have HB08 := Lib.hid (HB07.out.trans (hb8.mono (Nat.le_trans hbs HB07.out.size)))
          have HF8 := Lib.hid (HF7.out.trans (FrV.of_below hb8))
          have a0 := cell_go a0 hb8
          have b0 := cell_go b0 hb8
          clear hb8 HR7 HB07 HF7
          cases hob : openL rb.h with
          | true =>
            have HOP := Lib.hid (show (openL ra.h || openL rb.h) = true by rw [HOA.out, hob]; rfl)
            clear hob HOA
            have HC8 := Lib.hid (HC0.out.below (HB00.out.trans HB08.out))
            have hzw := HB08.out.size
            have hs1 : ((at_ : Int) + 1) ≤ (j : Int) := by omega
            have hs2 : (j : Int) ≤ (c.length : Int) := by omega
            have hs3 : (j : Int) ≤ (cc : Int) := by omega
            have hs4 : ¬ cc = at_ + 1 := by omega
            have hs5 : at_ + 1 ≤ j := by omega
            go_wp2_with fail
            obtain ⟨m, hm⟩ : ∃ m, j - (at_ + 1) = m := ⟨_, rfl⟩
            go_loopw [81] (fun v wr => ∃ i : Nat, i ≤ m ∧ v = .int .i64 i ∧ (∀ t z, t < i → c[at_ + 1 + t]? = some z → z.op = 12) ∧ Below (w8).heap.size w8 wr) (fun v _ => m - (intOf v).toNat)
            case atStart => exact ⟨0, Nat.zero_le _, rfl, (fun t z ht => absurd ht (Nat.not_lt_zero _)), Below.refl _ _⟩
            case round =>
              obtain ⟨i, hi, rfl, hno, hbr⟩ := hrel
              have HN := Lib.hid hno
              have HBR := Lib.hid hbr
              have hzr := hbr.size
              have HBT := Lib.hid (HB08.out.trans (hbr.mono (Nat.le_trans hbs hzw)))
              have HRR := Lib.hid (HR8.out.below hbr)
              have HFR := Lib.hid (HF8.out.trans (FrV.of_below hbr))
              clear hno hbr
              by_cases hlt : i < m
              · have hjc : at_ + 1 + i < c.length := by omega
                obtain ⟨z, hz⟩ : ∃ z, c[at_ + 1 + i]? = some z := ⟨_, List.getElem?_eq_getElem hjc⟩
                obtain ⟨b', o', e, c0, c1, c2, c3, c4, c5, c6, c7⟩ := (HC8.out.below HBR.out).cells hz
                simp only [Option.some.injEq, Addr.mk.injEq, and_true] at e
                obtain ⟨rfl, rfl⟩ := e
                rw [show o + (at_ + 1 + i) * 8 = o + (at_ + 1) * 8 + i * 8 by omega] at c0 c1 c2 c3 c4 c5 c6 c7
                have hi9 : (i : Int) < ((j : Int) - ((at_ : Int) + 1)) := by omega
                by_cases h12 : z.op = 12
                · have HN2 := Lib.hid (show ∀ t y, t < i + 1 → c[at_ + 1 + t]? = some y → y.op = 12 from fun t y ht hy => by
                    by_cases e : t = i
                    · subst e; rw [hz] at hy; cases hy; exact h12
                    · exact HN.out t y (by omega) hy)
                  rw [h12] at c0
                  clear hz h12
                  go_wp2_with fail
                  go_roundw
                  case rel => exact ⟨i + 1, by omega, by go_num, HN2.out, HBR.out.trans ((alloc_b _ _).mono hzr)⟩
                  case measure => simp [intOf]; omega
                · have HV := Lib.hid (show brL r c at_ ⟨op, d, a, b, imm, loc, label, fence⟩ = none by
                    rw [brL_open HGA.out HGB.out HOP.out, HL.out, if_pos]
                    rw [List.any_eq_true]
                    refine ⟨z, ?_, by simpa using h12⟩
                    apply List.mem_of_getElem? (i := i)
                    rw [List.getElem?_drop, List.getElem?_take, if_pos (by omega)]
                    exact hz)
                  clear hz
                  go_wp2_with fail
                  go_ret2
                  exact BrPost.no HV.out ⟨_, rfl, HRR.out.below (alloc_b _ _), HBT.out.trans ((alloc_b _ _).mono (by have := HBT.out.size; omega)), HFR.out.trans (FrV.of_below (alloc_b _ _))⟩
              · have hie : i = m := by omega
                have HV := Lib.hid (show brL r c at_ ⟨op, d, a, b, imm, loc, label, fence⟩ = some ({ r with ctrl := r.ctrl ||| ra.on ||| rb.on }, at_ + 1) by
                  rw [brL_open HGA.out HGB.out HOP.out, HL.out, if_neg]
                  intro h
                  rw [List.any_eq_true] at h
                  obtain ⟨y, hy, hy2⟩ := h
                  obtain ⟨t, ht⟩ := List.getElem?_of_mem hy
                  rw [List.getElem?_drop, List.getElem?_take] at ht
                  split at ht
                  · have := HN.out t y (by omega) ht
                    simp [this] at hy2
                  · cases ht)
                have hi9 : ¬ (i : Int) < ((j : Int) - ((at_ : Int) + 1)) := by omega
                go_wp2_with fail
                go_ret2
                exact BrPost.yes HV.out ⟨_, rfl, HRR.out, HBT.out, HFR.out⟩
          | false =>
            have HOP := Lib.hid (show (openL ra.h || openL rb.h) = false by rw [HOA.out, hob]; rfl)
            clear hob HOA
            cases hun : unlikeL ra.h rb.h with
            | true =>
              have HV := Lib.hid (show brL r c at_ ⟨op, d, a, b, imm, loc, label, fence⟩ = some ({ r with ctrl := r.ctrl ||| ra.on ||| rb.on }, j) by rw [brL_closed HGA.out HGB.out HOP.out, hun, HL.out]; rfl)
              have HUV := Lib.hid (fun w => by have := HUN.out w; rw [hun] at this; exact this)
              clear hun
              go_wp2_with (go_at_call 211; refine (HUV.out _).mono ?_; rintro e w9 ⟨rfl, rfl⟩)
              go_ret2
              exact BrPost.yes HV.out ⟨_, rfl, HR8.out, HB08.out, HF8.out⟩
            | false =>
              have HV := Lib.hid (show brL r c at_ ⟨op, d, a, b, imm, loc, label, fence⟩ = some ({ r with ctrl := r.ctrl ||| ra.on ||| rb.on }, at_ + 1) by rw [brL_closed HGA.out HGB.out HOP.out, hun]; rfl)
              have HUV := Lib.hid (fun w => by have := HUN.out w; rw [hun] at this; exact this)
              clear hun
              go_wp2_with (go_at_call 211; refine (HUV.out _).mono ?_; rintro e w9 ⟨rfl, rfl⟩)
              go_ret2
              exact BrPost.yes HV.out ⟨_, rfl, HR8.out, HB08.out, HF8.out⟩
      · go_simp
        refine hK.out _ _ (HSS.out _ (by repeat (first | exact Below.refl _ _ | exact Below.refl _ _ | with_reducible refine Below.drew ?_ | with_reducible refine below_alloc ?_ _ | with_reducible refine below_sets ?_ (by omega) _ _))) ?_
        clear hK K
        refine pu ?_
        refine wpE_one (i := 16) (by kernel_rfl) rfl (fun K hK => ?_)
        go_simp
        refine hK.out _ _ (HSS.out _ (by repeat (first | exact Below.refl _ _ | exact Below.refl _ _ | with_reducible refine Below.drew ?_ | with_reducible refine below_alloc ?_ _ | with_reducible refine below_sets ?_ (by omega) _ _))) ?_
        clear hK K
        refine pu ?_
        generalize hW2 : (World.drew (World.alloc _ _)) = W2
        have BZ4 : Hid (Blk W2 (wu.heap.size + 1) 217 #[.nilIface, .int .u64 0, .int .u64 0, .int .u64 0, .int .u64 0]) := by rw [← hW2]; exact Lib.hid (blk_new2 wu _ _ _).drew
        have BZ5 : Hid (Blk W2 (wu.heap.size) 217 #[.nilIface, .int .u64 0, .int .u64 0, .int .u64 0, .int .u64 0]) := by rw [← hW2]; exact Lib.hid ((Blk.new wu _ _).alloc _).drew
        have HW2 : Hid (Below wu.heap.size wu W2) := by rw [← hW2]; exact Lib.hid ((by repeat (first | exact Below.refl _ _ | exact Below.refl _ _ | with_reducible refine Below.drew ?_ | with_reducible refine below_alloc ?_ _ | with_reducible refine below_sets ?_ (by omega) _ _)))
        clear hW2
        refine wpE_one (i := 18) (by kernel_rfl) rfl (fun K hK => ?_)
        rw [if_pos (by kernel_rfl)]
        refine wp_store_mid _ _ _ rfl ((wu.heap.size + 1)) 0 #[holdV ra.h, .int .u64 (ra.on : Int), .int .u64 0, .int .u64 0, .int .u64 0] rfl rfl (there_blk BZ4.out 5 (by simp)) (by kernel_rfl) (all_oneCell_toArray (cs := encR.enc ra) (encR.one ra)) ?_
        refine hK.out _ _ (HSS.out _ (below_sets HW2.out (by omega) _ _)) ?_
        clear hK K
        refine pu ?_
        refine wl 19 ?_
        refine wpList_store_mid rfl _ _ _ rfl ((wu.heap.size)) 0 #[holdV rb.h, .int .u64 (rb.on : Int), .int .u64 0, .int .u64 0, .int .u64 0] rfl rfl (there_blk (blk_farS BZ5.out (by omega) _ _) 5 (by simp)) (by kernel_rfl) (all_oneCell_toArray (cs := encR.enc rb) (encR.one rb)) ?_
        have BX4 := Lib.hid (blk_farS (Blk.sets5 BZ4.out rfl (holdV ra.h) (.int .u64 (ra.on : Int)) (.int .u64 0) (.int .u64 0) (.int .u64 0)) (show (wu.heap.size + 1) ≠ (wu.heap.size) by omega) [holdV rb.h, .int .u64 (rb.on : Int), .int .u64 0, .int .u64 0, .int .u64 0] 0)
        have BX5 := Lib.hid (Blk.sets5 (blk_farS BZ5.out (show (wu.heap.size) ≠ (wu.heap.size + 1) by omega) [holdV ra.h, .int .u64 (ra.on : Int), .int .u64 0, .int .u64 0, .int .u64 0] 0) rfl (holdV rb.h) (.int .u64 (rb.on : Int)) (.int .u64 0) (.int .u64 0) (.int .u64 0))
        have HW3 := Lib.hid (below_sets (below_sets HW2.out (show wu.heap.size ≤ (wu.heap.size + 1) by omega) [holdV ra.h, .int .u64 (ra.on : Int), .int .u64 0, .int .u64 0, .int .u64 0] 0) (show wu.heap.size ≤ (wu.heap.size) by omega) [holdV rb.h, .int .u64 (rb.on : Int), .int .u64 0, .int .u64 0, .int .u64 0] 0)
        generalize hW3 : (World.setCells (World.setCells W2 _ _ _) _ _ _) = W3 at *
        clear hW3 BZ4 BZ5 HW2 HSS
        have HBI3 := Lib.hid (HBIU.out.go HW3.out)
        have HW30 := Lib.hid (below_trans HBU.out HW3.out)
        have hz3 := HW3.out.size
        have HR3 := Lib.hid (HR.out.below HW30.out)
        have HC3 := Lib.hid (HCW.out.below HW30.out)
        have a0 : W3.cell? ⟨(wu.heap.size + 1), 0, none⟩ = some (holdV ra.h) := BX4.out.cell 0
        have a1 : W3.cell? ⟨(wu.heap.size + 1), 1, none⟩ = some (.int .u64 (ra.on : Int)) := BX4.out.cell 1
        have a2 : W3.cell? ⟨(wu.heap.size + 1), 2, none⟩ = some (.int .u64 0) := BX4.out.cell 2
        have a3 : W3.cell? ⟨(wu.heap.size + 1), 3, none⟩ = some (.int .u64 0) := BX4.out.cell 3
        have a4 : W3.cell? ⟨(wu.heap.size + 1), 4, none⟩ = some (.int .u64 0) := BX4.out.cell 4
        have b0 : W3.cell? ⟨(wu.heap.size), 0, none⟩ = some (holdV rb.h) := BX5.out.cell 0
        have b1 : W3.cell? ⟨(wu.heap.size), 1, none⟩ = some (.int .u64 (rb.on : Int)) := BX5.out.cell 1
        have b2 : W3.cell? ⟨(wu.heap.size), 2, none⟩ = some (.int .u64 0) := BX5.out.cell 2
        have b3 : W3.cell? ⟨(wu.heap.size), 3, none⟩ = some (.int .u64 0) := BX5.out.cell 3
        have b4 : W3.cell? ⟨(wu.heap.size), 4, none⟩ = some (.int .u64 0) := BX5.out.cell 4
        have k15 : W3.cell? ⟨g, 15, none⟩ = some (.int .u64 (r.ctrl : Int)) := HR3.out.blk.cell 15
        have k16 : W3.cell? ⟨g, 16, none⟩ = some (.int .u64 0) := HR3.out.blk.cell 16
        have k17 : W3.cell? ⟨g, 17, none⟩ = some (.int .u64 0) := HR3.out.blk.cell 17
        have k18 : W3.cell? ⟨g, 18, none⟩ = some (.int .u64 0) := HR3.out.blk.cell 18
        go_wp2_with fail
        have HSS := Lib.hid (show ∀ y, Below W3.heap.size W3 y → (fun y : World => (y.cell? ⟨g, 15, none⟩ = some (.int .u64 (r.ctrl : Int)) ∧ y.cell? ⟨g, 16, none⟩ = some (.int .u64 0) ∧ y.cell? ⟨g, 17, none⟩ = some (.int .u64 0) ∧ y.cell? ⟨g, 18, none⟩ = some (.int .u64 0)) ∧ (y.cell? ⟨(wu.heap.size + 1), 1, none⟩ = some (.int .u64 (ra.on : Int)) ∧ y.cell? ⟨(wu.heap.size + 1), 2, none⟩ = some (.int .u64 0) ∧ y.cell? ⟨(wu.heap.size + 1), 3, none⟩ = some (.int .u64 0) ∧ y.cell? ⟨(wu.heap.size + 1), 4, none⟩ = some (.int .u64 0)) ∧ y.cell? ⟨(wu.heap.size), 1, none⟩ = some (.int .u64 (rb.on : Int)) ∧ y.cell? ⟨(wu.heap.size), 2, none⟩ = some (.int .u64 0) ∧ y.cell? ⟨(wu.heap.size), 3, none⟩ = some (.int .u64 0) ∧ y.cell? ⟨(wu.heap.size), 4, none⟩ = some (.int .u64 0)) y from fun y hb => ⟨⟨cell_go k15 hb, cell_go k16 hb, cell_go k17 hb, cell_go k18 hb⟩, ⟨cell_go a1 hb, cell_go a2 hb, cell_go a3 hb, cell_go a4 hb⟩, cell_go b1 hb, cell_go b2 hb, cell_go b3 hb, cell_go b4 hb⟩)
        refine wz (fun y : World => (y.cell? ⟨g, 15, none⟩ = some (.int .u64 (r.ctrl : Int)) ∧ y.cell? ⟨g, 16, none⟩ = some (.int .u64 0) ∧ y.cell? ⟨g, 17, none⟩ = some (.int .u64 0) ∧ y.cell? ⟨g, 18, none⟩ = some (.int .u64 0)) ∧ (y.cell? ⟨(wu.heap.size + 1), 1, none⟩ = some (.int .u64 (ra.on : Int)) ∧ y.cell? ⟨(wu.heap.size + 1), 2, none⟩ = some (.int .u64 0) ∧ y.cell? ⟨(wu.heap.size + 1), 3, none⟩ = some (.int .u64 0) ∧ y.cell? ⟨(wu.heap.size + 1), 4, none⟩ = some (.int .u64 0)) ∧ y.cell? ⟨(wu.heap.size), 1, none⟩ = some (.int .u64 (rb.on : Int)) ∧ y.cell? ⟨(wu.heap.size), 2, none⟩ = some (.int .u64 0) ∧ y.cell? ⟨(wu.heap.size), 3, none⟩ = some (.int .u64 0) ∧ y.cell? ⟨(wu.heap.size), 4, none⟩ = some (.int .u64 0)) [4, 6, 7, 9] (HSS.out _ (Below.refl _ _).drew) (fun hHeld => ?_)
        refine wq 0 ?_
        refine wq 1 ?_
        refine wq 2 ?_
        refine wq 3 ?_
        refine wq 5 ?_
        refine wq 8 ?_
        refine wt 4 (by assumption) ?_
        refine wt 6 (by assumption) ?_
        refine wt 9 (by assumption) ?_
        clear hHeld k15 k16 k17 k18 a1 a2 a3 a4 b1 b2 b3 b4
        refine wpE_one (i := 7) (by kernel_rfl) rfl (fun K hK => ?_)
        go_simp
        go_at_call 210
        refine (HO1.out _).mono ?_
        rintro e w5 ⟨rfl, hb5⟩
        have HB5 := Lib.hid (show Below W3.heap.size W3 w5 from below_of_drew hb5)
        clear hb5
        refine hK.out _ _ (HSS.out _ HB5.out) ?_
        clear hK K
        refine pu ?_
        refine wl 10 ?_
        rw [HVA.out] at a0
        rw [HVB.out] at b0
        have HW50 := Lib.hid (below_trans HW30.out HB5.out)
        clear HSS
        go_wp2_with (go_at_call 210; refine (HO2.out _).mono ?_; rintro e w6 ⟨rfl, hb6⟩; have HB6 := Lib.hid (below_trans HB5.out hb6); have HR6 := Lib.hid (HR3.out.below HB6.out); have a0 := cell_go a0 HB6.out; have b0 := cell_go b0 HB6.out; have k15 : w6.cell? ⟨g, 15, none⟩ = some (.int .u64 (r.ctrl : Int)) := HR6.out.blk.cell 15; have k16 : w6.cell? ⟨g, 16, none⟩ = some (.int .u64 0) := HR6.out.blk.cell 16; have k17 : w6.cell? ⟨g, 17, none⟩ = some (.int .u64 0) := HR6.out.blk.cell 17; have k18 : w6.cell? ⟨g, 18, none⟩ = some (.int .u64 0) := HR6.out.blk.cell 18; have f15 := HR6.out.blk.frozen 15; have f16 := HR6.out.blk.frozen 16; have f17 := HR6.out.blk.frozen 17; have f18 := HR6.out.blk.frozen 18; clear hb6)
        have hgp5 : g ≠ (wu.heap.size) := by omega
        have HRC := Lib.hid (HR6.out.ctrl (r.ctrl ||| ra.on ||| rb.on))
        have HW60 := Lib.hid (below_trans HW30.out HB6.out)
        have HB0C := Lib.hid (((((HW60.out.mono hbs).setCell (p := ⟨g, 15, none⟩) hgB (.int .u64 ((r.ctrl ||| ra.on ||| rb.on : Nat) : Int))).setCell (p := ⟨g, 16, none⟩) hgB (.int .u64 0)).setCell (p := ⟨g, 17, none⟩) hgB (.int .u64 0)).setCell (p := ⟨g, 18, none⟩) hgB (.int .u64 0))
        have HFC := Lib.hid (((((FrV.of_below (g := g) (V := V) HW60.out).trans (FrV.set _ g V 15 (.int .u64 ((r.ctrl ||| ra.on ||| rb.on : Nat) : Int)))).trans (FrV.set _ g V 16 (.int .u64 0))).trans (FrV.set _ g V 17 (.int .u64 0))).trans (FrV.set _ g V 18 (.int .u64 0)))
        have hpa := Lib.hid (cell_set (cell_set (cell_set (cell_set a0 (p := ⟨g, 15, none⟩) (show g ≠ (wu.heap.size + 1) by omega) (.int .u64 ((r.ctrl ||| ra.on ||| rb.on : Nat) : Int))) (p := ⟨g, 16, none⟩) (show g ≠ (wu.heap.size + 1) by omega) (.int .u64 0)) (p := ⟨g, 17, none⟩) (show g ≠ (wu.heap.size + 1) by omega) (.int .u64 0)) (p := ⟨g, 18, none⟩) (show g ≠ (wu.heap.size + 1) by omega) (.int .u64 0))
        have hpb := Lib.hid (cell_set (cell_set (cell_set (cell_set b0 (p := ⟨g, 15, none⟩) (show g ≠ (wu.heap.size) by omega) (.int .u64 ((r.ctrl ||| ra.on ||| rb.on : Nat) : Int))) (p := ⟨g, 16, none⟩) (show g ≠ (wu.heap.size) by omega) (.int .u64 0)) (p := ⟨g, 17, none⟩) (show g ≠ (wu.heap.size) by omega) (.int .u64 0)) (p := ⟨g, 18, none⟩) (show g ≠ (wu.heap.size) by omega) (.int .u64 0))
        generalize hW8 : (World.setCell (World.setCell (World.setCell (World.setCell w6 _ _) _ _) _ _) _ _) = W8 at *
        clear hW8 a0 b0 k15 k16 k17 k18 f15 f16 f17 f18 HR6 HB6 HW60 HW50 HB5 HW3 HW30 HBI3 HR3 HC3 BX4 BX5 hz3
        refine (HQA.out W8).mono ?_
        rintro e w7 ⟨rfl, hb7⟩
        have HR7 := Lib.hid (HRC.out.below hb7)
        have HB07 := Lib.hid (HB0C.out.trans (hb7.mono (Nat.le_trans hbs HB0C.out.size)))
        have HF7 := Lib.hid (HFC.out.trans (FrV.of_below hb7))
        have a0 := cell_go hpa.out hb7
        have b0 := cell_go hpb.out hb7
        clear hb7 hpa hpb HRC HB0C HFC
        cases hoa : openL ra.h with
        | true =>
          have HOP := Lib.hid (show (openL ra.h || openL rb.h) = true by rw [hoa]; rfl)
          clear hoa
          have HC8 := Lib.hid (HC0.out.below (HB00.out.trans HB07.out))
          have hzw := HB07.out.size
          have hs1 : ((at_ : Int) + 1) ≤ (j : Int) := by omega
          have hs2 : (j : Int) ≤ (c.length : Int) := by omega
          have hs3 : (j : Int) ≤ (cc : Int) := by omega
          have hs4 : ¬ cc = at_ + 1 := by omega
          have hs5 : at_ + 1 ≤ j := by omega
          go_wp2_with fail
          obtain ⟨m, hm⟩ : ∃ m, j - (at_ + 1) = m := ⟨_, rfl⟩
          go_loopw [81] (fun v wr => ∃ i : Nat, i ≤ m ∧ v = .int .i64 i ∧ (∀ t z, t < i → c[at_ + 1 + t]? = some z → z.op = 12) ∧ Below (w7).heap.size w7 wr) (fun v _ => m - (intOf v).toNat)
          case atStart => exact ⟨0, Nat.zero_le _, rfl, (fun t z ht => absurd ht (Nat.not_lt_zero _)), Below.refl _ _⟩
          case round =>
            obtain ⟨i, hi, rfl, hno, hbr⟩ := hrel
            have HN := Lib.hid hno
            have HBR := Lib.hid hbr
            have hzr := hbr.size
            have HBT := Lib.hid (HB07.out.trans (hbr.mono (Nat.le_trans hbs hzw)))
            have HRR := Lib.hid (HR7.out.below hbr)
            have HFR := Lib.hid (HF7.out.trans (FrV.of_below hbr))
            clear hno hbr
            by_cases hlt : i < m
            · have hjc : at_ + 1 + i < c.length := by omega
              obtain ⟨z, hz⟩ : ∃ z, c[at_ + 1 + i]? = some z := ⟨_, List.getElem?_eq_getElem hjc⟩
              obtain ⟨b', o', e, c0, c1, c2, c3, c4, c5, c6, c7⟩ := (HC8.out.below HBR.out).cells hz
              simp only [Option.some.injEq, Addr.mk.injEq, and_true] at e
              obtain ⟨rfl, rfl⟩ := e
              rw [show o + (at_ + 1 + i) * 8 = o + (at_ + 1) * 8 + i * 8 by omega] at c0 c1 c2 c3 c4 c5 c6 c7
              have hi9 : (i : Int) < ((j : Int) - ((at_ : Int) + 1)) := by omega
              by_cases h12 : z.op = 12
              · have HN2 := Lib.hid (show ∀ t y, t < i + 1 → c[at_ + 1 + t]? = some y → y.op = 12 from fun t y ht hy => by
                  by_cases e : t = i
                  · subst e; rw [hz] at hy; cases hy; exact h12
                  · exact HN.out t y (by omega) hy)
                rw [h12] at c0
                clear hz h12
                go_wp2_with fail
                go_roundw
                case rel => exact ⟨i + 1, by omega, by go_num, HN2.out, HBR.out.trans ((alloc_b _ _).mono hzr)⟩
                case measure => simp [intOf]; omega
              · have HV := Lib.hid (show brL r c at_ ⟨op, d, a, b, imm, loc, label, fence⟩ = none by
                  rw [brL_open HGA.out HGB.out HOP.out, HL.out, if_pos]
                  rw [List.any_eq_true]
                  refine ⟨z, ?_, by simpa using h12⟩
                  apply List.mem_of_getElem? (i := i)
                  rw [List.getElem?_drop, List.getElem?_take, if_pos (by omega)]
                  exact hz)
                clear hz
                go_wp2_with fail
                go_ret2
                exact BrPost.no HV.out ⟨_, rfl, HRR.out.below (alloc_b _ _), HBT.out.trans ((alloc_b _ _).mono (by have := HBT.out.size; omega)), HFR.out.trans (FrV.of_below (alloc_b _ _))⟩
            · have hie : i = m := by omega
              have HV := Lib.hid (show brL r c at_ ⟨op, d, a, b, imm, loc, label, fence⟩ = some ({ r with ctrl := r.ctrl ||| ra.on ||| rb.on }, at_ + 1) by
                rw [brL_open HGA.out HGB.out HOP.out, HL.out, if_neg]
                intro h
                rw [List.any_eq_true] at h
                obtain ⟨y, hy, hy2⟩ := h
                obtain ⟨t, ht⟩ := List.getElem?_of_mem hy
                rw [List.getElem?_drop, List.getElem?_take] at ht
                split at ht
                · have := HN.out t y (by omega) ht
                  simp [this] at hy2
                · cases ht)
              have hi9 : ¬ (i : Int) < ((j : Int) - ((at_ : Int) + 1)) := by omega
              go_wp2_with fail
              go_ret2
              exact BrPost.yes HV.out ⟨_, rfl, HRR.out, HBT.out, HFR.out⟩
        | false =>
          have HOA := Lib.hid hoa
          clear hoa
          go_wp2_with fail
          refine (HQB.out w7).mono ?_
          rintro e w8 ⟨rfl, hb8⟩
          have HR8 := Lib.hid (HR7.out.below hb8)
          have HB08 := Lib.hid (HB07.out.trans (hb8.mono (Nat.le_trans hbs HB07.out.size)))
          have HF8 := Lib.hid (HF7.out.trans (FrV.of_below hb8))
          have a0 := cell_go a0 hb8
          have b0 := cell_go b0 hb8
          clear hb8 HR7 HB07 HF7
          cases hob : openL rb.h with
          | true =>
            have HOP := Lib.hid (show (openL ra.h || openL rb.h) = true by rw [HOA.out, hob]; rfl)
            clear hob HOA
            have HC8 := Lib.hid (HC0.out.below (HB00.out.trans HB08.out))
            have hzw := HB08.out.size
            have hs1 : ((at_ : Int) + 1) ≤ (j : Int) := by omega
            have hs2 : (j : Int) ≤ (c.length : Int) := by omega
            have hs3 : (j : Int) ≤ (cc : Int) := by omega
            have hs4 : ¬ cc = at_ + 1 := by omega
            have hs5 : at_ + 1 ≤ j := by omega
            go_wp2_with fail
            obtain ⟨m, hm⟩ : ∃ m, j - (at_ + 1) = m := ⟨_, rfl⟩
            go_loopw [81] (fun v wr => ∃ i : Nat, i ≤ m ∧ v = .int .i64 i ∧ (∀ t z, t < i → c[at_ + 1 + t]? = some z → z.op = 12) ∧ Below (w8).heap.size w8 wr) (fun v _ => m - (intOf v).toNat)
            case atStart => exact ⟨0, Nat.zero_le _, rfl, (fun t z ht => absurd ht (Nat.not_lt_zero _)), Below.refl _ _⟩
            case round =>
              obtain ⟨i, hi, rfl, hno, hbr⟩ := hrel
              have HN := Lib.hid hno
              have HBR := Lib.hid hbr
              have hzr := hbr.size
              have HBT := Lib.hid (HB08.out.trans (hbr.mono (Nat.le_trans hbs hzw)))
              have HRR := Lib.hid (HR8.out.below hbr)
              have HFR := Lib.hid (HF8.out.trans (FrV.of_below hbr))
              clear hno hbr
              by_cases hlt : i < m
              · have hjc : at_ + 1 + i < c.length := by omega
                obtain ⟨z, hz⟩ : ∃ z, c[at_ + 1 + i]? = some z := ⟨_, List.getElem?_eq_getElem hjc⟩
                obtain ⟨b', o', e, c0, c1, c2, c3, c4, c5, c6, c7⟩ := (HC8.out.below HBR.out).cells hz
                simp only [Option.some.injEq, Addr.mk.injEq, and_true] at e
                obtain ⟨rfl, rfl⟩ := e
                rw [show o + (at_ + 1 + i) * 8 = o + (at_ + 1) * 8 + i * 8 by omega] at c0 c1 c2 c3 c4 c5 c6 c7
                have hi9 : (i : Int) < ((j : Int) - ((at_ : Int) + 1)) := by omega
                by_cases h12 : z.op = 12
                · have HN2 := Lib.hid (show ∀ t y, t < i + 1 → c[at_ + 1 + t]? = some y → y.op = 12 from fun t y ht hy => by
                    by_cases e : t = i
                    · subst e; rw [hz] at hy; cases hy; exact h12
                    · exact HN.out t y (by omega) hy)
                  rw [h12] at c0
                  clear hz h12
                  go_wp2_with fail
                  go_roundw
                  case rel => exact ⟨i + 1, by omega, by go_num, HN2.out, HBR.out.trans ((alloc_b _ _).mono hzr)⟩
                  case measure => simp [intOf]; omega
                · have HV := Lib.hid (show brL r c at_ ⟨op, d, a, b, imm, loc, label, fence⟩ = none by
                    rw [brL_open HGA.out HGB.out HOP.out, HL.out, if_pos]
                    rw [List.any_eq_true]
                    refine ⟨z, ?_, by simpa using h12⟩
                    apply List.mem_of_getElem? (i := i)
                    rw [List.getElem?_drop, List.getElem?_take, if_pos (by omega)]
                    exact hz)
                  clear hz
                  go_wp2_with fail
                  go_ret2
                  exact BrPost.no HV.out ⟨_, rfl, HRR.out.below (alloc_b _ _), HBT.out.trans ((alloc_b _ _).mono (by have := HBT.out.size; omega)), HFR.out.trans (FrV.of_below (alloc_b _ _))⟩
              · have hie : i = m := by omega
                have HV := Lib.hid (show brL r c at_ ⟨op, d, a, b, imm, loc, label, fence⟩ = some ({ r with ctrl := r.ctrl ||| ra.on ||| rb.on }, at_ + 1) by
                  rw [brL_open HGA.out HGB.out HOP.out, HL.out, if_neg]
                  intro h
                  rw [List.any_eq_true] at h
                  obtain ⟨y, hy, hy2⟩ := h
                  obtain ⟨t, ht⟩ := List.getElem?_of_mem hy
                  rw [List.getElem?_drop, List.getElem?_take] at ht
                  split at ht
                  · have := HN.out t y (by omega) ht
                    simp [this] at hy2
                  · cases ht)
                have hi9 : ¬ (i : Int) < ((j : Int) - ((at_ : Int) + 1)) := by omega
                go_wp2_with fail
                go_ret2
                exact BrPost.yes HV.out ⟨_, rfl, HRR.out, HBT.out, HFR.out⟩
          | false =>
            have HOP := Lib.hid (show (openL ra.h || openL rb.h) = false by rw [HOA.out, hob]; rfl)
            clear hob HOA
            cases hun : unlikeL ra.h rb.h with
            | true =>
              have HV := Lib.hid (show brL r c at_ ⟨op, d, a, b, imm, loc, label, fence⟩ = some ({ r with ctrl := r.ctrl ||| ra.on ||| rb.on }, j) by rw [brL_closed HGA.out HGB.out HOP.out, hun, HL.out]; rfl)
              have HUV := Lib.hid (fun w => by have := HUN.out w; rw [hun] at this; exact this)
              clear hun
              go_wp2_with (go_at_call 211; refine (HUV.out _).mono ?_; rintro e w9 ⟨rfl, rfl⟩)
              go_ret2
              exact BrPost.yes HV.out ⟨_, rfl, HR8.out, HB08.out, HF8.out⟩
            | false =>
              have HV := Lib.hid (show brL r c at_ ⟨op, d, a, b, imm, loc, label, fence⟩ = some ({ r with ctrl := r.ctrl ||| ra.on ||| rb.on }, at_ + 1) by rw [brL_closed HGA.out HGB.out HOP.out, hun]; rfl)
              have HUV := Lib.hid (fun w => by have := HUN.out w; rw [hun] at this; exact this)
              clear hun
              go_wp2_with (go_at_call 211; refine (HUV.out _).mono ?_; rintro e w9 ⟨rfl, rfl⟩)
              go_ret2
              exact BrPost.yes HV.out ⟨_, rfl, HR8.out, HB08.out, HF8.out⟩
end
end
end Go.Proofs.YtjhafgnmahhacaaGreatDoor
