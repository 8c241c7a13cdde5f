/- The reference's Do. -/
import Derived.Test.YtlpcahkchmlghaaDoorKi
namespace Go.Proofs.YtlpcahkchmlghaaDoor
open Go.RowKit

theorem thread_as {v : Value} {at_ : Int} {vs : List (List UInt8 × Int)} {r : Bool} (h : threadB 15 at_ vs = r) {w : World} (hv : ValsAt w v vs) :
    Calls Tryd.prog 50 #[locV v at_, .int .i64 15] w fun e w' => e = .returned (.bool r) ∧ Below w.heap.size w w' := by
  have := threadR v at_ vs w hv
  rw [h] at this; exact this
section
variable {op d a b imm : Int} {loc label : ByteArray} {fence : Int} (w : World)
set_option maxHeartbeats 1000000
set_option maxRecDepth 100000
theorem doR_bad (v : Value) (at_ : Int) (h : insB op d a b imm loc label fence = false) (hs : loc.size ≤ 9223372036854775807) :
    Calls Tryd.prog 27 #[insV op d a b imm loc label fence, locV v at_] w fun e w' => e = .returned (doErr 91) ∧ Below w.heap.size w w' := by
  have H := Lib.hid h
  clear h
  go_enter Tryd.func27, Tryd.ntmps27
  go_wp2_with fail
  refine (checkR_l2 H.out _ hs).mono ?_
  rintro e w1 ⟨rfl, hb1⟩
  obtain ⟨c0, c1, a0, a1, a2, a3, a4⟩ := doW_res hb1
  have hB1 := doW_below hb1
  have hf1 := fun o => (doW_fr hb1 o).1
  have hf2 := fun o => (doW_fr hb1 o).2
  clear hb1
  go_wp2
  refine bodyPost_ret (v := doErr 91) (by simp [results, Tryd.results27, go_sem, doErr, *]) rfl ⟨rfl, ?_⟩
  repeat (first | with_reducible refine Below.setCell ?_ (by simp <;> omega) _ | with_reducible exact hB1)
theorem doR_thread (h : insB op d a b imm loc label fence = true) (v : Value) (at_ : Int) (vs : List (List UInt8 × Int)) (hv : ValsAt w v vs) (ht : threadB 15 at_ vs = false) :
    Calls Tryd.prog 27 #[insV op d a b imm loc label fence, locV v at_] w fun e w' => e = .returned (doErr 1) ∧ Below w.heap.size w w' := by
  have hs := insB_loc h
  have H := Lib.hid h
  have HT := Lib.hid ht
  clear h ht
  go_enter Tryd.func27, Tryd.ntmps27
  go_wp2_with fail
  refine (checkR_l2 H.out _ (by omega)).mono ?_
  rintro e w1 ⟨rfl, hb1⟩
  have t0 := doW_cell hb1 (b' := w.heap.size + 1) (o := 0) (u := v) (by simp [go_sem])
  have t1 := doW_cell hb1 (b' := w.heap.size + 1) (o := 1) (u := .int .i64 at_) (by simp [go_sem])
  have hv1 := hv.mono (doW_below hb1)
  go_wp2_with fail
  refine (thread_as HT.out hv1).mono ?_
  rintro e w2 ⟨rfl, hb2⟩
  have hb12 := below_trans hb1 hb2
  obtain ⟨c0, c1, a0, a1, a2, a3, a4⟩ := doW_res hb12
  have hB2 := doW_below hb12
  have hf1 := fun o => (doW_fr hb12 o).1
  have hf2 := fun o => (doW_fr hb12 o).2
  clear hb1 hb2 hb12 t0 t1 hv1 hv
  go_wp2
  refine bodyPost_ret (v := doErr 1) (by simp [results, Tryd.results27, go_sem, doErr, *]) rfl ⟨rfl, ?_⟩
  repeat (first | with_reducible refine Below.setCell ?_ (by simp <;> omega) _ | with_reducible exact hB2)
end
/-- A nil slice with registers appended. -/
theorem own_nil {w w1 : World} {v1 : Value} {vs : List (List UInt8 × Int)} (h15 : vs.length = 15) {base : Nat} (h0 : RegsOwn w1 base v1 vs) (hg : w.grownBy w1 none) :
    ∃ g cap, v1 = .slice (some ⟨g, 0, none⟩) 15 cap ∧ base ≤ g ∧ g < w1.heap.size ∧ 15 ≤ cap ∧ cap ≤ 9223372036854775807 ∧ RegsOwn w1 base (.slice (some ⟨g, 0, none⟩) 15 cap) vs ∧ Below w.heap.size w w1 := by
  obtain ⟨g, cap, rfl, hg1, hg2, hc1, hc2⟩ := h0.form (by omega)
  rw [h15] at h0 hc1 ⊢
  exact ⟨g, cap, rfl, hg1, hg2, hc1, hc2, h0, ⟨hg.os, hg.tape, hg.output, hg.size, fun i hi => hg.block i hi (by simp)⟩⟩

end Go.Proofs.YtlpcahkchmlghaaDoor
