/- Layer 10: whether a RISC-V instruction may be: the program and the reference. -/
import Derived.Test.YtjhafgnmahhacaaGreatDoorTe11
import Derived.BigRegion
namespace Go.Proofs.YtjhafgnmahhacaaGreatDoor
open Go.RowKit
section
theorem blkN1 (w : World) (o : Obj) (t : TypeId) (cs : Array Value) : Blk ((w.alloc o).alloc (.cells cs t (0, 0))) (w.heap.size + 1) t cs := by
  have h := Blk.new (w.alloc o) t cs
  rwa [show (w.alloc o).heap.size = w.heap.size + 1 by simp] at h
theorem ret_fld {fn : Func} (hfn : fn.results = #[.cell 2 70, .tmp 3]) {a : Act} {W : World} {R : Ending → World → Prop} {b : Nat} {op d a' b' imm fence : Int} {loc label : ByteArray} {ok : Bool}
    (hB : Blk W b 70 #[.int .i64 op, .int .i64 d, .int .i64 a', .int .i64 b', .int .i64 imm, .string loc, .string label, .int .i64 fence]) (h2 : a.tmps[2]? = some (.pointer (some ⟨b, 0, none⟩))) (h3 : a.tmps[3]? = some (.bool ok)) (hd : a.defers = [])
    (hR : R (.returned (.tuple #[insV op d a' b' imm loc label fence, .bool ok])) W) : bodyPost Tryz.prog fn R .ret a W := by
  have a0 : W.cell? ⟨b, 0, none⟩ = some (.int .i64 op) := hB.cell 0
  have a1 : W.cell? ⟨b, 1, none⟩ = some (.int .i64 d) := hB.cell 1
  have a2 : W.cell? ⟨b, 2, none⟩ = some (.int .i64 a') := hB.cell 2
  have a3 : W.cell? ⟨b, 3, none⟩ = some (.int .i64 b') := hB.cell 3
  have a4 : W.cell? ⟨b, 4, none⟩ = some (.int .i64 imm) := hB.cell 4
  have a5 : W.cell? ⟨b, 5, none⟩ = some (.string loc) := hB.cell 5
  have a6 : W.cell? ⟨b, 6, none⟩ = some (.string label) := hB.cell 6
  have a7 : W.cell? ⟨b, 7, none⟩ = some (.int .i64 fence) := hB.cell 7
  exact bodyPost_ret (by simp [results, hfn, h2, h3, go_sem, a0, a1, a2, a3, a4, a5, a6, a7]) hd hR
section
variable (d a b imm : Int) (loc label : ByteArray) (fence : Int) (w : World)
set_option maxHeartbeats 800000
theorem fieldsV_6 : Calls Tryz.prog 262 #[insV 6 d a b imm loc label fence] w fun e w' => e = .returned (.tuple #[insV 6 d a 0 0 ⟨#[]⟩ ⟨#[]⟩ 0, .bool true]) ∧ Below w.heap.size w w' := by
  go_enter Tryz.func262, Tryz.ntmps262
  go_wp2_with fail
  go_region
  go_wp2_with fail
  refine ret_fld rfl (b := w.heap.size + 1) (by first | exact (blkN1 w _ _ _).alloc _ | exact ((blkN1 w _ _ _).alloc _).drew) rfl rfl rfl ?_
  exact ⟨rfl, by first | exact (below_alloc (below_alloc (alloc_b w _) _) _) | exact (below_alloc (below_alloc (alloc_b w _) _) _).drew | exact (below_alloc (below_alloc (alloc_b w _) _) _).drew.drew | exact (below_alloc (below_alloc (alloc_b w _) _) _).drew.drew.drew⟩
theorem fieldsV_7 : Calls Tryz.prog 262 #[insV 7 d a b imm loc label fence] w fun e w' => e = .returned (.tuple #[insV 7 0 a b 0 ⟨#[]⟩ ⟨#[]⟩ 0, .bool true]) ∧ Below w.heap.size w w' := by
  go_enter Tryz.func262, Tryz.ntmps262
  go_wp2_with fail
  go_region
  go_wp2_with fail
  refine ret_fld rfl (b := w.heap.size + 1) (by first | exact (blkN1 w _ _ _).alloc _ | exact ((blkN1 w _ _ _).alloc _).drew) rfl rfl rfl ?_
  exact ⟨rfl, by first | exact (below_alloc (below_alloc (alloc_b w _) _) _) | exact (below_alloc (below_alloc (alloc_b w _) _) _).drew | exact (below_alloc (below_alloc (alloc_b w _) _) _).drew.drew | exact (below_alloc (below_alloc (alloc_b w _) _) _).drew.drew.drew⟩
theorem fieldsV_8 : Calls Tryz.prog 262 #[insV 8 d a b imm loc label fence] w fun e w' => e = .returned (.tuple #[insV 8 d a 0 imm ⟨#[]⟩ ⟨#[]⟩ 0, .bool (decide (-2048 ≤ imm) && decide (imm ≤ 2047))]) ∧ Below w.heap.size w w' := by
  by_cases g1 : (-2048 : Int) ≤ imm
  · have f1 : decide ((-2048 : Int) ≤ imm) = true := decide_eq_true g1
    by_cases g2 : imm ≤ (2047 : Int)
    · have f2 : decide (imm ≤ (2047 : Int)) = true := decide_eq_true g2
      rw [f1, f2]
      clear g1 g2
      go_enter Tryz.func262, Tryz.ntmps262
      go_wp2_with fail
      go_region
      go_wp2_with fail
      go_region
      go_wp2_with fail
      refine ret_fld rfl (b := w.heap.size + 1) (by first | exact (blkN1 w _ _ _).alloc _ | exact ((blkN1 w _ _ _).alloc _).drew) rfl rfl rfl ?_
      exact ⟨rfl, by first | exact (below_alloc (below_alloc (alloc_b w _) _) _) | exact (below_alloc (below_alloc (alloc_b w _) _) _).drew | exact (below_alloc (below_alloc (alloc_b w _) _) _).drew.drew | exact (below_alloc (below_alloc (alloc_b w _) _) _).drew.drew.drew⟩
    · have f2 : decide (imm ≤ (2047 : Int)) = false := decide_eq_false g2
      rw [f1, f2]
      clear g1 g2
      go_enter Tryz.func262, Tryz.ntmps262
      go_wp2_with fail
      go_region
      go_wp2_with fail
      go_region
      go_wp2_with fail
      refine ret_fld rfl (b := w.heap.size + 1) (by first | exact (blkN1 w _ _ _).alloc _ | exact ((blkN1 w _ _ _).alloc _).drew) rfl rfl rfl ?_
      exact ⟨rfl, by first | exact (below_alloc (below_alloc (alloc_b w _) _) _) | exact (below_alloc (below_alloc (alloc_b w _) _) _).drew | exact (below_alloc (below_alloc (alloc_b w _) _) _).drew.drew | exact (below_alloc (below_alloc (alloc_b w _) _) _).drew.drew.drew⟩
  · have f1 : decide ((-2048 : Int) ≤ imm) = false := decide_eq_false g1
    rw [f1, Bool.false_and]
    clear g1
    go_enter Tryz.func262, Tryz.ntmps262
    go_wp2_with fail
    go_region
    go_wp2_with fail
    go_region
    go_wp2_with fail
    refine ret_fld rfl (b := w.heap.size + 1) (by first | exact (blkN1 w _ _ _).alloc _ | exact ((blkN1 w _ _ _).alloc _).drew) rfl rfl rfl ?_
    exact ⟨rfl, by first | exact (below_alloc (below_alloc (alloc_b w _) _) _) | exact (below_alloc (below_alloc (alloc_b w _) _) _).drew | exact (below_alloc (below_alloc (alloc_b w _) _) _).drew.drew | exact (below_alloc (below_alloc (alloc_b w _) _) _).drew.drew.drew⟩
theorem fieldsV_9 : Calls Tryz.prog 262 #[insV 9 d a b imm loc label fence] w fun e w' => e = .returned (.tuple #[insV 9 d a b 0 ⟨#[]⟩ ⟨#[]⟩ 0, .bool true]) ∧ Below w.heap.size w w' := by
  go_enter Tryz.func262, Tryz.ntmps262
  go_wp2_with fail
  go_region
  go_wp2_with fail
  refine ret_fld rfl (b := w.heap.size + 1) (by first | exact (blkN1 w _ _ _).alloc _ | exact ((blkN1 w _ _ _).alloc _).drew) rfl rfl rfl ?_
  exact ⟨rfl, by first | exact (below_alloc (below_alloc (alloc_b w _) _) _) | exact (below_alloc (below_alloc (alloc_b w _) _) _).drew | exact (below_alloc (below_alloc (alloc_b w _) _) _).drew.drew | exact (below_alloc (below_alloc (alloc_b w _) _) _).drew.drew.drew⟩
theorem fieldsV_10 : Calls Tryz.prog 262 #[insV 10 d a b imm loc label fence] w fun e w' => e = .returned (.tuple #[insV 10 d a b 0 ⟨#[]⟩ ⟨#[]⟩ 0, .bool true]) ∧ Below w.heap.size w w' := by
  go_enter Tryz.func262, Tryz.ntmps262
  go_wp2_with fail
  go_region
  go_wp2_with fail
  refine ret_fld rfl (b := w.heap.size + 1) (by first | exact (blkN1 w _ _ _).alloc _ | exact ((blkN1 w _ _ _).alloc _).drew) rfl rfl rfl ?_
  exact ⟨rfl, by first | exact (below_alloc (below_alloc (alloc_b w _) _) _) | exact (below_alloc (below_alloc (alloc_b w _) _) _).drew | exact (below_alloc (below_alloc (alloc_b w _) _) _).drew.drew | exact (below_alloc (below_alloc (alloc_b w _) _) _).drew.drew.drew⟩
theorem fieldsV_11 (nb : Bool) (hnb : nameB label.data.toList = nb) (hs : label.size ≤ 9223372036854775807) : Calls Tryz.prog 262 #[insV 11 d a b imm loc label fence] w fun e w' => e = .returned (.tuple #[insV 11 0 a b 0 ⟨#[]⟩ label 0, .bool nb]) ∧ Below w.heap.size w w' := by
  have HNB := Lib.hid hnb
  clear hnb
  go_enter Tryz.func262, Tryz.ntmps262
  go_wp2_with fail
  go_region
  go_wp2_with fail
  go_region_with (go_at_call 291; refine (nameV _ _ hs).mono ?_; rw [HNB.out]; rintro e w' ⟨rfl, rfl⟩)
  all_goals
    go_wp2_with fail
    refine ret_fld rfl (b := w.heap.size + 1) (by first | exact (blkN1 w _ _ _).alloc _ | exact ((blkN1 w _ _ _).alloc _).drew) rfl rfl rfl ?_
    exact ⟨rfl, by first | exact (below_alloc (below_alloc (alloc_b w _) _) _) | exact (below_alloc (below_alloc (alloc_b w _) _) _).drew | exact (below_alloc (below_alloc (alloc_b w _) _) _).drew.drew | exact (below_alloc (below_alloc (alloc_b w _) _) _).drew.drew.drew⟩
theorem fieldsV_12 (nb : Bool) (hnb : nameB label.data.toList = nb) (hs : label.size ≤ 9223372036854775807) : Calls Tryz.prog 262 #[insV 12 d a b imm loc label fence] w fun e w' => e = .returned (.tuple #[insV 12 0 0 0 0 ⟨#[]⟩ label 0, .bool nb]) ∧ Below w.heap.size w w' := by
  have HNB := Lib.hid hnb
  clear hnb
  go_enter Tryz.func262, Tryz.ntmps262
  go_wp2_with fail
  go_region_with (go_at_call 291; refine (nameV _ _ hs).mono ?_; rw [HNB.out]; rintro e w' ⟨rfl, rfl⟩)
  all_goals
    go_wp2_with fail
    refine ret_fld rfl (b := w.heap.size + 1) (by first | exact (blkN1 w _ _ _).alloc _ | exact ((blkN1 w _ _ _).alloc _).drew) rfl rfl rfl ?_
    exact ⟨rfl, by first | exact (below_alloc (below_alloc (alloc_b w _) _) _) | exact (below_alloc (below_alloc (alloc_b w _) _) _).drew | exact (below_alloc (below_alloc (alloc_b w _) _) _).drew.drew | exact (below_alloc (below_alloc (alloc_b w _) _) _).drew.drew.drew⟩
theorem fieldsV_13 : Calls Tryz.prog 262 #[insV 13 d a b imm loc label fence] w fun e w' => e = .returned (.tuple #[insV 13 0 0 0 0 ⟨#[]⟩ ⟨#[]⟩ fence, .bool (decide (2 ≤ fence) && decide (fence ≤ 11))]) ∧ Below w.heap.size w w' := by
  by_cases g1 : (2 : Int) ≤ fence
  · have f1 : decide ((2 : Int) ≤ fence) = true := decide_eq_true g1
    by_cases g2 : fence ≤ (11 : Int)
    · have f2 : decide (fence ≤ (11 : Int)) = true := decide_eq_true g2
      rw [f1, f2]
      clear g1 g2
      go_enter Tryz.func262, Tryz.ntmps262
      go_wp2_with fail
      go_region
      go_wp2_with fail
      refine ret_fld rfl (b := w.heap.size + 1) (by first | exact (blkN1 w _ _ _).alloc _ | exact ((blkN1 w _ _ _).alloc _).drew) rfl rfl rfl ?_
      exact ⟨rfl, by first | exact (below_alloc (below_alloc (alloc_b w _) _) _) | exact (below_alloc (below_alloc (alloc_b w _) _) _).drew | exact (below_alloc (below_alloc (alloc_b w _) _) _).drew.drew | exact (below_alloc (below_alloc (alloc_b w _) _) _).drew.drew.drew⟩
    · have f2 : decide (fence ≤ (11 : Int)) = false := decide_eq_false g2
      rw [f1, f2]
      clear g1 g2
      go_enter Tryz.func262, Tryz.ntmps262
      go_wp2_with fail
      go_region
      go_wp2_with fail
      refine ret_fld rfl (b := w.heap.size + 1) (by first | exact (blkN1 w _ _ _).alloc _ | exact ((blkN1 w _ _ _).alloc _).drew) rfl rfl rfl ?_
      exact ⟨rfl, by first | exact (below_alloc (below_alloc (alloc_b w _) _) _) | exact (below_alloc (below_alloc (alloc_b w _) _) _).drew | exact (below_alloc (below_alloc (alloc_b w _) _) _).drew.drew | exact (below_alloc (below_alloc (alloc_b w _) _) _).drew.drew.drew⟩
  · have f1 : decide ((2 : Int) ≤ fence) = false := decide_eq_false g1
    rw [f1, Bool.false_and]
    clear g1
    go_enter Tryz.func262, Tryz.ntmps262
    go_wp2_with fail
    go_region
    go_wp2_with fail
    refine ret_fld rfl (b := w.heap.size + 1) (by first | exact (blkN1 w _ _ _).alloc _ | exact ((blkN1 w _ _ _).alloc _).drew) rfl rfl rfl ?_
    exact ⟨rfl, by first | exact (below_alloc (below_alloc (alloc_b w _) _) _) | exact (below_alloc (below_alloc (alloc_b w _) _) _).drew | exact (below_alloc (below_alloc (alloc_b w _) _) _).drew.drew | exact (below_alloc (below_alloc (alloc_b w _) _) _).drew.drew.drew⟩
theorem fieldsV_no (op : Int) (h6 : (op == 6) = false) (h7 : (op == 7) = false) (h8 : (op == 8) = false) (h9 : (op == 9) = false) (h10 : (op == 10) = false) (h11 : (op == 11) = false) (h12 : (op == 12) = false) (h13 : (op == 13) = false) : Calls Tryz.prog 262 #[insV op d a b imm loc label fence] w fun e w' => e = .returned (.tuple #[insV op 0 0 0 0 ⟨#[]⟩ ⟨#[]⟩ 0, .bool false]) ∧ Below w.heap.size w w' := by
  go_enter Tryz.func262, Tryz.ntmps262
  go_wp2_with fail
  refine ret_fld rfl (b := w.heap.size + 1) (by first | exact (blkN1 w _ _ _).alloc _ | exact ((blkN1 w _ _ _).alloc _).drew) rfl rfl rfl ?_
  exact ⟨rfl, by first | exact (below_alloc (below_alloc (alloc_b w _) _) _) | exact (below_alloc (below_alloc (alloc_b w _) _) _).drew | exact (below_alloc (below_alloc (alloc_b w _) _) _).drew.drew | exact (below_alloc (below_alloc (alloc_b w _) _) _).drew.drew.drew⟩
end
end
end Go.Proofs.YtjhafgnmahhacaaGreatDoor
