/- Layer 9: whether an x86 instruction may be: the program and the reference. -/
import Derived.Test.YtjhafgnmahhacaaGreatDoorTe05

namespace Go.Proofs.YtjhafgnmahhacaaGreatDoor
open Go.RowKit
section
abbrev insV (op d a b imm : Int) (loc label : ByteArray) (fence : Int) : Value := .agg #[.int .i64 op, .int .i64 d, .int .i64 a, .int .i64 b, .int .i64 imm, .string loc, .string label, .int .i64 fence]
def insB (op d a b imm : Int) (loc label : ByteArray) (fence : Int) : Bool :=
  (label.toList.isEmpty && (b == 0) && (fence == 0)) &&
    (if op = 1 then nameB loc.data.toList && numB imm && (d == 0) && (a == 0)
     else if op = 2 then nameB loc.data.toList && regB 15 a && (d == 0) && (imm == 0)
     else if op = 3 then nameB loc.data.toList && regB 15 d && (a == 0) && (imm == 0)
     else if op = 4 then loc.toList.isEmpty && regB 15 d && numB imm && (a == 0)
     else if op = 5 then loc.toList.isEmpty && (d == 0) && (a == 0) && (imm == 0)
     else false)
def chkI (b : Bool) : Int := if b then 0 else 91
theorem below_2 (w : World) (a b : Obj) : Below w.heap.size w ((w.alloc a).alloc b) := below_alloc (below_alloc (Below.refl _ _) _) _
section
variable (d a b imm : Int) (loc label : ByteArray) (fence : Int) (w : World) (hs : loc.size ≤ 9223372036854775807)
include hs
set_option maxHeartbeats 400000
theorem chkIP_1 : Calls Tryz.prog 164 #[insV 1 d a b imm loc label fence] w fun e w' => e = .returned (.int .i64 (chkI (insB 1 d a b imm loc label fence))) ∧ Below w.heap.size w w' := by
  go_enter Tryz.func164, Tryz.ntmps164
  go_wp2_with (first
    | (go_at_call 230; refine (nameI _ _ hs).mono ?_; rintro e w' ⟨rfl, rfl⟩)
    | (go_at_call 231; refine (numI _ _).mono ?_; rintro e w' ⟨rfl, rfl⟩)
    | (go_at_call 232; refine (regI _ _).mono ?_; rintro e w' ⟨rfl, rfl⟩))
  all_goals (go_ret; refine ⟨ret_int (by simp_all [insB, chkI] <;> (intros; omega)), ?_⟩)
  all_goals (repeat (first | exact Below.refl _ _ | refine below_alloc ?_ _))
theorem chkIP_2 : Calls Tryz.prog 164 #[insV 2 d a b imm loc label fence] w fun e w' => e = .returned (.int .i64 (chkI (insB 2 d a b imm loc label fence))) ∧ Below w.heap.size w w' := by
  go_enter Tryz.func164, Tryz.ntmps164
  go_wp2_with (first
    | (go_at_call 230; refine (nameI _ _ hs).mono ?_; rintro e w' ⟨rfl, rfl⟩)
    | (go_at_call 231; refine (numI _ _).mono ?_; rintro e w' ⟨rfl, rfl⟩)
    | (go_at_call 232; refine (regI _ _).mono ?_; rintro e w' ⟨rfl, rfl⟩))
  all_goals (go_ret; refine ⟨ret_int (by simp_all [insB, chkI] <;> (intros; omega)), ?_⟩)
  all_goals (repeat (first | exact Below.refl _ _ | refine below_alloc ?_ _))
theorem chkIP_3 : Calls Tryz.prog 164 #[insV 3 d a b imm loc label fence] w fun e w' => e = .returned (.int .i64 (chkI (insB 3 d a b imm loc label fence))) ∧ Below w.heap.size w w' := by
  go_enter Tryz.func164, Tryz.ntmps164
  go_wp2_with (first
    | (go_at_call 230; refine (nameI _ _ hs).mono ?_; rintro e w' ⟨rfl, rfl⟩)
    | (go_at_call 231; refine (numI _ _).mono ?_; rintro e w' ⟨rfl, rfl⟩)
    | (go_at_call 232; refine (regI _ _).mono ?_; rintro e w' ⟨rfl, rfl⟩))
  all_goals (go_ret; refine ⟨ret_int (by simp_all [insB, chkI] <;> (intros; omega)), ?_⟩)
  all_goals (repeat (first | exact Below.refl _ _ | refine below_alloc ?_ _))
theorem chkIP_4 : Calls Tryz.prog 164 #[insV 4 d a b imm loc label fence] w fun e w' => e = .returned (.int .i64 (chkI (insB 4 d a b imm loc label fence))) ∧ Below w.heap.size w w' := by
  have _hs := hs
  go_enter Tryz.func164, Tryz.ntmps164
  go_wp2_with (first
    | (go_at_call 230; refine (nameI _ _ hs).mono ?_; rintro e w' ⟨rfl, rfl⟩)
    | (go_at_call 231; refine (numI _ _).mono ?_; rintro e w' ⟨rfl, rfl⟩)
    | (go_at_call 232; refine (regI _ _).mono ?_; rintro e w' ⟨rfl, rfl⟩))
  all_goals (go_ret; refine ⟨ret_int (by simp_all [insB, chkI] <;> (intros; omega)), ?_⟩)
  all_goals (repeat (first | exact Below.refl _ _ | refine below_alloc ?_ _))
theorem chkIP_5 : Calls Tryz.prog 164 #[insV 5 d a b imm loc label fence] w fun e w' => e = .returned (.int .i64 (chkI (insB 5 d a b imm loc label fence))) ∧ Below w.heap.size w w' := by
  have _hs := hs
  go_enter Tryz.func164, Tryz.ntmps164
  go_wp2_with (first
    | (go_at_call 230; refine (nameI _ _ hs).mono ?_; rintro e w' ⟨rfl, rfl⟩)
    | (go_at_call 231; refine (numI _ _).mono ?_; rintro e w' ⟨rfl, rfl⟩)
    | (go_at_call 232; refine (regI _ _).mono ?_; rintro e w' ⟨rfl, rfl⟩))
  all_goals (go_ret; refine ⟨ret_int (by simp_all [insB, chkI] <;> (intros; omega)), ?_⟩)
  all_goals (repeat (first | exact Below.refl _ _ | refine below_alloc ?_ _))
theorem chkIP_no (op : Int) (h1 : (op == 1) = false) (h2 : (op == 2) = false) (h3 : (op == 3) = false) (h4 : (op == 4) = false) (h5 : (op == 5) = false) : Calls Tryz.prog 164 #[insV op d a b imm loc label fence] w fun e w' => e = .returned (.int .i64 (chkI (insB op d a b imm loc label fence))) ∧ Below w.heap.size w w' := by
  have _hs := hs
  go_enter Tryz.func164, Tryz.ntmps164
  go_wp2
  all_goals (go_ret; refine ⟨ret_int (by simp_all [insB, chkI]), ?_⟩)
  all_goals (repeat (first | exact Below.refl _ _ | refine below_alloc ?_ _))
theorem chkIP (op : Int) : Calls Tryz.prog 164 #[insV op d a b imm loc label fence] w fun e w' => e = .returned (.int .i64 (chkI (insB op d a b imm loc label fence))) ∧ Below w.heap.size w w' := by
  by_cases h1 : op = 1
  · subst h1; exact chkIP_1 d a b imm loc label fence w hs
  by_cases h2 : op = 2
  · subst h2; exact chkIP_2 d a b imm loc label fence w hs
  by_cases h3 : op = 3
  · subst h3; exact chkIP_3 d a b imm loc label fence w hs
  by_cases h4 : op = 4
  · subst h4; exact chkIP_4 d a b imm loc label fence w hs
  by_cases h5 : op = 5
  · subst h5; exact chkIP_5 d a b imm loc label fence w hs
  exact chkIP_no d a b imm loc label fence w hs op (by simpa using h1) (by simpa using h2) (by simpa using h3) (by simpa using h4) (by simpa using h5)
end
end
end Go.Proofs.YtjhafgnmahhacaaGreatDoor
