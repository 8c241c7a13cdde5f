/- Contracts of Check, of the program and of the reference. -/
import Derived.Test.YtlpcahkchmlghaaDoorId
namespace Go.Proofs.YtlpcahkchmlghaaDoor
open Go.RowKit

abbrev insV (op d a b imm : Int) (loc label : ByteArray) (fence : Int) : Value := .agg #[.int .i64 op, .int .i64 d, .int .i64 a, .int .i64 b, .int .i64 imm, .string loc, .string label, .int .i64 fence]
def insB (op d a b imm : Int) (loc label : ByteArray) (fence : Int) : Bool :=
  (label.toList.isEmpty && (b == 0) && (fence == 0)) &&
    (if op = 1 then nameB loc.data.toList && numB imm && (d == 0) && (a == 0)
     else if op = 2 then nameB loc.data.toList && regB a && (d == 0) && (imm == 0)
     else if op = 3 then nameB loc.data.toList && regB d && (a == 0) && (imm == 0)
     else if op = 4 then loc.toList.isEmpty && regB d && numB imm && (a == 0)
     else if op = 5 then loc.toList.isEmpty && (d == 0) && (a == 0) && (imm == 0)
     else false)
def chkI (b : Bool) : Int := if b then 0 else 91

theorem below_2 (w : World) (a b : Obj) : Below w.heap.size w ((w.alloc a).alloc b) := below_alloc (below_alloc (Below.refl _ _) _) _

section
variable (d a b imm : Int) (loc label : ByteArray) (fence : Int) (w : World) (hs : loc.size ≤ 9223372036854775807)
include hs
set_option maxHeartbeats 400000
theorem checkP_1 : Calls Tryd.prog 15 #[insV 1 d a b imm loc label fence] w fun e w' => e = .returned (.int .i64 (chkI (insB 1 d a b imm loc label fence))) ∧ Below w.heap.size w w' := by
  go_enter Tryd.func15, Tryd.ntmps15
  go_wp2_with (first
    | (go_at_call 42; refine (isName_c _ _ hs).mono ?_; rintro e w' ⟨rfl, rfl⟩)
    | (go_at_call 43; refine (isNumber_c _ _).mono ?_; rintro e w' ⟨rfl, rfl⟩)
    | (go_at_call 44; refine (isReg_c _ _).mono ?_; rintro e w' ⟨rfl, rfl⟩))
  all_goals (go_ret; refine ⟨ret_int (by simp_all [insB, chkI] <;> (intros; omega)), ?_⟩)
  all_goals (repeat (first | exact Below.refl _ _ | refine below_alloc ?_ _))
theorem checkP_2 : Calls Tryd.prog 15 #[insV 2 d a b imm loc label fence] w fun e w' => e = .returned (.int .i64 (chkI (insB 2 d a b imm loc label fence))) ∧ Below w.heap.size w w' := by
  go_enter Tryd.func15, Tryd.ntmps15
  go_wp2_with (first
    | (go_at_call 42; refine (isName_c _ _ hs).mono ?_; rintro e w' ⟨rfl, rfl⟩)
    | (go_at_call 43; refine (isNumber_c _ _).mono ?_; rintro e w' ⟨rfl, rfl⟩)
    | (go_at_call 44; refine (isReg_c _ _).mono ?_; rintro e w' ⟨rfl, rfl⟩))
  all_goals (go_ret; refine ⟨ret_int (by simp_all [insB, chkI] <;> (intros; omega)), ?_⟩)
  all_goals (repeat (first | exact Below.refl _ _ | refine below_alloc ?_ _))
theorem checkP_3 : Calls Tryd.prog 15 #[insV 3 d a b imm loc label fence] w fun e w' => e = .returned (.int .i64 (chkI (insB 3 d a b imm loc label fence))) ∧ Below w.heap.size w w' := by
  go_enter Tryd.func15, Tryd.ntmps15
  go_wp2_with (first
    | (go_at_call 42; refine (isName_c _ _ hs).mono ?_; rintro e w' ⟨rfl, rfl⟩)
    | (go_at_call 43; refine (isNumber_c _ _).mono ?_; rintro e w' ⟨rfl, rfl⟩)
    | (go_at_call 44; refine (isReg_c _ _).mono ?_; rintro e w' ⟨rfl, rfl⟩))
  all_goals (go_ret; refine ⟨ret_int (by simp_all [insB, chkI] <;> (intros; omega)), ?_⟩)
  all_goals (repeat (first | exact Below.refl _ _ | refine below_alloc ?_ _))
theorem checkP_4 : Calls Tryd.prog 15 #[insV 4 d a b imm loc label fence] w fun e w' => e = .returned (.int .i64 (chkI (insB 4 d a b imm loc label fence))) ∧ Below w.heap.size w w' := by
  have _hs := hs
  go_enter Tryd.func15, Tryd.ntmps15
  go_wp2_with (first
    | (go_at_call 42; refine (isName_c _ _ hs).mono ?_; rintro e w' ⟨rfl, rfl⟩)
    | (go_at_call 43; refine (isNumber_c _ _).mono ?_; rintro e w' ⟨rfl, rfl⟩)
    | (go_at_call 44; refine (isReg_c _ _).mono ?_; rintro e w' ⟨rfl, rfl⟩))
  all_goals (go_ret; refine ⟨ret_int (by simp_all [insB, chkI] <;> (intros; omega)), ?_⟩)
  all_goals (repeat (first | exact Below.refl _ _ | refine below_alloc ?_ _))
theorem checkP_5 : Calls Tryd.prog 15 #[insV 5 d a b imm loc label fence] w fun e w' => e = .returned (.int .i64 (chkI (insB 5 d a b imm loc label fence))) ∧ Below w.heap.size w w' := by
  have _hs := hs
  go_enter Tryd.func15, Tryd.ntmps15
  go_wp2_with (first
    | (go_at_call 42; refine (isName_c _ _ hs).mono ?_; rintro e w' ⟨rfl, rfl⟩)
    | (go_at_call 43; refine (isNumber_c _ _).mono ?_; rintro e w' ⟨rfl, rfl⟩)
    | (go_at_call 44; refine (isReg_c _ _).mono ?_; rintro e w' ⟨rfl, rfl⟩))
  all_goals (go_ret; refine ⟨ret_int (by simp_all [insB, chkI] <;> (intros; omega)), ?_⟩)
  all_goals (repeat (first | exact Below.refl _ _ | refine below_alloc ?_ _))
theorem checkP_no (op : Int) (h1 : (op == 1) = false) (h2 : (op == 2) = false) (h3 : (op == 3) = false) (h4 : (op == 4) = false) (h5 : (op == 5) = false) : Calls Tryd.prog 15 #[insV op d a b imm loc label fence] w fun e w' => e = .returned (.int .i64 (chkI (insB op d a b imm loc label fence))) ∧ Below w.heap.size w w' := by
  have _hs := hs
  go_enter Tryd.func15, Tryd.ntmps15
  go_wp2
  all_goals (go_ret; refine ⟨ret_int (by simp_all [insB, chkI]), ?_⟩)
  all_goals (repeat (first | exact Below.refl _ _ | refine below_alloc ?_ _))
theorem checkP (op : Int) : Calls Tryd.prog 15 #[insV op d a b imm loc label fence] w fun e w' => e = .returned (.int .i64 (chkI (insB op d a b imm loc label fence))) ∧ Below w.heap.size w w' := by
  by_cases h1 : op = 1
  · subst h1; exact checkP_1 d a b imm loc label fence w hs
  by_cases h2 : op = 2
  · subst h2; exact checkP_2 d a b imm loc label fence w hs
  by_cases h3 : op = 3
  · subst h3; exact checkP_3 d a b imm loc label fence w hs
  by_cases h4 : op = 4
  · subst h4; exact checkP_4 d a b imm loc label fence w hs
  by_cases h5 : op = 5
  · subst h5; exact checkP_5 d a b imm loc label fence w hs
  exact checkP_no d a b imm loc label fence w hs op (by simpa using h1) (by simpa using h2) (by simpa using h3) (by simpa using h4) (by simpa using h5)
theorem checkR_1 : Calls Tryd.prog 14 #[insV 1 d a b imm loc label fence] w fun e w' => e = .returned (.int .i64 (chkI (insB 1 d a b imm loc label fence))) ∧ Below w.heap.size w w' := by
  go_enter Tryd.func14, Tryd.ntmps14
  go_wp2_with (first
    | (go_at_call 39; refine (namedR _ _ hs).mono ?_; rintro e w' ⟨rfl, rfl⟩)
    | (go_at_call 40; refine (numberR _ _).mono ?_; rintro e w' ⟨rfl, rfl⟩)
    | (go_at_call 41; refine (regR _ _).mono ?_; rintro e w' ⟨rfl, rfl⟩))
  all_goals (go_ret; refine ⟨ret_int (by simp_all [insB, chkI] <;> (intros; omega)), ?_⟩)
  all_goals (repeat (first | exact Below.refl _ _ | refine below_alloc ?_ _))
theorem checkR_2 : Calls Tryd.prog 14 #[insV 2 d a b imm loc label fence] w fun e w' => e = .returned (.int .i64 (chkI (insB 2 d a b imm loc label fence))) ∧ Below w.heap.size w w' := by
  go_enter Tryd.func14, Tryd.ntmps14
  go_wp2_with (first
    | (go_at_call 39; refine (namedR _ _ hs).mono ?_; rintro e w' ⟨rfl, rfl⟩)
    | (go_at_call 40; refine (numberR _ _).mono ?_; rintro e w' ⟨rfl, rfl⟩)
    | (go_at_call 41; refine (regR _ _).mono ?_; rintro e w' ⟨rfl, rfl⟩))
  all_goals (go_ret; refine ⟨ret_int (by simp_all [insB, chkI] <;> (intros; omega)), ?_⟩)
  all_goals (repeat (first | exact Below.refl _ _ | refine below_alloc ?_ _))
theorem checkR_3 : Calls Tryd.prog 14 #[insV 3 d a b imm loc label fence] w fun e w' => e = .returned (.int .i64 (chkI (insB 3 d a b imm loc label fence))) ∧ Below w.heap.size w w' := by
  go_enter Tryd.func14, Tryd.ntmps14
  go_wp2_with (first
    | (go_at_call 39; refine (namedR _ _ hs).mono ?_; rintro e w' ⟨rfl, rfl⟩)
    | (go_at_call 40; refine (numberR _ _).mono ?_; rintro e w' ⟨rfl, rfl⟩)
    | (go_at_call 41; refine (regR _ _).mono ?_; rintro e w' ⟨rfl, rfl⟩))
  all_goals (go_ret; refine ⟨ret_int (by simp_all [insB, chkI] <;> (intros; omega)), ?_⟩)
  all_goals (repeat (first | exact Below.refl _ _ | refine below_alloc ?_ _))
theorem checkR_4 : Calls Tryd.prog 14 #[insV 4 d a b imm loc label fence] w fun e w' => e = .returned (.int .i64 (chkI (insB 4 d a b imm loc label fence))) ∧ Below w.heap.size w w' := by
  have _hs := hs
  go_enter Tryd.func14, Tryd.ntmps14
  go_wp2_with (first
    | (go_at_call 39; refine (namedR _ _ hs).mono ?_; rintro e w' ⟨rfl, rfl⟩)
    | (go_at_call 40; refine (numberR _ _).mono ?_; rintro e w' ⟨rfl, rfl⟩)
    | (go_at_call 41; refine (regR _ _).mono ?_; rintro e w' ⟨rfl, rfl⟩))
  all_goals (go_ret; refine ⟨ret_int (by simp_all [insB, chkI] <;> (intros; omega)), ?_⟩)
  all_goals (repeat (first | exact Below.refl _ _ | refine below_alloc ?_ _))
theorem checkR_5 : Calls Tryd.prog 14 #[insV 5 d a b imm loc label fence] w fun e w' => e = .returned (.int .i64 (chkI (insB 5 d a b imm loc label fence))) ∧ Below w.heap.size w w' := by
  have _hs := hs
  go_enter Tryd.func14, Tryd.ntmps14
  go_wp2_with (first
    | (go_at_call 39; refine (namedR _ _ hs).mono ?_; rintro e w' ⟨rfl, rfl⟩)
    | (go_at_call 40; refine (numberR _ _).mono ?_; rintro e w' ⟨rfl, rfl⟩)
    | (go_at_call 41; refine (regR _ _).mono ?_; rintro e w' ⟨rfl, rfl⟩))
  all_goals (go_ret; refine ⟨ret_int (by simp_all [insB, chkI] <;> (intros; omega)), ?_⟩)
  all_goals (repeat (first | exact Below.refl _ _ | refine below_alloc ?_ _))
theorem checkR_no (op : Int) (h1 : (op == 1) = false) (h2 : (op == 2) = false) (h3 : (op == 3) = false) (h4 : (op == 4) = false) (h5 : (op == 5) = false) : Calls Tryd.prog 14 #[insV op d a b imm loc label fence] w fun e w' => e = .returned (.int .i64 (chkI (insB op d a b imm loc label fence))) ∧ Below w.heap.size w w' := by
  have _hs := hs
  go_enter Tryd.func14, Tryd.ntmps14
  go_wp2
  all_goals (go_ret; refine ⟨ret_int (by simp_all [insB, chkI]), ?_⟩)
  all_goals (repeat (first | exact Below.refl _ _ | refine below_alloc ?_ _))
theorem checkR (op : Int) : Calls Tryd.prog 14 #[insV op d a b imm loc label fence] w fun e w' => e = .returned (.int .i64 (chkI (insB op d a b imm loc label fence))) ∧ Below w.heap.size w w' := by
  by_cases h1 : op = 1
  · subst h1; exact checkR_1 d a b imm loc label fence w hs
  by_cases h2 : op = 2
  · subst h2; exact checkR_2 d a b imm loc label fence w hs
  by_cases h3 : op = 3
  · subst h3; exact checkR_3 d a b imm loc label fence w hs
  by_cases h4 : op = 4
  · subst h4; exact checkR_4 d a b imm loc label fence w hs
  by_cases h5 : op = 5
  · subst h5; exact checkR_5 d a b imm loc label fence w hs
  exact checkR_no d a b imm loc label fence w hs op (by simpa using h1) (by simpa using h2) (by simpa using h3) (by simpa using h4) (by simpa using h5)
end
end Go.Proofs.YtlpcahkchmlghaaDoor
