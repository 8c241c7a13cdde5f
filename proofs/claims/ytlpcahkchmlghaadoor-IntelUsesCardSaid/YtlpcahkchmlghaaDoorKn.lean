/- The plain law of IntelUses: other registers stay, and those that are not read do not matter. -/
import Derived.Test.YtlpcahkchmlghaaDoorKm
import Derived.Test.YtlpcahkchmlghaaDoorKd
namespace Go.Proofs.YtlpcahkchmlghaaDoor
open Go.RowKit

theorem doR_len {op d a imm : Int} {loc : List UInt8} {vs vs' : List (List UInt8 × Int)} {act : Value} (h : doR op d a imm loc vs = some (vs', act)) : vs'.length = vs.length := by
  unfold doR at h
  split at h
  · cases h; rfl
  · split at h
    · split at h <;> cases h
      rfl
    · split at h
      · cases h; rfl
      · split at h <;> (cases h; simp)
theorem uses_stay {op d a imm : Int} {loc : List UInt8} (hi : insB op d a 0 imm ⟨loc.toArray⟩ ⟨#[]⟩ 0 = true) {vs vs' : List (List UInt8 × Int)} {act : Value} (h : doR op d a imm loc vs = some (vs', act)) (k : Nat) (hk : k < vs.length) (hk' : k < vs'.length) (hw : (k : Int) ≠ usesW op d) : vs'[k] = vs[k] := by
  rcases insB_op hi with rfl | rfl | rfl | rfl | rfl
  · cases h; rfl
  · unfold doR at h
    rw [if_neg (by decide), if_pos rfl] at h
    split at h <;> cases h
    rfl
  · cases h; rfl
  · have hd := (insB_4 hi).2.1
    obtain ⟨q, hq, rfl⟩ := regB_nat hd
    have e : (vs.set q ([], imm), actV 1 ⟨#[]⟩ 0 0 0) = (vs', act) := Option.some.inj h
    injection e with e1 e2
    subst e1
    have : q ≠ k := by rintro rfl; exact hw rfl
    rw [List.getElem_set_ne this]
  · cases h; rfl
theorem uses_other {op d a imm : Int} {loc : List UInt8} (hi : insB op d a 0 imm ⟨loc.toArray⟩ ⟨#[]⟩ 0 = true) {at_ : Int} {vs vs' : List (List UInt8 × Int)} {act : Value} (ht : threadB 15 at_ vs = true) (h : doR op d a imm loc vs = some (vs', act)) (r : Nat) (x : List UInt8 × Int) (hx : valB x = true)
    (hw : (r : Int) ≠ usesW op d) (hr : ∀ y ∈ usesL op a, y ≠ (r : Int)) : threadB 15 at_ (vs.set r x) = true ∧ doR op d a imm loc (vs.set r x) = some (vs'.set r x, act) := by
  constructor
  · unfold threadB at ht ⊢
    simp only [Bool.and_eq_true, decide_eq_true_eq, List.length_set, List.all_eq_true] at ht ⊢
    refine ⟨ht.1, fun y hy => ?_⟩
    rcases List.mem_or_eq_of_mem_set hy with h1 | h1
    · exact ht.2 y h1
    · rw [h1]; exact hx
  · rcases insB_op hi with rfl | rfl | rfl | rfl | rfl
    · cases h; rfl
    · have ha := (insB_2 hi).2.1
      obtain ⟨q, hq, rfl⟩ := regB_nat ha
      have hne : r ≠ q := by
        rintro rfl
        exact hr (r : Int) (by simp [usesL]) rfl
      have hg : (vs.set r x).getD ((q : Int)).toNat ([], 0) = vs.getD ((q : Int)).toNat ([], 0) := by
        rw [Int.toNat_natCast, List.getD_eq_getElem?_getD, List.getD_eq_getElem?_getD, List.getElem?_set_ne hne]
      unfold doR at h ⊢
      rw [if_neg (by decide), if_pos rfl] at h ⊢
      rw [hg]
      split at h
      · rename_i hl; rw [if_pos hl]; cases h; rfl
      · cases h
    · cases h; rfl
    · have hd := (insB_4 hi).2.1
      obtain ⟨q, hq, rfl⟩ := regB_nat hd
      have e : (vs.set q ([], imm), actV 1 ⟨#[]⟩ 0 0 0) = (vs', act) := Option.some.inj h
      injection e with e1 e2
      subst e1 e2
      have hne : r ≠ q := by rintro rfl; exact hw rfl
      show some ((vs.set r x).set q ([], imm), actV 1 ⟨#[]⟩ 0 0 0) = _
      rw [List.set_comm x ([], imm) hne]
    · cases h; rfl
theorem set_back {vs' : List (List UInt8 × Int)} (r : Nat) (hr : r < vs'.length) (x : List UInt8 × Int) : (vs'.set r x).set r vs'[r] = vs' := by
  rw [List.set_set, List.set_getElem_self]
end Go.Proofs.YtlpcahkchmlghaaDoor
