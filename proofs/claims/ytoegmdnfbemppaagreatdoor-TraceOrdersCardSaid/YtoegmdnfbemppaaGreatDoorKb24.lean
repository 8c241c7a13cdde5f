/- Layer 10: the reference's Links. -/
import Derived.Test.YtoegmdnfbemppaaGreatDoorKb11
import Derived.Test.YtoegmdnfbemppaaGreatDoorKb18
import Derived.Test.YtoegmdnfbemppaaGreatDoorKb19
import Derived.BigQuiet
import Derived.Outline
namespace Go.Proofs.YtoegmdnfbemppaaGreatDoor
open Go.RowKit

def LnkPostR (c : List Ins) (w : World) (e : Ending) (w' : World) : Prop :=
  (((lnkE c).1 ≠ 0 ∧ e = .returned (.tuple #[.slice none 0 0, .int .i64 (lnkE c).1, .int .i64 ((lnkE c).2 : Int)])) ∨
    ((lnkE c).1 = 0 ∧ ∃ A cap, e = .returned (.tuple #[.slice A c.length cap, .int .i64 0, .int .i64 0]) ∧ encI.At w' A (lnkL c))) ∧ Below w.heap.size w w'
theorem LnkPostR.bad {c : List Ins} {w w' : World} {e : Ending} (h : (lnkE c).1 ≠ 0) (he : e = .returned (.tuple #[.slice none 0 0, .int .i64 (lnkE c).1, .int .i64 ((lnkE c).2 : Int)])) (hb : Below w.heap.size w w') : LnkPostR c w e w' := ⟨Or.inl ⟨h, he⟩, hb⟩
/-- Behind a label's search from i on, up to k. -/
def AtB (c : List Ins) (i : Nat) (s : List UInt8) (k : Nat) (at_ : Int) : Prop :=
  (at_ = -1 ∧ ∀ j x, i < j → j < k → c[j]? = some x → labB s x = false) ∨
    ∃ m : Nat, at_ = (m : Int) ∧ k = m + 1 ∧ i < m ∧ (c.drop (i + 1)).findIdx? (labB s) = some (m - (i + 1))
theorem AtB.start (c : List Ins) (i : Nat) (s : List UInt8) : AtB c i s (i + 1) (-1) := Or.inl ⟨rfl, fun j x h1 h2 => by omega⟩
theorem AtB.more {c : List Ins} {i k : Nat} {s : List UInt8} (h : ∀ j x, i < j → j < k → c[j]? = some x → labB s x = false) (_hik : i + 1 ≤ k) {y : Ins} (hy : c[k]? = some y) (hl : labB s y = false) : AtB c i s (k + 1) (-1) := by
  refine Or.inl ⟨rfl, fun j x h1 h2 h3 => ?_⟩
  by_cases e : j = k
  · subst e; rw [hy] at h3; cases h3; exact hl
  · exact h j x h1 (by omega) h3
theorem AtB.none {c : List Ins} {i k : Nat} {s : List UInt8} (h : ∀ j x, i < j → j < k → c[j]? = some x → labB s x = false) (hk : c.length ≤ k) : (c.drop (i + 1)).any (labB s) = false := by
  rw [List.any_eq_false]
  intro x hx
  obtain ⟨j, hj⟩ := List.getElem?_of_mem hx
  rw [List.getElem?_drop] at hj
  rw [h _ x (by omega) (by have := (List.getElem?_eq_some_iff.1 hj).1; omega) hj]; simp
section
set_option maxHeartbeats 4000000
set_option maxRecDepth 100000
end
end Go.Proofs.YtoegmdnfbemppaaGreatDoor
