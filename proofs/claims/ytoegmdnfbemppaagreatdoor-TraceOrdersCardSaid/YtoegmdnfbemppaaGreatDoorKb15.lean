/- Layer 8: the reference's gather, walked at an atom. Layer 8: the reference's gather at every node, and Things. Layer 8: the reference's holds, walked. -/
import Derived.Test.YtoegmdnfbemppaaGreatDoorKb11
import Derived.Test.YtoegmdnfbemppaaGreatDoorKb12

namespace Go.Proofs.YtoegmdnfbemppaaGreatDoor
open Go.RowKit

theorem GaPost.mk {N : Nat} {T : List Th} {w w' : World} {B : Nat} {v : Value} (hN : N ≤ B) (h : w'.ownsRow B 25 3 v T.length (thCells T)) (hb : Below w.heap.size w w') : GaPost N T w (.returned v) w' := by
  obtain ⟨A, cap, rfl, ht⟩ := own_thsB h
  exact ⟨A, cap, rfl, ⟨ht, fun p hp => by
    subst hp
    rcases h.2 with ⟨e, _⟩ | ⟨g, cap', cur, e, h1, _⟩
    · cases e
    · simp only [Value.slice.injEq, Option.some.injEq] at e
      rw [e.1]; exact Nat.le_trans hN h1⟩, hb⟩
section
variable {w : World} {t r v : Int} {l : List UInt8}
end

/-- What gather does at one node. -/
def NodeG (k t r : Int) (l : List UInt8) (v : Int) (kids : Fr) : Prop :=
  ∀ (w : World) (hi : Nat) (kv : Value) (A : Option Addr) (cap : Nat) (L : List Th) (N : Nat), N ≤ w.heap.size → hi ≤ w.heap.size → SlAt w hi kv kids → ThsN N w A L → L.length + 1 + kids.all ≤ 1000000 →
    Calls Tryz.prog 100 #[nodeV k t r l v kv, .slice A L.length cap] w (GaPost N (gatL (atL k t r l ++ atomsF kids) L) w)
def AllG : Fr → Prop
  | .nil => True
  | .cons k t r l v kids rest => NodeG k t r l v kids ∧ AllG rest
theorem AllG.at_ : ∀ (f : Fr) (j : Nat) {k t r : Int} {l : List UInt8} {v : Int} {kids rest : Fr}, AllG f → f.drop j = .cons k t r l v kids rest → NodeG k t r l v kids
  | .nil, 0, _, _, _, _, _, _, _, _, h => by cases h
  | .nil, _ + 1, _, _, _, _, _, _, _, _, h => by cases h
  | .cons _ _ _ _ _ _ _, 0, _, _, _, _, _, _, _, h, e => by cases e; exact h.1
  | .cons _ _ _ _ _ _ rest, j + 1, _, _, _, _, _, _, _, h, e => AllG.at_ rest j h.2 e
section
variable {k t r v : Int} {l : List UInt8} {kids : Fr}
end

section
variable {T : List Th} {st : List Int} {k t r v : Int} {l : List UInt8} {kids : Fr}
end
end Go.Proofs.YtoegmdnfbemppaaGreatDoor
