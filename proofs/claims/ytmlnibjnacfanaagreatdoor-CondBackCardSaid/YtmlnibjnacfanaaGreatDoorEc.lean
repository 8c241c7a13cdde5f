/- Layer 8: the order of things: plain. -/
import Derived.Sort.Statements
import Derived.Test.YtmlnibjnacfanaaGreatDoorEb
namespace Go.Proofs.YtmlnibjnacfanaaGreatDoor
open Go.RowKit

/-- A thing that may be. -/
def VTh : Type := {x : Th // thingB 2 x.1 x.2.1 x.2.2 = true}
theorem cmpB_irr : ∀ a, Lib.compareBytes a a = 0
  | [] => rfl
  | x :: r => by simp [Lib.compareBytes, cmpB_irr r]
theorem cmpB_lt (x y : UInt8) (r q : List UInt8) : Lib.compareBytes (x :: r) (y :: q) < 0 ↔ x.toNat < y.toNat ∨ (x.toNat = y.toNat ∧ Lib.compareBytes r q < 0) := by
  simp only [Lib.compareBytes, UInt8.lt_iff_toNat_lt]
  by_cases h1 : x.toNat < y.toNat
  · simp [h1]
  · by_cases h2 : y.toNat < x.toNat
    · simp only [if_neg h1, if_pos h2]
      omega
    · simp only [if_neg h1, if_neg h2]
      omega
theorem cmpB_trans : ∀ a b c, Lib.compareBytes a b < 0 → Lib.compareBytes b c < 0 → Lib.compareBytes a c < 0
  | [], [], _, h, _ => by simp [Lib.compareBytes] at h
  | [], _ :: _, [], _, h => by simp [Lib.compareBytes] at h
  | [], _ :: _, _ :: _, _, _ => by simp [Lib.compareBytes]
  | _ :: _, [], _, h, _ => by simp [Lib.compareBytes] at h
  | _ :: _, _ :: _, [], _, h => by simp [Lib.compareBytes] at h
  | x :: a, y :: b, z :: c, h, k => by
    rw [cmpB_lt] at h k ⊢
    have ih := cmpB_trans a b c
    rcases h with h | ⟨h, h'⟩ <;> rcases k with k | ⟨k, k'⟩
    · left; omega
    · left; omega
    · left; omega
    · exact .inr ⟨by omega, ih h' k'⟩
theorem cmpB_ntrans : ∀ a b c, ¬ Lib.compareBytes a b < 0 → ¬ Lib.compareBytes b c < 0 → ¬ Lib.compareBytes a c < 0
  | [], [], _, _, k => k
  | [], _ :: _, _, h, _ => by simp [Lib.compareBytes] at h
  | _ :: _, _, [], _, _ => by simp [Lib.compareBytes]
  | _ :: _, [], _ :: _, _, k => by simp [Lib.compareBytes] at k
  | x :: a, y :: b, z :: c, h, k => by
    rw [cmpB_lt] at h k ⊢
    have ih := cmpB_ntrans a b c
    rintro (h1 | ⟨h1, h2⟩)
    · exact absurd h1 (by omega)
    · by_cases h3 : x.toNat = y.toNat
      · have a1 : ¬ Lib.compareBytes a b < 0 := fun e => h (.inr ⟨h3, e⟩)
        have a2 : ¬ Lib.compareBytes b c < 0 := fun e => k (.inr ⟨by omega, e⟩)
        exact ih a1 a2 h2
      · omega
theorem cmpB_eq : ∀ a b, ¬ Lib.compareBytes a b < 0 → ¬ Lib.compareBytes b a < 0 → a = b
  | [], [], _, _ => rfl
  | [], _ :: _, h, _ => by simp [Lib.compareBytes] at h
  | _ :: _, [], _, h => by simp [Lib.compareBytes] at h
  | x :: r, y :: q, h, k => by
    rw [cmpB_lt] at h k
    have he : x.toNat = y.toNat := by omega
    have h1 : ¬ Lib.compareBytes r q < 0 := fun e => h (.inr ⟨he, e⟩)
    have k1 : ¬ Lib.compareBytes q r < 0 := fun e => k (.inr ⟨he.symm, e⟩)
    rw [UInt8.toNat_inj.1 he, cmpB_eq r q h1 k1]
theorem vth_parts (x : VTh) : (x.1.1 = -1 ∧ x.1.2.1 = 0 ∧ x.1.2.2.length ≤ 32) ∨ (0 ≤ x.1.1 ∧ x.1.1 < 16 ∧ 0 ≤ x.1.2.1 ∧ x.1.2.1 < 32 ∧ x.1.2.2 = []) := by
  have h := x.2
  unfold thingB at h
  split at h
  · rename_i h1
    simp at h
    refine .inl ⟨h1, h.1, ?_⟩
    have h2 := h.2
    revert h2
    cases x.1.2.2 with
    | nil => simp
    | cons c r => simp [nameB]; omega
  · simp [regs] at h
    exact .inr ⟨h.1.1.1.1, h.1.1.1.2, h.1.1.2, h.1.2, h.2⟩
def ltT (x y : VTh) : Bool := decide (standC x.1 y.1 < 0)
theorem ltT_iff (x y : VTh) : ltT x y = true ↔ (x.1.1 = -1 ∧ y.1.1 = -1 ∧ Lib.compareBytes x.1.2.2 y.1.2.2 < 0) ∨ (x.1.1 ≠ -1 ∧ y.1.1 = -1) ∨ (x.1.1 ≠ -1 ∧ y.1.1 ≠ -1 ∧ (x.1.1 < y.1.1 ∨ (x.1.1 = y.1.1 ∧ x.1.2.1 < y.1.2.1))) := by
  unfold ltT
  rw [decide_eq_true_iff]
  unfold standC
  by_cases h1 : x.1.1 = -1 <;> by_cases h2 : y.1.1 = -1
  · simp [h1, h2]
  · simp [h1, h2]
  · simp [h1, h2]
  · by_cases h3 : x.1.1 = y.1.1
    · simp [h2, h3]; omega
    · simp [h1, h2, h3]; omega
theorem ltT_swo : Sort.SWO ltT where
  irrefl x := by
    rw [Bool.eq_false_iff]
    intro h
    rw [ltT_iff] at h
    have := cmpB_irr x.1.2.2
    omega
  trans x y z h k := by
    rw [ltT_iff] at h k ⊢
    have ht := cmpB_trans x.1.2.2 y.1.2.2 z.1.2.2
    rcases h with ⟨a, b, c⟩ | ⟨a, b⟩ | ⟨a, b, c⟩ <;> rcases k with ⟨a', b', c'⟩ | ⟨a', b'⟩ | ⟨a', b', c'⟩
    · exact .inl ⟨a, b', ht c c'⟩
    all_goals omega
  ntrans x y z h k := by
    rw [Bool.eq_false_iff] at h k ⊢
    rw [Ne, ltT_iff] at h k ⊢
    have ht := cmpB_ntrans x.1.2.2 y.1.2.2 z.1.2.2
    intro hh
    rcases hh with ⟨a, b, c⟩ | ⟨a, b⟩ | ⟨a, b, c⟩
    · by_cases hy : y.1.1 = -1
      · exact ht (fun e => h (.inl ⟨a, hy, e⟩)) (fun e => k (.inl ⟨hy, b, e⟩)) c
      · exact k (.inr (.inl ⟨hy, b⟩))
    · by_cases hy : y.1.1 = -1
      · exact h (.inr (.inl ⟨a, hy⟩))
      · exact k (.inr (.inl ⟨hy, b⟩))
    · by_cases hy : y.1.1 = -1
      · exact h (.inr (.inl ⟨a, hy⟩))
      · have h' : ¬ (x.1.1 < y.1.1 ∨ (x.1.1 = y.1.1 ∧ x.1.2.1 < y.1.2.1)) := fun e => h (.inr (.inr ⟨a, hy, e⟩))
        have k' : ¬ (y.1.1 < z.1.1 ∨ (y.1.1 = z.1.1 ∧ y.1.2.1 < z.1.2.1)) := fun e => k (.inr (.inr ⟨hy, b, e⟩))
        omega
theorem ltT_total (x y : VTh) (h : ltT x y = false) (k : ltT y x = false) : x = y := by
  rw [Bool.eq_false_iff, Ne, ltT_iff] at h k
  have hx := vth_parts x
  have hy := vth_parts y
  apply Subtype.ext
  have h1 : x.1.1 = y.1.1 := by omega
  have h2 : x.1.2.1 = y.1.2.1 := by omega
  have h3 : x.1.2.2 = y.1.2.2 := by
    by_cases hl : x.1.1 = -1
    · exact cmpB_eq _ _ (fun e => h (.inl ⟨hl, by omega, e⟩)) (fun e => k (.inl ⟨by omega, hl, e⟩))
    · rcases hx with hx | hx
      · exact absurd hx.1 hl
      · rcases hy with hy | hy
        · omega
        · rw [hx.2.2.2.2, hy.2.2.2.2]
  obtain ⟨⟨a, b, c⟩, _⟩ := x
  obtain ⟨⟨a', b', c'⟩, _⟩ := y
  simp only at h1 h2 h3
  subst h1 h2 h3
  rfl
end Go.Proofs.YtmlnibjnacfanaaGreatDoor
