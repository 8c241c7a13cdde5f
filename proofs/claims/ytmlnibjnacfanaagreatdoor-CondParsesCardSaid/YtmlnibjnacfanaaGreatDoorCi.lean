/- Layer 8: a node's text, plain; how long it is at most. -/
import Derived.Test.YtmlnibjnacfanaaGreatDoorCe
import Derived.Test.YtmlnibjnacfanaaGreatDoorCf
namespace Go.Proofs.YtmlnibjnacfanaaGreatDoor
open Go.RowKit

def thT (a t r : Int) (l : List UInt8) : List UInt8 := if 0 ≤ t then Lib.itoa t ++ 58 :: regT a r else l
def atomT (a t r : Int) (l : List UInt8) (v : Int) : List UInt8 := thT a t r l ++ 61 :: Lib.itoa v
def sepT (m : Int) : List UInt8 := if m = 4 then [32, 47, 92, 32] else if m = 5 then [32, 92, 47, 32] else []
def brkB (m k : Int) : Bool := if m = 5 then k == 5 else (k == 4 || k == 5)
def brkT (b : Bool) (s : List UInt8) : List UInt8 := if b then 40 :: (s ++ [41]) else s
def ownT (a k t r : Int) (l : List UInt8) (v : Int) (inner : List UInt8) : List UInt8 :=
  if k = 1 then [116, 114, 117, 101] else if k = 2 then atomT a t r l v else if k = 3 then 126 :: inner else inner
/-- The texts of a list's nodes, with the sign between, in brackets where they want them. -/
def txtF (a : Int) : Fr → Int → Bool → List UInt8
  | .nil, _, _ => []
  | .cons k t r l v kids rest, m, first => (if first then [] else sepT m) ++ brkT (brkB m k) (ownT a k t r l v (txtF a kids k true)) ++ txtF a rest m false
def nodeT (a k t r : Int) (l : List UInt8) (v : Int) (kids : Fr) : List UInt8 := ownT a k t r l v (txtF a kids k true)
/-- All nodes may be. -/
def okF (a : Int) : Fr → Prop
  | .nil => True
  | .cons k t r l v kids rest => ownB a k t r l v kids.len = true ∧ okF a kids ∧ okF a rest
theorem okF.at_ {a : Int} : ∀ (f : Fr) (j : Nat) {k t r : Int} {l : List UInt8} {v : Int} {kids rest : Fr}, okF a f → f.drop j = .cons k t r l v kids rest → ownB a k t r l v kids.len = true ∧ okF a kids
  | .nil, 0, _, _, _, _, _, _, _, _, h => by cases h
  | .nil, _ + 1, _, _, _, _, _, _, _, _, h => by cases h
  | .cons _ _ _ _ _ _ _, 0, _, _, _, _, _, _, _, h, e => by cases e; exact ⟨h.1, h.2.1⟩
  | .cons _ _ _ _ _ _ rest, j + 1, _, _, _, _, _, _, _, h, e => okF.at_ rest j h.2.2 e
def Fr.size : Fr → Nat
  | .nil => 0
  | .cons _ _ _ _ _ kids rest => kids.size + rest.size + 1
theorem walkF_ok (a : Int) : ∀ (f : Fr) (met deep : Nat), (walkF a f met deep).2 = 0 → okF a f ∧ (walkF a f met deep).1 = met + f.size
  | .nil, met, _, _ => ⟨trivial, rfl⟩
  | .cons k t r l v kids rest, met, deep, h => by
    unfold walkF at h ⊢
    split at h
    · simp at h
    · rename_i h0
      rw [if_neg h0]
      split at h
      · simp at h
      · rename_i h1
        rw [if_neg h1]
        split at h
        · rename_i h2
          rw [if_pos h2]
          obtain ⟨k1, k2⟩ := walkF_ok a kids _ _ h2
          obtain ⟨r1, r2⟩ := walkF_ok a rest _ _ h
          refine ⟨⟨by simpa using h1, k1, r1⟩, ?_⟩
          rw [r2, k2]
          simp only [Fr.size]; omega
        · rename_i h2
          exact absurd h h2
theorem thingB_loc {a t r : Int} {l : List UInt8} (h : thingB a t r l = true) : l.length ≤ 32 := by
  unfold thingB at h
  split at h
  · simp only [Bool.and_eq_true] at h
    cases l with
    | nil => simp
    | cons c s => simp [nameB] at h; simp; omega
  · simp only [Bool.and_eq_true, List.isEmpty_iff] at h
    rw [h.2]; simp
theorem regL_len : ∀ k : Fin 15, (regL.getD k.val []).length ≤ 4 := by decide
theorem regT_len {a n : Int} (h0 : 0 ≤ n) (h1 : n < regs a) : (regT a n).length ≤ 22 := by
  unfold regT
  split
  · rename_i h
    subst h
    have h15 : n < 15 := by simpa [regs] using h1
    have := regL_len ⟨n.toNat, by omega⟩
    simp only at this; omega
  · have := regs_pos a
    have := Lib.itoa_length_le n (by omega) (by omega)
    simp; omega
theorem thT_len {a t r : Int} {l : List UInt8} (h : thingB a t r l = true) : (thT a t r l).length ≤ 44 := by
  have hl := thingB_loc h
  unfold thT
  split
  · rename_i h0
    unfold thingB at h
    rw [if_neg (by omega)] at h
    simp only [Bool.and_eq_true, decide_eq_true_eq] at h
    have h1 := regT_len (a := a) (n := r) h.1.1.2 h.1.2
    have h2 := Lib.itoa_length_le t (by omega) (by omega)
    simp; omega
  · omega
theorem ownT_len {a k t r : Int} {l : List UInt8} {v : Int} {n : Nat} (h : ownB a k t r l v n = true) (s : List UInt8) : (ownT a k t r l v s).length ≤ s.length + 66 := by
  unfold ownT
  split
  · simp
  · split
    · rename_i h2
      unfold ownB at h
      rw [if_pos h2] at h
      simp only [Bool.and_eq_true] at h
      have h1 := thT_len h.1.1
      have hv := numB_iff h.1.2
      have h3 := Lib.itoa_length_le v (by omega) (by omega)
      simp [atomT]; omega
    · split <;> simp
theorem sepT_len (m : Int) : (sepT m).length ≤ 4 := by unfold sepT; split; · simp
                                                       split <;> simp
theorem brkT_len (b : Bool) (s : List UInt8) : (brkT b s).length ≤ s.length + 2 := by unfold brkT; split <;> simp
theorem txtF_len (a : Int) : ∀ (f : Fr) (m : Int) (b : Bool), okF a f → (txtF a f m b).length ≤ 72 * f.size
  | .nil, _, _, _ => by simp [txtF]
  | .cons k t r l v kids rest, m, b, h => by
    have h1 := txtF_len a kids k true h.2.1
    have h2 := txtF_len a rest m false h.2.2
    have h3 := ownT_len h.1 (txtF a kids k true)
    have h4 := brkT_len (brkB m k) (ownT a k t r l v (txtF a kids k true))
    have h5 := sepT_len m
    have h6 : (if b then [] else sepT m).length ≤ 4 := by
      split
      · simp
      · omega
    simp only [txtF, Fr.size, List.length_append]
    omega
end Go.Proofs.YtmlnibjnacfanaaGreatDoor
