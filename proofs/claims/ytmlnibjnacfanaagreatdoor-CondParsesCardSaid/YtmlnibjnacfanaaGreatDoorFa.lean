/- Layer 8: numbers and their texts, plain. -/
import Derived.Test.YtmlnibjnacfanaaGreatDoorDa
import Derived.Lib.AtoiTie
import Derived.Lib.ItoaLen
namespace Go.Proofs.YtmlnibjnacfanaaGreatDoor
open Go.RowKit

theorem digit_range {c : UInt8} (h : digitB c = true) : 48 ≤ (c.toNat : Int) ∧ (c.toNat : Int) ≤ 57 := by simpa [digitB] using h
def evalD (l : List UInt8) : Int := l.foldl (fun n c => if digitB c then 10 * n + ((c.toNat : Int) - 48) else n) 0
theorem evalD_snoc (l : List UInt8) (c : UInt8) : evalD (l ++ [c]) = if digitB c then 10 * evalD l + ((c.toNat : Int) - 48) else evalD l := by simp [evalD]
theorem evalD_bound : ∀ (n : Nat) (l : List UInt8), l.length = n → 0 ≤ evalD l ∧ evalD l < 10 ^ n := by
  intro n
  induction n with
  | zero => intro l h; have : l = [] := List.eq_nil_of_length_eq_zero h; subst this; simp [evalD]
  | succ n ih =>
    intro l h
    have hne : l ≠ [] := by intro e; subst e; simp at h
    obtain ⟨l', c, rfl⟩ : ∃ l' c, l = l' ++ [c] := ⟨l.dropLast, l.getLast hne, (List.dropLast_concat_getLast hne).symm⟩
    have h' : l'.length = n := by simpa using h
    obtain ⟨i1, i2⟩ := ih l' h'
    rw [evalD_snoc, Int.pow_succ]
    split
    · rename_i hd
      have := digit_range hd
      omega
    · omega
theorem evalD_le (l : List UInt8) (h : l.length ≤ 11) : 0 ≤ evalD l ∧ evalD l ≤ 99999999999 := by
  have h1 := evalD_bound l.length l rfl
  refine ⟨h1.1, ?_⟩
  have h2 : (10 : Int) ^ l.length ≤ 10 ^ 11 := by
    have := Nat.pow_le_pow_right (n := 10) (by omega) h
    exact_mod_cast this
  omega
theorem ofNat_digit (d : Nat) (h : d < 10) : digitB (UInt8.ofNat (48 + d)) = true := by
  have : (UInt8.ofNat (48 + d)).toNat = 48 + d := by simp; omega
  simp [digitB]; omega
theorem decDigits_digit : ∀ (n u : Nat), u ≤ n → ∀ c ∈ Lib.decDigits u, digitB c = true := by
  intro n
  induction n with
  | zero => intro u h c hc; have : u = 0 := by omega
            subst this
            rw [Lib.decDigits_one (by omega)] at hc
            simp at hc; subst hc; decide
  | succ n ih =>
    intro u h c hc
    rw [Lib.decDigits] at hc
    split at hc
    · rename_i hu
      rw [List.mem_singleton] at hc; subst hc; exact ofNat_digit u hu
    · rename_i hu
      rcases List.mem_append.1 hc with hc | hc
      · exact ih (u / 10) (by omega) c hc
      · rw [List.mem_singleton] at hc; subst hc; exact ofNat_digit _ (by omega)
theorem digitVal_ofNat (d : Nat) (h : d < 10) : Lib.digitVal (UInt8.ofNat (48 + d)) = some d := by
  have : ∀ d : Fin 10, Lib.digitVal (UInt8.ofNat (48 + d.val)) = some d.val := by decide +kernel
  exact this ⟨d, h⟩
theorem decFrom_snoc (c : UInt8) (d : Nat) (hd : Lib.digitVal c = some d) : ∀ (l : List UInt8) (acc n : Nat), Lib.decFrom acc l = some n → Lib.decFrom acc (l ++ [c]) = some (n * 10 + d)
  | [], acc, n, h => by simp [Lib.decFrom] at h; subst h; simp [Lib.decFrom, hd]
  | b :: r, acc, n, h => by
    simp only [Lib.decFrom, List.cons_append] at h ⊢
    cases e : Lib.digitVal b with
    | none => rw [e] at h; cases h
    | some x => rw [e] at h; exact decFrom_snoc c d hd r _ n h
theorem dec_facts : ∀ (n u : Nat), u ≤ n → Lib.decFrom 0 (Lib.decDigits u) = some u ∧ evalD (Lib.decDigits u) = (u : Int) ∧ ∃ b r, Lib.decDigits u = b :: r ∧ digitB b = true ∧ ((b.toNat : Int) = 48 → u = 0) := by
  intro n
  induction n with
  | zero =>
    intro u h
    have : u = 0 := by omega
    subst this
    rw [Lib.decDigits_one (by omega)]
    exact ⟨by decide, by decide, _, _, rfl, by decide, fun _ => rfl⟩
  | succ n ih =>
    intro u h
    by_cases hu : u < 10
    · rw [Lib.decDigits_one hu]
      have hv : (UInt8.ofNat (48 + u)).toNat = 48 + u := by simp; omega
      refine ⟨by simp only [Lib.decFrom, digitVal_ofNat u hu]; simp, ?_, _, _, rfl, ofNat_digit u hu, fun h48 => by omega⟩
      have := evalD_snoc [] (UInt8.ofNat (48 + u))
      rw [List.nil_append, if_pos (ofNat_digit u hu), hv] at this
      rw [this]
      have : evalD [] = 0 := rfl
      rw [this]; omega
    · obtain ⟨h1, h2, b, r, h3, h4, h5⟩ := ih (u / 10) (by omega)
      rw [Lib.decDigits, dif_neg hu]
      have hv : (UInt8.ofNat (48 + u % 10)).toNat = 48 + u % 10 := by simp; omega
      refine ⟨by rw [decFrom_snoc _ (u % 10) (digitVal_ofNat _ (by omega)) _ _ _ h1]; congr 1; omega, ?_, b, r ++ [UInt8.ofNat (48 + u % 10)], by rw [h3]; simp, h4, fun h48 => by have := h5 h48; omega⟩
      rw [evalD_snoc, if_pos (ofNat_digit _ (by omega)), h2, hv]
      omega
theorem nDigits_le : ∀ (k u : Nat), u < 10 ^ (k + 1) → Lib.nDigits u ≤ k + 1 := by
  intro k
  induction k with
  | zero => intro u h; rw [Lib.nDigits_small (by simpa using h)]; omega
  | succ k ih =>
    intro u h
    by_cases hu : u < 10
    · rw [Lib.nDigits_small hu]; omega
    · rw [Lib.nDigits_big hu]
      have := ih (u / 10) (by rw [Nat.pow_succ] at h; omega)
      omega
theorem dec_len {u : Nat} (h : u ≤ 2147483648) : (Lib.decDigits u).length ≤ 10 := by
  rw [Lib.decDigits_length]; exact nDigits_le 9 u (by omega)
theorem itoa_len {v : Int} (h : numB v = true) : 1 ≤ (Lib.itoa v).length ∧ (Lib.itoa v).length ≤ 11 := by
  have hb := numB_iff h
  unfold Lib.itoa
  split
  · have := dec_len (u := v.natAbs) (by omega)
    simp; omega
  · have h1 := dec_len (u := v.toNat) (by omega)
    obtain ⟨_, _, b, r, h3, _⟩ := dec_facts v.toNat v.toNat (Nat.le_refl _)
    rw [h3] at h1 ⊢
    simp at h1 ⊢; omega
theorem itoa_num {v : Int} (h : numB v = true) : atoiB (Lib.itoa v) = true ∧ atoiN (Lib.itoa v) = v := by
  obtain ⟨hl1, hl2⟩ := itoa_len h
  have hi : Lib.atoi (Lib.itoa v) = some v := by
    unfold Lib.itoa
    split
    · rename_i hv
      obtain ⟨h1, h2, b, r, h3, h4, _⟩ := dec_facts v.natAbs v.natAbs (Nat.le_refl _)
      have : Lib.decNat (Lib.decDigits v.natAbs) = some v.natAbs := by
        unfold Lib.decNat
        rw [h1, h3]; rfl
      simp only [Lib.atoi, beq_self_eq_true, if_true, this, Option.map_some]
      congr 1; omega
    · rename_i hv
      obtain ⟨h1, h2, b, r, h3, h4, _⟩ := dec_facts v.toNat v.toNat (Nat.le_refl _)
      have hb := digit_range h4
      have hb45 : b ≠ 45 := by rintro rfl; revert hb; decide
      have hb43 : b ≠ 43 := by rintro rfl; revert hb; decide
      have : Lib.decNat (Lib.decDigits v.toNat) = some v.toNat := by
        unfold Lib.decNat
        rw [h1, h3]; rfl
      rw [h3] at this ⊢
      simp only [Lib.atoi, beq_eq_false_iff_ne.2 hb45, beq_eq_false_iff_ne.2 hb43, this, Option.map_some]
      simp; omega
  have hall : Lib.atoiAll (Lib.itoa v) = .ok v := by rw [Lib.atoiAll_short _ (by omega), hi]; rfl
  exact ⟨by simp [atoiB, hall], by simp [atoiN, hall]⟩
theorem numIn_itoa {lo hi v : Int} (h : numB v = true) (h1 : lo ≤ v) (h2 : v ≤ hi) : numIn lo hi (Lib.itoa v) = some v := by
  obtain ⟨a, b⟩ := itoa_num h
  simp [numIn, a, b, h1, h2]

/-- Digits with no zero ahead are the number's own. -/
theorem dec_eval : ∀ (n : Nat) (l : List UInt8), l.length ≤ n → l ≠ [] → (∀ c ∈ l, digitB c = true) → (l.head? = some 48 → l.length = 1) → Lib.decDigits (evalD l).toNat = l := by
  intro n
  induction n with
  | zero => intro l h hne; exact absurd (List.eq_nil_of_length_eq_zero (by omega)) hne
  | succ n ih =>
    intro l h hne hd h0
    obtain ⟨l', c, rfl⟩ : ∃ l' c, l = l' ++ [c] := ⟨l.dropLast, l.getLast hne, (List.dropLast_concat_getLast hne).symm⟩
    have hc := hd c (by simp)
    have hr := digit_range hc
    have he : evalD (l' ++ [c]) = 10 * evalD l' + ((c.toNat : Int) - 48) := by rw [evalD_snoc, if_pos hc]
    have hcc : UInt8.ofNat (48 + (c.toNat - 48)) = c := by
      rw [show 48 + (c.toNat - 48) = c.toNat by omega]; simp
    rw [he]
    by_cases hl' : l' = []
    · subst hl'
      have : evalD [] = 0 := rfl
      rw [this, show (10 * 0 + ((c.toNat : Int) - 48)).toNat = c.toNat - 48 by omega, Lib.decDigits_one (by omega), hcc]; rfl
    · have hb := evalD_bound l'.length l' rfl
      have hi := ih l' (by simp at h; omega) hl' (fun d hd' => hd d (by simp [hd'])) (fun hh => by
        cases l' with
        | nil => exact absurd rfl hl'
        | cons d r =>
          have := h0 (by simpa using hh)
          simp at this)
      have hpos : evalD l' ≠ 0 := by
        intro e0
        rw [e0, show (0 : Int).toNat = 0 from rfl, Lib.decDigits_one (by omega)] at hi
        have := h0 (by rw [← hi]; rfl)
        rw [← hi] at this
        simp at this
      have hq : (10 * evalD l' + ((c.toNat : Int) - 48)).toNat / 10 = (evalD l').toNat := by omega
      have hm : (10 * evalD l' + ((c.toNat : Int) - 48)).toNat % 10 = c.toNat - 48 := by omega
      rw [Lib.decDigits, dif_neg (by omega), hq, hm, hi, hcc]
/-- The reference's number of a text. -/
def numT : List UInt8 → Option Int
  | [] => none
  | c :: r =>
    if 10 < r.length then none
    else if c = 45 then (if r = [] ∨ r.head? = some 48 then none else if r.all digitB then (if numB (0 - evalD r) then some (0 - evalD r) else none) else none)
    else if c = 48 ∧ r ≠ [] then none
    else if (c :: r).all digitB then (if numB (evalD (c :: r)) then some (evalD (c :: r)) else none) else none
theorem numT_itoa {v : Int} (h : numB v = true) : numT (Lib.itoa v) = some v := by
  obtain ⟨hl1, hl2⟩ := itoa_len h
  have hb := numB_iff h
  revert hl2
  unfold Lib.itoa
  split
  · rename_i hv
    obtain ⟨h1, h2, b, r, h3, h4, h5⟩ := dec_facts v.natAbs v.natAbs (Nat.le_refl _)
    have hall : (Lib.decDigits v.natAbs).all digitB = true := by simpa using decDigits_digit _ _ (Nat.le_refl v.natAbs)
    intro hl2
    have e1 : 0 - evalD (Lib.decDigits v.natAbs) = v := by rw [h2]; omega
    have hn : ¬ (Lib.decDigits v.natAbs = [] ∨ (Lib.decDigits v.natAbs).head? = some 48) := by
      rw [h3]
      rintro (e | e)
      · cases e
      · simp at e
        subst e
        have := h5 (by decide)
        omega
    simp only [numT, List.length_cons] at hl2 ⊢
    rw [if_neg (by omega), if_pos trivial, if_neg hn, if_pos hall, e1, if_pos h]
  · rename_i hv
    obtain ⟨h1, h2, b, r, h3, h4, h5⟩ := dec_facts v.toNat v.toNat (Nat.le_refl _)
    have hall : (Lib.decDigits v.toNat).all digitB = true := by simpa using decDigits_digit _ _ (Nat.le_refl v.toNat)
    have hbr := digit_range h4
    have hb45 : b ≠ 45 := by rintro rfl; revert hbr; decide
    have e1 : evalD (Lib.decDigits v.toNat) = v := by rw [h2]; omega
    intro hl2
    have hz : ¬ (b = 48 ∧ r ≠ []) := by
      rintro ⟨rfl, hr⟩
      have := h5 (by decide)
      rw [this, Lib.decDigits_one (by omega)] at h3
      simp at h3
      exact hr h3
    rw [h3] at hl2 hall e1 ⊢
    simp only [numT, List.length_cons] at hl2 ⊢
    rw [if_neg (by omega), if_neg hb45, if_neg hz, if_pos hall, e1, if_pos h]
theorem numT_some {l : List UInt8} {v : Int} (h : numT l = some v) : numB v = true ∧ Lib.itoa v = l := by
  cases l with
  | nil => cases h
  | cons c r =>
    simp only [numT] at h
    split at h
    · cases h
    · split at h
      · rename_i hc
        split at h
        · cases h
        · rename_i hr
          split at h
          · rename_i hall
            split at h
            · rename_i hn
              injection h with h
              subst h
              refine ⟨hn, ?_⟩
              have hb := evalD_bound r.length r rfl
              have hd := dec_eval r.length r (Nat.le_refl _) (fun e => hr (.inl e)) (by simpa using hall) (fun e => absurd (.inr e) hr)
              have hp : evalD r ≠ 0 := by
                intro e0
                rw [e0, show (0 : Int).toNat = 0 from rfl, Lib.decDigits_one (by omega)] at hd
                exact hr (.inr (by rw [← hd]; rfl))
              unfold Lib.itoa
              rw [if_pos (by omega), show (0 - evalD r).natAbs = (evalD r).toNat by omega, hd, hc]
            · cases h
          · cases h
      · split at h
        · cases h
        · rename_i hz
          split at h
          · rename_i hall
            split at h
            · rename_i hn
              injection h with h
              subst h
              refine ⟨hn, ?_⟩
              have hb := evalD_bound (c :: r).length (c :: r) rfl
              have hd := dec_eval (c :: r).length (c :: r) (Nat.le_refl _) (by simp) (by simpa using hall) (fun e => by
                simp at e
                have : r = [] := by
                  cases r with
                  | nil => rfl
                  | cons d r' => exact absurd ⟨e, by simp⟩ hz
                rw [this]; rfl)
              unfold Lib.itoa
              rw [if_neg (by omega), hd]
            · cases h
          · cases h
/-- Both sides read the same numbers. -/
theorem numIn_R (l : List UInt8) : numIn (-2147483648) 2147483647 l = numT l := by
  cases h : numT l with
  | some v =>
    obtain ⟨h1, rfl⟩ := numT_some h
    have := numB_iff h1
    exact numIn_itoa h1 this.1 this.2
  | none =>
    unfold numIn
    split
    · rename_i hh
      obtain ⟨_, h2, h3, h4⟩ := hh
      have := numT_itoa (numB_t h3 h4)
      rw [h2, h] at this
      cases this
    · rfl
theorem numIn_small (l : List UInt8) : numIn 0 15 l = (numT l).bind fun v => if 0 ≤ v ∧ v ≤ 15 then some v else none := by
  rw [← numIn_R]
  unfold numIn
  by_cases h : atoiB l = true ∧ Lib.itoa (atoiN l) = l ∧ 0 ≤ atoiN l ∧ atoiN l ≤ 15
  · rw [if_pos h, if_pos ⟨h.1, h.2.1, by omega, by omega⟩]
    simp [h.2.2]
  · rw [if_neg h]
    by_cases h' : atoiB l = true ∧ Lib.itoa (atoiN l) = l ∧ -2147483648 ≤ atoiN l ∧ atoiN l ≤ 2147483647
    · rw [if_pos h']
      simp only [Option.bind_some]
      rw [if_neg (fun hh => h ⟨h'.1, h'.2.1, hh.1, hh.2⟩)]
    · rw [if_neg h']; rfl
end Go.Proofs.YtmlnibjnacfanaaGreatDoor
