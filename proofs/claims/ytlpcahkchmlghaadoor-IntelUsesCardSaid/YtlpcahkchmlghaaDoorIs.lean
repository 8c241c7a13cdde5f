/- The plain law: the program's Parse and the reference's are one function. -/
import Derived.Test.YtlpcahkchmlghaaDoorIr
import Derived.Lib.AtoiTie
import Derived.Lib.ItoaLen
namespace Go.Proofs.YtlpcahkchmlghaaDoor
open Go.RowKit

theorem part_goes {c : UInt8} (h : partB c = true) : goesB c = true := by
  have e : ∀ k : UInt8, c = k → (c.toNat : Int) = (k.toNat : Int) := fun k hk => by rw [hk]
  simp [partB, letterB, digitB] at h
  have hb : blankB c = false := by
    cases hx : blankB c with
    | false => rfl
    | true =>
      simp [blankB, blanksL] at hx
      rcases hx with hx | hx | hx | hx <;> (have := e _ hx; simp at this; omega)
  have hs : signB c = false := by
    cases hx : signB c with
    | false => rfl
    | true =>
      simp [signB] at hx
      rcases hx with (hx | hx) | hx <;> (have := e _ hx; simp at this; omega)
  exact goes_of hb hs
theorem name_goes {l : List UInt8} (h : nameB l = true) : l ≠ [] ∧ ∀ c ∈ l, goesB c = true := by
  cases l with
  | nil => cases h
  | cons c r =>
    simp only [nameB, Bool.and_eq_true, decide_eq_true_eq, List.all_eq_true] at h
    refine ⟨by simp, fun d hd => ?_⟩
    rcases List.mem_cons.1 hd with rfl | hd
    · exact part_goes (part_of_letter h.1.2)
    · exact part_goes (h.2 d hd)
theorem regN_goes : ∀ k, k < 15 → regN k ≠ [] ∧ ∀ c ∈ regN k, goesB c = true := by
  have : ∀ k : Fin 15, regN k.val ≠ [] ∧ ∀ c ∈ regN k.val, goesB c = true := by decide +kernel
  exact fun k hk => this ⟨k, hk⟩
theorem regOf_eq {l : List UInt8} {k : Nat} (h : regOf l = some k) : regN k = l ∧ k < 15 := by
  have h1 := List.find?_some h
  exact ⟨by simpa using h1, regOf_lt h⟩
/-- A register's name is read alike. -/
theorem reg_words (s b : List UInt8) (k : Nat) (hb : wordsL s = [b]) (h : regOf b = some k) : regOf (trimB s) = some k := by
  obtain ⟨h1, h2⟩ := regOf_eq h
  have hg := regN_goes k h2
  have : trimB s = b := (words_one s b (by rw [← h1]; exact hg.2) (by rw [← h1]; exact hg.1)).1 hb
  rw [this]; exact h
theorem words_reg (s : List UInt8) (k : Nat) (h : regOf (trimB s) = some k) : wordsL s = [trimB s] := by
  obtain ⟨h1, h2⟩ := regOf_eq h
  have hg := regN_goes k h2
  exact (words_one s (trimB s) (by rw [← h1]; exact hg.2) (by rw [← h1]; exact hg.1)).2 rfl

theorem digit_goes {c : UInt8} (h : digitB c = true) : goesB c = true := part_goes (partB_t (.inr (.inl h)))
theorem ofNat_digit (d : Nat) (h : d < 10) : digitB (UInt8.ofNat (48 + d)) = true := by
  have : (UInt8.ofNat (48 + d)).toNat = 48 + d := by simp; omega
  simp [digitB]; omega
theorem decDigits_digit : ∀ (n u : Nat), u ≤ n → ∀ c ∈ Lib.decDigits u, digitB c = true := by
  intro n
  induction n with
  | zero => intro u h c hc; have : u = 0 := by omega
            subst this
            rw [Lib.decDigits_one (by omega)] at hc
            simp at hc; subst hc; decide
  | succ n ih =>
    intro u h c hc
    rw [Lib.decDigits] at hc
    split at hc
    · rename_i hu
      rw [List.mem_singleton] at hc; subst hc; exact ofNat_digit u hu
    · rename_i hu
      rcases List.mem_append.1 hc with hc | hc
      · exact ih (u / 10) (by omega) c hc
      · rw [List.mem_singleton] at hc; subst hc; exact ofNat_digit _ (by omega)
theorem itoa_goes (v : Int) : ∀ c ∈ Lib.itoa v, goesB c = true := by
  intro c hc
  unfold Lib.itoa at hc
  split at hc
  · rcases List.mem_cons.1 hc with rfl | hc
    · decide
    · exact digit_goes (decDigits_digit _ _ (Nat.le_refl _) c hc)
  · exact digit_goes (decDigits_digit _ _ (Nat.le_refl _) c hc)

theorem digitVal_ofNat (d : Nat) (h : d < 10) : Lib.digitVal (UInt8.ofNat (48 + d)) = some d := by
  have : ∀ d : Fin 10, Lib.digitVal (UInt8.ofNat (48 + d.val)) = some d.val := by decide +kernel
  exact this ⟨d, h⟩
theorem decFrom_snoc (c : UInt8) (d : Nat) (hd : Lib.digitVal c = some d) : ∀ (l : List UInt8) (acc n : Nat), Lib.decFrom acc l = some n → Lib.decFrom acc (l ++ [c]) = some (n * 10 + d)
  | [], acc, n, h => by simp [Lib.decFrom] at h; subst h; simp [Lib.decFrom, hd]
  | b :: r, acc, n, h => by
    simp only [Lib.decFrom, List.cons_append] at h ⊢
    cases e : Lib.digitVal b with
    | none => rw [e] at h; cases h
    | some x => rw [e] at h; exact decFrom_snoc c d hd r _ n h
theorem dec_facts : ∀ (n u : Nat), u ≤ n → Lib.decFrom 0 (Lib.decDigits u) = some u ∧ evalD (Lib.decDigits u) = (u : Int) ∧ ∃ b r, Lib.decDigits u = b :: r ∧ digitB b = true := by
  intro n
  induction n with
  | zero =>
    intro u h
    have : u = 0 := by omega
    subst this
    rw [Lib.decDigits_one (by omega)]
    exact ⟨by decide, by decide, _, _, rfl, by decide⟩
  | succ n ih =>
    intro u h
    by_cases hu : u < 10
    · rw [Lib.decDigits_one hu]
      have hv : (UInt8.ofNat (48 + u)).toNat = 48 + u := by simp; omega
      refine ⟨by simp only [Lib.decFrom, digitVal_ofNat u hu]; simp, ?_, _, _, rfl, ofNat_digit u hu⟩
      have := evalD_snoc [] (UInt8.ofNat (48 + u))
      rw [List.nil_append, if_pos (ofNat_digit u hu), hv] at this
      rw [this]
      have : evalD [] = 0 := rfl
      rw [this]; omega
    · obtain ⟨h1, h2, b, r, h3, h4⟩ := ih (u / 10) (by omega)
      rw [Lib.decDigits, dif_neg hu]
      have hv : (UInt8.ofNat (48 + u % 10)).toNat = 48 + u % 10 := by simp; omega
      refine ⟨by rw [decFrom_snoc _ (u % 10) (digitVal_ofNat _ (by omega)) _ _ _ h1]; congr 1; omega, ?_, b, r ++ [UInt8.ofNat (48 + u % 10)], by rw [h3]; simp, h4⟩
      rw [evalD_snoc, if_pos (ofNat_digit _ (by omega)), h2, hv]
      omega
theorem nDigits_le : ∀ (k u : Nat), u < 10 ^ (k + 1) → Lib.nDigits u ≤ k + 1 := by
  intro k
  induction k with
  | zero => intro u h; rw [Lib.nDigits_small (by simpa using h)]; omega
  | succ k ih =>
    intro u h
    by_cases hu : u < 10
    · rw [Lib.nDigits_small hu]; omega
    · rw [Lib.nDigits_big hu]
      have := ih (u / 10) (by rw [Nat.pow_succ] at h; omega)
      omega
theorem dec_len {u : Nat} (h : u ≤ 2147483648) : (Lib.decDigits u).length ≤ 10 := by
  rw [Lib.decDigits_length]; exact nDigits_le 9 u (by omega)
theorem itoa_len {v : Int} (h : numB v = true) : 1 ≤ (Lib.itoa v).length ∧ (Lib.itoa v).length ≤ 11 := by
  have hb := numB_bounds h
  unfold Lib.itoa
  split
  · have := dec_len (u := v.natAbs) (by omega)
    simp; omega
  · have h1 := dec_len (u := v.toNat) (by omega)
    obtain ⟨_, _, b, r, h3, _⟩ := dec_facts v.toNat v.toNat (Nat.le_refl _)
    rw [h3] at h1 ⊢
    simp at h1 ⊢; omega
theorem itoa_num {v : Int} (h : numB v = true) : atoiB (Lib.itoa v) = true ∧ atoiN (Lib.itoa v) = v ∧ intN (Lib.itoa v) = v := by
  obtain ⟨hl1, hl2⟩ := itoa_len h
  have hi : Lib.atoi (Lib.itoa v) = some v ∧ ((Lib.itoa v).head? = some 45 → evalD (Lib.itoa v) = -v) ∧ ((Lib.itoa v).head? ≠ some 45 → evalD (Lib.itoa v) = v) := by
    unfold Lib.itoa
    split
    · rename_i hv
      obtain ⟨h1, h2, b, r, h3, h4⟩ := dec_facts v.natAbs v.natAbs (Nat.le_refl _)
      refine ⟨?_, fun _ => ?_, fun hh => absurd rfl hh⟩
      · have : Lib.decNat (Lib.decDigits v.natAbs) = some v.natAbs := by
          unfold Lib.decNat
          rw [h1, h3]; rfl
        simp only [Lib.atoi, beq_self_eq_true, if_true, this, Option.map_some]
        congr 1; omega
      · have e : evalD (45 :: Lib.decDigits v.natAbs) = evalD (Lib.decDigits v.natAbs) := rfl
        rw [e, h2]; omega
    · rename_i hv
      obtain ⟨h1, h2, b, r, h3, h4⟩ := dec_facts v.toNat v.toNat (Nat.le_refl _)
      have hb := digit_range h4
      have hb45 : b ≠ 45 := by rintro rfl; revert hb; decide
      have hb43 : b ≠ 43 := by rintro rfl; revert hb; decide
      refine ⟨?_, fun hh => ?_, fun _ => ?_⟩
      · have : Lib.decNat (Lib.decDigits v.toNat) = some v.toNat := by
          unfold Lib.decNat
          rw [h1, h3]; rfl
        rw [h3] at this ⊢
        simp only [Lib.atoi, beq_eq_false_iff_ne.2 hb45, beq_eq_false_iff_ne.2 hb43, this, Option.map_some]
        simp; omega
      · rw [h3] at hh; simp at hh; exact absurd hh hb45
      · rw [h2]; omega
  have hne : ¬ (Lib.itoa v = [] ∨ 11 < (Lib.itoa v).length) := by
    rintro (e | e)
    · rw [e] at hl1; simp at hl1
    · omega
  have hall : Lib.atoiAll (Lib.itoa v) = .ok v := by rw [Lib.atoiAll_short _ (by omega), hi.1]; rfl
  refine ⟨by simp [atoiB, hall], by simp [atoiN, hall], ?_⟩
  unfold intN
  rw [if_neg hne]
  split
  · rename_i e; rw [hi.2.1 e]; omega
  · rename_i e; exact hi.2.2 e
theorem num_same (d : List UInt8) : numP d = intB d ∧ (numP d = true → atoiN d = intN d) := by
  have a : numP d = true → intB d = true ∧ atoiN d = intN d := by
    intro h
    simp [numP] at h
    obtain ⟨⟨h1, h2⟩, h3⟩ := h
    have hl := itoa_len h2
    have hn := itoa_num h2
    rw [h3] at hl hn
    have hne : ¬ (d = [] ∨ 11 < d.length) := by
      rintro (e | e)
      · rw [e] at hl; simp at hl
      · omega
    refine ⟨?_, hn.2.2.symm⟩
    unfold intB
    rw [if_neg hne, hn.2.2, h2, h3]; simp
  have b : intB d = true → numP d = true := by
    intro h
    unfold intB at h
    split at h
    · cases h
    · simp at h
      have hn := itoa_num h.2
      rw [h.1] at hn
      simp [numP, hn.1, hn.2.1, h.1, h.2]
  refine ⟨?_, fun h => (a h).2⟩
  cases h1 : numP d with
  | true => rw [(a h1).1]
  | false =>
    cases h2 : intB d with
    | true => rw [b h2] at h1; cases h1
    | false => rfl
end Go.Proofs.YtlpcahkchmlghaaDoor
