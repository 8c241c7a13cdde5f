/- The plain law: the program's Parse and the reference's are one function. -/
import Derived.Test.YtlpcahkchmlghaaDoorIs
namespace Go.Proofs.YtlpcahkchmlghaaDoor
open Go.RowKit

theorem last_snoc (m : List UInt8) : (91 :: (m ++ [93])).getLast? = some 93 := by rw [← List.cons_append, List.getLast?_append]; rfl
theorem placeP_br (m : List UInt8) : placeP (91 :: (m ++ [93])) = (trimB m, nameB (trimB m)) := by
  unfold placeP
  rw [if_neg (by rw [last_snoc]; simp)]
  have : ((91 :: (m ++ [93])).drop 1).take ((91 :: (m ++ [93])).length - 2) = m := by simp
  rw [this]
theorem placeP_name {l : List UInt8} (h : (placeP l).2 = true) : nameB (placeP l).1 = true := by
  unfold placeP at h ⊢
  split at h
  · cases h
  · rename_i hc; rw [if_neg hc]; exact h
theorem placeP_shape {t : List UInt8} (h : (placeP t).2 = true) : ∃ m, t = 91 :: (m ++ [93]) := by
  unfold placeP at h
  split at h
  · cases h
  · rename_i hc
    simp only [not_or, Nat.not_lt, ne_eq, Classical.not_not] at hc
    obtain ⟨h1, h2, h3⟩ := hc
    cases t with
    | nil => simp at h1
    | cons c r =>
      simp at h2; subst h2
      have hr : r ≠ [] := by rintro rfl; simp at h1
      rw [List.getLast?_cons_of_ne_nil hr] at h3
      obtain ⟨ys, hy⟩ := List.getLast?_eq_some_iff.1 h3
      exact ⟨ys, by rw [hy]⟩
theorem sign91 : signB 91 = true := by decide
theorem sign93 : signB 93 = true := by decide
theorem sign44 : signB 44 = true := by decide
theorem words_br (m : List UInt8) : wordsL (91 :: (m ++ [93])) = [91] :: (wordsL m ++ [[93]]) := by
  have h1 := words_sign [] (m ++ [93]) sign91
  have h2 := words_sign m [] sign93
  rw [List.nil_append] at h1
  rw [h1, h2, wordsL_nil]; rfl
theorem place_words {s : List UInt8} (h : (placeP (trimB s)).2 = true) : wordsL s = [[91], (placeP (trimB s)).1, [93]] ∧ nameB (placeP (trimB s)).1 = true := by
  have hn := placeP_name h
  obtain ⟨m, hm⟩ := placeP_shape h
  refine ⟨?_, hn⟩
  rw [← words_trim s, hm, words_br, placeP_br]
  rw [hm, placeP_br] at hn
  have hg := name_goes hn
  rw [← words_trim m, words_goes hg.1 hg.2]; rfl
theorem words_place {s x : List UInt8} (h : wordsL s = [[91], x, [93]]) (hx : nameB x = true) : placeP (trimB s) = (x, true) := by
  have hg := name_goes hx
  obtain ⟨u, r, h1, h2, h3, _⟩ := words_first s _ _ h
  obtain ⟨u2, r2, g1, g2, g3, _⟩ := words_first r _ _ h3
  obtain ⟨u3, r3, k1, k2, k3, _⟩ := words_first r2 _ _ g3
  have hv := words_none r3 k3
  have : s = u ++ (91 :: ((u2 ++ x ++ u3) ++ [93])) ++ r3 := by
    rw [h1, g1, k1]; simp
  have ht : trimB s = 91 :: ((u2 ++ x ++ u3) ++ [93]) := by
    rw [this]
    refine trim_unique _ _ _ h2 hv ?_ ?_
    · intro c hc; simp at hc; subst hc; decide
    · intro c hc
      rw [← List.cons_append, List.getLast?_append] at hc
      simp at hc; subst hc; decide
  rw [ht, placeP_br, trim_unique u2 x u3 g2 k2 (trim_goes hg.2).1 (trim_goes hg.2).2, hx]

theorem cut_no : ∀ (s : List UInt8), (44 : UInt8) ∉ s → Lib.index s [44] = -1
  | [], _ => by simp [Lib.index]
  | c :: r, h => by
    have hc : c ≠ 44 := by rintro rfl; simp at h
    have hr : (44 : UInt8) ∉ r := fun e => h (by simp [e])
    rw [Lib.index, cut_no r hr]
    have : List.isPrefixOf [44] (c :: r) = false := by simp [List.isPrefixOf, Ne.symm hc]
    rw [this]; simp
theorem cut_at : ∀ (a b : List UInt8), (44 : UInt8) ∉ a → Lib.index (a ++ 44 :: b) [44] = (a.length : Int)
  | [], b, _ => by simp [Lib.index, List.isPrefixOf]
  | c :: a, b, h => by
    have hc : c ≠ 44 := by rintro rfl; simp at h
    have hr : (44 : UInt8) ∉ a := fun e => h (by simp [e])
    rw [List.cons_append, Lib.index, cut_at a b hr]
    have : List.isPrefixOf [44] (c :: (a ++ 44 :: b)) = false := by simp [List.isPrefixOf, Ne.symm hc]
    rw [this]
    have : ((a.length : Int) == -1) = false := by rw [beq_eq_false_iff_ne]; omega
    simp [this]
theorem cut_none {s : List UInt8} (h : (44 : UInt8) ∉ s) : (Lib.cut s [44]).2.2 = false := by
  unfold Lib.cut; rw [cut_no s h]; simp
theorem cut_some {a b : List UInt8} (h : (44 : UInt8) ∉ a) : Lib.cut (a ++ 44 :: b) [44] = (a, b, true) := by
  unfold Lib.cut; rw [cut_at a b h]; simp
theorem comma_split : ∀ (s : List UInt8), (44 : UInt8) ∈ s → ∃ a b, s = a ++ 44 :: b ∧ (44 : UInt8) ∉ a
  | [], h => by simp at h
  | c :: r, h => by
    by_cases hc : c = 44
    · subst hc; exact ⟨[], r, rfl, by simp⟩
    · obtain ⟨a, b, h1, h2⟩ := comma_split r (by simpa [Ne.symm hc] using h)
      exact ⟨c :: a, b, by rw [h1]; rfl, by simp [Ne.symm hc, h2]⟩
theorem words_mem : ∀ (n : Nat) (l : List UInt8), l.length ≤ n → ∀ x ∈ wordsL l, ∀ c ∈ x, c ∈ l := by
  intro n
  induction n with
  | zero => intro l h x hx; have : l = [] := List.eq_nil_of_length_eq_zero (by omega); subst this; simp [wordsL_nil] at hx
  | succ n ih =>
    intro l h x hx c hc
    cases l with
    | nil => simp [wordsL_nil] at hx
    | cons d r =>
      have hr : r.length ≤ n := by simpa using h
      have hd : (r.dropWhile goesB).length ≤ r.length := (List.dropWhile_sublist goesB).length_le
      rw [wordsL_cons] at hx
      split at hx
      · exact List.mem_cons_of_mem _ (ih r hr x hx c hc)
      · split at hx
        · rcases List.mem_cons.1 hx with rfl | hx
          · simp at hc; simp [hc]
          · exact List.mem_cons_of_mem _ (ih r hr x hx c hc)
        · rcases List.mem_cons.1 hx with rfl | hx
          · rcases List.mem_cons.1 hc with rfl | hc
            · simp
            · exact List.mem_cons_of_mem _ ((List.takeWhile_sublist goesB).subset hc)
          · exact List.mem_cons_of_mem _ ((List.dropWhile_sublist goesB).subset (ih _ (Nat.le_trans hd hr) x hx c hc))
theorem no_comma {l : List UInt8} (h : (44 : UInt8) ∉ l) : [44] ∉ wordsL l := fun hm => h (words_mem l.length l (Nat.le_refl _) _ hm 44 (by simp))

theorem regN_facts : ∀ k, k < 15 → Lib.hasPrefix (regN k) [36] = false ∧ (placeP (regN k)).2 = false ∧ (givenP (regN k)).2 = false ∧ regN k ≠ [44] ∧ (regN k).head? ≠ some 91 := by
  have : ∀ k : Fin 15, Lib.hasPrefix (regN k.val) [36] = false ∧ (placeP (regN k.val)).2 = false ∧ (givenP (regN k.val)).2 = false ∧ regN k.val ≠ [44] ∧ (regN k.val).head? ≠ some 91 := by decide +kernel
  exact fun k hk => this ⟨k, hk⟩
theorem given_cases {x : List UInt8} (h : (givenP x).2 = true) : ∃ d, x = 36 :: d ∧ d ≠ [] ∧ intB d = true ∧ (givenP x).1 = intN d := by
  unfold givenP at h ⊢
  split at h
  · rename_i r
    split at h
    · cases h
    · rename_i hr; exact ⟨r, rfl, hr, h, by simp [hr]⟩
  · cases h
theorem int_goes {d : List UInt8} (h : intB d = true) : ∀ c ∈ d, goesB c = true := by
  unfold intB at h
  split at h
  · cases h
  · simp at h
    rw [← h.1]; exact itoa_goes _
theorem int_ne {d : List UInt8} (h : intB d = true) : d ≠ [] := by
  rintro rfl; simp [intB] at h
theorem given_of {d : List UInt8} (h : intB d = true) : givenP (36 :: d) = (intN d, true) := by
  show (if d = [] then _ else _) = _
  rw [if_neg (int_ne h), h]
theorem dollar_goes {d : List UInt8} (h : intB d = true) : ∀ c ∈ (36 :: d), goesB c = true := by
  intro c hc
  rcases List.mem_cons.1 hc with rfl | hc
  · decide
  · exact int_goes h c hc
theorem prefix36 {t : List UInt8} (h : Lib.hasPrefix t [36] = true) : t = 36 :: t.tail := by
  cases t with
  | nil => simp [Lib.hasPrefix] at h
  | cons c r => simp [Lib.hasPrefix, List.isPrefixOf] at h; rw [← h]; rfl
theorem name_ne44 {x : List UInt8} (h : nameB x = true) : x ≠ [44] := by rintro rfl; revert h; decide
theorem beq44 {x : List UInt8} (h : x ≠ [44]) : (x == [44]) = false := by simpa using h
theorem name_head91 {x : List UInt8} (_h : nameB x = true) : True := trivial

theorem mv_insB {x y : List UInt8} (h : (mvP x y).2 = true) : insB (mvP x y).1.1 (mvP x y).1.2.1 (mvP x y).1.2.2.1 0 (mvP x y).1.2.2.2.1 ⟨(mvP x y).1.2.2.2.2.toArray⟩ ⟨#[]⟩ 0 = true := by
  unfold mvP at h ⊢
  by_cases hp : (placeP x).2 = true
  · have hn := placeP_name hp
    rw [if_pos hp] at h ⊢
    by_cases hd : Lib.hasPrefix y [36] = true
    · rw [if_pos hd] at h ⊢
      have hb : numB (atoiN y.tail) = true := by simp [numP] at h; exact h.1.2
      simp [insB, hn, hb]
    · rw [if_neg hd] at h ⊢
      cases hr : regOf y with
      | none => rw [hr] at h; cases h
      | some k =>
        have := regOf_lt hr
        simp [insB, hn, regB]; omega
  · rw [if_neg hp] at h ⊢
    cases hr : regOf x with
    | none => rw [hr] at h; cases h
    | some k =>
      have hk := regOf_lt hr
      rw [hr] at h
      simp only at h ⊢
      by_cases hd : Lib.hasPrefix y [36] = true
      · rw [if_pos hd] at h ⊢
        have hb : numB (atoiN y.tail) = true := by simp [numP] at h; exact h.1.2
        simp [insB, regB, hb]; omega
      · rw [if_neg hd] at h ⊢
        have hn := placeP_name h
        simp [insB, regB, hn]; omega

/-- What the program accepts, the reference accepts as the same. -/
theorem mv_to (a b : List UInt8) (h : (mvP (trimB a) (trimB b)).2 = true) : mvR (wordsL a ++ [44] :: wordsL b) = mvP (trimB a) (trimB b) := by
  unfold mvP at h ⊢
  by_cases hp : (placeP (trimB a)).2 = true
  · obtain ⟨hA, hn⟩ := place_words hp
    rw [if_pos hp] at h ⊢
    rw [hA]
    by_cases hd : Lib.hasPrefix (trimB b) [36] = true
    · rw [if_pos hd] at h ⊢
      obtain ⟨hs1, hs2⟩ := num_same (trimB b).tail
      have hi : intB (trimB b).tail = true := by rw [← hs1]; exact h
      have hb := prefix36 hd
      have hB : wordsL b = [36 :: (trimB b).tail] := (words_one b _ (dollar_goes hi) (by simp)).2 hb
      rw [hB]
      show mvR5 [91] _ [93] [44] (36 :: (trimB b).tail) = _
      unfold mvR5
      rw [given_of hi, hs2 h]
      simp [placeB, hn]; exact h
    · rw [if_neg hd] at h ⊢
      cases hr : regOf (trimB b) with
      | none => rw [hr] at h; cases h
      | some k =>
        have hB := words_reg b k hr
        obtain ⟨e1, e2⟩ := regOf_eq hr
        have hf := regN_facts k e2
        rw [hB]
        show mvR5 [91] _ [93] [44] (trimB b) = _
        unfold mvR5
        rw [← e1] at hr ⊢
        simp [hf.2.2.1, hr, placeB, hn]
  · rw [if_neg hp] at h ⊢
    cases hr : regOf (trimB a) with
    | none => rw [hr] at h; cases h
    | some k =>
      rw [hr] at h
      have hA := words_reg a k hr
      obtain ⟨e1, e2⟩ := regOf_eq hr
      have hf := regN_facts k e2
      rw [hA]
      simp only at h ⊢
      by_cases hd : Lib.hasPrefix (trimB b) [36] = true
      · rw [if_pos hd] at h ⊢
        obtain ⟨hs1, hs2⟩ := num_same (trimB b).tail
        have hi : intB (trimB b).tail = true := by rw [← hs1]; exact h
        have hb := prefix36 hd
        have hB : wordsL b = [36 :: (trimB b).tail] := (words_one b _ (dollar_goes hi) (by simp)).2 hb
        rw [hB]
        show mvRn 3 (trimB a) [44] (36 :: (trimB b).tail) = _
        unfold mvRn
        rw [given_of hi, hs2 h, hr]
        simp; exact h
      · rw [if_neg hd] at h ⊢
        obtain ⟨hB, hn⟩ := place_words h
        rw [hB]
        show mvR5 (trimB a) [44] [91] (placeP (trimB b)).1 [93] = _
        unfold mvR5
        rw [beq44 (name_ne44 hn), hr]
        simp [placeB, hn]; exact h

theorem split_44 {A B : List (List UInt8)} (hA : [44] ∉ A) {x0 : List UInt8} {r : List (List UInt8)} (h : A ++ [44] :: B = x0 :: r) (hx : x0 ≠ [44]) : ∃ A', A = x0 :: A' ∧ A' ++ [44] :: B = r ∧ [44] ∉ A' := by
  cases A with
  | nil => simp at h; exact absurd h.1.symm hx
  | cons a A' =>
    simp at h
    obtain ⟨rfl, h2⟩ := h
    exact ⟨A', rfl, h2, fun e => hA (by simp [e])⟩
theorem split_at {A B : List (List UInt8)} (hA : [44] ∉ A) {r : List (List UInt8)} (h : A ++ [44] :: B = [44] :: r) : A = [] ∧ B = r := by
  cases A with
  | nil => simp at h; exact ⟨rfl, h⟩
  | cons a A' => simp at h; exact absurd (by simp [h.1]) hA
theorem place_b {x0 x1 x2 : List UInt8} (h : placeB x0 x1 x2 = true) : x0 = [91] ∧ x2 = [93] ∧ nameB x1 = true := by
  simp [placeB] at h; exact ⟨h.1.1, h.1.2, h.2⟩

/-- What the reference accepts, the program accepts. -/
theorem mv_from (a b : List UInt8) (ha : (44 : UInt8) ∉ a) (h : (mvR (wordsL a ++ [44] :: wordsL b)).2 = true) : (mvP (trimB a) (trimB b)).2 = true := by
  have hA := no_comma ha
  obtain ⟨L, hL⟩ : ∃ L, wordsL a ++ [44] :: wordsL b = L := ⟨_, rfl⟩
  rw [hL] at h
  unfold mvR at h
  split at h
  · rename_i x0 x1 x2 x3 x4
    unfold mvR5 at h
    by_cases e3 : x3 = [44]
    · rw [if_pos (by simpa using e3)] at h
      -- the store: three words ahead of the comma
      have key : placeB x0 x1 x2 = true → wordsL a = [x0, x1, x2] ∧ wordsL b = [x4] := by
        intro hp
        obtain ⟨p0, p2, pn⟩ := place_b hp
        obtain ⟨A1, q1, q2, q3⟩ := split_44 hA hL (by rw [p0]; decide)
        obtain ⟨A2, q4, q5, q6⟩ := split_44 q3 q2 (name_ne44 pn)
        obtain ⟨A3, q7, q8, q9⟩ := split_44 q6 q5 (by rw [p2]; decide)
        rw [e3] at q8
        obtain ⟨q10, q11⟩ := split_at q9 q8
        exact ⟨by rw [q1, q4, q7, q10], q11⟩
      by_cases hg : (givenP x4).2 = true
      · rw [if_pos hg] at h
        simp only at h
        obtain ⟨k1, k2⟩ := key h
        obtain ⟨p0, p2, pn⟩ := place_b h
        rw [p0, p2] at k1
        have hpl := words_place k1 pn
        obtain ⟨d, hd, hne, hi, _⟩ := given_cases hg
        rw [hd] at k2
        have ht := (words_one b _ (dollar_goes hi) (by simp)).1 k2
        unfold mvP
        rw [hpl, ht]
        have : Lib.hasPrefix (36 :: d) [36] = true := by simp [Lib.hasPrefix, List.isPrefixOf]
        rw [this]
        simp only [if_true, List.tail_cons]
        rw [(num_same d).1]; exact hi
      · rw [if_neg hg] at h
        cases hr : regOf x4 with
        | none => rw [hr] at h; cases h
        | some k =>
          rw [hr] at h
          simp only at h
          obtain ⟨k1, k2⟩ := key h
          obtain ⟨p0, p2, pn⟩ := place_b h
          rw [p0, p2] at k1
          have hpl := words_place k1 pn
          have hrb := reg_words b x4 k k2 hr
          obtain ⟨e1, e2⟩ := regOf_eq hrb
          have hf := regN_facts k e2
          unfold mvP
          rw [hpl, ← e1, hf.1]
          rw [← e1] at hrb
          simp [hrb]
    · rw [if_neg (by simpa using e3)] at h
      by_cases e1 : x1 = [44]
      · rw [if_pos (by simpa using e1)] at h
        cases hr : regOf x0 with
        | none => rw [hr] at h; cases h
        | some k =>
          rw [hr] at h
          simp only at h
          obtain ⟨p0, p2, pn⟩ := place_b h
          obtain ⟨f1, f2⟩ := regOf_eq hr
          have hf := regN_facts k f2
          obtain ⟨A1, q1, q2, q3⟩ := split_44 hA hL (by rw [← f1]; exact hf.2.2.2.1)
          rw [e1] at q2
          obtain ⟨q4, q5⟩ := split_at q3 q2
          rw [q4] at q1
          have hra := reg_words a x0 k q1 hr
          rw [p0, p2] at q5
          have hpl := words_place q5 pn
          obtain ⟨g1, _⟩ := regOf_eq hra
          have hnp : (placeP (trimB a)).2 = false := by rw [← g1]; exact hf.2.1
          have hnd : Lib.hasPrefix (trimB b) [36] = false := by
            obtain ⟨m, hm⟩ := placeP_shape (t := trimB b) (by rw [hpl])
            rw [hm]; simp [Lib.hasPrefix, List.isPrefixOf]
          unfold mvP
          rw [hnp, hra, hnd, hpl]; rfl
      · rw [if_neg (by simpa using e1)] at h; cases h
  · rename_i x0 x1 x2 r hn5
    unfold mvRn at h
    by_cases e1 : x1 = [44]
    · rw [if_pos (by simpa using e1)] at h
      cases hr : regOf x0 with
      | none => rw [hr] at h; cases h
      | some k =>
        rw [hr] at h
        simp only [Bool.and_eq_true, beq_iff_eq] at h
        obtain ⟨h3, hg⟩ := h
        have hrn : r = [] := List.eq_nil_of_length_eq_zero (by omega)
        subst hrn
        obtain ⟨f1, f2⟩ := regOf_eq hr
        have hf := regN_facts k f2
        obtain ⟨A1, q1, q2, q3⟩ := split_44 hA hL (by rw [← f1]; exact hf.2.2.2.1)
        rw [e1] at q2
        obtain ⟨q4, q5⟩ := split_at q3 q2
        rw [q4] at q1
        have hra := reg_words a x0 k q1 hr
        obtain ⟨d, hd, hne, hi, _⟩ := given_cases hg
        rw [hd] at q5
        have ht := (words_one b _ (dollar_goes hi) (by simp)).1 q5
        obtain ⟨g1, _⟩ := regOf_eq hra
        have hnp : (placeP (trimB a)).2 = false := by rw [← g1]; exact hf.2.1
        unfold mvP
        rw [hnp, hra, ht]
        have : Lib.hasPrefix (36 :: d) [36] = true := by simp [Lib.hasPrefix, List.isPrefixOf]
        simp only [this, if_true, List.tail_cons]
        show numP d = true
        rw [(num_same d).1]; exact hi
    · rw [if_neg (by simpa using e1)] at h; cases h
  · cases h
end Go.Proofs.YtlpcahkchmlghaaDoor
