/- The plain law: the program's Parse and the reference's are one function (words). -/
import Derived.Test.YtlpcahkchmlghaaDoorIi
import Derived.Test.YtlpcahkchmlghaaDoorIq
namespace Go.Proofs.YtlpcahkchmlghaaDoor
open Go.RowKit

theorem tw_app {p : UInt8 → Bool} {c : UInt8} (hc : p c = false) (b : List UInt8) : ∀ r : List UInt8, (r ++ c :: b).takeWhile p = r.takeWhile p ∧ (r ++ c :: b).dropWhile p = r.dropWhile p ++ c :: b
  | [] => by simp [hc]
  | d :: r => by
    obtain ⟨h1, h2⟩ := tw_app hc b r
    rw [List.cons_append, List.takeWhile_cons, List.dropWhile_cons, List.takeWhile_cons, List.dropWhile_cons]
    cases p d
    · simp
    · simp [h1, h2]
theorem blank_sign {c : UInt8} (h : signB c = true) : blankB c = false := by
  simp [signB] at h
  rcases h with (rfl | rfl) | rfl <;> decide
theorem goes_blank {c : UInt8} (h : blankB c = true) : goesB c = false := by simp [goesB, h]
theorem goes_sign {c : UInt8} (h : signB c = true) : goesB c = false := by simp [goesB, h]
theorem goes_of {c : UInt8} (h1 : blankB c = false) (h2 : signB c = false) : goesB c = true := by simp [goesB, h1, h2]

theorem words_app : ∀ (n : Nat) (a b : List UInt8) (c : UInt8), a.length ≤ n → goesB c = false → wordsL (a ++ c :: b) = wordsL a ++ wordsL (c :: b) := by
  intro n
  induction n with
  | zero => intro a b c h _; have : a = [] := List.eq_nil_of_length_eq_zero (by omega); subst this; simp [wordsL_nil]
  | succ n ih =>
    intro a b c h hc
    cases a with
    | nil => simp [wordsL_nil]
    | cons d r =>
      have hr : r.length ≤ n := by simpa using h
      have hd : (r.dropWhile goesB).length ≤ r.length := (List.dropWhile_sublist goesB).length_le
      obtain ⟨h1, h2⟩ := tw_app hc b r
      rw [List.cons_append, wordsL_cons, wordsL_cons d r, ih r b c hr hc, h1, h2, ih _ b c (Nat.le_trans hd hr) hc]
      split
      · rfl
      · split <;> simp
theorem words_sign (a b : List UInt8) {c : UInt8} (h : signB c = true) : wordsL (a ++ c :: b) = wordsL a ++ [c] :: wordsL b := by
  rw [words_app a.length a b c (Nat.le_refl _) (goes_sign h), wordsL_cons c b, blank_sign h, h]; simp
theorem words_blank (a b : List UInt8) {c : UInt8} (h : blankB c = true) : wordsL (a ++ c :: b) = wordsL a ++ wordsL b := by
  rw [words_app a.length a b c (Nat.le_refl _) (goes_blank h), wordsL_cons c b, h]; simp
theorem words_blanks_l : ∀ (u a : List UInt8), (∀ c ∈ u, blankB c = true) → wordsL (u ++ a) = wordsL a
  | [], _, _ => rfl
  | c :: u, a, h => by
    rw [List.cons_append, wordsL_cons, h c (by simp)]
    simpa using words_blanks_l u a (fun d hd => h d (by simp [hd]))
theorem words_blanks_r (a u : List UInt8) (h : ∀ c ∈ u, blankB c = true) : wordsL (a ++ u) = wordsL a := by
  cases u with
  | nil => simp
  | cons c u =>
    have := words_blanks_l u [] (fun d hd => h d (by simp [hd]))
    rw [List.append_nil, wordsL_nil] at this
    rw [words_blank a u (h c (by simp)), this, List.append_nil]
theorem dw_all {p : UInt8 → Bool} : ∀ {u : List UInt8} (a : List UInt8), (∀ c ∈ u, p c = true) → (u ++ a).dropWhile p = a.dropWhile p
  | [], _, _ => rfl
  | c :: u, a, h => by
    rw [List.cons_append, List.dropWhile_cons, h c (by simp)]
    simpa using dw_all a (fun d hd => h d (by simp [hd]))
theorem dw_head {p : UInt8 → Bool} {a : List UInt8} (h : ∀ c, a.head? = some c → p c = false) : a.dropWhile p = a := by
  cases a with
  | nil => rfl
  | cons c r => rw [List.dropWhile_cons, h c rfl]; simp
theorem head_dw {p : UInt8 → Bool} : ∀ (a : List UInt8) (c : UInt8), (a.dropWhile p).head? = some c → p c = false
  | [], _, h => by simp at h
  | d :: r, c, h => by
    rw [List.dropWhile_cons] at h
    cases hd : p d with
    | true => rw [hd] at h; exact head_dw r c (by simpa using h)
    | false => rw [hd] at h; simp at h; subst h; exact hd
theorem tw_mem {p : UInt8 → Bool} : ∀ (a : List UInt8) (c : UInt8), c ∈ a.takeWhile p → p c = true
  | [], _, h => by simp at h
  | d :: r, c, h => by
    rw [List.takeWhile_cons] at h
    cases hd : p d with
    | true =>
      rw [hd] at h
      rcases List.mem_cons.1 (by simpa using h) with rfl | h
      · exact hd
      · exact tw_mem r c h
    | false => rw [hd] at h; simp at h
theorem trimB_eq (l : List UInt8) : trimB l = ((l.reverse.dropWhile blankB).reverse).dropWhile blankB := rfl
theorem trim_unique (u x v : List UInt8) (hu : ∀ c ∈ u, blankB c = true) (hv : ∀ c ∈ v, blankB c = true) (h1 : ∀ c, x.head? = some c → blankB c = false) (h2 : ∀ c, x.getLast? = some c → blankB c = false) : trimB (u ++ x ++ v) = x := by
  rw [trimB_eq, List.reverse_append, dw_all _ (fun c hc => hv c (by simpa using hc)), List.reverse_append]
  cases x with
  | nil =>
    have : (([] : List UInt8).reverse ++ u.reverse).dropWhile blankB = [] := by
      have := dw_all (p := blankB) (u := u.reverse) [] (fun c hc => hu c (by simpa using hc))
      simpa using this
    rw [this]; rfl
  | cons c r =>
    have hne : (c :: r).reverse ++ u.reverse ≠ [] := by simp
    rw [dw_head (a := (c :: r).reverse ++ u.reverse) (fun d hd => h2 d (by
      rw [List.head?_append] at hd
      cases hg : (c :: r).reverse.head? with
      | none => simp at hg
      | some e => rw [hg] at hd; simp at hd; subst hd; rw [List.head?_reverse] at hg; exact hg)), List.reverse_append, List.reverse_reverse, List.reverse_reverse, dw_all _ hu]
    exact dw_head h1
/-- How a text stands to what is left of it without the blanks at its ends. -/
theorem trim_split (l : List UInt8) : ∃ u v, l = u ++ trimB l ++ v ∧ (∀ c ∈ u, blankB c = true) ∧ (∀ c ∈ v, blankB c = true) ∧ (∀ c, (trimB l).head? = some c → blankB c = false) ∧ (∀ c, (trimB l).getLast? = some c → blankB c = false) := by
  refine ⟨((l.reverse.dropWhile blankB).reverse).takeWhile blankB, (l.reverse.takeWhile blankB).reverse, ?_, ?_, ?_, ?_, ?_⟩
  · rw [trimB_eq, List.takeWhile_append_dropWhile, ← List.reverse_append, List.takeWhile_append_dropWhile, List.reverse_reverse]
  · exact fun c hc => tw_mem _ c hc
  · exact fun c hc => tw_mem _ c (by simpa using hc)
  · exact fun c hc => head_dw _ c (by rw [trimB_eq] at hc; exact hc)
  · intro c hc
    rw [trimB_eq] at hc
    obtain ⟨y, hy⟩ : ∃ y, l.reverse.dropWhile blankB = y := ⟨_, rfl⟩
    have hhd := fun c => head_dw (p := blankB) l.reverse c
    rw [hy] at hc hhd
    refine hhd c ?_
    have hsuf : (y.reverse.dropWhile blankB) <:+ y.reverse := List.dropWhile_suffix _
    obtain ⟨q, hq⟩ := hsuf
    have : y.reverse.getLast? = some c := by
      rw [← hq, List.getLast?_append, hc]; rfl
    rw [List.getLast?_reverse] at this
    exact this
theorem words_trim (l : List UInt8) : wordsL (trimB l) = wordsL l := by
  obtain ⟨u, v, h, hu, hv, _, _⟩ := trim_split l
  have : wordsL l = wordsL (u ++ trimB l ++ v) := congrArg _ h
  rw [this, words_blanks_r _ v hv, words_blanks_l u _ hu]
theorem words_goes {x : List UInt8} (hne : x ≠ []) (h : ∀ c ∈ x, goesB c = true) : wordsL x = [x] := by
  cases x with
  | nil => exact absurd rfl hne
  | cons c r =>
    have hc := h c (by simp)
    have hb : blankB c = false := by cases e : blankB c with | false => rfl | true => rw [goes_blank e] at hc; cases hc
    have hs : signB c = false := by cases e : signB c with | false => rfl | true => rw [goes_sign e] at hc; cases hc
    have ht : r.takeWhile goesB = r ∧ r.dropWhile goesB = [] := by
      have hr : ∀ d ∈ r, goesB d = true := fun d hd => h d (by simp [hd])
      have h1 := dw_all (p := goesB) (u := r) [] hr
      have h2 := List.takeWhile_append_dropWhile (p := goesB) (l := r)
      simp at h1
      have h3 : r.dropWhile goesB = [] := by simpa using h1
      rw [h3, List.append_nil] at h2
      exact ⟨h2, h3⟩
    rw [wordsL_cons, hb, hs, ht.1, ht.2, wordsL_nil]; rfl
theorem goes_not_blank {c : UInt8} (h : goesB c = true) : blankB c = false := by
  cases e : blankB c with
  | false => rfl
  | true => rw [goes_blank e] at h; cases h
theorem trim_goes {x : List UInt8} (h : ∀ c ∈ x, goesB c = true) : (∀ c, x.head? = some c → blankB c = false) ∧ (∀ c, x.getLast? = some c → blankB c = false) :=
  ⟨fun c hc => goes_not_blank (h c (List.mem_of_mem_head? hc)), fun c hc => goes_not_blank (h c (List.mem_of_getLast? hc))⟩
/-- A text that has no word is of blanks. -/
theorem words_none : ∀ (l : List UInt8), wordsL l = [] → ∀ c ∈ l, blankB c = true
  | [], _, _, h => by simp at h
  | c :: r, hw, d, hd => by
    rw [wordsL_cons] at hw
    cases hb : blankB c with
    | true =>
      rw [hb] at hw
      rcases List.mem_cons.1 hd with rfl | hd
      · exact hb
      · exact words_none r (by simpa using hw) d hd
    | false =>
      rw [hb] at hw
      cases hs : signB c with
      | true => rw [hs] at hw; simp at hw
      | false => rw [hs] at hw; simp at hw
/-- What is left behind the first word. -/
theorem words_first (l : List UInt8) (x : List UInt8) (ws : List (List UInt8)) (h : wordsL l = x :: ws) :
    ∃ u r, l = u ++ x ++ r ∧ (∀ c ∈ u, blankB c = true) ∧ wordsL r = ws ∧ ((∃ c, x = [c] ∧ signB c = true) ∨ (x ≠ [] ∧ (∀ c ∈ x, goesB c = true) ∧ ∀ c, r.head? = some c → goesB c = false)) := by
  induction l with
  | nil => simp [wordsL_nil] at h
  | cons c r ih =>
    rw [wordsL_cons] at h
    cases hb : blankB c with
    | true =>
      rw [hb] at h
      obtain ⟨u, r', h1, h2, h3⟩ := ih (by simpa using h)
      exact ⟨c :: u, r', by rw [h1]; simp, fun d hd => by
        rcases List.mem_cons.1 hd with rfl | hd
        · exact hb
        · exact h2 d hd, h3⟩
    | false =>
      rw [hb] at h
      cases hs : signB c with
      | true =>
        rw [hs] at h
        simp at h
        obtain ⟨rfl, rfl⟩ := h
        exact ⟨[], r, by simp, by simp, rfl, .inl ⟨c, rfl, hs⟩⟩
      | false =>
        rw [hs] at h
        simp at h
        obtain ⟨rfl, rfl⟩ := h
        refine ⟨[], r.dropWhile goesB, by simp [List.takeWhile_append_dropWhile], by simp, rfl, .inr ⟨by simp, ?_, ?_⟩⟩
        · intro d hd
          rcases List.mem_cons.1 hd with rfl | hd
          · exact goes_of hb hs
          · exact tw_mem _ d hd
        · exact fun d hd => head_dw _ d hd
theorem words_one (l x : List UInt8) (hx : ∀ c ∈ x, goesB c = true) (hne : x ≠ []) : wordsL l = [x] ↔ trimB l = x := by
  constructor
  · intro h
    obtain ⟨u, r, h1, h2, h3, _⟩ := words_first l x [] h
    rw [h1]
    exact trim_unique u x r h2 (words_none r h3) (trim_goes hx).1 (trim_goes hx).2
  · intro h
    rw [← words_trim, h, words_goes hne hx]
end Go.Proofs.YtlpcahkchmlghaaDoor
