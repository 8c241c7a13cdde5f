/- The plain law: what is printed, with more blanks where one may stand, is read as the instruction. -/
import Derived.Test.YtlpcahkchmlghaaDoorIu
namespace Go.Proofs.YtlpcahkchmlghaaDoor
open Go.RowKit

/-- One byte with blanks where they may stand. -/
def spr1 (u v : List UInt8) (c : UInt8) : List UInt8 :=
  if c = 32 ∨ c = 44 then u ++ c :: v else if c = 91 then c :: v else if c = 93 then u ++ [c] else [c]
def spr (u v s : List UInt8) : List UInt8 := s.flatMap (spr1 u v)
theorem spr_nil (u v : List UInt8) : spr u v [] = [] := rfl
theorem spr_cons (u v : List UInt8) (c : UInt8) (s : List UInt8) : spr u v (c :: s) = spr1 u v c ++ spr u v s := by simp [spr]
theorem spr_append (u v a b : List UInt8) : spr u v (a ++ b) = spr u v a ++ spr u v b := by simp [spr]
theorem spr1_none (c : UInt8) : spr1 [] [] c = [c] := by
  unfold spr1
  split
  · rfl
  · split
    · rfl
    · split <;> rfl
theorem spr_none : ∀ s, spr [] [] s = s
  | [] => rfl
  | c :: s => by rw [spr_cons, spr1_none, spr_none s]; rfl
theorem spr1_goes {u v : List UInt8} {c : UInt8} (h : goesB c = true) : spr1 u v c = [c] := by
  have h1 : c ≠ 32 := by rintro rfl; revert h; decide
  have h2 : c ≠ 44 := by rintro rfl; revert h; decide
  have h3 : c ≠ 91 := by rintro rfl; revert h; decide
  have h4 : c ≠ 93 := by rintro rfl; revert h; decide
  simp [spr1, h1, h2, h3, h4]
theorem spr_goes {u v : List UInt8} : ∀ {s : List UInt8}, (∀ c ∈ s, goesB c = true) → spr u v s = s
  | [], _ => rfl
  | c :: s, h => by rw [spr_cons, spr1_goes (h c (by simp)), spr_goes (fun d hd => h d (by simp [hd]))]; rfl
theorem spr_len (u v : List UInt8) (n : Nat) (hn : u.length + v.length ≤ n) : ∀ s, (spr u v s).length ≤ (n + 1) * s.length
  | [] => by simp [spr_nil]
  | c :: s => by
    have := spr_len u v n hn s
    have h1 : (spr1 u v c).length ≤ n + 1 := by
      unfold spr1
      split
      · simp; omega
      · split
        · simp; omega
        · split <;> (simp; try omega)
    rw [spr_cons, List.length_append, List.length_cons, Nat.mul_add]
    omega

section
variable (u v : List UInt8) (hu : ∀ c ∈ u, blankB c = true)
include hu
/-- Behind a word: what stands there goes on with no word's byte. -/
theorem words_spr_app (a : List UInt8) (c : UInt8) (s : List UInt8) (hc : goesB c = false) : wordsL (a ++ spr u v (c :: s)) = wordsL a ++ wordsL (spr u v (c :: s)) := by
  have : ∃ d r, spr u v (c :: s) = d :: r ∧ goesB d = false := by
    rw [spr_cons]
    unfold spr1
    by_cases h1 : c = 32 ∨ c = 44
    · rw [if_pos h1]
      cases u with
      | nil => exact ⟨c, v ++ spr [] v s, by simp, hc⟩
      | cons d u' => exact ⟨d, u' ++ (c :: v) ++ spr (d :: u') v s, by simp, goes_blank (hu d (by simp))⟩
    · rw [if_neg h1]
      by_cases h2 : c = 91
      · rw [if_pos h2]; exact ⟨c, v ++ spr u v s, by simp, hc⟩
      · rw [if_neg h2]
        by_cases h3 : c = 93
        · rw [if_pos h3]
          cases u with
          | nil => exact ⟨c, spr [] v s, by simp, hc⟩
          | cons d u' => exact ⟨d, u' ++ [c] ++ spr (d :: u') v s, by simp, goes_blank (hu d (by simp))⟩
        · rw [if_neg h3]; exact ⟨c, spr u v s, by simp, hc⟩
  obtain ⟨d, r, h, hd⟩ := this
  rw [h, words_app a.length a r d (Nat.le_refl _) hd]
variable (hv : ∀ c ∈ v, blankB c = true)
include hv
theorem words_spr1 (c : UInt8) (s : List UInt8) (hc : goesB c = false) : wordsL (spr1 u v c ++ s) = if blankB c then wordsL s else [c] :: wordsL s := by
  have hvs : wordsL (v ++ s) = wordsL s := words_blanks_l v s hv
  have hus : ∀ x, wordsL (u ++ x) = wordsL x := fun x => words_blanks_l u x hu
  have step : ∀ x, wordsL (c :: x) = if blankB c then wordsL x else [c] :: wordsL x := by
    intro x
    rw [wordsL_cons]
    cases hb : blankB c with
    | true => rfl
    | false =>
      have hs : signB c = true := by
        cases hs : signB c with
        | true => rfl
        | false => rw [goes_of hb hs] at hc; cases hc
      rw [hs]; rfl
  unfold spr1
  split
  · rw [List.append_assoc, hus, List.cons_append, step, hvs]
  · split
    · rw [List.cons_append, step, hvs]
    · split
      · rw [List.append_assoc, hus, List.singleton_append, step]
      · rw [List.singleton_append, step]
theorem words_spr : ∀ (n : Nat) (s : List UInt8), s.length ≤ n → wordsL (spr u v s) = wordsL s := by
  intro n
  induction n with
  | zero => intro s h; have : s = [] := List.eq_nil_of_length_eq_zero (by omega); subst this; rfl
  | succ n ih =>
    intro s h
    cases s with
    | nil => rfl
    | cons c r =>
      have hr : r.length ≤ n := by simpa using h
      cases hg : goesB c with
      | false =>
        rw [spr_cons, words_spr1 u v hu hv c _ hg, ih r hr, wordsL_cons]
        cases hb : blankB c with
        | true => rfl
        | false =>
          have hs : signB c = true := by
            cases hs : signB c with
            | true => rfl
            | false => rw [goes_of hb hs] at hg; cases hg
          rw [hs]; rfl
      | true =>
        have hd : (r.dropWhile goesB).length ≤ r.length := (List.dropWhile_sublist goesB).length_le
        have htw : ∀ d ∈ c :: r.takeWhile goesB, goesB d = true := by
          intro d hd
          rcases List.mem_cons.1 hd with rfl | hd
          · exact hg
          · exact tw_mem _ d hd
        have e : c :: r = (c :: r.takeWhile goesB) ++ r.dropWhile goesB := by rw [List.cons_append, List.takeWhile_append_dropWhile]
        have hw : wordsL (c :: r) = (c :: r.takeWhile goesB) :: wordsL (r.dropWhile goesB) := by
          have hs : signB c = false := by
            cases hs : signB c with
            | false => rfl
            | true => rw [goes_sign hs] at hg; cases hg
          rw [wordsL_cons, goes_not_blank hg, hs]; rfl
        rw [hw, ← ih _ (Nat.le_trans hd hr)]
        have e2 : spr u v (c :: r) = (c :: r.takeWhile goesB) ++ spr u v (r.dropWhile goesB) := by
          rw [e, spr_append, spr_goes htw]
        rw [e2]
        have hone := words_goes (x := c :: r.takeWhile goesB) (by simp) htw
        cases hx : r.dropWhile goesB with
        | nil => rw [spr_nil, List.append_nil, hone, wordsL_nil]
        | cons d s' =>
          rw [words_spr_app u v hu _ d s' (head_dw (p := goesB) r d (by rw [hx]; rfl)), hone]; rfl
end

theorem apart_front (p : List UInt8) (hp : ∀ c ∈ p, blankB c = true) (c : UInt8) (r : List UInt8) (hc : blankB c = true) : apartB (p ++ 77 :: 79 :: 86 :: c :: r) = true := by
  unfold apartB
  rw [dw_all _ hp, dw_head (fun d hd => by simp at hd; subst hd; decide)]
  exact hc

/-- What Parse reads of the printed text. -/
theorem print_words {op d a imm : Int} {loc : List UInt8} (h : insB op d a 0 imm ⟨loc.toArray⟩ ⟨#[]⟩ 0 = true) :
    (op = 5 ∧ d = 0 ∧ a = 0 ∧ imm = 0 ∧ loc = []) ∨ ∃ r, printB op d a imm loc = 77 :: 79 :: 86 :: 32 :: r ∧ rest (wordsL r) = some (op, d, a, imm, loc) := by
  rcases insB_op h with rfl | rfl | rfl | rfl | rfl
  · obtain ⟨hn, hi, rfl, rfl, _⟩ := insB_1 h
    rw [str_mk] at hn
    obtain ⟨l1, l2⟩ := itoa_len hi
    have hit := itoa_num hi
    have hib : intB (Lib.itoa imm) = true := by rw [← (num_same _).1]; simp [numP, hit, hi]
    refine .inr ⟨91 :: (loc ++ (93 :: ([] ++ (44 :: (36 :: Lib.itoa imm))))), by simp [printB], ?_⟩
    have hw : wordsL (91 :: (loc ++ (93 :: ([] ++ (44 :: (36 :: Lib.itoa imm)))))) = [[91], loc, [93], [44], 36 :: Lib.itoa imm] := by
      have h1 := words_sign [] (loc ++ (93 :: ([] ++ (44 :: (36 :: Lib.itoa imm))))) sign91
      rw [List.nil_append] at h1
      rw [h1, words_sign loc _ sign93, words_sign [] _ sign44, words_goes (x := 36 :: Lib.itoa imm) (by simp) (dollar_goes hib), wordsL_nil, words_goes (name_goes hn).1 (name_goes hn).2]
      rfl
    rw [hw]
    show (if (mvR5 [91] loc [93] [44] (36 :: Lib.itoa imm)).2 then some (mvR5 [91] loc [93] [44] (36 :: Lib.itoa imm)).1 else none) = _
    have hm : mvR5 [91] loc [93] [44] (36 :: Lib.itoa imm) = ((1, 0, 0, imm, loc), true) := by
      unfold mvR5
      rw [given_of hib, hit.2.2]
      simp [placeB, hn]
    rw [hm]; rfl
  · obtain ⟨hn, hr, rfl, rfl, _⟩ := insB_2 h
    rw [str_mk] at hn
    obtain ⟨k, hk, rfl⟩ := regB_nat hr
    have hf := regN_facts k hk
    have hg := regN_goes k hk
    have hro : regOf (regN k) = some k := by
      have : ∀ k : Fin 15, regOf (regN k.val) = some k.val := by decide +kernel
      exact this ⟨k, hk⟩
    refine .inr ⟨91 :: (loc ++ (93 :: ([] ++ (44 :: regN k)))), by simp [printB], ?_⟩
    have hw : wordsL (91 :: (loc ++ (93 :: ([] ++ (44 :: regN k))))) = [[91], loc, [93], [44], regN k] := by
      have h1 := words_sign [] (loc ++ (93 :: ([] ++ (44 :: regN k)))) sign91
      rw [List.nil_append] at h1
      rw [h1, words_sign loc _ sign93, words_sign [] _ sign44, words_goes hg.1 hg.2, wordsL_nil, words_goes (name_goes hn).1 (name_goes hn).2]
      rfl
    rw [hw]
    show (if (mvR5 [91] loc [93] [44] (regN k)).2 then some (mvR5 [91] loc [93] [44] (regN k)).1 else none) = _
    have hm : mvR5 [91] loc [93] [44] (regN k) = ((2, 0, (k : Int), 0, loc), true) := by
      unfold mvR5
      simp [hf.2.2.1, hro, placeB, hn]
    rw [hm]; rfl
  · obtain ⟨hn, hr, rfl, rfl, _⟩ := insB_3 h
    rw [str_mk] at hn
    obtain ⟨k, hk, rfl⟩ := regB_nat hr
    have hf := regN_facts k hk
    have hg := regN_goes k hk
    have hro : regOf (regN k) = some k := by
      have : ∀ k : Fin 15, regOf (regN k.val) = some k.val := by decide +kernel
      exact this ⟨k, hk⟩
    refine .inr ⟨regN k ++ (44 :: ([] ++ (91 :: (loc ++ [93])))), by simp [printB], ?_⟩
    have hw : wordsL (regN k ++ (44 :: ([] ++ (91 :: (loc ++ [93]))))) = [regN k, [44], [91], loc, [93]] := by
      rw [words_sign _ _ sign44, words_sign [] _ sign91, words_sign loc [] sign93, words_goes hg.1 hg.2, wordsL_nil, words_goes (name_goes hn).1 (name_goes hn).2]
      rfl
    rw [hw]
    show (if (mvR5 (regN k) [44] [91] loc [93]).2 then some (mvR5 (regN k) [44] [91] loc [93]).1 else none) = _
    have hm : mvR5 (regN k) [44] [91] loc [93] = ((3, (k : Int), 0, 0, loc), true) := by
      unfold mvR5
      rw [beq44 (name_ne44 hn), hro]
      simp [placeB, hn]
    rw [hm]; rfl
  · obtain ⟨hl, hr, hi, rfl, _⟩ := insB_4 h
    rw [str_list] at hl
    subst hl
    obtain ⟨k, hk, rfl⟩ := regB_nat hr
    have hg := regN_goes k hk
    have hit := itoa_num hi
    have hib : intB (Lib.itoa imm) = true := by rw [← (num_same _).1]; simp [numP, hit, hi]
    have hro : regOf (regN k) = some k := by
      have : ∀ k : Fin 15, regOf (regN k.val) = some k.val := by decide +kernel
      exact this ⟨k, hk⟩
    refine .inr ⟨regN k ++ (44 :: (36 :: Lib.itoa imm)), by simp [printB], ?_⟩
    have hw : wordsL (regN k ++ (44 :: (36 :: Lib.itoa imm))) = [regN k, [44], 36 :: Lib.itoa imm] := by
      rw [words_sign _ _ sign44, words_goes (x := 36 :: Lib.itoa imm) (by simp) (dollar_goes hib), words_goes hg.1 hg.2]
      rfl
    rw [hw]
    show (if (mvRn 3 (regN k) [44] (36 :: Lib.itoa imm)).2 then some (mvRn 3 (regN k) [44] (36 :: Lib.itoa imm)).1 else none) = _
    have hm : mvRn 3 (regN k) [44] (36 :: Lib.itoa imm) = ((4, (k : Int), 0, imm, []), true) := by
      unfold mvRn
      rw [given_of hib, hit.2.2, hro]
      rfl
    rw [hm]; rfl
  · obtain ⟨hl, rfl, rfl, rfl, _⟩ := insB_5 h
    rw [str_list] at hl
    exact .inl ⟨rfl, rfl, rfl, rfl, hl⟩

theorem printB_len {op d a imm : Int} {loc : List UInt8} (h : insB op d a 0 imm ⟨loc.toArray⟩ ⟨#[]⟩ 0 = true) : (printB op d a imm loc).length ≤ 60 := by
  rcases insB_op h with rfl | rfl | rfl | rfl | rfl
  · obtain ⟨hn, hi, rfl, rfl, _⟩ := insB_1 h
    rw [str_mk] at hn
    have := nameB_le hn
    have := itoa_len hi
    simp [printB]; omega
  · obtain ⟨hn, hr, rfl, rfl, _⟩ := insB_2 h
    rw [str_mk] at hn
    have := nameB_le hn
    obtain ⟨k, hk, rfl⟩ := regB_nat hr
    have := regN_le k hk
    simp [printB]; omega
  · obtain ⟨hn, hr, rfl, rfl, _⟩ := insB_3 h
    rw [str_mk] at hn
    have := nameB_le hn
    obtain ⟨k, hk, rfl⟩ := regB_nat hr
    have := regN_le k hk
    simp [printB]; omega
  · obtain ⟨hl, hr, hi, rfl, _⟩ := insB_4 h
    obtain ⟨k, hk, rfl⟩ := regB_nat hr
    have := regN_le k hk
    have := itoa_len hi
    simp [printB]; omega
  · simp [printB]

/-- In5, In2: what is printed, with blanks ahead (p), behind (q) and where they may stand (u, v), is read as the instruction. -/
theorem parse_spr {op d a imm : Int} {loc : List UInt8} (h : insB op d a 0 imm ⟨loc.toArray⟩ ⟨#[]⟩ 0 = true) (p u v q : List UInt8) (hp : ∀ c ∈ p, blankB c = true) (hu : ∀ c ∈ u, blankB c = true) (hv : ∀ c ∈ v, blankB c = true) (hq : ∀ c ∈ q, blankB c = true)
    (hl : p.length + (u.length + v.length) + q.length ≤ 100) : parseP (p ++ spr u v (printB op d a imm loc) ++ q) = some (op, d, a, imm, loc) := by
  have hlen : ¬ 262144 < (p ++ spr u v (printB op d a imm loc) ++ q).length := by
    have h1 := printB_len h
    have h2 := spr_len u v 100 (by omega) (printB op d a imm loc)
    simp only [List.length_append]
    omega
  have hw : wordsL (p ++ spr u v (printB op d a imm loc) ++ q) = wordsL (printB op d a imm loc) := by
    rw [words_blanks_r _ q hq, words_blanks_l p _ hp, words_spr u v hu hv _ _ (Nat.le_refl _)]
  rw [parse_same]
  rcases print_words h with ⟨rfl, rfl, rfl, rfl, rfl⟩ | ⟨r, hr, hrest⟩
  · have h5 : wordsL (printB 5 0 0 0 []) = [[77, 70, 69, 78, 67, 69]] := by decide +kernel
    rw [h5] at hw
    unfold parseR
    rw [if_neg hlen, hw]; rfl
  · have ha : apartB (p ++ spr u v (printB op d a imm loc) ++ q) = true := by
      have e : spr u v (77 :: 79 :: 86 :: 32 :: r) = 77 :: 79 :: 86 :: (u ++ (32 :: (v ++ spr u v r))) := by
        rw [spr_cons, spr_cons, spr_cons, spr_cons, spr1_goes (by decide), spr1_goes (by decide), spr1_goes (by decide)]
        simp [spr1]
      rw [hr, e]
      cases u with
      | nil =>
        have := apart_front p hp 32 (v ++ spr [] v r ++ q) (by decide)
        simpa using this
      | cons b u' =>
        have := apart_front p hp b (u' ++ (32 :: (v ++ spr (b :: u') v r)) ++ q) (hu b (by simp))
        simpa using this
    have hwm : wordsL (printB op d a imm loc) = [77, 79, 86] :: wordsL r := by
      rw [hr]
      have := words_blank [77, 79, 86] r (c := 32) (by decide)
      rw [words_goes (by simp) mov_goes] at this
      exact this
    rw [parseR_mov hlen (hw.trans hwm) ha, hrest]
theorem print_parse {op d a imm : Int} {loc : List UInt8} (h : insB op d a 0 imm ⟨loc.toArray⟩ ⟨#[]⟩ 0 = true) : parseP (printB op d a imm loc) = some (op, d, a, imm, loc) := by
  have := parse_spr h [] [] [] [] (by simp) (by simp) (by simp) (by simp) (by simp)
  rw [spr_none] at this
  simpa using this
/-- What is read may be. -/
theorem parse_insB {l : List UInt8} {op d a imm : Int} {loc : List UInt8} (h : parseP l = some (op, d, a, imm, loc)) : insB op d a 0 imm ⟨loc.toArray⟩ ⟨#[]⟩ 0 = true := by
  unfold parseP at h
  split at h
  · cases h
  · unfold parse2 at h
    split at h
    · cases h; simp [insB]
    · split at h
      · cases h
      · split at h
        · split at h
          · cases h
          · split at h
            · cases h
            · split at h
              · rename_i hc
                rw [Bool.and_eq_true] at hc
                have h2 := Option.some.inj h
                rw [h2] at hc
                exact hc.2
              · cases h
        · cases h
end Go.Proofs.YtlpcahkchmlghaaDoor
