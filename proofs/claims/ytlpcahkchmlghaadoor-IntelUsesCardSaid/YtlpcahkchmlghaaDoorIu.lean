/- The plain law: the program's Parse and the reference's are one function. -/
import Derived.Test.YtlpcahkchmlghaaDoorIt
namespace Go.Proofs.YtlpcahkchmlghaaDoor
open Go.RowKit

theorem mv_nocomma {L : List (List UInt8)} (h : [44] ∉ L) : (mvR L).2 = false := by
  unfold mvR
  split
  · rename_i x0 x1 x2 x3 x4
    have h3 : x3 ≠ [44] := by rintro rfl; simp at h
    have h1 : x1 ≠ [44] := by rintro rfl; simp at h
    simp [mvR5, beq44 h3, beq44 h1]
  · rename_i x0 x1 x2 r _
    have h1 : x1 ≠ [44] := by rintro rfl; simp at h
    simp [mvRn, beq44 h1]
  · rfl
def rest (L : List (List UInt8)) : Option (Int × Int × Int × Int × List UInt8) := if (mvR L).2 then some (mvR L).1 else none
theorem rest_few {L : List (List UInt8)} (h : L.length < 3) : rest L = none := by
  match L, h with
  | [], _ => rfl
  | [_], _ => rfl
  | [_, _], _ => rfl
/-- The reference's answer where the first word is MOV and a blank follows. -/
theorem parseR_mov {l : List UInt8} (hl : ¬ 262144 < l.length) {L : List (List UInt8)} (hw : wordsL l = [77, 79, 86] :: L) (ha : apartB l = true) : parseR l = rest L := by
  unfold parseR
  rw [if_neg hl, hw]
  match L with
  | [] => rw [rest_few (by simp)]; rfl
  | [_] => rw [rest_few (by simp)]
  | [_, _] => rw [rest_few (by simp)]
  | x1 :: x2 :: x3 :: r =>
    show (if ([77, 79, 86] : List UInt8) == [77, 79, 86] && apartB l then _ else none) = _
    rw [ha]; rfl
theorem blank_goes {c : UInt8} (h : blankB c = true) : goesB c = false := goes_blank h
theorem mov_goes : ∀ c ∈ ([77, 79, 86] : List UInt8), goesB c = true := by decide
theorem mf_goes : ∀ c ∈ ([77, 70, 69, 78, 67, 69] : List UInt8), goesB c = true := by decide
/-- What both ask of the text's beginning. -/
def Front (t : List UInt8) (c : UInt8) (r : List UInt8) : Prop := t = 77 :: 79 :: 86 :: c :: r ∧ blankB c = true
theorem front_words {l : List UInt8} {c : UInt8} {r : List UInt8} (h : Front (trimB l) c r) : wordsL l = [77, 79, 86] :: wordsL r ∧ apartB l = true := by
  obtain ⟨h1, h2⟩ := h
  constructor
  · rw [← words_trim l, h1]
    have := words_blank [77, 79, 86] r h2
    rw [words_goes (by simp) mov_goes] at this
    exact this
  · obtain ⟨u, v, g1, g2, g3, g4, _⟩ := trim_split l
    unfold apartB
    have : l.dropWhile blankB = trimB l ++ v := by
      have e : l.dropWhile blankB = (u ++ (trimB l ++ v)).dropWhile blankB := by rw [← List.append_assoc, ← g1]
      rw [e, dw_all _ g2]
      exact dw_head (fun d hd => by rw [h1] at hd; simp at hd; subst hd; decide)
    rw [this, h1]
    exact h2
theorem words_front {l : List UInt8} {x1 : List UInt8} {L : List (List UInt8)} (hw : wordsL l = [77, 79, 86] :: x1 :: L) (ha : apartB l = true) : ∃ c r, Front (trimB l) c r := by
  obtain ⟨u0, v, g1, g2, g3, g4, _⟩ := trim_split l
  have hwt : wordsL (trimB l) = [77, 79, 86] :: x1 :: L := by rw [words_trim]; exact hw
  obtain ⟨u, r, h1, h2, h3, _⟩ := words_first (trimB l) _ _ hwt
  have hu : u = [] := by
    cases u with
    | nil => rfl
    | cons d u' =>
      have := g4 d (by rw [h1]; rfl)
      rw [h2 d (by simp)] at this; cases this
  subst hu
  rw [List.nil_append] at h1
  cases r with
  | nil => rw [wordsL_nil] at h3; cases h3
  | cons c r =>
    refine ⟨c, r, by rw [h1]; rfl, ?_⟩
    unfold apartB at ha
    have : l.dropWhile blankB = trimB l ++ v := by
      have e : l.dropWhile blankB = (u0 ++ (trimB l ++ v)).dropWhile blankB := by rw [← List.append_assoc, ← g1]
      rw [e, dw_all _ g2]
      exact dw_head (fun d hd => by rw [h1] at hd; simp at hd; subst hd; decide)
    rw [this, h1] at ha
    exact ha
theorem parse2_front {t : List UInt8} {c : UInt8} {r : List UInt8} (h : Front t c r) : parse2 t = rest (wordsL r) := by
  obtain ⟨h1, h2⟩ := h
  have hM : ¬ t = [77, 70, 69, 78, 67, 69] := by rw [h1]; simp
  have hp : Lib.hasPrefix t [77, 79, 86] = true := by rw [h1]; simp [Lib.hasPrefix, List.isPrefixOf]
  have h4 : 4 ≤ t.length := by rw [h1]; simp
  have h3 : t[3] = c := by simp only [h1]; rfl
  have hd : t.drop 3 = c :: r := by rw [h1]; rfl
  have hwr : wordsL (c :: r) = wordsL r := by rw [wordsL_cons, h2]; rfl
  unfold parse2
  rw [if_neg hM, if_neg (by rw [hp]; simp), dif_pos h4, if_neg (by rw [h3, h2]; simp), hd]
  by_cases hc : (44 : UInt8) ∈ c :: r
  · obtain ⟨a, b, e1, e2⟩ := comma_split _ hc
    have hw : wordsL r = wordsL a ++ [44] :: wordsL b := by rw [← hwr, e1, words_sign a b sign44]
    rw [e1, cut_some e2, hw]
    rw [if_neg (by simp)]
    unfold rest
    cases hm : (mvP (trimB a) (trimB b)).2 with
    | true =>
      have hi := mv_insB hm
      have ht := mv_to a b hm
      rw [ht, hm]
      simp only [Bool.true_and]
      rw [if_pos hi]; rfl
    | false =>
      have : (mvR (wordsL a ++ [44] :: wordsL b)).2 = false := by
        cases hx : (mvR (wordsL a ++ [44] :: wordsL b)).2 with
        | false => rfl
        | true => rw [mv_from a b e2 hx] at hm; cases hm
      rw [this]; rfl
  · rw [if_pos (cut_none hc)]
    have : (mvR (wordsL r)).2 = false := mv_nocomma (by rw [← hwr]; exact no_comma hc)
    unfold rest
    rw [this]; rfl
theorem parse2_nofront {t : List UInt8} (hM : t ≠ [77, 70, 69, 78, 67, 69]) (h : ∀ c r, ¬ Front t c r) : parse2 t = none := by
  unfold parse2
  rw [if_neg hM]
  by_cases hp : Lib.hasPrefix t [77, 79, 86] = false
  · rw [if_pos hp]
  · rw [if_neg hp]
    replace hp : Lib.hasPrefix t [77, 79, 86] = true := by simpa using hp
    obtain ⟨q, hq⟩ := List.isPrefixOf_iff_prefix.1 hp
    by_cases h4 : 4 ≤ t.length
    · rw [dif_pos h4]
      cases q with
      | nil => rw [← hq] at h4; simp at h4
      | cons c r =>
        have h3 : t[3] = c := by simp only [← hq]; rfl
        cases hb : blankB c with
        | true => exact absurd ⟨hq.symm, hb⟩ (h c r)
        | false => rw [if_pos (by rw [h3]; exact hb)]
    · rw [dif_neg h4]

theorem parse_same (l : List UInt8) : parseP l = parseR l := by
  by_cases hl : 262144 < l.length
  · unfold parseP parseR; rw [if_pos hl, if_pos hl]
  have hP : parseP l = parse2 (trimB l) := by unfold parseP; rw [if_neg hl]
  rw [hP]
  by_cases hM : trimB l = [77, 70, 69, 78, 67, 69]
  · have hw : wordsL l = [[77, 70, 69, 78, 67, 69]] := (words_one l _ mf_goes (by simp)).2 hM
    unfold parse2 parseR
    rw [if_pos hM, if_neg hl, hw]; rfl
  by_cases hf : ∃ c r, Front (trimB l) c r
  · obtain ⟨c, r, hf⟩ := hf
    obtain ⟨h1, h2⟩ := front_words hf
    rw [parse2_front hf, parseR_mov hl h1 h2]
  · rw [parse2_nofront hM (fun c r h => hf ⟨c, r, h⟩)]
    symm
    unfold parseR
    rw [if_neg hl]
    split
    · rename_i x hw
      by_cases hx : x = [77, 70, 69, 78, 67, 69]
      · rw [hx] at hw; exact absurd ((words_one l _ mf_goes (by simp)).1 hw) hM
      · rw [if_neg (by simpa using hx)]
    · rename_i x0 x1 x2 x3 r hw
      by_cases hx : x0 = [77, 79, 86] ∧ apartB l = true
      · rw [hx.1] at hw; exact absurd (words_front hw hx.2) hf
      · rw [if_neg (by simpa using hx)]
    · rfl
end Go.Proofs.YtlpcahkchmlghaaDoor
