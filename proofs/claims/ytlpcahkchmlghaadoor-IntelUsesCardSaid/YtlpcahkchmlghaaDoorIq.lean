/- The reference's Parse as one contract. -/
import Derived.Test.YtlpcahkchmlghaaDoorIp
namespace Go.Proofs.YtlpcahkchmlghaaDoor
open Go.RowKit

theorem words_elem : ∀ (n : Nat) (l : List UInt8), l.length ≤ n → ∀ x ∈ wordsL l, x.length ≤ l.length := by
  intro n
  induction n with
  | zero => intro l h x hx; have : l = [] := List.eq_nil_of_length_eq_zero (by omega); subst this; simp [wordsL_nil] at hx
  | succ n ih =>
    intro l h x hx
    cases l with
    | nil => simp [wordsL_nil] at hx
    | cons c r =>
      have hr : r.length ≤ n := by simpa using h
      have hd : (r.dropWhile goesB).length ≤ r.length := (List.dropWhile_sublist goesB).length_le
      have htw : (r.takeWhile goesB).length ≤ r.length := (List.takeWhile_sublist goesB).length_le
      rw [wordsL_cons] at hx
      split at hx
      · have := ih r hr x hx; simp; omega
      · split at hx
        · rcases List.mem_cons.1 hx with rfl | hx
          · simp
          · have := ih r hr x hx; simp; omega
        · rcases List.mem_cons.1 hx with rfl | hx
          · simpa using htw
          · have := ih _ (Nat.le_trans hd hr) x hx; simp; omega

theorem parseR_c (l : List UInt8) (hl : l.length ≤ 9223372036854775807) (w : World) (hE : Env w) :
    Calls Tryd.prog 11 #[.string ⟨l.toArray⟩] w fun e w' => e = .returned (prV (parseR l)) ∧ Below w.heap.size w w' := by
  by_cases h0 : 262144 < l.length
  · rw [parseR, if_pos h0]; exact parseR_long l h0 hl w
  rw [parseR, if_neg h0]
  have hle : l.length ≤ 262144 := by omega
  have hel := words_elem l.length l (Nat.le_refl _)
  obtain ⟨ws, hw⟩ : ∃ ws, wordsL l = ws := ⟨_, rfl⟩
  rw [hw] at hel ⊢
  match ws, hw, hel with
  | [], hw, _ => exact parseR_few l hle [] hw 0 rfl (by omega) (by omega) w
  | [x], hw, _ =>
    show Calls _ _ _ w fun e w' => e = .returned (prV (if x == [77, 70, 69, 78, 67, 69] then some (5, 0, 0, 0, []) else none)) ∧ _
    cases he : x == [77, 70, 69, 78, 67, 69] with
    | true => exact parseR_one_t l hle x hw he w
    | false => exact parseR_one_f l hle x hw he w
  | [x, y], hw, _ => exact parseR_few l hle [x, y] hw 2 rfl (by omega) (by omega) w
  | [x, y, z], hw, _ => exact parseR_few l hle [x, y, z] hw 3 rfl (by omega) (by omega) w
  | x0 :: x1 :: x2 :: x3 :: r, hw, hel =>
    have h3 : 3 ≤ (x1 :: x2 :: x3 :: r).length := by simp
    show Calls _ _ _ w fun e w' => e = .returned (prV (if (x0 == [77, 79, 86]) && apartB l then if (mvR (x1 :: x2 :: x3 :: r)).2 then some (mvR (x1 :: x2 :: x3 :: r)).1 else none else none)) ∧ _
    cases he : x0 == [77, 79, 86] with
    | false => exact parseR_nomov l hle x0 _ hw h3 he w hE
    | true =>
      cases ha : apartB l with
      | false => exact parseR_noapart l hle x0 _ hw h3 he ha w hE
      | true =>
        have hL : ∀ x ∈ x1 :: x2 :: x3 :: r, x.length ≤ 262144 := fun x hx => Nat.le_trans (hel x (List.mem_cons_of_mem _ hx)) hle
        obtain ⟨op, d, x, imm, loc, b, hm⟩ : ∃ op d x imm loc b, mvR (x1 :: x2 :: x3 :: r) = ((op, d, x, imm, loc), b) := ⟨_, _, _, _, _, _, rfl⟩
        rw [hm]
        cases b with
        | false => exact parseR_nomove l hle x0 _ hw h3 he ha hL op d x imm loc hm w hE
        | true => exact parseR_yes l hle x0 _ hw h3 he ha hL op d x imm loc hm w hE
end Go.Proofs.YtlpcahkchmlghaaDoor
