/- Layer 8: what is printed is read as what it was: plain: the tokens of what is printed. -/
import Derived.Test.YtmlnibjnacfanaaGreatDoorFa
import Derived.Test.YtmlnibjnacfanaaGreatDoorCk
namespace Go.Proofs.YtmlnibjnacfanaaGreatDoor
open Go.RowKit

theorem tw_app {p : UInt8 → Bool} : ∀ (u : List UInt8) (x : List UInt8), (∀ c ∈ u, p c = true) → (∀ c, x.head? = some c → p c = false) → ((u ++ x).takeWhile p).length = u.length
  | [], [], _, _ => rfl
  | [], c :: r, _, h => by simp [h c rfl]
  | c :: u, x, h, h' => by
    rw [List.cons_append, List.takeWhile_cons, h c (by simp)]
    simp only [if_true, List.length_cons]
    rw [tw_app u x (fun d hd => h d (by simp [hd])) h']
/-- A token that stands ahead. -/
theorem toks_at (p : Nat) (u x : List UInt8) (hb : ∀ c, u.head? = some c → blkB c = false) (hn : u ≠ []) (hl : longL (u ++ x) = u.length) : toks p (u ++ x) = (u, p) :: toks (p + u.length) x := by
  cases u with
  | nil => exact absurd rfl hn
  | cons c r =>
    have := toks_tok p (c := c) (r := r ++ x) (hb c rfl)
    rw [List.cons_append] at hl ⊢
    rw [this, hl, show c :: (r ++ x) = (c :: r) ++ x from rfl, List.take_left, List.drop_left]
def noHd (p : UInt8 → Bool) (x : List UInt8) : Prop := ∀ c, x.head? = some c → p c = false
theorem noHd_cons {p : UInt8 → Bool} {c : UInt8} (h : p c = false) (y : List UInt8) : noHd p (c :: y) := fun d hd => by simp at hd; subst hd; exact h
theorem letter_not {c : UInt8} (h : letterB c = true) : blkB c = false ∧ digitB c = false ∧ c ≠ 45 ∧ c ≠ 91 ∧ c ≠ 126 ∧ c ≠ 40 ∧ c ≠ 47 ∧ c ≠ 92 ∧ c ≠ 61 ∧ c ≠ 58 := by
  have e : ∀ k : UInt8, c = k → (c.toNat : Int) = (k.toNat : Int) := fun k hk => by rw [hk]
  simp [letterB] at h
  refine ⟨?_, ?_, ?_, ?_, ?_, ?_, ?_, ?_, ?_, ?_⟩
  · simp [blkB]; omega
  · simp [digitB]; omega
  all_goals (intro hx; have := e _ hx; simp at this; omega)
theorem digit_not {c : UInt8} (h : digitB c = true) : blkB c = false ∧ letterB c = false ∧ c ≠ 45 ∧ c ≠ 91 ∧ c ≠ 126 ∧ c ≠ 40 ∧ c ≠ 47 ∧ c ≠ 92 ∧ c ≠ 61 ∧ c ≠ 58 ∧ c ≠ 116 := by
  have e : ∀ k : UInt8, c = k → (c.toNat : Int) = (k.toNat : Int) := fun k hk => by rw [hk]
  simp [digitB] at h
  refine ⟨?_, ?_, ?_, ?_, ?_, ?_, ?_, ?_, ?_, ?_, ?_⟩
  · simp [blkB]; omega
  · simp [letterB]; omega
  all_goals (intro hx; have := e _ hx; simp at this; omega)
theorem toks_word (p : Nat) (c : UInt8) (r x : List UInt8) (hc : letterB c = true) (hr : ∀ d ∈ r, partB d = true) (hx : noHd partB x) : toks p ((c :: r) ++ x) = (c :: r, p) :: toks (p + (c :: r).length) x := by
  refine toks_at p (c :: r) x (fun d hd => ?_) (by simp) ?_
  · simp at hd; subst hd; exact (letter_not hc).1
  · rw [List.cons_append]
    simp only [longL, hc, if_true, List.length_cons]
    rw [tw_app r x hr hx]; omega
theorem toks_digits (p : Nat) (c : UInt8) (r x : List UInt8) (hc : digitB c = true) (hr : ∀ d ∈ r, digitB d = true) (hx : noHd digitB x) : toks p ((c :: r) ++ x) = (c :: r, p) :: toks (p + (c :: r).length) x := by
  have hn := digit_not hc
  refine toks_at p (c :: r) x (fun d hd => ?_) (by simp) ?_
  · simp at hd; subst hd; exact hn.1
  · rw [List.cons_append]
    simp only [longL, hc, hn.2.1, Bool.true_or, if_true, Bool.false_eq_true, if_false, List.length_cons]
    rw [tw_app r x hr hx]; omega
theorem toks_neg (p : Nat) (c : UInt8) (r x : List UInt8) (hc : digitB c = true) (hr : ∀ d ∈ r, digitB d = true) (hx : noHd digitB x) : toks p ((45 :: c :: r) ++ x) = (45 :: c :: r, p) :: toks (p + (45 :: c :: r).length) x := by
  have h45 : letterB 45 = false := by decide
  have d45 : digitB 45 = false := by decide
  refine toks_at p (45 :: c :: r) x (fun d hd => ?_) (by simp) ?_
  · simp at hd; subst hd; decide
  · rw [List.cons_append, List.cons_append]
    simp only [longL, h45, d45, hdDig, hc, Bool.false_or, Bool.and_true, beq_self_eq_true, if_true, Bool.false_eq_true, if_false, List.length_cons]
    have := tw_app (p := digitB) (c :: r) x (fun d hd => by
      rcases List.mem_cons.1 hd with rfl | hd
      · exact hc
      · exact hr d hd) hx
    rw [List.cons_append] at this
    rw [this]; simp; omega
theorem toks_itoa (p : Nat) (v : Int) (x : List UInt8) (hx : noHd digitB x) : toks p (Lib.itoa v ++ x) = (Lib.itoa v, p) :: toks (p + (Lib.itoa v).length) x := by
  unfold Lib.itoa
  split
  · obtain ⟨_, _, b, r, h3, h4, _⟩ := dec_facts v.natAbs v.natAbs (Nat.le_refl _)
    have hd := decDigits_digit _ _ (Nat.le_refl v.natAbs)
    rw [h3] at hd ⊢
    exact toks_neg p b r x h4 (fun d hd' => hd d (by simp [hd'])) hx
  · obtain ⟨_, _, b, r, h3, h4, _⟩ := dec_facts v.toNat v.toNat (Nat.le_refl _)
    have hd := decDigits_digit _ _ (Nat.le_refl v.toNat)
    rw [h3] at hd ⊢
    exact toks_digits p b r x h4 (fun d hd' => hd d (by simp [hd'])) hx
theorem itoa_head (v : Int) : ∃ c r, Lib.itoa v = c :: r ∧ (digitB c = true ∨ c = 45) ∧ (0 ≤ v → digitB c = true) := by
  unfold Lib.itoa
  split
  · exact ⟨_, _, rfl, .inr rfl, fun h => by omega⟩
  · obtain ⟨_, _, b, r, h3, h4, _⟩ := dec_facts v.toNat v.toNat (Nat.le_refl _)
    exact ⟨b, r, h3, .inl h4, fun _ => h4⟩
theorem toks_one (p : Nat) (c : UInt8) (x : List UInt8) (h1 : blkB c = false) (h2 : letterB c = false) (h3 : digitB c = false) (h4 : c ≠ 45) (h5 : c ≠ 47) (h6 : c ≠ 92) : toks p (c :: x) = ([c], p) :: toks (p + 1) x := by
  have := toks_at p [c] x (fun d hd => by simp at hd; subst hd; exact h1) (by simp) (by
    have a : (c == 45) = false := by simpa using h4
    have b : (c == 47) = false := by simpa using h5
    have d : (c == 92) = false := by simpa using h6
    simp [longL, h2, h3, a, signB, b, d])
  simpa using this
theorem toks_40 (p : Nat) (x : List UInt8) : toks p (40 :: x) = ([40], p) :: toks (p + 1) x := toks_one p 40 x (by decide) (by decide) (by decide) (by decide) (by decide) (by decide)
theorem toks_41 (p : Nat) (x : List UInt8) : toks p (41 :: x) = ([41], p) :: toks (p + 1) x := toks_one p 41 x (by decide) (by decide) (by decide) (by decide) (by decide) (by decide)
theorem toks_126 (p : Nat) (x : List UInt8) : toks p (126 :: x) = ([126], p) :: toks (p + 1) x := toks_one p 126 x (by decide) (by decide) (by decide) (by decide) (by decide) (by decide)
theorem toks_61 (p : Nat) (x : List UInt8) : toks p (61 :: x) = ([61], p) :: toks (p + 1) x := toks_one p 61 x (by decide) (by decide) (by decide) (by decide) (by decide) (by decide)
theorem toks_58 (p : Nat) (x : List UInt8) : toks p (58 :: x) = ([58], p) :: toks (p + 1) x := toks_one p 58 x (by decide) (by decide) (by decide) (by decide) (by decide) (by decide)
theorem toks_32 (p : Nat) (x : List UInt8) : toks p (32 :: x) = toks (p + 1) x := toks_blank p (by decide)
def signT (m : Int) : List UInt8 := if m = 4 then [47, 92] else [92, 47]
theorem toks_sep {m : Int} (hm : m = 4 ∨ m = 5) (p : Nat) (x : List UInt8) : toks p (sepT m ++ x) = (signT m, p + 1) :: toks (p + 4) x := by
  rcases hm with rfl | rfl
  · show toks p (32 :: ([47, 92] ++ (32 :: x))) = _
    rw [toks_32, toks_at (p + 1) [47, 92] (32 :: x) (fun d hd => by simp at hd; subst hd; decide) (by simp) (by
      have h1 : letterB 47 = false := by decide
      have h2 : digitB 47 = false := by decide
      simp [longL, h1, h2, signB])]
    rw [toks_32]; rfl
  · show toks p (32 :: ([92, 47] ++ (32 :: x))) = _
    rw [toks_32, toks_at (p + 1) [92, 47] (32 :: x) (fun d hd => by simp at hd; subst hd; decide) (by simp) (by
      have h1 : letterB 92 = false := by decide
      have h2 : digitB 92 = false := by decide
      simp [longL, h1, h2, signB])]
    rw [toks_32]; rfl
/-- What may stand behind a node's text. -/
def Stop (x : List UInt8) : Prop := ∃ y, x = sepT 4 ++ y ∨ x = sepT 5 ++ y ∨ x = 41 :: y
theorem Stop.head {x : List UInt8} (h : Stop x) : ∃ c y, x = c :: y ∧ (c = 32 ∨ c = 41) := by
  obtain ⟨y, rfl | rfl | rfl⟩ := h
  · exact ⟨32, _, rfl, .inl rfl⟩
  · exact ⟨32, _, rfl, .inl rfl⟩
  · exact ⟨41, _, rfl, .inr rfl⟩
theorem Stop.digit {x : List UInt8} (h : Stop x) : noHd digitB x := by
  obtain ⟨c, y, e, h⟩ := h.head
  rw [e]
  rcases h with rfl | rfl
  · exact noHd_cons (by decide) y
  · exact noHd_cons (by decide) y
theorem Stop.part {x : List UInt8} (h : Stop x) : noHd partB x := by
  obtain ⟨c, y, e, h⟩ := h.head
  rw [e]
  rcases h with rfl | rfl
  · exact noHd_cons (by decide) y
  · exact noHd_cons (by decide) y
theorem Stop.no61 {x : List UInt8} (h : Stop x) (q : Nat) : hd (toks q x) ≠ [61] := by
  obtain ⟨y, rfl | rfl | rfl⟩ := h
  · rw [toks_sep (.inl rfl)]; exact (by decide : signT 4 ≠ [61])
  · rw [toks_sep (.inr rfl)]; exact (by decide : signT 5 ≠ [61])
  · rw [toks_41]; exact (by decide : ([41] : List UInt8) ≠ [61])
theorem Stop.sep {m : Int} (hm : m = 4 ∨ m = 5) (x : List UInt8) : Stop (sepT m ++ x) := by
  rcases hm with rfl | rfl
  · exact ⟨x, .inl rfl⟩
  · exact ⟨x, .inr (.inl rfl)⟩
theorem Stop.close (x : List UInt8) : Stop (41 :: x) := ⟨x, .inr (.inr rfl)⟩

theorem reg_shape {a r : Int} (ha : archB a = true) (h0 : 0 ≤ r) (h1 : r < regs a) : regOf a (regT a r) = some r.toNat ∧ ∃ c s, regT a r = c :: s ∧ letterB c = true ∧ ∀ d ∈ s, partB d = true := by
  have ha' : a = 1 ∨ a = 2 := by simpa [archB] using ha
  rcases ha' with rfl | rfl
  · have : ∀ k : Fin 15, regOf 1 (regT 1 (k.val : Int)) = some k.val ∧ ((regT 1 (k.val : Int)).head?.map letterB = some true ∧ (regT 1 (k.val : Int)).tail.all partB = true) := by decide +kernel
    obtain ⟨k, rfl⟩ := Int.eq_ofNat_of_zero_le h0
    have hk : k < 15 := by simp [regs] at h1; omega
    obtain ⟨i1, i2, i3⟩ := this ⟨k, hk⟩
    simp only at i1 i2 i3
    refine ⟨by simpa using i1, ?_⟩
    cases e : regT 1 (k : Int) with
    | nil => rw [e] at i2; cases i2
    | cons c s => rw [e] at i2 i3; exact ⟨c, s, rfl, by simpa using i2, by simpa using i3⟩
  · have : ∀ k : Fin 32, regOf 2 (regT 2 (k.val : Int)) = some k.val ∧ ((regT 2 (k.val : Int)).head?.map letterB = some true ∧ (regT 2 (k.val : Int)).tail.all partB = true) := by decide +kernel
    obtain ⟨k, rfl⟩ := Int.eq_ofNat_of_zero_le h0
    have hk : k < 32 := by simp [regs] at h1; omega
    obtain ⟨i1, i2, i3⟩ := this ⟨k, hk⟩
    simp only at i1 i2 i3
    refine ⟨by simpa using i1, ?_⟩
    cases e : regT 2 (k : Int) with
    | nil => rw [e] at i2; cases i2
    | cons c s => rw [e] at i2 i3; exact ⟨c, s, rfl, by simpa using i2, by simpa using i3⟩
theorem name_shape {l : List UInt8} (h : nameB l = true) : ∃ c s, l = c :: s ∧ letterB c = true ∧ ∀ d ∈ s, partB d = true := by
  cases l with
  | nil => cases h
  | cons c r =>
    simp only [nameB, Bool.and_eq_true, decide_eq_true_eq, List.all_eq_true] at h
    exact ⟨c, r, rfl, h.1.2, h.2⟩
theorem minB_itoa (v : Int) : minB (Lib.itoa v) = true := by
  obtain ⟨c, r, e, h, _⟩ := itoa_head v
  rw [e]
  rcases h with h | rfl
  · simp [minB, h]
  · simp [minB]
/-- An atom's text is read as the atom. -/
theorem atom_back (e p : Nat) {a t r v : Int} {l : List UInt8} (x : List UInt8) (ha : archB a = true) (ho : thingB a t r l = true) (hv : numB v = true) (hx : Stop x) (f : Nat) :
    pNot e a (f + 1) (toks p (atomT a t r l v ++ x)) = .ok ⟨2, t, r, l, v, .nil⟩ (toks (p + (atomT a t r l v).length) x) := by
  have hv' := numB_iff hv
  have hin := numIn_itoa hv hv'.1 hv'.2
  have h61 : noHd partB (61 :: (Lib.itoa v ++ x)) := noHd_cons (by decide) _
  unfold thingB at ho
  by_cases ht : t = -1
  · subst ht
    rw [if_pos rfl] at ho
    simp only [Bool.and_eq_true, decide_eq_true_eq] at ho
    obtain ⟨rfl, hn⟩ := ho
    obtain ⟨c, s, rfl, hc, hs⟩ := name_shape hn
    have hcn := letter_not hc
    have e1 : atomT a (-1) 0 (c :: s) v ++ x = (c :: s) ++ 61 :: (Lib.itoa v ++ x) := by simp [atomT, thT]
    have e2 : (atomT a (-1) 0 (c :: s) v).length = (c :: s).length + 1 + (Lib.itoa v).length := by simp [atomT, thT]; omega
    rw [e1, e2, toks_word p c s _ hc hs h61, toks_61, toks_itoa _ v x hx.digit]
    have n1 : ¬ (c :: s = [126]) := by intro h; injection h with h _; exact hcn.2.2.2.2.1 h
    have n2 : ¬ (c :: s = [40]) := by intro h; injection h with h _; exact hcn.2.2.2.2.2.1 h
    have n3 : ¬ (c :: s = [91]) := by intro h; injection h with h _; exact hcn.2.2.2.1 h
    have n4 : minB (c :: s) = false := by
      have : ¬ (c.toNat : Int) = 45 := fun hh => hcn.2.2.1 (UInt8.toNat_inj.1 (by simpa using (by omega : c.toNat = 45)))
      simp [minB, hcn.2.1]; omega
    simp only [pNot, hd, List.tail_cons, n1, n2, if_false, pAtom, pThing, n3, n4, Bool.false_eq_true, pLoc, hn, if_true, Rs.go, pTake, pInt, hin, ne_eq, not_true_eq_false, and_false]
    congr 2; simp; omega
  · rw [if_neg ht] at ho
    simp only [Bool.and_eq_true, decide_eq_true_eq, List.isEmpty_iff] at ho
    obtain ⟨⟨⟨⟨h0, h16⟩, hr0⟩, hr1⟩, rfl⟩ := ho
    obtain ⟨hro, c, s, hce, hc, hs⟩ := reg_shape ha hr0 hr1
    obtain ⟨d, s', hde, _, hdd⟩ := itoa_head t
    have hdn := digit_not (hdd h0)
    have hti := numIn_itoa (lo := 0) (hi := 15) (numB_t (n := t) (by omega) (by omega)) h0 (by omega)
    have hmin := minB_itoa t
    have e1 : atomT a t r [] v ++ x = Lib.itoa t ++ 58 :: (regT a r ++ 61 :: (Lib.itoa v ++ x)) := by simp [atomT, thT, h0]
    have e2 : (atomT a t r [] v).length = (Lib.itoa t).length + 1 + (regT a r).length + 1 + (Lib.itoa v).length := by simp [atomT, thT, h0]; omega
    have n1 : ¬ (Lib.itoa t = [126]) := by rw [hde]; intro h; injection h with h _; exact hdn.2.2.2.2.1 h
    have n2 : ¬ (Lib.itoa t = [40]) := by rw [hde]; intro h; injection h with h _; exact hdn.2.2.2.2.2.1 h
    have n3 : ¬ (Lib.itoa t = [91]) := by rw [hde]; intro h; injection h with h _; exact hdn.2.2.2.1 h
    have n4 : ¬ (Lib.itoa t = [116, 114, 117, 101]) := by rw [hde]; intro h; injection h with h _; exact hdn.2.2.2.2.2.2.2.2.2.2 h
    have hw : ∀ q, toks q (regT a r ++ 61 :: (Lib.itoa v ++ x)) = (regT a r, q) :: toks (q + (regT a r).length) (61 :: (Lib.itoa v ++ x)) := by
      intro q; rw [hce]; exact toks_word q c s _ hc hs h61
    rw [e1, e2, toks_itoa p t _ (noHd_cons (by decide) _), toks_58, hw, toks_61, toks_itoa _ v x hx.digit]
    simp only [pNot, hd, List.tail_cons, n1, n2, if_false, pAtom, pThing, n3, hmin, if_true, n4, false_and, Rs.go, pTake, pInt, hin, hti, pReg, hro]
    rw [show ((r.toNat : Nat) : Int) = r by omega]
    congr 2; omega
end Go.Proofs.YtmlnibjnacfanaaGreatDoor
