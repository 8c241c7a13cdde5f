/- The reference's apart, Int, given, place: plain functions and contracts. -/
import Derived.Test.YtlpcahkchmlghaaDoorIj
namespace Go.Proofs.YtlpcahkchmlghaaDoor
open Go.RowKit

def apartB (l : List UInt8) : Bool := match (l.dropWhile blankB)[3]? with
  | some c => blankB c
  | none => false
theorem drop_blank {l : List UInt8} {m : Nat} (hm : m ≤ l.length) (hall : ∀ j (hj : j < l.length), j < m → blankB l[j] = true) (hstop : ∀ h : m < l.length, blankB l[m] = false) : l.dropWhile blankB = l.drop m :=
  Lib.dropWhile_drop blankB l m (fun j b hj hb => by
    have hl : j < l.length := by omega
    rw [List.getElem?_eq_getElem hl] at hb
    injection hb with hb
    rw [← hb]; exact hall j hl hj) (fun b hb => by
    have hl : m < l.length := by
      rcases Nat.lt_or_ge m l.length with h | h
      · exact h
      · rw [List.getElem?_eq_none h] at hb; cases hb
    rw [List.getElem?_eq_getElem hl] at hb
    injection hb with hb
    rw [← hb]; exact hstop hl) hm
theorem blankR_l (c : UInt8) (w : World) : Calls Tryd.prog 63 #[.int .u8 (c.toNat : Int)] w fun e w' => e = .returned (.bool (blankB c)) ∧ w = w' := blankR c _ rfl w

set_option maxRecDepth 100000 in
set_option maxHeartbeats 400000 in
theorem apartR (l : List UInt8) (hl : l.length ≤ 262144) (w : World) : Calls Tryd.prog 36 #[.string ⟨l.toArray⟩] w fun e w' => e = .returned (.bool (apartB l)) ∧ w = w' := by
  go_enter Tryd.func36, Tryd.ntmps36
  go_wp2
  go_loop [3] (fun i => ∃ m : Nat, i = .int .i64 m ∧ m ≤ l.length ∧ ∀ j (hj : j < l.length), j < m → blankB l[j] = true) (fun i => l.length - (intOf i).toNat)
  case atStart => exact ⟨0, rfl, Nat.zero_le _, fun j _ h => absurd h (Nat.not_lt_zero _)⟩
  case round =>
    obtain ⟨m, rfl, hm, hall⟩ := hrel
    have H := Lib.hid hall
    clear hall
    have fin : (∀ h : m < l.length, blankB l[m] = false) → apartB l = match l[m + 3]? with | some c => blankB c | none => false := fun hs => by
      unfold apartB
      rw [drop_blank hm H.out hs, List.getElem?_drop]
    have HF := Lib.hid fin
    clear fin
    by_cases hlt : m < l.length
    · obtain ⟨c, hc⟩ : ∃ c, l[m] = c := ⟨_, rfl⟩
      have hx : ∀ h, (⟨l.toArray⟩ : ByteArray)[m]'h = c := fun _ => hc
      have HC := Lib.hid hc
      clear hc
      have hclt : (c.toNat : Int) < 256 := by have := c.toNat_lt; omega
      cases hb : blankB c with
      | true =>
        go_wp2_with (go_at_call 63; refine (blankR_l _ _).mono ?_; rintro e w' ⟨rfl, rfl⟩)
        go_round
        case rel => exact ⟨m + 1, by go_num, by omega, fun j hj h => by
          by_cases e : j < m
          · exact H.out j hj e
          · obtain rfl : j = m := by omega
            rw [HC.out]; exact hb⟩
        case measure => simp [intOf]; omega
      | false =>
        have HF2 := Lib.hid (HF.out (fun _ => by rw [HC.out]; exact hb))
        by_cases h3 : m + 3 < l.length
        · obtain ⟨d, hd⟩ : ∃ d, l[m + 3] = d := ⟨_, rfl⟩
          have hxd : ∀ h, (⟨l.toArray⟩ : ByteArray)[m + 3]'h = d := fun _ => hd
          have HD := Lib.hid hd
          clear hd
          have hdlt : (d.toNat : Int) < 256 := by have := d.toNat_lt; omega
          have h3i : (m : Int) + 3 < (l.length : Int) := by omega
          go_wp2_with (go_at_call 63; refine (blankR_l _ _).mono ?_; rintro e w' ⟨rfl, rfl⟩)
          go_ret
          exact ⟨ret_bool (by rw [HF2.out, List.getElem?_eq_getElem h3, HD.out]), rfl⟩
        · have h3i : (l.length : Int) ≤ (m : Int) + 3 := by omega
          go_wp2_with (go_at_call 63; refine (blankR_l _ _).mono ?_; rintro e w' ⟨rfl, rfl⟩)
          go_ret
          exact ⟨ret_bool (by rw [HF2.out, List.getElem?_eq_none (by omega)]), rfl⟩
    · have HF2 := Lib.hid (HF.out (fun h => absurd h hlt))
      have h3i : (l.length : Int) ≤ (m : Int) + 3 := by omega
      go_wp2
      go_ret
      exact ⟨ret_bool (by rw [HF2.out, List.getElem?_eq_none (by omega)]), rfl⟩

def evalD (l : List UInt8) : Int := l.foldl (fun n c => if digitB c then 10 * n + ((c.toNat : Int) - 48) else n) 0
theorem evalD_snoc (l : List UInt8) (c : UInt8) : evalD (l ++ [c]) = if digitB c then 10 * evalD l + ((c.toNat : Int) - 48) else evalD l := by simp [evalD]
theorem digit_range {c : UInt8} (h : digitB c = true) : 48 ≤ (c.toNat : Int) ∧ (c.toNat : Int) ≤ 57 := by simpa [digitB] using h
theorem evalD_bound : ∀ (n : Nat) (l : List UInt8), l.length = n → 0 ≤ evalD l ∧ evalD l < 10 ^ n := by
  intro n
  induction n with
  | zero => intro l h; have : l = [] := List.eq_nil_of_length_eq_zero h; subst this; simp [evalD]
  | succ n ih =>
    intro l h
    have hne : l ≠ [] := by intro e; subst e; simp at h
    obtain ⟨l', c, rfl⟩ : ∃ l' c, l = l' ++ [c] := ⟨l.dropLast, l.getLast hne, (List.dropLast_concat_getLast hne).symm⟩
    have h' : l'.length = n := by simpa using h
    obtain ⟨i1, i2⟩ := ih l' h'
    rw [evalD_snoc, Int.pow_succ]
    split
    · rename_i hd
      have := digit_range hd
      omega
    · omega
theorem evalD_le (l : List UInt8) (h : l.length ≤ 11) : 0 ≤ evalD l ∧ evalD l ≤ 99999999999 := by
  have h1 := evalD_bound l.length l rfl
  refine ⟨h1.1, ?_⟩
  have h2 : (10 : Int) ^ l.length ≤ 10 ^ 11 := by
    have := Nat.pow_le_pow_right (n := 10) (by omega) h
    exact_mod_cast this
  omega
def intN (l : List UInt8) : Int := if l = [] ∨ 11 < l.length then 0 else if l.head? = some 45 then 0 - evalD l else evalD l
def intB (l : List UInt8) : Bool := if l = [] ∨ 11 < l.length then false else (Lib.itoa (intN l) == l) && numB (intN l)

theorem itoa_cmp (l : List UInt8) (n : Int) : (Lib.itoa n == l) = (Lib.itoa n == l) := rfl
theorem int_empty (w : World) : Calls Tryd.prog 83 #[.string ⟨#[]⟩] w fun e w' => e = .returned (.tuple #[.int .i64 0, .bool false]) ∧ Below w.heap.size w w' := by
  go_enter Tryd.func83, Tryd.ntmps83
  go_wp2
  go_ret2
  exact ⟨rfl, Below.refl _ _⟩
theorem int_long (l : List UInt8) (h : 11 < l.length) (hl : l.length ≤ 262144) (w : World) : Calls Tryd.prog 83 #[.string ⟨l.toArray⟩] w fun e w' => e = .returned (.tuple #[.int .i64 0, .bool false]) ∧ Below w.heap.size w w' := by
  have h0 : ((l.length : Int) == 0) = false := by rw [beq_eq_false_iff_ne]; omega
  have h1 : decide ((11 : Int) < (l.length : Int)) = true := by simp; omega
  go_enter Tryd.func83, Tryd.ntmps83
  go_wp2
  go_ret2
  exact ⟨rfl, Below.refl _ _⟩

set_option maxRecDepth 100000 in
set_option maxHeartbeats 1000000 in
theorem int_main (l : List UInt8) (h1 : 1 ≤ l.length) (h11 : l.length ≤ 11) (w : World) (hE : Env w) : Calls Tryd.prog 83 #[.string ⟨l.toArray⟩] w fun e w' => e = .returned (.tuple #[.int .i64 (intN l), .bool (intB l)]) ∧ Below w.heap.size w w' := by
  have hb0 : ((l.length : Int) == 0) = false := by rw [beq_eq_false_iff_ne]; omega
  have hb1 : decide ((11 : Int) < (l.length : Int)) = false := by simp; omega
  have hneg : ¬ (l = [] ∨ 11 < l.length) := by
    rintro (h | h)
    · subst h; simp at h1
    · omega
  have hbd := evalD_le l h11
  have HB := Lib.hid (show intB l = ((Lib.itoa (intN l) == l) && numB (intN l)) by unfold intB; rw [if_neg hneg])
  have HN := Lib.hid (show intN l = if l.head? = some 45 then 0 - evalD l else evalD l by unfold intN; rw [if_neg hneg])
  clear hneg
  go_enter Tryd.func83, Tryd.ntmps83
  go_wp2
  go_loop [4, 5] (fun n i => ∃ k : Nat, k ≤ l.length ∧ i = .int .i64 k ∧ n = .int .i64 (evalD (l.take k))) (fun _ i => l.length - (intOf i).toNat)
  case atStart => exact ⟨0, Nat.zero_le _, rfl, rfl⟩
  case round =>
    obtain ⟨k, hk, rfl, rfl⟩ := hrel
    by_cases hlt : k < l.length
    · obtain ⟨c, hc⟩ : ∃ c, l[k] = c := ⟨_, rfl⟩
      have hx : ∀ h, (⟨l.toArray⟩ : ByteArray)[k]'h = c := fun _ => hc
      have hsn : l.take (k + 1) = l.take k ++ [c] := by rw [List.take_succ_eq_append_getElem hlt, hc]
      have HS := Lib.hid (show evalD (l.take (k + 1)) = if digitB c then 10 * evalD (l.take k) + ((c.toNat : Int) - 48) else evalD (l.take k) by rw [hsn, evalD_snoc])
      clear hc hsn
      have hclt : (c.toNat : Int) < 256 := by have := c.toNat_lt; omega
      have hek := evalD_le (l.take k) (by rw [List.length_take]; omega)
      cases hd : digitB c with
      | true =>
        have hdr := digit_range hd
        go_wp2_with (go_at_call 68; refine (digitR _ _ rfl _).mono ?_; rintro e w' ⟨rfl, rfl⟩)
        go_round
        case rel => exact ⟨k + 1, by omega, by go_num, by rw [HS.out, hd]; rfl⟩
        case measure => simp [intOf]; omega
      | false =>
        go_wp2_with (go_at_call 68; refine (digitR _ _ rfl _).mono ?_; rintro e w' ⟨rfl, rfl⟩)
        go_round
        case rel => exact ⟨k + 1, by omega, by go_num, by rw [HS.out, hd]; rfl⟩
        case measure => simp [intOf]; omega
    · have hall : l.take k = l := List.take_of_length_le (by omega)
      have hpos : 0 < l.length := by omega
      obtain ⟨c, hc⟩ : ∃ c, l[0] = c := ⟨_, rfl⟩
      have hx : ∀ h, (⟨l.toArray⟩ : ByteArray)[0]'h = c := fun _ => hc
      have hh : l.head? = some c := by rw [List.head?_eq_getElem?, List.getElem?_eq_getElem hpos, hc]
      have HH := Lib.hid hh
      clear hc hh
      obtain ⟨v, hv⟩ : ∃ v, evalD l = v := ⟨_, rfl⟩
      rw [hv] at hbd
      have HV := Lib.hid hv
      clear hv
      rw [hall, HV.out]
      clear hall
      by_cases hc45 : (c.toNat : Int) = 45
      · have hq : ((c.toNat : Int) == 45) = true := by simp [hc45]
        have c45 : c = 45 := by rw [← UInt8.toNat_inj]; have : ((45 : UInt8).toNat : Int) = 45 := rfl; omega
        have HN2 := Lib.hid (show intN l = -v by rw [HN.out, HH.out, HV.out, c45]; simp)
        clear c45
        cases e1 : (Lib.itoa (-v) == l) with
        | false =>
          have HF := Lib.hid (show intB l = false by rw [HB.out, HN2.out, e1]; rfl)
          go_wp2_with (first
            | (go_at_call 38; refine (itoa_c _ _ hE (by omega) (by omega)).mono ?_; rintro e w' ⟨rfl, hb⟩))
          go_ret2
          exact ⟨by rw [HN2.out, HF.out]; rfl, hb⟩
        | true =>
          have HF := Lib.hid (show intB l = numB (-v) by rw [HB.out, HN2.out, e1]; rfl)
          go_wp2_with (first
            | (go_at_call 38; refine (itoa_c _ _ hE (by omega) (by omega)).mono ?_; rintro e w' ⟨rfl, hb⟩)
            | (go_at_call 40; refine (numberR _ _).mono ?_; rintro e w2 ⟨rfl, rfl⟩))
          go_ret2
          exact ⟨by rw [HN2.out, HF.out]; rfl, hb⟩
      · have hq : ((c.toNat : Int) == 45) = false := by simpa using hc45
        have c45 : c ≠ 45 := by rintro rfl; exact hc45 rfl
        have HN2 := Lib.hid (show intN l = v by rw [HN.out, HH.out, HV.out, if_neg (by simpa using c45)])
        clear c45 hc45
        cases e1 : (Lib.itoa v == l) with
        | false =>
          have HF := Lib.hid (show intB l = false by rw [HB.out, HN2.out, e1]; rfl)
          go_wp2_with (first
            | (go_at_call 38; refine (itoa_c _ _ hE (by omega) (by omega)).mono ?_; rintro e w' ⟨rfl, hb⟩))
          go_ret2
          exact ⟨by rw [HN2.out, HF.out]; rfl, hb⟩
        | true =>
          have HF := Lib.hid (show intB l = numB v by rw [HB.out, HN2.out, e1]; rfl)
          go_wp2_with (first
            | (go_at_call 38; refine (itoa_c _ _ hE (by omega) (by omega)).mono ?_; rintro e w' ⟨rfl, hb⟩)
            | (go_at_call 40; refine (numberR _ _).mono ?_; rintro e w2 ⟨rfl, rfl⟩))
          go_ret2
          exact ⟨by rw [HN2.out, HF.out]; rfl, hb⟩

theorem intR (l : List UInt8) (hl : l.length ≤ 262144) (w : World) (hE : Env w) : Calls Tryd.prog 83 #[.string ⟨l.toArray⟩] w fun e w' => e = .returned (.tuple #[.int .i64 (intN l), .bool (intB l)]) ∧ Below w.heap.size w w' := by
  by_cases h0 : l = []
  · subst h0; exact int_empty w
  by_cases h11 : 11 < l.length
  · have h := int_long l h11 hl w
    rw [intN, intB, if_pos (.inr h11), if_pos (.inr h11)]
    exact h
  · exact int_main l (by cases l with | nil => exact absurd rfl h0 | cons _ _ => simp) (by omega) w hE

/-- A number behind a $. -/
def givenP (l : List UInt8) : Int × Bool := match l with
  | 36 :: r => if r = [] then (0, false) else (intN r, intB r)
  | _ => (0, false)
set_option maxHeartbeats 400000 in
theorem givenR (l : List UInt8) (hl : l.length ≤ 262144) (w : World) (hE : Env w) : Calls Tryd.prog 65 #[.string ⟨l.toArray⟩] w fun e w' => e = .returned (.tuple #[.int .i64 (givenP l).1, .bool (givenP l).2]) ∧ Below w.heap.size w w' := by
  by_cases h2 : l.length < 2
  · have HG := Lib.hid (show givenP l = (0, false) by
      unfold givenP
      split
      · rename_i r; have : r = [] := List.eq_nil_of_length_eq_zero (by simp at h2; omega); rw [if_pos this]
      · rfl)
    have hd : decide ((l.length : Int) < 2) = true := by simp; omega
    go_enter Tryd.func65, Tryd.ntmps65
    go_wp2
    go_ret2
    exact ⟨by rw [HG.out]; rfl, Below.refl _ _⟩
  · have hd : decide ((l.length : Int) < 2) = false := by simp; omega
    have h0 : 0 < l.length := by omega
    obtain ⟨c, r, hcr⟩ : ∃ c r, l = c :: r := by cases l with | nil => simp at h0 | cons c r => exact ⟨c, r, rfl⟩
    have hx : ∀ h, (⟨l.toArray⟩ : ByteArray)[0]'h = c := fun _ => by subst hcr; rfl
    have hne : r ≠ [] := by rintro rfl; subst hcr; simp at h2
    have hrl : r.length ≤ 262144 := by subst hcr; simp at hl; omega
    have hxt : (⟨l.toArray⟩ : ByteArray).extract 1 l.length = ⟨r.toArray⟩ := by rw [extract_list]; subst hcr; simp
    have hl1 : (1 : Int) ≤ (l.length : Int) := by omega
    by_cases hc : (c.toNat : Int) = 36
    · have hq : ((c.toNat : Int) != 36) = false := by simp [hc]
      have c36 : c = 36 := by rw [← UInt8.toNat_inj]; have : ((36 : UInt8).toNat : Int) = 36 := rfl; omega
      have HG := Lib.hid (show givenP l = (intN r, intB r) by rw [hcr, c36]; show (if r = [] then _ else _) = _; rw [if_neg hne])
      clear c36 hcr hne hc
      go_enter Tryd.func65, Tryd.ntmps65
      go_wp2_with (go_at_call 83; refine (intR _ hrl _ hE).mono ?_; rintro e w' ⟨rfl, hb⟩)
      go_ret2
      exact ⟨by rw [HG.out]; rfl, hb⟩
    · have hq : ((c.toNat : Int) != 36) = true := by simpa using hc
      have c36 : c ≠ 36 := by rintro rfl; exact hc rfl
      have HG := Lib.hid (show givenP l = (0, false) by
        rw [hcr]; unfold givenP
        split
        · rename_i h; injection h with h _; exact absurd h c36
        · rfl)
      clear c36 hcr hne hc
      go_enter Tryd.func65, Tryd.ntmps65
      go_wp2
      go_ret2
      exact ⟨by rw [HG.out]; rfl, Below.refl _ _⟩
end Go.Proofs.YtlpcahkchmlghaaDoor
