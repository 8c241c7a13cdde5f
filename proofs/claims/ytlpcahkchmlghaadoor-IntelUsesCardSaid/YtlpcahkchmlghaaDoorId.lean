/- Contracts of the reference's small functions (alembicref09): letter, digit, Named, Number, reg, blank, May. -/
import Derived.Test.YtlpcahkchmlghaaDoorLib
namespace Go.Proofs.YtlpcahkchmlghaaDoor
open Go.RowKit

theorem letterR (c : UInt8) (n : Int) (hn : n = (c.toNat : Int)) (w : World) : Calls Tryd.prog 67 #[.int .u8 n] w fun e w' => e = .returned (.bool (letterB c)) ∧ w = w' := by
  subst hn
  go_enter Tryd.func67, Tryd.ntmps67
  go_wp2
  all_goals (go_ret; exact ⟨ret_bool (by rw [Bool.eq_iff_iff]; simp [letterB]; omega), rfl⟩)
theorem digitR (c : UInt8) (n : Int) (hn : n = (c.toNat : Int)) (w : World) : Calls Tryd.prog 68 #[.int .u8 n] w fun e w' => e = .returned (.bool (digitB c)) ∧ w = w' := by
  subst hn
  go_enter Tryd.func68, Tryd.ntmps68
  go_wp2
  all_goals (go_ret; exact ⟨ret_bool (by rw [Bool.eq_iff_iff]; simp [digitB]; omega), rfl⟩)
theorem blankR (c : UInt8) (n : Int) (hn : n = (c.toNat : Int)) (w : World) : Calls Tryd.prog 63 #[.int .u8 n] w fun e w' => e = .returned (.bool (blankB c)) ∧ w = w' := by
  subst hn
  have h : blankB c = ((c.toNat : Int) == 32 || (c.toNat : Int) == 9 || (c.toNat : Int) == 10 || (c.toNat : Int) == 13) := by
    have e : ∀ k : UInt8, c = k ↔ (c.toNat : Int) = (k.toNat : Int) := fun k => by
      rw [← UInt8.toNat_inj]; omega
    rw [Bool.eq_iff_iff]
    simp [blankB, blanksL, e]
    omega
  rw [h]
  clear h
  go_enter Tryd.func63, Tryd.ntmps63
  go_wp2
  all_goals (go_ret; exact ⟨ret_bool (by simp [*]), rfl⟩)
theorem regR (n : Int) (w : World) : Calls Tryd.prog 41 #[.int .i64 n] w fun e w' => e = .returned (.bool (regB n)) ∧ w = w' := by
  go_enter Tryd.func41, Tryd.ntmps41
  go_wp2
  all_goals (go_ret; exact ⟨ret_bool (by first | (rw [regB_t (by omega) (by omega)]; done) | (rw [regB_f (by omega)]; done) | simp [regB, *]), rfl⟩)
theorem numberR (n : Int) (w : World) : Calls Tryd.prog 40 #[.int .i64 n] w fun e w' => e = .returned (.bool (numB n)) ∧ w = w' := by
  go_enter Tryd.func40, Tryd.ntmps40
  go_wp2
  all_goals (go_ret; exact ⟨ret_bool (by first | (rw [numB_t (by omega) (by omega)]; done) | (rw [numB_f (by omega)]; done) | simp [numB, *]), rfl⟩)

theorem part_of_letter {c : UInt8} (h : letterB c = true) : partB c = true := by simp [partB, h]
theorem okAt_f {s : ByteArray} {k : Nat} (hk : k < s.size) (h : partB s[k] = false) : okAt s k hk = false := by
  have : letterB s[k] = false := by
    cases e : letterB s[k]
    · rfl
    · rw [part_of_letter e] at h; cases h
  simp [okAt, this, h]
theorem partB_t {c : UInt8} (h : letterB c = true ∨ digitB c = true ∨ (c.toNat : Int) = 95) : partB c = true := by
  rcases h with h | h | h <;> simp [partB, h]
theorem partB_f {c : UInt8} (h1 : letterB c = false) (h2 : digitB c = false) (h3 : ¬ (c.toNat : Int) = 95) : partB c = false := by simp [partB, h1, h2]; omega

set_option maxHeartbeats 400000 in
theorem namedR (s : ByteArray) (w : World) (hs : s.size ≤ 9223372036854775807) : Calls Tryd.prog 39 #[.string s] w fun e w' => e = .returned (.bool (nameB s.data.toList)) ∧ w = w' := by
  by_cases h0 : s.size = 0
  · have hz : ((s.size : Int) == 0) = true := by simp [h0]
    have HF := Lib.hid (nameB_no0 (s := s) (by omega))
    have hp : s.size < 1 := by omega
    clear h0
    go_enter Tryd.func39, Tryd.ntmps39
    go_wp2
    go_ret
    exact ⟨ret_bool HF.out.symm, rfl⟩
  by_cases h32 : 32 < s.size
  · have hz : ((s.size : Int) == 0) = false := by rw [beq_eq_false_iff_ne]; omega
    have hz2 : decide ((32 : Int) < (s.size : Int)) = true := by simp; omega
    have HF := Lib.hid (nameB_no32 h32)
    clear h0
    go_enter Tryd.func39, Tryd.ntmps39
    go_wp2
    go_ret
    exact ⟨ret_bool HF.out.symm, rfl⟩
  have hz : ((s.size : Int) == 0) = false := by rw [beq_eq_false_iff_ne]; omega
  have hz2 : decide ((32 : Int) < (s.size : Int)) = false := by simp; omega
  have hpos : 0 < s.size := by omega
  have h32' : s.size ≤ 32 := by omega
  clear h0 h32
  cases hL : letterB s[0] with
  | false =>
    go_enter Tryd.func39, Tryd.ntmps39
    go_wp2_with (go_at_call 67; refine (letterR _ _ rfl _).mono ?_; rintro e w' ⟨rfl, rfl⟩)
    go_ret
    exact ⟨ret_bool (nameB_noAt 0 hpos (by simp [okAt, hL])).symm, rfl⟩
  | true =>
    go_enter Tryd.func39, Tryd.ntmps39
    go_wp2_with (go_at_call 67; refine (letterR _ _ rfl _).mono ?_; rintro e w' ⟨rfl, rfl⟩)
    go_loop [3] (fun i => ∃ k : Nat, k ≤ s.size ∧ i = .int .i64 k ∧ ∀ j (hj : j < s.size), j < k → partB s[j] = true) (fun i => s.size - (intOf i).toNat)
    case atStart => exact ⟨0, Nat.zero_le _, rfl, fun j _ h => absurd h (Nat.not_lt_zero _)⟩
    case round =>
      obtain ⟨k, hk, rfl, hall⟩ := hrel
      have H := Lib.hid hall
      clear hall
      by_cases hlt : k < s.size
      · go_wp2_with (first
          | (go_at_call 67; refine (letterR _ _ rfl _).mono ?_; rintro e w' ⟨rfl, rfl⟩)
          | (go_at_call 68; refine (digitR _ _ rfl _).mono ?_; rintro e w' ⟨rfl, rfl⟩))
        all_goals first
          | (have hb : partB s[k] = true := by first
               | exact partB_t (.inl (by assumption))
               | exact partB_t (.inr (.inl (by assumption)))
               | (refine partB_t (.inr (.inr ?_)); have h : ((s[k].toNat : Int) != 95) = false := by assumption
                  simpa using h)
             have HB := Lib.hid hb
             clear hb
             go_round
             case rel => exact ⟨k + 1, by omega, by go_num, fun j hj h => by
               by_cases e : j < k
               · exact H.out j hj e
               · obtain rfl : j = k := by omega
                 exact HB.out⟩
             case measure => simp [intOf]; omega)
          | (have h : ((s[k].toNat : Int) != 95) = true := by assumption
             have h1 : ¬ letterB s[k] = true := by assumption
             have h2 : ¬ digitB s[k] = true := by assumption
             go_ret
             exact ⟨ret_bool (nameB_noAt k hlt (okAt_f hlt (partB_f (by simpa using h1) (by simpa using h2) (by simpa using h)))).symm, rfl⟩)
      · go_wp2
        go_ret
        exact ⟨ret_bool (nameB_yes (by omega) h32' (fun i hi => by
          have := H.out i hi (by omega)
          cases i with
          | zero => simp [okAt, hL]
          | succ i => simp [okAt, this])).symm, rfl⟩
end Go.Proofs.YtlpcahkchmlghaaDoor
