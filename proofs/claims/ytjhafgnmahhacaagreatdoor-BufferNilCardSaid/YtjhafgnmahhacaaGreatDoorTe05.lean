/- Layers 9, 10, 13, 15: the small functions: letters, digits, names, numbers, registers. -/
import Derived.Test.YtjhafgnmahhacaaGreatDoorTe04

namespace Go.Proofs.YtjhafgnmahhacaaGreatDoor
open Go.RowKit
def regB (m n : Int) : Bool := decide (0 ≤ n) && decide (n < m)
theorem regB_t {m n : Int} (h1 : 0 ≤ n) (h2 : n < m) : regB m n = true := by simp [regB]; omega
theorem regB_f {m n : Int} (h : n < 0 ∨ m ≤ n) : regB m n = false := by unfold regB; rw [Bool.and_eq_false_iff]; simp; omega
def okAt (s : ByteArray) (i : Nat) (h : i < s.size) : Bool := letterB s[i] || (decide (0 < i) && partB s[i])
theorem nameB_noOk {s : ByteArray} (i : Nat) (hi : i < s.size) (h : okAt s i hi = false) : nameB s.data.toList = false := by
  have hl : s.data.toList.length = s.size := rfl
  have hg : s[i] = s.data.toList[i]'(by omega) := rfl
  unfold okAt at h
  rw [hg] at h
  cases e : s.data.toList with
  | nil => rfl
  | cons c r =>
    simp only [e] at h
    cases i with
    | zero => simp at h; simp [nameB, h]
    | succ j =>
      simp at h
      have : r.all partB = false := by
        rw [List.all_eq_false]
        refine ⟨r[j]'(by rw [e] at hl; simp at hl; omega), List.getElem_mem _, by simp [h.2]⟩
      simp [nameB, this]
theorem nameB_yesOk {s : ByteArray} (h1 : 1 ≤ s.size) (h2 : s.size ≤ 32) (h : ∀ i (hi : i < s.size), okAt s i hi = true) : nameB s.data.toList = true := by
  have hl : s.data.toList.length = s.size := rfl
  have hg : ∀ i (hi : i < s.size), s[i] = s.data.toList[i]'(by omega) := fun _ _ => rfl
  cases e : s.data.toList with
  | nil => rw [e] at hl; simp at hl; omega
  | cons c r =>
    have hl' : r.length + 1 = s.size := by rw [← hl, e]; rfl
    have h0 := h 0 (by omega)
    unfold okAt at h0
    rw [hg 0 (by omega)] at h0
    simp only [e] at h0
    simp at h0
    simp only [nameB, Bool.and_eq_true, decide_eq_true_eq]
    refine ⟨⟨by omega, h0⟩, ?_⟩
    rw [List.all_eq_true]
    intro x hx
    obtain ⟨j, hj, rfl⟩ := List.getElem_of_mem hx
    have hj' := h (j + 1) (by omega)
    unfold okAt at hj'
    rw [hg (j + 1) (by omega)] at hj'
    simp only [e] at hj'
    simp at hj'
    rcases hj' with a | a
    · simp [partB, a]
    · exact a
section
variable (w : World)
theorem knownF (a : Int) : Calls Tryz.prog 122 #[.int .i64 a] w fun e w' => e = .returned (.bool (archB a)) ∧ w = w' := by
  go_enter Tryz.func122, Tryz.ntmps122
  go_wp2
  all_goals (go_ret; exact ⟨ret_bool (by rw [Bool.eq_iff_iff]; simp_all [archB]), rfl⟩)
theorem numI (n : Int) : Calls Tryz.prog 231 #[.int .i64 n] w fun e w' => e = .returned (.bool (numB n)) ∧ w = w' := by
  go_enter Tryz.func231, Tryz.ntmps231
  go_wp2
  all_goals (go_ret; exact ⟨ret_bool (by first | (rw [numB_t (by omega) (by omega)]; done) | (rw [numB_f (by omega)]; done) | simp [numB, *]), rfl⟩)
theorem numF (n : Int) : Calls Tryz.prog 265 #[.int .i64 n] w fun e w' => e = .returned (.bool (numB n)) ∧ w = w' := by
  go_enter Tryz.func265, Tryz.ntmps265
  go_wp2
  all_goals (go_ret; exact ⟨ret_bool (by first | (rw [numB_t (by omega) (by omega)]; done) | (rw [numB_f (by omega)]; done) | simp [numB, *]), rfl⟩)
theorem regI (n : Int) : Calls Tryz.prog 232 #[.int .i64 n] w fun e w' => e = .returned (.bool (regB 15 n)) ∧ w = w' := by
  go_enter Tryz.func232, Tryz.ntmps232
  go_wp2
  all_goals (go_ret; exact ⟨ret_bool (by first | (rw [regB_t (by omega) (by omega)]; done) | (rw [regB_f (by omega)]; done) | (simp [regB, *]; done) | (simp [regB, *]; omega)), rfl⟩)
theorem regV (n : Int) : Calls Tryz.prog 263 #[.int .i64 n] w fun e w' => e = .returned (.bool (regB 32 n)) ∧ w = w' := by
  go_enter Tryz.func263, Tryz.ntmps263
  go_wp2
  all_goals (go_ret; exact ⟨ret_bool (by first | (rw [regB_t (by omega) (by omega)]; done) | (rw [regB_f (by omega)]; done) | (simp [regB, *]; done) | (simp [regB, *]; omega)), rfl⟩)
theorem letter09 (c : UInt8) : Calls Tryz.prog 228 #[.int .u8 c.toNat] w fun e w' => e = .returned (.bool (letterB c)) ∧ w = w' := by
  go_enter Tryz.func228, Tryz.ntmps228
  go_wp2
  all_goals (go_ret; exact ⟨ret_bool (by first | (simp_all [letterB]; done) | (simp [letterB, *]; done) | (rw [Bool.eq_iff_iff]; simp [letterB]; omega)), rfl⟩)
theorem digit09 (c : UInt8) : Calls Tryz.prog 229 #[.int .u8 c.toNat] w fun e w' => e = .returned (.bool (digitB c)) ∧ w = w' := by
  go_enter Tryz.func229, Tryz.ntmps229
  go_wp2
  all_goals (go_ret; exact ⟨ret_bool (by first | (simp_all [digitB]; done) | (simp [digitB, *]; done) | (rw [Bool.eq_iff_iff]; simp [digitB]; omega)), rfl⟩)
theorem letterV (c : UInt8) : Calls Tryz.prog 338 #[.int .u8 c.toNat] w fun e w' => e = .returned (.bool (letterB c)) ∧ w = w' := by
  go_enter Tryz.func338, Tryz.ntmps338
  go_wp2
  all_goals (go_ret; exact ⟨ret_bool (by first | (simp_all [letterB]; done) | (simp [letterB, *]; done) | (rw [Bool.eq_iff_iff]; simp [letterB]; omega)), rfl⟩)
theorem digitV (c : UInt8) : Calls Tryz.prog 339 #[.int .u8 c.toNat] w fun e w' => e = .returned (.bool (digitB c)) ∧ w = w' := by
  go_enter Tryz.func339, Tryz.ntmps339
  go_wp2
  all_goals (go_ret; exact ⟨ret_bool (by first | (simp_all [digitB]; done) | (simp [digitB, *]; done) | (rw [Bool.eq_iff_iff]; simp [digitB]; omega)), rfl⟩)
end
set_option maxHeartbeats 400000 in
theorem nameI (s : ByteArray) (w : World) (hs : s.size ≤ 9223372036854775807) : Calls Tryz.prog 230 #[.string s] w fun e w' => e = .returned (.bool (nameB s.data.toList)) ∧ w = w' := by
  go_enter Tryz.func230, Tryz.ntmps230
  go_wp2
  all_goals try (go_ret; exact ⟨ret_bool (by first | exact (nameB_no0 (by omega)).symm | exact (nameB_no32 (by omega)).symm), rfl⟩)
  go_loop [3, 4] (fun i _ => ∃ k : Nat, k ≤ s.size ∧ i = .int .i64 k ∧ ∀ j (hj : j < s.size), j < k → okAt s j hj = true) (fun i _ => s.size - (intOf i).toNat)
  case atStart => exact ⟨0, Nat.zero_le _, rfl, fun j _ h => absurd h (Nat.not_lt_zero _)⟩
  case round =>
    obtain ⟨k, hk, rfl, hall⟩ := hrel
    have H := Lib.hid hall
    clear hall
    by_cases hlt : k < s.size
    · go_wp2
      all_goals first
        | (go_ret
           have hb : okAt s k hlt = false := by
             clear H
             cases hb : okAt s k hlt with
             | false => rfl
             | true =>
               exfalso
               simp [okAt, partB, letterB, digitB] at hb
               simp at *
               omega
           exact ⟨ret_bool (nameB_noOk k hlt hb).symm, rfl⟩)
        | (have hb : okAt s k hlt = true := by
             clear H
             cases hb : okAt s k hlt with
             | true => rfl
             | false =>
               exfalso
               simp [okAt, partB, letterB, digitB] at hb
               simp at *
               omega
           go_round
           case rel => exact ⟨k + 1, by omega, by go_num, fun j hj h => by
             by_cases e : j < k
             · exact H.out j hj e
             · obtain rfl : j = k := by omega
               exact hb⟩
           case measure => simp [intOf]; omega)
    · go_wp2
      go_ret
      exact ⟨ret_bool (nameB_yesOk (by omega) (by omega) (fun i hi => H.out i hi (by omega))).symm, rfl⟩
set_option maxHeartbeats 400000 in
theorem nameF (s : ByteArray) (w : World) (hs : s.size ≤ 9223372036854775807) : Calls Tryz.prog 264 #[.string s] w fun e w' => e = .returned (.bool (nameB s.data.toList)) ∧ w = w' := by
  go_enter Tryz.func264, Tryz.ntmps264
  go_wp2
  all_goals try (go_ret; exact ⟨ret_bool (by first | exact (nameB_no0 (by omega)).symm | exact (nameB_no32 (by omega)).symm), rfl⟩)
  go_loop [3, 4] (fun i _ => ∃ k : Nat, k ≤ s.size ∧ i = .int .i64 k ∧ ∀ j (hj : j < s.size), j < k → okAt s j hj = true) (fun i _ => s.size - (intOf i).toNat)
  case atStart => exact ⟨0, Nat.zero_le _, rfl, fun j _ h => absurd h (Nat.not_lt_zero _)⟩
  case round =>
    obtain ⟨k, hk, rfl, hall⟩ := hrel
    have H := Lib.hid hall
    clear hall
    by_cases hlt : k < s.size
    · go_wp2
      all_goals first
        | (go_ret
           have hb : okAt s k hlt = false := by
             clear H
             cases hb : okAt s k hlt with
             | false => rfl
             | true =>
               exfalso
               simp [okAt, partB, letterB, digitB] at hb
               simp at *
               omega
           exact ⟨ret_bool (nameB_noOk k hlt hb).symm, rfl⟩)
        | (have hb : okAt s k hlt = true := by
             clear H
             cases hb : okAt s k hlt with
             | true => rfl
             | false =>
               exfalso
               simp [okAt, partB, letterB, digitB] at hb
               simp at *
               omega
           go_round
           case rel => exact ⟨k + 1, by omega, by go_num, fun j hj h => by
             by_cases e : j < k
             · exact H.out j hj e
             · obtain rfl : j = k := by omega
               exact hb⟩
           case measure => simp [intOf]; omega)
    · go_wp2
      go_ret
      exact ⟨ret_bool (nameB_yesOk (by omega) (by omega) (fun i hi => H.out i hi (by omega))).symm, rfl⟩
set_option maxHeartbeats 400000 in
theorem nameV (s : ByteArray) (w : World) (hs : s.size ≤ 9223372036854775807) : Calls Tryz.prog 291 #[.string s] w fun e w' => e = .returned (.bool (nameB s.data.toList)) ∧ w = w' := by
  by_cases h0 : s.size < 1
  · have h0' : ((s.size : Int) == 0) = true := by rw [beq_iff_eq]; omega
    have HF := Lib.hid (nameB_no0 h0)
    clear h0
    go_enter Tryz.func291, Tryz.ntmps291
    go_wp2_with fail
    go_ret
    exact ⟨ret_bool HF.out.symm, rfl⟩
  have h0' : ((s.size : Int) == 0) = false := beq_eq_false_iff_ne.2 (by omega)
  have hp : 0 < s.size := by omega
  by_cases h1 : 32 < s.size
  · have HF := Lib.hid (nameB_no32 h1)
    go_enter Tryz.func291, Tryz.ntmps291
    go_wp2_with fail
    go_ret
    exact ⟨ret_bool HF.out.symm, rfl⟩
  cases hl : letterB s[0] with
  | false =>
    have HF := Lib.hid (nameB_no1 hp hl)
    have HL := Lib.hid hl
    clear hl
    go_enter Tryz.func291, Tryz.ntmps291
    go_wp2_with (go_at_call 338; refine (letterV _ _).mono ?_; rw [HL.out]; rintro e w' ⟨rfl, rfl⟩)
    go_ret
    exact ⟨ret_bool HF.out.symm, rfl⟩
  | true =>
    have HL := Lib.hid hl
    clear hl
    go_enter Tryz.func291, Tryz.ntmps291
    go_wp2_with (go_at_call 338; refine (letterV _ _).mono ?_; rw [HL.out]; rintro e w' ⟨rfl, rfl⟩)
    go_loop [21] (fun i => ∃ k : Nat, k ≤ s.size ∧ i = .int .i64 k ∧ ∀ j (hj : j < s.size), j < k → partB s[j] = true) (fun i => s.size - (intOf i).toNat)
    case atStart => exact ⟨0, Nat.zero_le _, rfl, fun j _ h => absurd h (Nat.not_lt_zero _)⟩
    case round =>
      obtain ⟨k, hk, rfl, hall⟩ := hrel
      have H := Lib.hid hall
      clear hall
      by_cases hlt : k < s.size
      · cases hx : letterB s[k] with
        | true =>
          have HX := Lib.hid hx
          have hb : partB s[k] = true := by simp [partB, hx]
          have HB := Lib.hid hb
          clear hx hb
          go_wp2_with (go_at_call 338; refine (letterV _ _).mono ?_; rw [HX.out]; rintro e w' ⟨rfl, rfl⟩)
          go_round
          case rel => exact ⟨k + 1, by omega, by go_num, fun j hj h => by
            by_cases e : j < k
            · exact H.out j hj e
            · obtain rfl : j = k := by omega
              exact HB.out⟩
          case measure => simp [intOf]; omega
        | false =>
          cases hy : digitB s[k] with
          | true =>
            have HX := Lib.hid hx
            have HY := Lib.hid hy
            have hb : partB s[k] = true := by simp [partB, hy]
            have HB := Lib.hid hb
            clear hx hy hb
            go_wp2_with (first | (go_at_call 338; refine (letterV _ _).mono ?_; rw [HX.out]; rintro e w' ⟨rfl, rfl⟩) | (go_at_call 339; refine (digitV _ _).mono ?_; rw [HY.out]; rintro e w' ⟨rfl, rfl⟩))
            go_round
            case rel => exact ⟨k + 1, by omega, by go_num, fun j hj h => by
              by_cases e : j < k
              · exact H.out j hj e
              · obtain rfl : j = k := by omega
                exact HB.out⟩
            case measure => simp [intOf]; omega
          | false =>
            by_cases hu : (s[k].toNat : Int) = 95
            · have HX := Lib.hid hx
              have HY := Lib.hid hy
              have hb : partB s[k] = true := by simp [partB, hu]
              have hu' : ((s[k].toNat : Int) != 95) = false := by simpa using hu
              have HB := Lib.hid hb
              clear hx hy hb hu
              go_wp2_with (first | (go_at_call 338; refine (letterV _ _).mono ?_; rw [HX.out]; rintro e w' ⟨rfl, rfl⟩) | (go_at_call 339; refine (digitV _ _).mono ?_; rw [HY.out]; rintro e w' ⟨rfl, rfl⟩))
              go_round
              case rel => exact ⟨k + 1, by omega, by go_num, fun j hj h => by
                by_cases e : j < k
                · exact H.out j hj e
                · obtain rfl : j = k := by omega
                  exact HB.out⟩
              case measure => simp [intOf]; omega
            · have HX := Lib.hid hx
              have HY := Lib.hid hy
              have hb : partB s[k] = false := by simp [partB, hx, hy, hu]
              have hu' : ((s[k].toNat : Int) != 95) = true := by simpa using hu
              have HF := Lib.hid (nameB_noAt k hlt hb)
              clear hx hy hb hu
              go_wp2_with (first | (go_at_call 338; refine (letterV _ _).mono ?_; rw [HX.out]; rintro e w' ⟨rfl, rfl⟩) | (go_at_call 339; refine (digitV _ _).mono ?_; rw [HY.out]; rintro e w' ⟨rfl, rfl⟩))
              go_ret
              exact ⟨ret_bool HF.out.symm, rfl⟩
      · have HF := Lib.hid (nameB_yes hp (by omega) HL.out (fun i hi _ => H.out i hi (by omega)))
        go_wp2_with fail
        go_ret
        exact ⟨ret_bool HF.out.symm, rfl⟩
end Go.Proofs.YtjhafgnmahhacaaGreatDoor
