/- Contracts of package intel's small functions: isReg, isNumber, isName. -/
import Derived.Test.YtlpcahkchmlghaaDoorBase
namespace Go.Proofs.YtlpcahkchmlghaaDoor
open Go.RowKit

def numB (n : Int) : Bool := decide (-2147483648 ≤ n) && decide (n ≤ 2147483647)
def regB (n : Int) : Bool := decide (0 ≤ n) && decide (n < 15)
theorem numB_t {n : Int} (h1 : -2147483648 ≤ n) (h2 : n ≤ 2147483647) : numB n = true := by simp [numB]; omega
theorem numB_f {n : Int} (h : n < -2147483648 ∨ 2147483647 < n) : numB n = false := by unfold numB; rw [Bool.and_eq_false_iff]; simp; omega
theorem regB_t {n : Int} (h1 : 0 ≤ n) (h2 : n < 15) : regB n = true := by simp [regB]; omega
theorem regB_f {n : Int} (h : n < 0 ∨ 15 ≤ n) : regB n = false := by unfold regB; rw [Bool.and_eq_false_iff]; simp; omega

def letterB (c : UInt8) : Bool := (decide (97 ≤ (c.toNat : Int)) && decide ((c.toNat : Int) ≤ 122)) || (decide (65 ≤ (c.toNat : Int)) && decide ((c.toNat : Int) ≤ 90))
def digitB (c : UInt8) : Bool := decide (48 ≤ (c.toNat : Int)) && decide ((c.toNat : Int) ≤ 57)
def partB (c : UInt8) : Bool := letterB c || digitB c || decide ((c.toNat : Int) = 95)
def nameB : List UInt8 → Bool
  | [] => false
  | c :: r => decide (r.length < 32) && letterB c && r.all partB
def okAt (s : ByteArray) (i : Nat) (h : i < s.size) : Bool := letterB s[i] || (decide (0 < i) && partB s[i])

theorem nameB_no0 {s : ByteArray} (h : s.size < 1) : nameB s.data.toList = false := by
  have h0 : s.data.size = s.size := rfl
  have : s.data.toList = [] := List.eq_nil_of_length_eq_zero (by rw [Array.length_toList]; omega)
  rw [this]; rfl
theorem nameB_no32 {s : ByteArray} (h : 32 < s.size) : nameB s.data.toList = false := by
  have hl : s.data.toList.length = s.size := rfl
  cases e : s.data.toList with
  | nil => rfl
  | cons c r => rw [e] at hl; simp at hl; simp [nameB]; intro h1; omega
theorem nameB_noAt {s : ByteArray} (i : Nat) (hi : i < s.size) (h : okAt s i hi = false) : nameB s.data.toList = false := by
  have hl : s.data.toList.length = s.size := rfl
  have hg : s[i] = s.data.toList[i]'(by omega) := rfl
  unfold okAt at h
  rw [hg] at h
  cases e : s.data.toList with
  | nil => rfl
  | cons c r =>
    simp only [e] at h
    cases i with
    | zero => simp at h; simp [nameB, h]
    | succ j =>
      simp at h
      have : r.all partB = false := by
        rw [List.all_eq_false]
        refine ⟨r[j]'(by rw [e] at hl; simp at hl; omega), List.getElem_mem _, by simp [h.2]⟩
      simp [nameB, this]
theorem nameB_yes {s : ByteArray} (h1 : 1 ≤ s.size) (h2 : s.size ≤ 32) (h : ∀ i (hi : i < s.size), okAt s i hi = true) : nameB s.data.toList = true := by
  have hl : s.data.toList.length = s.size := rfl
  have hg : ∀ i (hi : i < s.size), s[i] = s.data.toList[i]'(by omega) := fun _ _ => rfl
  cases e : s.data.toList with
  | nil => rw [e] at hl; simp at hl; omega
  | cons c r =>
    have hl' : r.length + 1 = s.size := by rw [← hl, e]; rfl
    have h0 := h 0 (by omega)
    unfold okAt at h0
    rw [hg 0 (by omega)] at h0
    simp only [e] at h0
    simp at h0
    simp only [nameB, Bool.and_eq_true, decide_eq_true_eq]
    refine ⟨⟨by omega, h0⟩, ?_⟩
    rw [List.all_eq_true]
    intro x hx
    obtain ⟨j, hj, rfl⟩ := List.getElem_of_mem hx
    have hj' := h (j + 1) (by omega)
    unfold okAt at hj'
    rw [hg (j + 1) (by omega)] at hj'
    simp only [e] at hj'
    simp at hj'
    rcases hj' with a | a
    · simp [partB, a]
    · exact a

theorem isReg_c (n : Int) (w : World) : Calls Tryd.prog 44 #[.int .i64 n] w fun e w' => e = .returned (.bool (regB n)) ∧ w = w' := by
  go_enter Tryd.func44, Tryd.ntmps44
  go_wp2
  all_goals (go_ret; exact ⟨ret_bool (by first | (rw [regB_t (by omega) (by omega)]; done) | (rw [regB_f (by omega)]; done) | simp [regB, *]), rfl⟩)

theorem isNumber_c (n : Int) (w : World) : Calls Tryd.prog 43 #[.int .i64 n] w fun e w' => e = .returned (.bool (numB n)) ∧ w = w' := by
  go_enter Tryd.func43, Tryd.ntmps43
  go_wp2
  all_goals (go_ret; exact ⟨ret_bool (by first | (rw [numB_t (by omega) (by omega)]; done) | (rw [numB_f (by omega)]; done) | simp [numB, *]), rfl⟩)

set_option maxHeartbeats 400000 in
theorem isName_c (s : ByteArray) (w : World) (hs : s.size ≤ 9223372036854775807) : Calls Tryd.prog 42 #[.string s] w fun e w' => e = .returned (.bool (nameB s.data.toList)) ∧ w = w' := by
  go_enter Tryd.func42, Tryd.ntmps42
  go_wp2
  all_goals try (go_ret; exact ⟨ret_bool (by first | exact (nameB_no0 (by omega)).symm | exact (nameB_no32 (by omega)).symm), rfl⟩)
  go_loop [3, 4] (fun i _ => ∃ k : Nat, k ≤ s.size ∧ i = .int .i64 k ∧ ∀ j (hj : j < s.size), j < k → okAt s j hj = true) (fun i _ => s.size - (intOf i).toNat)
  case atStart => exact ⟨0, Nat.zero_le _, rfl, fun j _ h => absurd h (Nat.not_lt_zero _)⟩
  case round =>
    obtain ⟨k, hk, rfl, hall⟩ := hrel
    have H := Lib.hid hall
    clear hall
    by_cases hlt : k < s.size
    · go_wp2
      all_goals first
        | (go_ret
           have hb : okAt s k hlt = false := by
             clear H
             cases hb : okAt s k hlt with
             | false => rfl
             | true =>
               exfalso
               simp [okAt, partB, letterB, digitB] at hb
               simp at *
               omega
           exact ⟨ret_bool (nameB_noAt k hlt hb).symm, rfl⟩)
        | (have hb : okAt s k hlt = true := by
             clear H
             cases hb : okAt s k hlt with
             | true => rfl
             | false =>
               exfalso
               simp [okAt, partB, letterB, digitB] at hb
               simp at *
               omega
           go_round
           case rel => exact ⟨k + 1, by omega, by go_num, fun j hj h => by
             by_cases e : j < k
             · exact H.out j hj e
             · obtain rfl : j = k := by omega
               exact hb⟩
           case measure => simp [intOf]; omega)
    · go_wp2
      go_ret
      exact ⟨ret_bool (nameB_yes (by omega) (by omega) (fun i hi => H.out i hi (by omega))).symm, rfl⟩
end Go.Proofs.YtlpcahkchmlghaaDoor
