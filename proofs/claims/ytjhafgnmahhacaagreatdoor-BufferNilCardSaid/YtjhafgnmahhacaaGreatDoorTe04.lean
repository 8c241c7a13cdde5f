/- Layer 8: bytes, names, numbers: plain, and the small functions of the program and of the r -/
import Derived.Test.YtjhafgnmahhacaaGreatDoorTe02

namespace Go.Proofs.YtjhafgnmahhacaaGreatDoor
open Go.RowKit
def archB (a : Int) : Bool := decide (a = 1) || decide (a = 2)
def numB (n : Int) : Bool := decide (-2147483648 ≤ n) && decide (n ≤ 2147483647)
def regs (a : Int) : Int := if a = 1 then 15 else 32
theorem regs_pos (a : Int) : 15 ≤ regs a ∧ regs a ≤ 32 := by unfold regs; split <;> omega
theorem numB_t {n : Int} (h1 : -2147483648 ≤ n) (h2 : n ≤ 2147483647) : numB n = true := by simp [numB]; omega
theorem numB_f {n : Int} (h : n < -2147483648 ∨ 2147483647 < n) : numB n = false := by unfold numB; rw [Bool.and_eq_false_iff]; simp; omega
theorem numB_iff {n : Int} (h : numB n = true) : -2147483648 ≤ n ∧ n ≤ 2147483647 := by simp [numB] at h; exact h
def letterB (c : UInt8) : Bool := (decide (97 ≤ (c.toNat : Int)) && decide ((c.toNat : Int) ≤ 122)) || (decide (65 ≤ (c.toNat : Int)) && decide ((c.toNat : Int) ≤ 90))
def digitB (c : UInt8) : Bool := decide (48 ≤ (c.toNat : Int)) && decide ((c.toNat : Int) ≤ 57)
def partB (c : UInt8) : Bool := letterB c || digitB c || decide ((c.toNat : Int) = 95)
def nameB : List UInt8 → Bool
  | [] => false
  | c :: r => decide (r.length < 32) && letterB c && r.all partB
theorem nameB_no0 {s : ByteArray} (h : s.size < 1) : nameB s.data.toList = false := by
  have h0 : s.data.size = s.size := rfl
  have : s.data.toList = [] := List.eq_nil_of_length_eq_zero (by rw [Array.length_toList]; omega)
  rw [this]; rfl
theorem nameB_no32 {s : ByteArray} (h : 32 < s.size) : nameB s.data.toList = false := by
  have hl : s.data.toList.length = s.size := rfl
  cases e : s.data.toList with
  | nil => rfl
  | cons c r => rw [e] at hl; simp at hl; simp [nameB]; intro h1; omega
theorem nameB_no1 {s : ByteArray} (h0 : 0 < s.size) (h : letterB s[0] = false) : nameB s.data.toList = false := by
  have hl : s.data.toList.length = s.size := rfl
  have hg : s[0] = s.data.toList[0]'(by omega) := rfl
  rw [hg] at h
  cases e : s.data.toList with
  | nil => rfl
  | cons c r => simp only [e] at h; simp at h; simp [nameB, h]
theorem nameB_noAt {s : ByteArray} (i : Nat) (hi : i < s.size) (h : partB s[i] = false) : nameB s.data.toList = false := by
  have hl : s.data.toList.length = s.size := rfl
  have hg : s[i] = s.data.toList[i]'(by omega) := rfl
  rw [hg] at h
  cases e : s.data.toList with
  | nil => rfl
  | cons c r =>
    simp only [e] at h
    cases i with
    | zero =>
      simp at h
      have : letterB c = false := by
        simp [partB] at h
        exact h.1.1
      simp [nameB, this]
    | succ j =>
      simp at h
      have : r.all partB = false := by
        rw [List.all_eq_false]
        refine ⟨r[j]'(by rw [e] at hl; simp at hl; omega), List.getElem_mem _, by simp [h]⟩
      simp [nameB, this]
theorem nameB_yes {s : ByteArray} (h1 : 0 < s.size) (h2 : s.size ≤ 32) (h3 : letterB s[0] = true) (h : ∀ i (hi : i < s.size), 1 ≤ i → partB s[i] = true) : nameB s.data.toList = true := by
  have hl : s.data.toList.length = s.size := rfl
  have hg : ∀ i (hi : i < s.size), s[i] = s.data.toList[i]'(by omega) := fun _ _ => rfl
  rw [hg 0 h1] at h3
  cases e : s.data.toList with
  | nil => rw [e] at hl; simp at hl; omega
  | cons c r =>
    have hl' : r.length + 1 = s.size := by rw [← hl, e]; rfl
    simp only [e] at h3
    simp at h3
    simp only [nameB, Bool.and_eq_true, decide_eq_true_eq]
    refine ⟨⟨by omega, h3⟩, ?_⟩
    rw [List.all_eq_true]
    intro x hx
    obtain ⟨j, hj, rfl⟩ := List.getElem_of_mem hx
    have hj' := h (j + 1) (by omega) (by omega)
    rw [hg (j + 1) (by omega)] at hj'
    simp only [e] at hj'
    simpa using hj'
section
variable (w : World)
theorem archP (a : Int) : Calls Tryz.prog 196 #[.int .i64 a] w fun e w' => e = .returned (.bool (archB a)) ∧ w = w' := by
  go_enter Tryz.func196, Tryz.ntmps196
  go_wp2
  all_goals (go_ret; exact ⟨ret_bool (by rw [Bool.eq_iff_iff]; simp_all [archB]), rfl⟩)
theorem numP (n : Int) : Calls Tryz.prog 309 #[.int .i64 n] w fun e w' => e = .returned (.bool (numB n)) ∧ w = w' := by
  go_enter Tryz.func309, Tryz.ntmps309
  go_wp2
  all_goals (go_ret; exact ⟨ret_bool (by first | (rw [numB_t (by omega) (by omega)]; done) | (rw [numB_f (by omega)]; done) | simp [numB, *]), rfl⟩)
theorem regsP (a : Int) : Calls Tryz.prog 352 #[.int .i64 a] w fun e w' => e = .returned (.int .i64 (regs a)) ∧ w = w' := by
  go_enter Tryz.func352, Tryz.ntmps352
  go_wp2
  all_goals (go_ret; exact ⟨ret_int (by simp_all [regs]), rfl⟩)
theorem letterP (c : UInt8) : Calls Tryz.prog 367 #[.int .u8 c.toNat] w fun e w' => e = .returned (.bool (letterB c)) ∧ w = w' := by
  go_enter Tryz.func367, Tryz.ntmps367
  go_wp2
  all_goals (go_ret; exact ⟨ret_bool (by first | (simp_all [letterB]; done) | (simp [letterB, *]; done) | (rw [Bool.eq_iff_iff]; simp [letterB]; omega)), rfl⟩)
theorem digitP (c : UInt8) : Calls Tryz.prog 368 #[.int .u8 c.toNat] w fun e w' => e = .returned (.bool (digitB c)) ∧ w = w' := by
  go_enter Tryz.func368, Tryz.ntmps368
  go_wp2
  all_goals (go_ret; exact ⟨ret_bool (by first | (simp_all [digitB]; done) | (simp [digitB, *]; done) | (rw [Bool.eq_iff_iff]; simp [digitB]; omega)), rfl⟩)
end
set_option maxHeartbeats 400000 in
theorem namedP (s : ByteArray) (w : World) (hs : s.size ≤ 9223372036854775807) : Calls Tryz.prog 351 #[.string s] w fun e w' => e = .returned (.bool (nameB s.data.toList)) ∧ w = w' := by
  by_cases h0 : s.size < 1
  · have h0' : ((s.size : Int) == 0) = true := by rw [beq_iff_eq]; omega
    have HF := Lib.hid (nameB_no0 h0)
    clear h0
    go_enter Tryz.func351, Tryz.ntmps351
    go_wp2_with fail
    go_ret
    exact ⟨ret_bool HF.out.symm, rfl⟩
  have h0' : ((s.size : Int) == 0) = false := beq_eq_false_iff_ne.2 (by omega)
  have hp : 0 < s.size := by omega
  by_cases h1 : 32 < s.size
  · have HF := Lib.hid (nameB_no32 h1)
    go_enter Tryz.func351, Tryz.ntmps351
    go_wp2_with fail
    go_ret
    exact ⟨ret_bool HF.out.symm, rfl⟩
  cases hl : letterB s[0] with
  | false =>
    have HF := Lib.hid (nameB_no1 hp hl)
    have HL := Lib.hid hl
    clear hl
    go_enter Tryz.func351, Tryz.ntmps351
    go_wp2_with (go_at_call 367; refine (letterP _ _).mono ?_; rw [HL.out]; rintro e w' ⟨rfl, rfl⟩)
    go_ret
    exact ⟨ret_bool HF.out.symm, rfl⟩
  | true =>
    have HL := Lib.hid hl
    clear hl
    go_enter Tryz.func351, Tryz.ntmps351
    go_wp2_with (go_at_call 367; refine (letterP _ _).mono ?_; rw [HL.out]; rintro e w' ⟨rfl, rfl⟩)
    go_loop [21] (fun i => ∃ k : Nat, k ≤ s.size ∧ i = .int .i64 k ∧ ∀ j (hj : j < s.size), j < k → partB s[j] = true) (fun i => s.size - (intOf i).toNat)
    case atStart => exact ⟨0, Nat.zero_le _, rfl, fun j _ h => absurd h (Nat.not_lt_zero _)⟩
    case round =>
      obtain ⟨k, hk, rfl, hall⟩ := hrel
      have H := Lib.hid hall
      clear hall
      by_cases hlt : k < s.size
      · cases hx : letterB s[k] with
        | true =>
          have HX := Lib.hid hx
          have hb : partB s[k] = true := by simp [partB, hx]
          have HB := Lib.hid hb
          clear hx hb
          go_wp2_with (go_at_call 367; refine (letterP _ _).mono ?_; rw [HX.out]; rintro e w' ⟨rfl, rfl⟩)
          go_round
          case rel => exact ⟨k + 1, by omega, by go_num, fun j hj h => by
            by_cases e : j < k
            · exact H.out j hj e
            · obtain rfl : j = k := by omega
              exact HB.out⟩
          case measure => simp [intOf]; omega
        | false =>
          cases hy : digitB s[k] with
          | true =>
            have HX := Lib.hid hx
            have HY := Lib.hid hy
            have hb : partB s[k] = true := by simp [partB, hy]
            have HB := Lib.hid hb
            clear hx hy hb
            go_wp2_with (first | (go_at_call 367; refine (letterP _ _).mono ?_; rw [HX.out]; rintro e w' ⟨rfl, rfl⟩) | (go_at_call 368; refine (digitP _ _).mono ?_; rw [HY.out]; rintro e w' ⟨rfl, rfl⟩))
            go_round
            case rel => exact ⟨k + 1, by omega, by go_num, fun j hj h => by
              by_cases e : j < k
              · exact H.out j hj e
              · obtain rfl : j = k := by omega
                exact HB.out⟩
            case measure => simp [intOf]; omega
          | false =>
            by_cases hu : (s[k].toNat : Int) = 95
            · have HX := Lib.hid hx
              have HY := Lib.hid hy
              have hb : partB s[k] = true := by simp [partB, hu]
              have hu' : ((s[k].toNat : Int) != 95) = false := by simpa using hu
              have HB := Lib.hid hb
              clear hx hy hb hu
              go_wp2_with (first | (go_at_call 367; refine (letterP _ _).mono ?_; rw [HX.out]; rintro e w' ⟨rfl, rfl⟩) | (go_at_call 368; refine (digitP _ _).mono ?_; rw [HY.out]; rintro e w' ⟨rfl, rfl⟩))
              go_round
              case rel => exact ⟨k + 1, by omega, by go_num, fun j hj h => by
                by_cases e : j < k
                · exact H.out j hj e
                · obtain rfl : j = k := by omega
                  exact HB.out⟩
              case measure => simp [intOf]; omega
            · have HX := Lib.hid hx
              have HY := Lib.hid hy
              have hb : partB s[k] = false := by simp [partB, hx, hy, hu]
              have hu' : ((s[k].toNat : Int) != 95) = true := by simpa using hu
              have HF := Lib.hid (nameB_noAt k hlt hb)
              clear hx hy hb hu
              go_wp2_with (first | (go_at_call 367; refine (letterP _ _).mono ?_; rw [HX.out]; rintro e w' ⟨rfl, rfl⟩) | (go_at_call 368; refine (digitP _ _).mono ?_; rw [HY.out]; rintro e w' ⟨rfl, rfl⟩))
              go_ret
              exact ⟨ret_bool HF.out.symm, rfl⟩
      · have HF := Lib.hid (nameB_yes hp (by omega) HL.out (fun i hi _ => H.out i hi (by omega)))
        go_wp2_with fail
        go_ret
        exact ⟨ret_bool HF.out.symm, rfl⟩
def thingB (a th rg : Int) (l : List UInt8) : Bool := if th = -1 then decide (rg = 0) && nameB l else decide (0 ≤ th) && decide (th < 16) && decide (0 ≤ rg) && decide (rg < regs a) && l.isEmpty
set_option maxHeartbeats 1000000 in
theorem thingP (a th rg : Int) (s : ByteArray) (w : World) (hs : s.size ≤ 9223372036854775807) : Calls Tryz.prog 308 #[.int .i64 a, .agg #[.int .i64 th, .int .i64 rg, .string s]] w fun e w' => e = .returned (.bool (thingB a th rg s.data.toList)) ∧ Below w.heap.size w w' := by
  have hrp := regs_pos a
  by_cases h1 : th = -1
  · subst h1
    by_cases h2 : rg = 0
    · subst h2
      have HV := Lib.hid (show thingB a (-1) 0 s.data.toList = nameB s.data.toList by simp [thingB])
      clear hrp
      go_enter Tryz.func308, Tryz.ntmps308
      go_wp2_with (go_at_call 351; refine (namedP _ _ hs).mono ?_; rintro e w' ⟨rfl, rfl⟩)
      go_ret
      exact ⟨ret_bool HV.out.symm, alloc_b _ _⟩
    · have HV := Lib.hid (show thingB a (-1) rg s.data.toList = false by simp [thingB, h2])
      have h2' : (rg == 0) = false := beq_eq_false_iff_ne.2 h2
      clear hrp h2
      go_enter Tryz.func308, Tryz.ntmps308
      go_wp2_with fail
      go_ret
      exact ⟨ret_bool HV.out.symm, alloc_b _ _⟩
  have h1' : (th == -1) = false := beq_eq_false_iff_ne.2 h1
  have HR := Lib.hid (regs_pos a)
  by_cases h2 : 0 ≤ th
  case neg =>
    have HV := Lib.hid (show thingB a th rg s.data.toList = false by simp [thingB, h1, h2])
    have h2' : decide (0 ≤ th) = false := by simpa using h2
    clear hrp h1 h2
    go_enter Tryz.func308, Tryz.ntmps308
    go_wp2_with fail
    go_quiet (fail)
    go_wp2
    go_ret
    exact ⟨ret_bool HV.out.symm, below_drewN (alloc_b _ _) _⟩
  by_cases h3 : th < 16
  case neg =>
    have HV := Lib.hid (show thingB a th rg s.data.toList = false by simp [thingB, h1, h2, h3])
    have h2' : decide (0 ≤ th) = true := by simpa using h2
    have h3' : decide (th < 16) = false := by simpa using h3
    clear hrp h1 h2 h3
    go_enter Tryz.func308, Tryz.ntmps308
    go_wp2_with fail
    go_quiet (fail)
    go_wp2
    go_ret
    exact ⟨ret_bool HV.out.symm, below_drewN (alloc_b _ _) _⟩
  by_cases h4 : 0 ≤ rg
  case neg =>
    have HV := Lib.hid (show thingB a th rg s.data.toList = false by simp [thingB, h1, h2, h3, h4])
    have h2' : decide (0 ≤ th) = true := by simpa using h2
    have h3' : decide (th < 16) = true := by simpa using h3
    have h4' : decide (0 ≤ rg) = false := by simpa using h4
    clear hrp h1 h2 h3 h4
    go_enter Tryz.func308, Tryz.ntmps308
    go_wp2_with fail
    go_quiet (fail)
    go_wp2
    go_ret
    exact ⟨ret_bool HV.out.symm, below_drewN (alloc_b _ _) _⟩
  by_cases h5 : rg < regs a
  case neg =>
    have HV := Lib.hid (show thingB a th rg s.data.toList = false by simp [thingB, h1, h2, h3, h4, h5])
    have h2' : decide (0 ≤ th) = true := by simpa using h2
    have h3' : decide (th < 16) = true := by simpa using h3
    have h4' : decide (0 ≤ rg) = true := by simpa using h4
    have h5' : decide (rg < regs a) = false := by simpa using h5
    clear hrp h1 h2 h3 h4 h5
    go_enter Tryz.func308, Tryz.ntmps308
    go_wp2_with fail
    go_quiet ((go_at_call 352; exact quiet_left (regsP _ _)))
    go_wp2
    go_ret
    exact ⟨ret_bool HV.out.symm, below_drewN (alloc_b _ _) _⟩
  have HV := Lib.hid (show thingB a th rg s.data.toList = s.data.toList.isEmpty by simp [thingB, h1, h2, h3, h4, h5])
  have h2' : decide (0 ≤ th) = true := by simpa using h2
  have h3' : decide (th < 16) = true := by simpa using h3
  have h4' : decide (0 ≤ rg) = true := by simpa using h4
  have h5' : decide (rg < regs a) = true := by simpa using h5
  clear hrp h1 h2 h3 h4 h5
  go_enter Tryz.func308, Tryz.ntmps308
  go_wp2_with fail
  go_quiet ((go_at_call 352; exact quiet_left (regsP _ _)))
  go_wp2
  go_ret
  exact ⟨ret_bool (by rw [HV.out]; simp [ByteArray.toList_eq]), below_drewN (alloc_b _ _) _⟩
abbrev nodeV (k t r : Int) (l : List UInt8) (v : Int) (kv : Value) : Value := .agg #[.int .i64 k, .int .i64 t, .int .i64 r, .string ⟨l.toArray⟩, .int .i64 v, kv]
def zeroB (t r : Int) (l : List UInt8) (v : Int) : Bool := decide (t = 0) && decide (r = 0) && l.isEmpty && decide (v = 0)
def ownB (a k t r : Int) (l : List UInt8) (v : Int) (n : Nat) : Bool :=
  if k = 2 then thingB a t r l && numB v && decide (n = 0)
  else zeroB t r l v && (if k = 1 then decide (n = 0) else if k = 3 then decide (n = 1) else if k = 4 ∨ k = 5 then decide (2 ≤ n) else false)
theorem thing_c {a t r : Int} {l : List UInt8} {b : Bool} (h : thingB a t r l = b) : thingB a t r (⟨l.toArray⟩ : ByteArray).data.toList = b := h
section
variable {a k t r v : Int} {l : List UInt8} {A : Option Addr} {n cap : Nat}
set_option maxHeartbeats 2000000 in
set_option maxRecDepth 100000 in
theorem mayP_atom (hl : l.length ≤ 9223372036854775807) (w : World) : Calls Tryz.prog 266 #[.int .i64 a, nodeV 2 t r l v (.slice A n cap)] w fun e w' => e = .returned (.bool (ownB a 2 t r l v n)) ∧ Below w.heap.size w w' := by
  obtain ⟨bt, ht⟩ : ∃ b, thingB a t r l = b := ⟨_, rfl⟩
  obtain ⟨bn, hn⟩ : ∃ b, numB v = b := ⟨_, rfl⟩
  have HV := Lib.hid (show ownB a 2 t r l v n = (bt && bn && decide (n = 0)) by simp [ownB, ht, hn])
  have HT := Lib.hid ht
  have HN := Lib.hid hn
  clear ht hn
  have hsz : (⟨l.toArray⟩ : ByteArray).size ≤ 9223372036854775807 := by rw [str_size]; exact hl
  cases bt <;> cases bn <;> (by_cases h0 : n = 0)
  all_goals
    first | (have h0' : ((n : Int) == 0) = true := by rw [beq_iff_eq]; omega) | (have h0' : ((n : Int) == 0) = false := beq_eq_false_iff_ne.2 (by omega))
    have H0 := Lib.hid h0
    clear h0
    go_enter Tryz.func266, Tryz.ntmps266
    go_wp2_with fail
    try (refine (thingP _ _ _ _ _ hsz).mono ?_; rw [thing_c HT.out]; rintro e w1 ⟨rfl, hb1⟩)
    try (have hbb := below_trans (alloc_b w _) hb1)
    try (have C0 := cell_go (cell_new w _ _ _ 0) hb1; have C4 := cell_go (cell_new w _ _ _ 4) hb1; have C5 := cell_go (cell_new w _ _ _ 5) hb1; simp at C0 C4 C5)
    try (go_wp2_with (go_at_call 309; refine (numP _ _).mono ?_; rw [HN.out]; rintro e w2 ⟨rfl, rfl⟩))
    go_ret
    exact ⟨ret_bool (by rw [HV.out]; simp [H0.out]), by first | exact hbb | exact alloc_b w _⟩
end
section
variable {a k t r v : Int} {l : List UInt8} {A : Option Addr} {n cap : Nat}
set_option maxHeartbeats 2000000 in
set_option maxRecDepth 100000 in
theorem mayP_bad (hk : k ≠ 2) (hz : zeroB t r l v = false) (w : World) : Calls Tryz.prog 266 #[.int .i64 a, nodeV k t r l v (.slice A n cap)] w fun e w' => e = .returned (.bool (ownB a k t r l v n)) ∧ Below w.heap.size w w' := by
  have HV := Lib.hid (show ownB a k t r l v n = false by simp [ownB, hk, hz])
  have hk' : (k != 2) = true := by simpa using hk
  have hk2 : (k == 2) = false := by simpa using hk
  clear hk
  by_cases h1 : t = 0
  case neg =>
    have h1' : (t == 0) = false := by simpa using h1
    have h1'' : (t != 0) = true := by simpa using h1
    clear hz h1
    go_enter Tryz.func266, Tryz.ntmps266
    go_wp2_with fail
    go_ret
    exact ⟨ret_bool HV.out.symm, alloc_b w _⟩
  by_cases h2 : r = 0
  case neg =>
    have h2' : (r == 0) = false := by simpa using h2
    have h2'' : (r != 0) = true := by simpa using h2
    subst h1
    clear hz h2
    go_enter Tryz.func266, Tryz.ntmps266
    go_wp2_with fail
    go_ret
    exact ⟨ret_bool HV.out.symm, alloc_b w _⟩
  by_cases h3 : l = []
  case neg =>
    have h3' : l.isEmpty = false := by simpa using h3
    subst h1 h2
    clear hz h3
    go_enter Tryz.func266, Tryz.ntmps266
    go_wp2_with fail
    go_ret
    exact ⟨ret_bool HV.out.symm, alloc_b w _⟩
  by_cases h4 : v = 0
  case neg =>
    have h4' : (v == 0) = false := by simpa using h4
    have h4'' : (v != 0) = true := by simpa using h4
    subst h1 h2 h3
    clear hz h4
    go_enter Tryz.func266, Tryz.ntmps266
    go_wp2_with fail
    go_ret
    exact ⟨ret_bool HV.out.symm, alloc_b w _⟩
  subst h1 h2 h3 h4
  simp [zeroB] at hz
set_option maxHeartbeats 2000000 in
set_option maxRecDepth 100000 in
theorem mayP_kind (hk : k ≠ 2) (w : World) : Calls Tryz.prog 266 #[.int .i64 a, nodeV k 0 0 [] 0 (.slice A n cap)] w fun e w' => e = .returned (.bool (ownB a k 0 0 [] 0 n)) ∧ Below w.heap.size w w' := by
  have HV := Lib.hid (show ownB a k 0 0 [] 0 n = (if k = 1 then decide (n = 0) else if k = 3 then decide (n = 1) else if k = 4 ∨ k = 5 then decide (2 ≤ n) else false) by simp [ownB, hk, zeroB])
  have hk' : (k != 2) = true := by simpa using hk
  have hk2 : (k == 2) = false := by simpa using hk
  have n0 : ((n : Int) == 0) = decide (n = 0) := by rw [Bool.eq_iff_iff]; simp
  have n1 : ((n : Int) == 1) = decide (n = 1) := by rw [Bool.eq_iff_iff]; simp; omega
  have N0 := Lib.hid n0
  have N1 := Lib.hid n1
  clear hk n0 n1
  by_cases k1 : k = 1
  · subst k1
    go_enter Tryz.func266, Tryz.ntmps266
    go_wp2_with fail
    go_ret
    exact ⟨ret_bool (by rw [HV.out, N0.out]; simp), alloc_b w _⟩
  have k1' : (k == 1) = false := by simpa using k1
  by_cases k3 : k = 3
  · subst k3
    clear k1
    go_enter Tryz.func266, Tryz.ntmps266
    go_wp2_with fail
    go_ret
    exact ⟨ret_bool (by rw [HV.out, N1.out]; simp), alloc_b w _⟩
  have k3' : (k == 3) = false := by simpa using k3
  by_cases k4 : k = 4
  · subst k4
    clear k1 k3
    by_cases hn : 2 ≤ n
    all_goals
      go_enter Tryz.func266, Tryz.ntmps266
      go_wp2_with fail
      go_ret
      exact ⟨ret_bool (by rw [HV.out]; simp; try omega), alloc_b w _⟩
  have k4' : (k == 4) = false := by simpa using k4
  by_cases k5 : k = 5
  · subst k5
    clear k1 k3 k4
    by_cases hn : 2 ≤ n
    all_goals
      go_enter Tryz.func266, Tryz.ntmps266
      go_wp2_with fail
      go_ret
      exact ⟨ret_bool (by rw [HV.out]; simp; try omega), alloc_b w _⟩
  have k5' : (k == 5) = false := by simpa using k5
  have HV2 := Lib.hid (HV.out.trans (show _ = false by simp [k1, k3, k4, k5]))
  clear k1 k3 k4 k5
  go_enter Tryz.func266, Tryz.ntmps266
  go_wp2_with fail
  go_ret
  exact ⟨ret_bool HV2.out.symm, alloc_b w _⟩
theorem mayP_c (hl : l.length ≤ 9223372036854775807) (w : World) : Calls Tryz.prog 266 #[.int .i64 a, nodeV k t r l v (.slice A n cap)] w fun e w' => e = .returned (.bool (ownB a k t r l v n)) ∧ Below w.heap.size w w' := by
  by_cases hk : k = 2
  · subst hk; exact mayP_atom hl w
  · cases hz : zeroB t r l v with
    | false => exact mayP_bad hk hz w
    | true =>
      simp only [zeroB, Bool.and_eq_true, decide_eq_true_eq, List.isEmpty_iff] at hz
      obtain ⟨⟨⟨rfl, rfl⟩, rfl⟩, rfl⟩ := hz
      exact mayP_kind hk w
end
end Go.Proofs.YtjhafgnmahhacaaGreatDoor
