/- Layer 8: the reference's Number, walked. -/
import Derived.Test.YtmlnibjnacfanaaGreatDoorFa
import Derived.Test.YtmlnibjnacfanaaGreatDoorDd
namespace Go.Proofs.YtmlnibjnacfanaaGreatDoor
open Go.RowKit

def numV (l : List UInt8) : Value := .tuple #[.int .i64 ((numT l).getD 0), .bool (numT l).isSome]
section
variable {s : ByteArray} {i k : Nat}
theorem take_one (h1 : i ≤ k) (h : k < s.size) : (s.data.toList.drop i).take (k + 1 - i) = (s.data.toList.drop i).take (k - i) ++ [s[k]] := by
  rw [show k + 1 - i = (k - i) + 1 by omega, List.take_add_one]
  congr 1
  rw [List.getElem?_drop, show i + (k - i) = k by omega]
  have hl : k < s.data.toList.length := by rw [Array.length_toList]; exact h
  rw [List.getElem?_eq_getElem hl]
  rfl
theorem all_no_at (h1 : i ≤ k) (h : k < s.size) (hd : digitB s[k] = false) : (s.data.toList.drop i).all digitB = false := by
  rw [List.all_eq_false]
  have hl : k < s.data.toList.length := by rw [Array.length_toList]; exact h
  refine ⟨s[k], ?_, by simpa using hd⟩
  rw [List.mem_drop_iff_getElem]
  exact ⟨k - i, by omega, by simp only [show i + (k - i) = k by omega]; rfl⟩
theorem all_at (h : ∀ j (hj : j < s.size), i ≤ j → digitB s[j] = true) : (s.data.toList.drop i).all digitB = true := by
  rw [List.all_eq_true]
  intro x hx
  rw [List.mem_drop_iff_getElem] at hx
  obtain ⟨j, hj, rfl⟩ := hx
  rw [Array.length_toList] at hj
  have h9 := h (j + i) hj (by omega)
  have e : s.data.toList[i + j]'(by rw [Array.length_toList]; omega) = s[j + i] := by simp only [Nat.add_comm i j]; rfl
  exact e ▸ h9
end
set_option maxHeartbeats 4000000 in
set_option maxRecDepth 100000 in
theorem numberR (s : ByteArray) (w : World) : Calls Tryz.prog 113 #[.string s] w fun e w' => e = .returned (numV s.data.toList) ∧ w = w' := by
  by_cases h0 : s.size = 0
  · have hl : s.data.toList = [] := List.eq_nil_of_length_eq_zero (by rw [Array.length_toList]; exact h0)
    have e0 : ((s.size : Int) == 0) = true := by rw [beq_iff_eq]; omega
    have HV := Lib.hid (show numV s.data.toList = .tuple #[.int .i64 0, .bool false] by rw [hl]; rfl)
    clear hl
    go_enter Tryz.func113, Tryz.ntmps113
    go_wp2_with fail
    go_ret2
    exact ⟨by rw [HV.out]; rfl, rfl⟩
  have e0 : ((s.size : Int) == 0) = false := beq_eq_false_iff_ne.2 (by omega)
  obtain ⟨r, hr1, hr2, hr3⟩ := ba_cons (s := s) (by omega)
  have hp : 0 < s.size := by omega
  by_cases h11 : 11 < s.size
  · have HV := Lib.hid (show numV s.data.toList = .tuple #[.int .i64 0, .bool false] by unfold numV; rw [hr1, numT, if_pos (by omega)]; rfl)
    clear hr1 hr2 hr3
    go_enter Tryz.func113, Tryz.ntmps113
    go_wp2_with fail
    go_ret2
    exact ⟨by rw [HV.out]; rfl, rfl⟩
  have hr10 : ¬ 10 < r.length := by omega
  have e11 : decide ((11 : Int) < (s.size : Int)) = false := decide_eq_false (by omega)
  have hd1 : s.data.toList.drop 1 = r := by rw [hr1]; rfl
  have hd0 : s.data.toList.drop 0 = s[0] :: r := hr1
  by_cases h45 : s[0] = 45
  · have f45 : ((s[0].toNat : Int) == 45) = true := by rw [h45]; rfl
    by_cases h1 : s.size = 1
    · have hrn : r = [] := List.eq_nil_of_length_eq_zero (by omega)
      have HV := Lib.hid (show numV s.data.toList = .tuple #[.int .i64 0, .bool false] by unfold numV; rw [hr1, numT, if_neg hr10, if_pos h45, if_pos (.inl hrn)]; rfl)
      have e1 : ((1 : Int) == (s.size : Int)) = true := by rw [beq_iff_eq]; omega
      clear hr1 hr2 hr3 h45 hd1 hd0 hrn
      go_enter Tryz.func113, Tryz.ntmps113
      go_wp2_with fail
      go_ret2
      exact ⟨by rw [HV.out]; rfl, rfl⟩
    have e1 : ((1 : Int) == (s.size : Int)) = false := beq_eq_false_iff_ne.2 (by omega)
    have hs1 : 1 < s.size := by omega
    have hrne : r ≠ [] := by intro e; rw [e] at hr2; simp at hr2; omega
    by_cases h48 : s[1] = 48
    · have g48 : ((s[1].toNat : Int) == 48) = true := by rw [h48]; rfl
      have HV := Lib.hid (show numV s.data.toList = .tuple #[.int .i64 0, .bool false] by unfold numV; rw [hr1, numT, if_neg hr10, if_pos h45, if_pos (.inr (by rw [hr3 hs1, h48]))]; rfl)
      clear hr1 hr2 hr3 h45 hd1 hd0 h48 hrne
      rcases Nat.lt_or_ge 2 s.size with h2 | h2
      · have e2 : decide ((2 : Int) < (s.size : Int)) = true := decide_eq_true (by omega)
        go_enter Tryz.func113, Tryz.ntmps113
        go_wp2_with fail
        go_ret2
        exact ⟨by rw [HV.out]; rfl, rfl⟩
      · have e2 : decide ((2 : Int) < (s.size : Int)) = false := decide_eq_false (by omega)
        go_enter Tryz.func113, Tryz.ntmps113
        go_wp2_with fail
        go_ret2
        exact ⟨by rw [HV.out]; rfl, rfl⟩
    have g48 : ((s[1].toNat : Int) == 48) = false := by
      rw [beq_eq_false_iff_ne]; intro e; apply h48
      have e' : s[1].toNat = 48 := by exact_mod_cast e
      exact UInt8.toNat.inj e'
    have HNT := Lib.hid (show numT s.data.toList = if (s.data.toList.drop 1).all digitB then (if numB (0 - evalD (s.data.toList.drop 1)) then some (0 - evalD (s.data.toList.drop 1)) else none) else none by
      rw [hd1, hr1, numT, if_neg hr10, if_pos h45, if_neg (by rintro (h | h); exact hrne h; rw [hr3 hs1] at h; injection h with h; exact h48 h)])
    clear hr1 hr2 hr3 h45 hd1 hd0 h48 hrne hr10
    go_enter Tryz.func113, Tryz.ntmps113
    have HE := Lib.hid (show numT s.data.toList = if (s.data.toList.drop 1).all digitB then (if numB (0 - evalD (s.data.toList.drop 1)) then some (0 - evalD (s.data.toList.drop 1)) else none) else none from HNT.out)
    have hDl : (s.data.toList.drop 1).length = s.size - 1 := by rw [List.length_drop]; rfl
    go_wp2_with fail
    go_loop [5, 6] (fun e f => ∃ k : Nat, 1 ≤ k ∧ k ≤ s.size ∧ f = .int .i64 k ∧ e = .int .i64 (evalD ((s.data.toList.drop 1).take (k - 1))) ∧ ∀ j (hj : j < s.size), 1 ≤ j → j < k → digitB s[j] = true) (fun _ f => s.size - (intOf f).toNat)
    case atStart => exact ⟨1, by omega, by omega, rfl, by simp [evalD], fun j _ h1 h2 => by omega⟩
    case round =>
      obtain ⟨k, hk1, hk, rfl, rfl, hall⟩ := hrel
      have H := Lib.hid hall
      have hel := evalD_le ((s.data.toList.drop 1).take (k - 1)) (by rw [List.length_take]; omega)
      have hel2 := evalD_bound (k - 1) ((s.data.toList.drop 1).take (k - 1)) (by rw [List.length_take]; omega)
      have hp : (10 : Int) ^ (k - 1) ≤ 10 ^ 11 := by
        have := Nat.pow_le_pow_right (n := 10) (show 0 < 10 by omega) (show k - 1 ≤ 11 by omega)
        exact_mod_cast this
      obtain ⟨z, hz⟩ : ∃ z, evalD ((s.data.toList.drop 1).take (k - 1)) = z := ⟨_, rfl⟩
      rw [hz] at hel hel2
      have HZ := Lib.hid hz
      rw [hz]
      clear hall hz
      by_cases hlk : k < s.size
      · cases hy : digitB s[k] with
        | true =>
          have HY := Lib.hid hy
          have hr := digit_range hy
          have HS := Lib.hid (show evalD ((s.data.toList.drop 1).take (k + 1 - 1)) = 10 * z + ((s[k].toNat : Int) - 48) by
            rw [take_one hk1 hlk, evalD_snoc, if_pos hy, HZ.out])
          have v1 : IntKind.u8.wrap ((s[k].toNat : Int) - 48) = (s[k].toNat : Int) - 48 := by simp [IntKind.wrap, IntKind.signed, IntKind.bits]; omega
          have v2 : IntKind.i64.wrap ((s[k].toNat : Int) - 48) = (s[k].toNat : Int) - 48 := by rw [IntKind.wrap_i64]; omega
          have v3 : IntKind.i64.wrap (10 * z) = 10 * z := by rw [IntKind.wrap_i64]; omega
          have v4 : IntKind.i64.wrap (10 * z + ((s[k].toNat : Int) - 48)) = 10 * z + ((s[k].toNat : Int) - 48) := by rw [IntKind.wrap_i64]; omega
          clear hy hr
          go_wp2_with (go_at_call 84; (with_reducible refine (digitR _ _).mono ?_); rw [HY.out]; rintro e w' ⟨rfl, rfl⟩)
          go_round
          case rel => exact ⟨k + 1, by omega, by omega, by go_num, by rw [HS.out], fun j hj h1 h => by
            by_cases e : j < k
            · exact H.out j hj h1 e
            · obtain rfl : j = k := by omega
              exact HY.out⟩
          case measure => simp [intOf]; omega
        | false =>
          have HY := Lib.hid hy
          have HV := Lib.hid (show numV s.data.toList = .tuple #[.int .i64 0, .bool false] by
            unfold numV
            rw [HE.out, all_no_at hk1 hlk hy]; rfl)
          clear hy
          go_wp2_with (go_at_call 84; (with_reducible refine (digitR _ _).mono ?_); rw [HY.out]; rintro e w' ⟨rfl, rfl⟩)
          go_ret2
          exact ⟨by rw [HV.out]; rfl, rfl⟩
      · obtain rfl : k = s.size := by omega
        have hA : (s.data.toList.drop 1).all digitB = true := all_at (fun j hj h1 => H.out j hj h1 hj)
        have hz2 : evalD (s.data.toList.drop 1) = z := by
          have := HZ.out
          rwa [List.take_of_length_le (by omega)] at this
        have v5 : IntKind.i64.wrap (-z) = -z := by rw [IntKind.wrap_i64]; omega
        cases hn : numB (0 - z) with
        | true =>
          have HNB := Lib.hid (show numB (-z) = true by rw [← hn]; congr 1; omega)
          have HV := Lib.hid (show numV s.data.toList = .tuple #[.int .i64 (-z), .bool true] by
            unfold numV
            rw [HE.out, if_pos hA, hz2, if_pos hn]; simp only [Int.zero_sub]; rfl)
          clear hA hz2 hn
          go_wp2_with (go_at_call 32; (with_reducible refine (numR _ _).mono ?_); rw [HNB.out]; rintro e w' ⟨rfl, rfl⟩)
          go_ret2
          exact ⟨by rw [HV.out]; rfl, rfl⟩
        | false =>
          have HNB := Lib.hid (show numB (-z) = false by rw [← hn]; congr 1; omega)
          have HV := Lib.hid (show numV s.data.toList = .tuple #[.int .i64 0, .bool false] by
            unfold numV
            rw [HE.out, if_pos hA, hz2, hn]; rfl)
          clear hA hz2 hn
          go_wp2_with (go_at_call 32; (with_reducible refine (numR _ _).mono ?_); rw [HNB.out]; rintro e w' ⟨rfl, rfl⟩)
          go_ret2
          exact ⟨by rw [HV.out]; rfl, rfl⟩
  · have f45 : ((s[0].toNat : Int) == 45) = false := by
      rw [beq_eq_false_iff_ne]; intro e; apply h45
      have e' : s[0].toNat = 45 := by exact_mod_cast e
      exact UInt8.toNat.inj e'
    have e1 : ((0 : Int) == (s.size : Int)) = false := beq_eq_false_iff_ne.2 (by omega)
    by_cases h48 : s[0] = 48
    · have g48 : ((s[0].toNat : Int) == 48) = true := by rw [h48]; rfl
      by_cases h1 : s.size = 1
      · have hrn : r = [] := List.eq_nil_of_length_eq_zero (by omega)
        have e2 : decide ((1 : Int) < (s.size : Int)) = false := decide_eq_false (by omega)
        have HNT := Lib.hid (show numT s.data.toList = if (s.data.toList.drop 0).all digitB then (if numB (evalD (s.data.toList.drop 0)) then some (evalD (s.data.toList.drop 0)) else none) else none by
          rw [hd0, hr1, numT, if_neg hr10, if_neg h45, if_neg (by rintro ⟨_, h⟩; exact h hrn)])
        clear hr1 hr2 hr3 h45 hd1 hd0 h48 hrn hr10
        go_enter Tryz.func113, Tryz.ntmps113
        have HE := Lib.hid (show numT s.data.toList = if (s.data.toList.drop 0).all digitB then (if numB (evalD (s.data.toList.drop 0)) then some (evalD (s.data.toList.drop 0)) else none) else none from HNT.out)
        have hDl : (s.data.toList.drop 0).length = s.size - 0 := by rw [List.length_drop]; rfl
        go_wp2_with fail
        go_loop [5, 6] (fun e f => ∃ k : Nat, 0 ≤ k ∧ k ≤ s.size ∧ f = .int .i64 k ∧ e = .int .i64 (evalD ((s.data.toList.drop 0).take (k - 0))) ∧ ∀ j (hj : j < s.size), 0 ≤ j → j < k → digitB s[j] = true) (fun _ f => s.size - (intOf f).toNat)
        case atStart => exact ⟨0, by omega, by omega, rfl, by simp [evalD], fun j _ h1 h2 => by omega⟩
        case round =>
          obtain ⟨k, hk1, hk, rfl, rfl, hall⟩ := hrel
          have H := Lib.hid hall
          have hel := evalD_le ((s.data.toList.drop 0).take (k - 0)) (by rw [List.length_take]; omega)
          have hel2 := evalD_bound (k - 0) ((s.data.toList.drop 0).take (k - 0)) (by rw [List.length_take]; omega)
          have hp : (10 : Int) ^ (k - 0) ≤ 10 ^ 11 := by
            have := Nat.pow_le_pow_right (n := 10) (show 0 < 10 by omega) (show k - 0 ≤ 11 by omega)
            exact_mod_cast this
          obtain ⟨z, hz⟩ : ∃ z, evalD ((s.data.toList.drop 0).take (k - 0)) = z := ⟨_, rfl⟩
          rw [hz] at hel hel2
          have HZ := Lib.hid hz
          rw [hz]
          clear hall hz
          by_cases hlk : k < s.size
          · cases hy : digitB s[k] with
            | true =>
              have HY := Lib.hid hy
              have hr := digit_range hy
              have HS := Lib.hid (show evalD ((s.data.toList.drop 0).take (k + 1 - 0)) = 10 * z + ((s[k].toNat : Int) - 48) by
                rw [take_one hk1 hlk, evalD_snoc, if_pos hy, HZ.out])
              have v1 : IntKind.u8.wrap ((s[k].toNat : Int) - 48) = (s[k].toNat : Int) - 48 := by simp [IntKind.wrap, IntKind.signed, IntKind.bits]; omega
              have v2 : IntKind.i64.wrap ((s[k].toNat : Int) - 48) = (s[k].toNat : Int) - 48 := by rw [IntKind.wrap_i64]; omega
              have v3 : IntKind.i64.wrap (10 * z) = 10 * z := by rw [IntKind.wrap_i64]; omega
              have v4 : IntKind.i64.wrap (10 * z + ((s[k].toNat : Int) - 48)) = 10 * z + ((s[k].toNat : Int) - 48) := by rw [IntKind.wrap_i64]; omega
              clear hy hr
              go_wp2_with (go_at_call 84; (with_reducible refine (digitR _ _).mono ?_); rw [HY.out]; rintro e w' ⟨rfl, rfl⟩)
              go_round
              case rel => exact ⟨k + 1, by omega, by omega, by go_num, by rw [HS.out], fun j hj h1 h => by
                by_cases e : j < k
                · exact H.out j hj h1 e
                · obtain rfl : j = k := by omega
                  exact HY.out⟩
              case measure => simp [intOf]; omega
            | false =>
              have HY := Lib.hid hy
              have HV := Lib.hid (show numV s.data.toList = .tuple #[.int .i64 0, .bool false] by
                unfold numV
                rw [HE.out, all_no_at hk1 hlk hy]; rfl)
              clear hy
              go_wp2_with (go_at_call 84; (with_reducible refine (digitR _ _).mono ?_); rw [HY.out]; rintro e w' ⟨rfl, rfl⟩)
              go_ret2
              exact ⟨by rw [HV.out]; rfl, rfl⟩
          · obtain rfl : k = s.size := by omega
            have hA : (s.data.toList.drop 0).all digitB = true := all_at (fun j hj h1 => H.out j hj h1 hj)
            have hz2 : evalD (s.data.toList.drop 0) = z := by
              have := HZ.out
              rwa [List.take_of_length_le (by omega)] at this
            have v5 : IntKind.i64.wrap (-z) = -z := by rw [IntKind.wrap_i64]; omega
            cases hn : numB (z) with
            | true =>
              have HNB := Lib.hid (show numB (z) = true by exact hn)
              have HV := Lib.hid (show numV s.data.toList = .tuple #[.int .i64 (z), .bool true] by
                unfold numV
                rw [HE.out, if_pos hA, hz2, if_pos hn]; rfl)
              clear hA hz2 hn
              go_wp2_with (go_at_call 32; (with_reducible refine (numR _ _).mono ?_); rw [HNB.out]; rintro e w' ⟨rfl, rfl⟩)
              go_ret2
              exact ⟨by rw [HV.out]; rfl, rfl⟩
            | false =>
              have HNB := Lib.hid (show numB (z) = false by exact hn)
              have HV := Lib.hid (show numV s.data.toList = .tuple #[.int .i64 0, .bool false] by
                unfold numV
                rw [HE.out, if_pos hA, hz2, hn]; rfl)
              clear hA hz2 hn
              go_wp2_with (go_at_call 32; (with_reducible refine (numR _ _).mono ?_); rw [HNB.out]; rintro e w' ⟨rfl, rfl⟩)
              go_ret2
              exact ⟨by rw [HV.out]; rfl, rfl⟩
      have e2 : decide ((1 : Int) < (s.size : Int)) = true := decide_eq_true (by omega)
      have hrne : r ≠ [] := by intro e; rw [e] at hr2; simp at hr2; omega
      have HV := Lib.hid (show numV s.data.toList = .tuple #[.int .i64 0, .bool false] by unfold numV; rw [hr1, numT, if_neg hr10, if_neg h45, if_pos ⟨h48, hrne⟩]; rfl)
      clear hr1 hr2 hr3 h45 hd1 hd0 h48 hrne
      go_enter Tryz.func113, Tryz.ntmps113
      go_wp2_with fail
      go_ret2
      exact ⟨by rw [HV.out]; rfl, rfl⟩
    have g48 : ((s[0].toNat : Int) == 48) = false := by
      rw [beq_eq_false_iff_ne]; intro e; apply h48
      have e' : s[0].toNat = 48 := by exact_mod_cast e
      exact UInt8.toNat.inj e'
    have HNT := Lib.hid (show numT s.data.toList = if (s.data.toList.drop 0).all digitB then (if numB (evalD (s.data.toList.drop 0)) then some (evalD (s.data.toList.drop 0)) else none) else none by
      rw [hd0, hr1, numT, if_neg hr10, if_neg h45, if_neg (by rintro ⟨h, _⟩; exact h48 h)])
    clear hr1 hr2 hr3 h45 hd1 hd0 h48 hr10
    go_enter Tryz.func113, Tryz.ntmps113
    have HE := Lib.hid (show numT s.data.toList = if (s.data.toList.drop 0).all digitB then (if numB (evalD (s.data.toList.drop 0)) then some (evalD (s.data.toList.drop 0)) else none) else none from HNT.out)
    have hDl : (s.data.toList.drop 0).length = s.size - 0 := by rw [List.length_drop]; rfl
    go_wp2_with fail
    go_loop [5, 6] (fun e f => ∃ k : Nat, 0 ≤ k ∧ k ≤ s.size ∧ f = .int .i64 k ∧ e = .int .i64 (evalD ((s.data.toList.drop 0).take (k - 0))) ∧ ∀ j (hj : j < s.size), 0 ≤ j → j < k → digitB s[j] = true) (fun _ f => s.size - (intOf f).toNat)
    case atStart => exact ⟨0, by omega, by omega, rfl, by simp [evalD], fun j _ h1 h2 => by omega⟩
    case round =>
      obtain ⟨k, hk1, hk, rfl, rfl, hall⟩ := hrel
      have H := Lib.hid hall
      have hel := evalD_le ((s.data.toList.drop 0).take (k - 0)) (by rw [List.length_take]; omega)
      have hel2 := evalD_bound (k - 0) ((s.data.toList.drop 0).take (k - 0)) (by rw [List.length_take]; omega)
      have hp : (10 : Int) ^ (k - 0) ≤ 10 ^ 11 := by
        have := Nat.pow_le_pow_right (n := 10) (show 0 < 10 by omega) (show k - 0 ≤ 11 by omega)
        exact_mod_cast this
      obtain ⟨z, hz⟩ : ∃ z, evalD ((s.data.toList.drop 0).take (k - 0)) = z := ⟨_, rfl⟩
      rw [hz] at hel hel2
      have HZ := Lib.hid hz
      rw [hz]
      clear hall hz
      by_cases hlk : k < s.size
      · cases hy : digitB s[k] with
        | true =>
          have HY := Lib.hid hy
          have hr := digit_range hy
          have HS := Lib.hid (show evalD ((s.data.toList.drop 0).take (k + 1 - 0)) = 10 * z + ((s[k].toNat : Int) - 48) by
            rw [take_one hk1 hlk, evalD_snoc, if_pos hy, HZ.out])
          have v1 : IntKind.u8.wrap ((s[k].toNat : Int) - 48) = (s[k].toNat : Int) - 48 := by simp [IntKind.wrap, IntKind.signed, IntKind.bits]; omega
          have v2 : IntKind.i64.wrap ((s[k].toNat : Int) - 48) = (s[k].toNat : Int) - 48 := by rw [IntKind.wrap_i64]; omega
          have v3 : IntKind.i64.wrap (10 * z) = 10 * z := by rw [IntKind.wrap_i64]; omega
          have v4 : IntKind.i64.wrap (10 * z + ((s[k].toNat : Int) - 48)) = 10 * z + ((s[k].toNat : Int) - 48) := by rw [IntKind.wrap_i64]; omega
          clear hy hr
          go_wp2_with (go_at_call 84; (with_reducible refine (digitR _ _).mono ?_); rw [HY.out]; rintro e w' ⟨rfl, rfl⟩)
          go_round
          case rel => exact ⟨k + 1, by omega, by omega, by go_num, by rw [HS.out], fun j hj h1 h => by
            by_cases e : j < k
            · exact H.out j hj h1 e
            · obtain rfl : j = k := by omega
              exact HY.out⟩
          case measure => simp [intOf]; omega
        | false =>
          have HY := Lib.hid hy
          have HV := Lib.hid (show numV s.data.toList = .tuple #[.int .i64 0, .bool false] by
            unfold numV
            rw [HE.out, all_no_at hk1 hlk hy]; rfl)
          clear hy
          go_wp2_with (go_at_call 84; (with_reducible refine (digitR _ _).mono ?_); rw [HY.out]; rintro e w' ⟨rfl, rfl⟩)
          go_ret2
          exact ⟨by rw [HV.out]; rfl, rfl⟩
      · obtain rfl : k = s.size := by omega
        have hA : (s.data.toList.drop 0).all digitB = true := all_at (fun j hj h1 => H.out j hj h1 hj)
        have hz2 : evalD (s.data.toList.drop 0) = z := by
          have := HZ.out
          rwa [List.take_of_length_le (by omega)] at this
        have v5 : IntKind.i64.wrap (-z) = -z := by rw [IntKind.wrap_i64]; omega
        cases hn : numB (z) with
        | true =>
          have HNB := Lib.hid (show numB (z) = true by exact hn)
          have HV := Lib.hid (show numV s.data.toList = .tuple #[.int .i64 (z), .bool true] by
            unfold numV
            rw [HE.out, if_pos hA, hz2, if_pos hn]; rfl)
          clear hA hz2 hn
          go_wp2_with (go_at_call 32; (with_reducible refine (numR _ _).mono ?_); rw [HNB.out]; rintro e w' ⟨rfl, rfl⟩)
          go_ret2
          exact ⟨by rw [HV.out]; rfl, rfl⟩
        | false =>
          have HNB := Lib.hid (show numB (z) = false by exact hn)
          have HV := Lib.hid (show numV s.data.toList = .tuple #[.int .i64 0, .bool false] by
            unfold numV
            rw [HE.out, if_pos hA, hz2, hn]; rfl)
          clear hA hz2 hn
          go_wp2_with (go_at_call 32; (with_reducible refine (numR _ _).mono ?_); rw [HNB.out]; rintro e w' ⟨rfl, rfl⟩)
          go_ret2
          exact ⟨by rw [HV.out]; rfl, rfl⟩
end Go.Proofs.YtmlnibjnacfanaaGreatDoor
