/- Layer 13: whether a line of an initial state may be. -/
import Derived.Test.YtjhafgnmahhacaaGreatDoorTe24

namespace Go.Proofs.YtjhafgnmahhacaaGreatDoor
open Go.RowKit
section
abbrev iniV (x : Ini) : Value := .agg #[.int .i64 x.th, .int .i64 x.rg, .string ⟨x.loc.toArray⟩, .string ⟨x.vl.toArray⟩, .int .i64 x.vn]
/-- May a line of an initial state be, of an architecture and so many threads? -/
def firstB (arch : Int) (n : Nat) (x : Ini) : Bool :=
  if x.th = -1 then nameB x.loc && (decide (x.rg = 0) && (x.vl.isEmpty && numB x.vn))
  else decide (0 ≤ x.th ∧ x.th < (n : Int)) && (x.loc.isEmpty && ((if arch = 2 then decide (1 ≤ x.rg ∧ x.rg ≤ 31) else decide (0 ≤ x.rg ∧ x.rg ≤ 14)) && (if x.vl.isEmpty then numB x.vn else nameB x.vl && decide (x.vn = 0))))
section
set_option maxHeartbeats 4000000
set_option maxRecDepth 100000
variable {w : World} {T : Tst} {Ai Ac : Option Addr} {kv : Value}
theorem firstP_1 (ci cc : Nat) (x : Ini) (ha : T.arch = 1) (hx1 : x.loc.length ≤ 9223372036854775807) (hx2 : x.vl.length ≤ 9223372036854775807) : Calls Tryz.prog 195 #[testV T (.slice Ai T.init.length ci) (.slice Ac T.code.length cc) kv, iniV x] w fun e w' => e = .returned (.bool (firstB 1 T.code.length x)) ∧ Below w.heap.size w w' := by
  obtain ⟨th, rg, loc, vl, vn⟩ := x
  simp only [testV, ha, iniV] at hx1 hx2 ⊢
  obtain ⟨n, hn⟩ : ∃ n, T.code.length = n := ⟨_, rfl⟩
  rw [hn]
  clear hn ha
  have HNL := Lib.hid (fun w => nameF ⟨loc.toArray⟩ w hx1)
  have HNV := Lib.hid (fun w => nameF ⟨vl.toArray⟩ w hx2)
  simp only [] at HNV
  simp only [] at HNL
  clear hx1 hx2
  by_cases hth : th = -1
  · subst hth
    cases hn : nameB loc with
    | false =>
      have HNB := Lib.hid hn
      have HV := Lib.hid (show firstB 1 n ⟨-1, rg, loc, vl, vn⟩ = false by simp [firstB, hn])
      rw [HV.out]
      go_enter Tryz.func195, Tryz.ntmps195
      go_wp2_with (first
        | (go_at_call 264; (first | with_reducible refine (HNL.out _).mono ?_ | with_reducible refine (HNV.out _).mono ?_); (try rw [HNB.out]); rintro e w' ⟨rfl, rfl⟩)
        | (go_at_call 265; refine (numF _ _).mono ?_; (try rw [HMB.out]); rintro e w' ⟨rfl, rfl⟩))
      go_ret
      exact ⟨by first | rfl | exact ret_bool (by simp [hn]), below_2 _ _ _⟩
    | true =>
      have HNB := Lib.hid hn
      by_cases hr : rg = 0
      · skip
        by_cases hv : vl = []
        · skip
          cases hm : numB vn with
          | false =>
            have HMB := Lib.hid hm
            have HV := Lib.hid (show firstB 1 n ⟨-1, rg, loc, vl, vn⟩ = false by simp [firstB, hn, hr, hv, hm])
            rw [HV.out]
            go_enter Tryz.func195, Tryz.ntmps195
            go_wp2_with (first
              | (go_at_call 264; (first | with_reducible refine (HNL.out _).mono ?_ | with_reducible refine (HNV.out _).mono ?_); (try rw [HNB.out]); rintro e w' ⟨rfl, rfl⟩)
              | (go_at_call 265; refine (numF _ _).mono ?_; (try rw [HMB.out]); rintro e w' ⟨rfl, rfl⟩))
            go_ret
            exact ⟨by first | rfl | exact ret_bool (by simp [hn, hr, hv, hm]), below_2 _ _ _⟩
          | true =>
            have HMB := Lib.hid hm
            have HV := Lib.hid (show firstB 1 n ⟨-1, rg, loc, vl, vn⟩ = true by simp [firstB, hn, hr, hv, hm])
            rw [HV.out]
            go_enter Tryz.func195, Tryz.ntmps195
            go_wp2_with (first
              | (go_at_call 264; (first | with_reducible refine (HNL.out _).mono ?_ | with_reducible refine (HNV.out _).mono ?_); (try rw [HNB.out]); rintro e w' ⟨rfl, rfl⟩)
              | (go_at_call 265; refine (numF _ _).mono ?_; (try rw [HMB.out]); rintro e w' ⟨rfl, rfl⟩))
            go_ret
            exact ⟨by first | rfl | exact ret_bool (by simp [hn, hr, hv, hm]), below_2 _ _ _⟩
        · skip
          have hv' : vl.isEmpty = false := by simpa using hv
          have HV := Lib.hid (show firstB 1 n ⟨-1, rg, loc, vl, vn⟩ = false by simp [firstB, hn, hv])
          rw [HV.out]
          go_enter Tryz.func195, Tryz.ntmps195
          go_wp2_with (first
            | (go_at_call 264; (first | with_reducible refine (HNL.out _).mono ?_ | with_reducible refine (HNV.out _).mono ?_); (try rw [HNB.out]); rintro e w' ⟨rfl, rfl⟩)
            | (go_at_call 265; refine (numF _ _).mono ?_; (try rw [HMB.out]); rintro e w' ⟨rfl, rfl⟩))
          go_ret
          exact ⟨by first | rfl | exact ret_bool (by simp [hn, hv]), below_2 _ _ _⟩
      · skip
        have HV := Lib.hid (show firstB 1 n ⟨-1, rg, loc, vl, vn⟩ = false by simp [firstB, hn, hr])
        rw [HV.out]
        go_enter Tryz.func195, Tryz.ntmps195
        go_wp2_with (first
          | (go_at_call 264; (first | with_reducible refine (HNL.out _).mono ?_ | with_reducible refine (HNV.out _).mono ?_); (try rw [HNB.out]); rintro e w' ⟨rfl, rfl⟩)
          | (go_at_call 265; refine (numF _ _).mono ?_; (try rw [HMB.out]); rintro e w' ⟨rfl, rfl⟩))
        go_ret
        exact ⟨by first | rfl | exact ret_bool (by simp [hn, hr]), below_2 _ _ _⟩
  · have hth' : (th == -1) = false := by simpa using hth
    by_cases h0 : 0 ≤ th
    · skip
      by_cases h1 : th < (n : Int)
      · skip
        by_cases hl : loc = []
        · skip
          by_cases h2 : (0 : Int) ≤ rg
          · skip
            by_cases h3 : rg ≤ (14 : Int)
            · skip
              by_cases hv : vl = []
              · skip
                cases hm : numB vn with
                | false =>
                  have HMB := Lib.hid hm
                  have HV := Lib.hid (show firstB 1 n ⟨th, rg, loc, vl, vn⟩ = false by simp [firstB, hth, h0, h1, hl, h2, h3, hv, hm])
                  rw [HV.out]
                  go_enter Tryz.func195, Tryz.ntmps195
                  go_wp2_with (first
                    | (go_at_call 264; (first | with_reducible refine (HNL.out _).mono ?_ | with_reducible refine (HNV.out _).mono ?_); (try rw [HNB.out]); rintro e w' ⟨rfl, rfl⟩)
                    | (go_at_call 265; refine (numF _ _).mono ?_; (try rw [HMB.out]); rintro e w' ⟨rfl, rfl⟩))
                  go_ret
                  exact ⟨by first | rfl | exact ret_bool (by simp [hth, h0, h1, hl, h2, h3, hv, hm]), below_2 _ _ _⟩
                | true =>
                  have HMB := Lib.hid hm
                  have HV := Lib.hid (show firstB 1 n ⟨th, rg, loc, vl, vn⟩ = true by simp [firstB, hth, h0, h1, hl, h2, h3, hv, hm])
                  rw [HV.out]
                  go_enter Tryz.func195, Tryz.ntmps195
                  go_wp2_with (first
                    | (go_at_call 264; (first | with_reducible refine (HNL.out _).mono ?_ | with_reducible refine (HNV.out _).mono ?_); (try rw [HNB.out]); rintro e w' ⟨rfl, rfl⟩)
                    | (go_at_call 265; refine (numF _ _).mono ?_; (try rw [HMB.out]); rintro e w' ⟨rfl, rfl⟩))
                  go_ret
                  exact ⟨by first | rfl | exact ret_bool (by simp [hth, h0, h1, hl, h2, h3, hv, hm]), below_2 _ _ _⟩
              · skip
                have hv' : vl.isEmpty = false := by simpa using hv
                cases hn : nameB vl with
                | false =>
                  have HNB := Lib.hid hn
                  have HV := Lib.hid (show firstB 1 n ⟨th, rg, loc, vl, vn⟩ = false by simp [firstB, hth, h0, h1, hl, h2, h3, hv, hn])
                  rw [HV.out]
                  go_enter Tryz.func195, Tryz.ntmps195
                  go_wp2_with (first
                    | (go_at_call 264; (first | with_reducible refine (HNL.out _).mono ?_ | with_reducible refine (HNV.out _).mono ?_); (try rw [HNB.out]); rintro e w' ⟨rfl, rfl⟩)
                    | (go_at_call 265; refine (numF _ _).mono ?_; (try rw [HMB.out]); rintro e w' ⟨rfl, rfl⟩))
                  go_ret
                  exact ⟨by first | rfl | exact ret_bool (by simp [hth, h0, h1, hl, h2, h3, hv, hn]), below_2 _ _ _⟩
                | true =>
                  have HNB := Lib.hid hn
                  by_cases hz : vn = 0
                  · skip
                    have HV := Lib.hid (show firstB 1 n ⟨th, rg, loc, vl, vn⟩ = true by simp [firstB, hth, h0, h1, hl, h2, h3, hv, hn, hz])
                    rw [HV.out]
                    go_enter Tryz.func195, Tryz.ntmps195
                    go_wp2_with (first
                      | (go_at_call 264; (first | with_reducible refine (HNL.out _).mono ?_ | with_reducible refine (HNV.out _).mono ?_); (try rw [HNB.out]); rintro e w' ⟨rfl, rfl⟩)
                      | (go_at_call 265; refine (numF _ _).mono ?_; (try rw [HMB.out]); rintro e w' ⟨rfl, rfl⟩))
                    go_ret
                    exact ⟨by first | rfl | exact ret_bool (by simp [hth, h0, h1, hl, h2, h3, hv, hn, hz]), below_2 _ _ _⟩
                  · skip
                    have HV := Lib.hid (show firstB 1 n ⟨th, rg, loc, vl, vn⟩ = false by simp [firstB, hth, h0, h1, hl, h2, h3, hv, hn, hz])
                    rw [HV.out]
                    go_enter Tryz.func195, Tryz.ntmps195
                    go_wp2_with (first
                      | (go_at_call 264; (first | with_reducible refine (HNL.out _).mono ?_ | with_reducible refine (HNV.out _).mono ?_); (try rw [HNB.out]); rintro e w' ⟨rfl, rfl⟩)
                      | (go_at_call 265; refine (numF _ _).mono ?_; (try rw [HMB.out]); rintro e w' ⟨rfl, rfl⟩))
                    go_ret
                    exact ⟨by first | rfl | exact ret_bool (by simp [hz]), below_2 _ _ _⟩
            · skip
              have h3n : (14 : Int) < rg := by omega
              have HV := Lib.hid (show firstB 1 n ⟨th, rg, loc, vl, vn⟩ = false by simp [firstB, hth, h3])
              rw [HV.out]
              go_enter Tryz.func195, Tryz.ntmps195
              go_wp2_with (first
                | (go_at_call 264; (first | with_reducible refine (HNL.out _).mono ?_ | with_reducible refine (HNV.out _).mono ?_); (try rw [HNB.out]); rintro e w' ⟨rfl, rfl⟩)
                | (go_at_call 265; refine (numF _ _).mono ?_; (try rw [HMB.out]); rintro e w' ⟨rfl, rfl⟩))
              go_ret
              exact ⟨by first | rfl | exact ret_bool (by simp [hth, h3]), below_2 _ _ _⟩
          · skip
            have h2n : rg < (0 : Int) := by omega
            have HV := Lib.hid (show firstB 1 n ⟨th, rg, loc, vl, vn⟩ = false by simp [firstB, hth, h2])
            rw [HV.out]
            go_enter Tryz.func195, Tryz.ntmps195
            go_wp2_with (first
              | (go_at_call 264; (first | with_reducible refine (HNL.out _).mono ?_ | with_reducible refine (HNV.out _).mono ?_); (try rw [HNB.out]); rintro e w' ⟨rfl, rfl⟩)
              | (go_at_call 265; refine (numF _ _).mono ?_; (try rw [HMB.out]); rintro e w' ⟨rfl, rfl⟩))
            go_ret
            exact ⟨by first | rfl | exact ret_bool (by simp [hth, h2]), below_2 _ _ _⟩
        · skip
          have hl' : loc.isEmpty = false := by simpa using hl
          have HV := Lib.hid (show firstB 1 n ⟨th, rg, loc, vl, vn⟩ = false by simp [firstB, hth, hl])
          rw [HV.out]
          go_enter Tryz.func195, Tryz.ntmps195
          go_wp2_with (first
            | (go_at_call 264; (first | with_reducible refine (HNL.out _).mono ?_ | with_reducible refine (HNV.out _).mono ?_); (try rw [HNB.out]); rintro e w' ⟨rfl, rfl⟩)
            | (go_at_call 265; refine (numF _ _).mono ?_; (try rw [HMB.out]); rintro e w' ⟨rfl, rfl⟩))
          go_ret
          exact ⟨by first | rfl | exact ret_bool (by simp [hth, hl]), below_2 _ _ _⟩
      · skip
        have h1n : (n : Int) ≤ th := by omega
        have HV := Lib.hid (show firstB 1 n ⟨th, rg, loc, vl, vn⟩ = false by simp [firstB, hth, h1])
        rw [HV.out]
        go_enter Tryz.func195, Tryz.ntmps195
        go_wp2_with (first
          | (go_at_call 264; (first | with_reducible refine (HNL.out _).mono ?_ | with_reducible refine (HNV.out _).mono ?_); (try rw [HNB.out]); rintro e w' ⟨rfl, rfl⟩)
          | (go_at_call 265; refine (numF _ _).mono ?_; (try rw [HMB.out]); rintro e w' ⟨rfl, rfl⟩))
        go_ret
        exact ⟨by first | rfl | exact ret_bool (by simp [hth, h1]), below_2 _ _ _⟩
    · skip
      have h0n : th < 0 := by omega
      have HV := Lib.hid (show firstB 1 n ⟨th, rg, loc, vl, vn⟩ = false by simp [firstB, hth, h0])
      rw [HV.out]
      go_enter Tryz.func195, Tryz.ntmps195
      go_wp2_with (first
        | (go_at_call 264; (first | with_reducible refine (HNL.out _).mono ?_ | with_reducible refine (HNV.out _).mono ?_); (try rw [HNB.out]); rintro e w' ⟨rfl, rfl⟩)
        | (go_at_call 265; refine (numF _ _).mono ?_; (try rw [HMB.out]); rintro e w' ⟨rfl, rfl⟩))
      go_ret
      exact ⟨by first | rfl | exact ret_bool (by simp [hth, h0]), below_2 _ _ _⟩
theorem firstP_2 (ci cc : Nat) (x : Ini) (ha : T.arch = 2) (hx1 : x.loc.length ≤ 9223372036854775807) (hx2 : x.vl.length ≤ 9223372036854775807) : Calls Tryz.prog 195 #[testV T (.slice Ai T.init.length ci) (.slice Ac T.code.length cc) kv, iniV x] w fun e w' => e = .returned (.bool (firstB 2 T.code.length x)) ∧ Below w.heap.size w w' := by
  obtain ⟨th, rg, loc, vl, vn⟩ := x
  simp only [testV, ha, iniV] at hx1 hx2 ⊢
  obtain ⟨n, hn⟩ : ∃ n, T.code.length = n := ⟨_, rfl⟩
  rw [hn]
  clear hn ha
  have HNL := Lib.hid (fun w => nameF ⟨loc.toArray⟩ w hx1)
  have HNV := Lib.hid (fun w => nameF ⟨vl.toArray⟩ w hx2)
  simp only [] at HNV
  simp only [] at HNL
  clear hx1 hx2
  by_cases hth : th = -1
  · subst hth
    cases hn : nameB loc with
    | false =>
      have HNB := Lib.hid hn
      have HV := Lib.hid (show firstB 2 n ⟨-1, rg, loc, vl, vn⟩ = false by simp [firstB, hn])
      rw [HV.out]
      go_enter Tryz.func195, Tryz.ntmps195
      go_wp2_with (first
        | (go_at_call 264; (first | with_reducible refine (HNL.out _).mono ?_ | with_reducible refine (HNV.out _).mono ?_); (try rw [HNB.out]); rintro e w' ⟨rfl, rfl⟩)
        | (go_at_call 265; refine (numF _ _).mono ?_; (try rw [HMB.out]); rintro e w' ⟨rfl, rfl⟩))
      go_ret
      exact ⟨by first | rfl | exact ret_bool (by simp [hn]), below_2 _ _ _⟩
    | true =>
      have HNB := Lib.hid hn
      by_cases hr : rg = 0
      · skip
        by_cases hv : vl = []
        · skip
          cases hm : numB vn with
          | false =>
            have HMB := Lib.hid hm
            have HV := Lib.hid (show firstB 2 n ⟨-1, rg, loc, vl, vn⟩ = false by simp [firstB, hn, hr, hv, hm])
            rw [HV.out]
            go_enter Tryz.func195, Tryz.ntmps195
            go_wp2_with (first
              | (go_at_call 264; (first | with_reducible refine (HNL.out _).mono ?_ | with_reducible refine (HNV.out _).mono ?_); (try rw [HNB.out]); rintro e w' ⟨rfl, rfl⟩)
              | (go_at_call 265; refine (numF _ _).mono ?_; (try rw [HMB.out]); rintro e w' ⟨rfl, rfl⟩))
            go_ret
            exact ⟨by first | rfl | exact ret_bool (by simp [hn, hr, hv, hm]), below_2 _ _ _⟩
          | true =>
            have HMB := Lib.hid hm
            have HV := Lib.hid (show firstB 2 n ⟨-1, rg, loc, vl, vn⟩ = true by simp [firstB, hn, hr, hv, hm])
            rw [HV.out]
            go_enter Tryz.func195, Tryz.ntmps195
            go_wp2_with (first
              | (go_at_call 264; (first | with_reducible refine (HNL.out _).mono ?_ | with_reducible refine (HNV.out _).mono ?_); (try rw [HNB.out]); rintro e w' ⟨rfl, rfl⟩)
              | (go_at_call 265; refine (numF _ _).mono ?_; (try rw [HMB.out]); rintro e w' ⟨rfl, rfl⟩))
            go_ret
            exact ⟨by first | rfl | exact ret_bool (by simp [hn, hr, hv, hm]), below_2 _ _ _⟩
        · skip
          have hv' : vl.isEmpty = false := by simpa using hv
          have HV := Lib.hid (show firstB 2 n ⟨-1, rg, loc, vl, vn⟩ = false by simp [firstB, hn, hv])
          rw [HV.out]
          go_enter Tryz.func195, Tryz.ntmps195
          go_wp2_with (first
            | (go_at_call 264; (first | with_reducible refine (HNL.out _).mono ?_ | with_reducible refine (HNV.out _).mono ?_); (try rw [HNB.out]); rintro e w' ⟨rfl, rfl⟩)
            | (go_at_call 265; refine (numF _ _).mono ?_; (try rw [HMB.out]); rintro e w' ⟨rfl, rfl⟩))
          go_ret
          exact ⟨by first | rfl | exact ret_bool (by simp [hn, hv]), below_2 _ _ _⟩
      · skip
        have HV := Lib.hid (show firstB 2 n ⟨-1, rg, loc, vl, vn⟩ = false by simp [firstB, hn, hr])
        rw [HV.out]
        go_enter Tryz.func195, Tryz.ntmps195
        go_wp2_with (first
          | (go_at_call 264; (first | with_reducible refine (HNL.out _).mono ?_ | with_reducible refine (HNV.out _).mono ?_); (try rw [HNB.out]); rintro e w' ⟨rfl, rfl⟩)
          | (go_at_call 265; refine (numF _ _).mono ?_; (try rw [HMB.out]); rintro e w' ⟨rfl, rfl⟩))
        go_ret
        exact ⟨by first | rfl | exact ret_bool (by simp [hn, hr]), below_2 _ _ _⟩
  · have hth' : (th == -1) = false := by simpa using hth
    by_cases h0 : 0 ≤ th
    · skip
      by_cases h1 : th < (n : Int)
      · skip
        by_cases hl : loc = []
        · skip
          by_cases h2 : (1 : Int) ≤ rg
          · skip
            by_cases h3 : rg ≤ (31 : Int)
            · skip
              by_cases hv : vl = []
              · skip
                cases hm : numB vn with
                | false =>
                  have HMB := Lib.hid hm
                  have HV := Lib.hid (show firstB 2 n ⟨th, rg, loc, vl, vn⟩ = false by simp [firstB, hth, h0, h1, hl, h2, h3, hv, hm])
                  rw [HV.out]
                  go_enter Tryz.func195, Tryz.ntmps195
                  go_wp2_with (first
                    | (go_at_call 264; (first | with_reducible refine (HNL.out _).mono ?_ | with_reducible refine (HNV.out _).mono ?_); (try rw [HNB.out]); rintro e w' ⟨rfl, rfl⟩)
                    | (go_at_call 265; refine (numF _ _).mono ?_; (try rw [HMB.out]); rintro e w' ⟨rfl, rfl⟩))
                  go_ret
                  exact ⟨by first | rfl | exact ret_bool (by simp [hth, h0, h1, hl, h2, h3, hv, hm]), below_2 _ _ _⟩
                | true =>
                  have HMB := Lib.hid hm
                  have HV := Lib.hid (show firstB 2 n ⟨th, rg, loc, vl, vn⟩ = true by simp [firstB, hth, h0, h1, hl, h2, h3, hv, hm])
                  rw [HV.out]
                  go_enter Tryz.func195, Tryz.ntmps195
                  go_wp2_with (first
                    | (go_at_call 264; (first | with_reducible refine (HNL.out _).mono ?_ | with_reducible refine (HNV.out _).mono ?_); (try rw [HNB.out]); rintro e w' ⟨rfl, rfl⟩)
                    | (go_at_call 265; refine (numF _ _).mono ?_; (try rw [HMB.out]); rintro e w' ⟨rfl, rfl⟩))
                  go_ret
                  exact ⟨by first | rfl | exact ret_bool (by simp [hth, h0, h1, hl, h2, h3, hv, hm]), below_2 _ _ _⟩
              · skip
                have hv' : vl.isEmpty = false := by simpa using hv
                cases hn : nameB vl with
                | false =>
                  have HNB := Lib.hid hn
                  have HV := Lib.hid (show firstB 2 n ⟨th, rg, loc, vl, vn⟩ = false by simp [firstB, hth, h0, h1, hl, h2, h3, hv, hn])
                  rw [HV.out]
                  go_enter Tryz.func195, Tryz.ntmps195
                  go_wp2_with (first
                    | (go_at_call 264; (first | with_reducible refine (HNL.out _).mono ?_ | with_reducible refine (HNV.out _).mono ?_); (try rw [HNB.out]); rintro e w' ⟨rfl, rfl⟩)
                    | (go_at_call 265; refine (numF _ _).mono ?_; (try rw [HMB.out]); rintro e w' ⟨rfl, rfl⟩))
                  go_ret
                  exact ⟨by first | rfl | exact ret_bool (by simp [hth, h0, h1, hl, h2, h3, hv, hn]), below_2 _ _ _⟩
                | true =>
                  have HNB := Lib.hid hn
                  by_cases hz : vn = 0
                  · skip
                    have HV := Lib.hid (show firstB 2 n ⟨th, rg, loc, vl, vn⟩ = true by simp [firstB, hth, h0, h1, hl, h2, h3, hv, hn, hz])
                    rw [HV.out]
                    go_enter Tryz.func195, Tryz.ntmps195
                    go_wp2_with (first
                      | (go_at_call 264; (first | with_reducible refine (HNL.out _).mono ?_ | with_reducible refine (HNV.out _).mono ?_); (try rw [HNB.out]); rintro e w' ⟨rfl, rfl⟩)
                      | (go_at_call 265; refine (numF _ _).mono ?_; (try rw [HMB.out]); rintro e w' ⟨rfl, rfl⟩))
                    go_ret
                    exact ⟨by first | rfl | exact ret_bool (by simp [hth, h0, h1, hl, h2, h3, hv, hn, hz]), below_2 _ _ _⟩
                  · skip
                    have HV := Lib.hid (show firstB 2 n ⟨th, rg, loc, vl, vn⟩ = false by simp [firstB, hth, h0, h1, hl, h2, h3, hv, hn, hz])
                    rw [HV.out]
                    go_enter Tryz.func195, Tryz.ntmps195
                    go_wp2_with (first
                      | (go_at_call 264; (first | with_reducible refine (HNL.out _).mono ?_ | with_reducible refine (HNV.out _).mono ?_); (try rw [HNB.out]); rintro e w' ⟨rfl, rfl⟩)
                      | (go_at_call 265; refine (numF _ _).mono ?_; (try rw [HMB.out]); rintro e w' ⟨rfl, rfl⟩))
                    go_ret
                    exact ⟨by first | rfl | exact ret_bool (by simp [hz]), below_2 _ _ _⟩
            · skip
              have h3n : (31 : Int) < rg := by omega
              have HV := Lib.hid (show firstB 2 n ⟨th, rg, loc, vl, vn⟩ = false by simp [firstB, hth, h3])
              rw [HV.out]
              go_enter Tryz.func195, Tryz.ntmps195
              go_wp2_with (first
                | (go_at_call 264; (first | with_reducible refine (HNL.out _).mono ?_ | with_reducible refine (HNV.out _).mono ?_); (try rw [HNB.out]); rintro e w' ⟨rfl, rfl⟩)
                | (go_at_call 265; refine (numF _ _).mono ?_; (try rw [HMB.out]); rintro e w' ⟨rfl, rfl⟩))
              go_ret
              exact ⟨by first | rfl | exact ret_bool (by simp [hth, h3]), below_2 _ _ _⟩
          · skip
            have h2n : rg < (1 : Int) := by omega
            have HV := Lib.hid (show firstB 2 n ⟨th, rg, loc, vl, vn⟩ = false by simp [firstB, hth, h2])
            rw [HV.out]
            go_enter Tryz.func195, Tryz.ntmps195
            go_wp2_with (first
              | (go_at_call 264; (first | with_reducible refine (HNL.out _).mono ?_ | with_reducible refine (HNV.out _).mono ?_); (try rw [HNB.out]); rintro e w' ⟨rfl, rfl⟩)
              | (go_at_call 265; refine (numF _ _).mono ?_; (try rw [HMB.out]); rintro e w' ⟨rfl, rfl⟩))
            go_ret
            exact ⟨by first | rfl | exact ret_bool (by simp [hth, h2]), below_2 _ _ _⟩
        · skip
          have hl' : loc.isEmpty = false := by simpa using hl
          have HV := Lib.hid (show firstB 2 n ⟨th, rg, loc, vl, vn⟩ = false by simp [firstB, hth, hl])
          rw [HV.out]
          go_enter Tryz.func195, Tryz.ntmps195
          go_wp2_with (first
            | (go_at_call 264; (first | with_reducible refine (HNL.out _).mono ?_ | with_reducible refine (HNV.out _).mono ?_); (try rw [HNB.out]); rintro e w' ⟨rfl, rfl⟩)
            | (go_at_call 265; refine (numF _ _).mono ?_; (try rw [HMB.out]); rintro e w' ⟨rfl, rfl⟩))
          go_ret
          exact ⟨by first | rfl | exact ret_bool (by simp [hth, hl]), below_2 _ _ _⟩
      · skip
        have h1n : (n : Int) ≤ th := by omega
        have HV := Lib.hid (show firstB 2 n ⟨th, rg, loc, vl, vn⟩ = false by simp [firstB, hth, h1])
        rw [HV.out]
        go_enter Tryz.func195, Tryz.ntmps195
        go_wp2_with (first
          | (go_at_call 264; (first | with_reducible refine (HNL.out _).mono ?_ | with_reducible refine (HNV.out _).mono ?_); (try rw [HNB.out]); rintro e w' ⟨rfl, rfl⟩)
          | (go_at_call 265; refine (numF _ _).mono ?_; (try rw [HMB.out]); rintro e w' ⟨rfl, rfl⟩))
        go_ret
        exact ⟨by first | rfl | exact ret_bool (by simp [hth, h1]), below_2 _ _ _⟩
    · skip
      have h0n : th < 0 := by omega
      have HV := Lib.hid (show firstB 2 n ⟨th, rg, loc, vl, vn⟩ = false by simp [firstB, hth, h0])
      rw [HV.out]
      go_enter Tryz.func195, Tryz.ntmps195
      go_wp2_with (first
        | (go_at_call 264; (first | with_reducible refine (HNL.out _).mono ?_ | with_reducible refine (HNV.out _).mono ?_); (try rw [HNB.out]); rintro e w' ⟨rfl, rfl⟩)
        | (go_at_call 265; refine (numF _ _).mono ?_; (try rw [HMB.out]); rintro e w' ⟨rfl, rfl⟩))
      go_ret
      exact ⟨by first | rfl | exact ret_bool (by simp [hth, h0]), below_2 _ _ _⟩
end
end
end Go.Proofs.YtjhafgnmahhacaaGreatDoor
