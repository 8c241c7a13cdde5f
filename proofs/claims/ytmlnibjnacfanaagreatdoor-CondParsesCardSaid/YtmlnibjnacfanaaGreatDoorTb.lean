/- Layer 8: the reference's tokenAt, walked. -/
import Derived.Test.YtmlnibjnacfanaaGreatDoorTa
namespace Go.Proofs.YtmlnibjnacfanaaGreatDoor
open Go.RowKit

theorem u8_ne {c : UInt8} {n : Nat} (_hn : n < 256) (h : c ≠ UInt8.ofNat n) : ((c.toNat : Int) == (n : Int)) = false := by
  rw [beq_eq_false_iff_ne]
  intro e
  apply h
  have e' : c.toNat = n := by exact_mod_cast e
  rw [← e']
  simp
section
variable {s : ByteArray} {m : Nat}
theorem long_at (hlt : m < s.size) : longL (s.data.toList.drop m) = if letterB s[m] then 1 + ((s.data.toList.drop (m + 1)).takeWhile partB).length else if digitB s[m] || (s[m] == 45 && hdDig (s.data.toList.drop (m + 1))) then 1 + ((s.data.toList.drop (m + 1)).takeWhile digitB).length else if signB s[m] (s.data.toList.drop (m + 1)) then 2 else 1 := by
  rw [drop_cons s m hlt]; rfl
theorem hd_dig (h : m + 1 < s.size) : hdDig (s.data.toList.drop (m + 1)) = digitB s[m + 1] := by rw [drop_cons s (m + 1) h]; rfl
theorem hd_dig0 (h : s.size ≤ m + 1) : hdDig (s.data.toList.drop (m + 1)) = false := by rw [List.drop_eq_nil_of_le (by rw [Array.length_toList]; exact h)]; rfl
theorem sign_at (h : m + 1 < s.size) (c : UInt8) : signB c (s.data.toList.drop (m + 1)) = ((c == 47 && s[m + 1] == 92) || (c == 92 && s[m + 1] == 47)) := by rw [drop_cons s (m + 1) h]; simp [signB]
theorem sign_at0 (h : s.size ≤ m + 1) (c : UInt8) : signB c (s.data.toList.drop (m + 1)) = false := by rw [List.drop_eq_nil_of_le (by rw [Array.length_toList]; exact h)]; simp [signB]
theorem long_w (hlt : m < s.size) (h : letterB s[m] = true) : longL (s.data.toList.drop m) = 1 + ((s.data.toList.drop (m + 1)).takeWhile partB).length := by rw [long_at hlt, if_pos h]
theorem long_d (hlt : m < s.size) (h : letterB s[m] = false) (h2 : digitB s[m] = true) : longL (s.data.toList.drop m) = 1 + ((s.data.toList.drop (m + 1)).takeWhile digitB).length := by rw [long_at hlt, h, h2]; simp
theorem long_m (hlt : m < s.size) (h : letterB s[m] = false) (h2 : s[m] = 45) (hm1 : m + 1 < s.size) (h3 : digitB s[m + 1] = true) : longL (s.data.toList.drop m) = 1 + ((s.data.toList.drop (m + 1)).takeWhile digitB).length := by
  rw [long_at hlt, h, hd_dig hm1, h3, h2]; simp
theorem kind_m (hlt : m < s.size) (h2 : s[m] = 45) {k : Nat} (hk : m + 2 ≤ k) (hk2 : k ≤ s.size) : kindT (s[m] :: (s.data.toList.drop (m + 1)).take (k - m - 1)) = 2 := by
  rw [h2, drop_cons s (m + 1) (by omega), show k - m - 1 = (k - m - 2) + 1 by omega, List.take_succ_cons]
  simp [kindT, letterB, digitB]
end
theorem ret_tokE {fn : Func} (hfn : fn.results = #[.cell 4 92]) {a : Act} {W : World} {R : Ending → World → Prop} {b : Nat} {u0 u1 u2 u3 : Value}
    (hB : Blk W b 92 #[u0, u1, u2, u3]) (h4 : a.tmps[4]? = some (.pointer (some ⟨b, 0, none⟩))) (hd : a.defers = [])
    (hR : R (.returned (.agg #[u0, u1, u2, u3])) W) : bodyPost Tryz.prog fn R .ret a W := by
  have a0 : W.cell? ⟨b, 0, none⟩ = some u0 := hB.cell 0
  have a1 : W.cell? ⟨b, 1, none⟩ = some u1 := hB.cell 1
  have a2 : W.cell? ⟨b, 2, none⟩ = some u2 := hB.cell 2
  have a3 : W.cell? ⟨b, 3, none⟩ = some u3 := hB.cell 3
  exact bodyPost_ret (by simp [results, hfn, h4, go_sem, a0, a1, a2, a3]) hd hR
set_option maxHeartbeats 8000000 in
set_option maxRecDepth 100000 in
theorem tokR (s : ByteArray) (i : Nat) (hi : i ≤ s.size) (hs : s.size ≤ 262144) (w : World) :
    Calls Tryz.prog 46 #[.string s, .int .i64 i] w fun e w' => e = .returned (tokV s.size (toks i (s.data.toList.drop i))) ∧ Below w.heap.size w w' := by
  obtain ⟨L, hL⟩ : ∃ L, toks i (s.data.toList.drop i) = L := ⟨_, rfl⟩
  rw [hL]
  have HL := Lib.hid hL
  clear hL
  go_enter Tryz.func46, Tryz.ntmps46
  go_wp2_with fail
  go_loop [1] (fun e => ∃ m : Nat, e = .int .i64 m ∧ m ≤ s.size ∧ toks m (s.data.toList.drop m) = L) (fun e => s.size - (intOf e).toNat)
  case atStart => exact ⟨i, rfl, hi, HL.out⟩
  case round =>
    obtain ⟨m, rfl, hm, hLm⟩ := hrel
    have HM := Lib.hid hLm
    clear hLm
    by_cases hlt : m < s.size
    · have HD := Lib.hid (drop_cons s m hlt)
      by_cases e32 : (s[m].toNat : Int) = 32
      · have hb : blkB s[m] = true := by simp [blkB, e32]
        have HB := Lib.hid hb
        have g32 : ((s[m].toNat : Int) == 32) = true := by simpa using e32
        clear hb e32
        go_wp2_with fail
        go_round
        case rel => exact ⟨m + 1, by go_num, by omega, by rw [← toks_blank m HB.out, ← HD.out]; exact HM.out⟩
        case measure => simp [intOf]; omega
      have f32 : ((s[m].toNat : Int) == 32) = false := by simpa using e32
      by_cases e9 : (s[m].toNat : Int) = 9
      · have hb : blkB s[m] = true := by simp [blkB, e9]
        have HB := Lib.hid hb
        have g9 : ((s[m].toNat : Int) == 9) = true := by simpa using e9
        clear hb e9
        go_wp2_with fail
        go_round
        case rel => exact ⟨m + 1, by go_num, by omega, by rw [← toks_blank m HB.out, ← HD.out]; exact HM.out⟩
        case measure => simp [intOf]; omega
      have f9 : ((s[m].toNat : Int) == 9) = false := by simpa using e9
      by_cases e10 : (s[m].toNat : Int) = 10
      · have hb : blkB s[m] = true := by simp [blkB, e10]
        have HB := Lib.hid hb
        have g10 : ((s[m].toNat : Int) == 10) = true := by simpa using e10
        clear hb e10
        go_wp2_with fail
        go_round
        case rel => exact ⟨m + 1, by go_num, by omega, by rw [← toks_blank m HB.out, ← HD.out]; exact HM.out⟩
        case measure => simp [intOf]; omega
      have f10 : ((s[m].toNat : Int) == 10) = false := by simpa using e10
      by_cases e13 : (s[m].toNat : Int) = 13
      · have hb : blkB s[m] = true := by simp [blkB, e13]
        have HB := Lib.hid hb
        have g13 : ((s[m].toNat : Int) == 13) = true := by simpa using e13
        clear hb e13
        go_wp2_with fail
        go_round
        case rel => exact ⟨m + 1, by go_num, by omega, by rw [← toks_blank m HB.out, ← HD.out]; exact HM.out⟩
        case measure => simp [intOf]; omega
      have f13 : ((s[m].toNat : Int) == 13) = false := by simpa using e13
      have HNB := Lib.hid (show blkB s[m] = false by simp [blkB, e32, e9, e10, e13])
      clear e32 e9 e10 e13
      cases hl : letterB s[m] with
      | true =>
        have HLt := Lib.hid hl
        clear hl
        go_wp2_with (go_at_call 83; (with_reducible refine (letterR _ _).mono ?_); rw [HLt.out]; rintro e w' ⟨rfl, rfl⟩)
        go_loop [5] (fun e => ∃ k : Nat, m + 1 ≤ k ∧ k ≤ s.size ∧ e = .int .i64 k ∧ ∀ j (hj : j < s.size), m + 1 ≤ j → j < k → partB s[j] = true) (fun e => s.size - (intOf e).toNat)
        case atStart => exact ⟨m + 1, Nat.le_refl _, by omega, by go_num, fun j _ h1 h2 => by omega⟩
        case round =>
          obtain ⟨k, hk1, hk, rfl, hall⟩ := hrel
          have H := Lib.hid hall
          clear hall
          by_cases hlk : k < s.size
          · cases hx : letterB s[k] with
            | true =>
              have HX := Lib.hid hx
              have HB := Lib.hid (show partB s[k] = true by simp [partB, hx])
              clear hx
              go_wp2_with (go_at_call 83; (with_reducible refine (letterR _ _).mono ?_); rw [HX.out]; rintro e w' ⟨rfl, rfl⟩)
              go_round
              case rel => exact ⟨k + 1, by omega, by omega, by go_num, fun j hj h1 h => by
                by_cases e : j < k
                · exact H.out j hj h1 e
                · obtain rfl : j = k := by omega
                  exact HB.out⟩
              case measure => simp [intOf]; omega
            | false =>
              cases hy : digitB s[k] with
              | true =>
                have HX := Lib.hid hx
                have HY := Lib.hid hy
                have HB := Lib.hid (show partB s[k] = true by simp [partB, hy])
                clear hx hy
                go_wp2_with (first | (go_at_call 83; (with_reducible refine (letterR _ _).mono ?_); rw [HX.out]; rintro e w' ⟨rfl, rfl⟩) | (go_at_call 84; (with_reducible refine (digitR _ _).mono ?_); rw [HY.out]; rintro e w' ⟨rfl, rfl⟩))
                go_round
                case rel => exact ⟨k + 1, by omega, by omega, by go_num, fun j hj h1 h => by
                  by_cases e : j < k
                  · exact H.out j hj h1 e
                  · obtain rfl : j = k := by omega
                    exact HB.out⟩
                case measure => simp [intOf]; omega
              | false =>
                by_cases hu : (s[k].toNat : Int) = 95
                · have HX := Lib.hid hx
                  have HY := Lib.hid hy
                  have HB := Lib.hid (show partB s[k] = true by simp [partB, hu])
                  have hu' : ((s[k].toNat : Int) == 95) = true := by simpa using hu
                  clear hx hy hu
                  go_wp2_with (first | (go_at_call 83; (with_reducible refine (letterR _ _).mono ?_); rw [HX.out]; rintro e w' ⟨rfl, rfl⟩) | (go_at_call 84; (with_reducible refine (digitR _ _).mono ?_); rw [HY.out]; rintro e w' ⟨rfl, rfl⟩))
                  go_round
                  case rel => exact ⟨k + 1, by omega, by omega, by go_num, fun j hj h1 h => by
                    by_cases e : j < k
                    · exact H.out j hj h1 e
                    · obtain rfl : j = k := by omega
                      exact HB.out⟩
                  case measure => simp [intOf]; omega
                · have HX := Lib.hid hx
                  have HY := Lib.hid hy
                  have hn : partB s[k] = false := by simp [partB, hx, hy, hu]
                  have hu' : ((s[k].toNat : Int) == 95) = false := by simpa using hu
                  clear hx hy hu
                  have hrn := run_len (p := partB) (m := m) (k := k) (by omega) (by omega) (fun j hj h1 h2 => H.out j hj h1 h2) (fun _ => hn)
                  have HF := Lib.hid (tok_fin (m := m) (k := k) hlt HNB.out HM.out (by omega) (by omega) (by rw [long_w hlt HLt.out, hrn]; omega) 1 (by simp [kindT, HLt.out]))
                  clear hrn
                  have j1 : (m : Int) ≤ (k : Int) := by omega
                  have j2 : (k : Int) ≤ (s.size : Int) := by omega
                  have j3 : m ≤ k := by omega
                  clear hn
                  go_wp2_with (first | (go_at_call 83; (with_reducible refine (letterR _ _).mono ?_); rw [HX.out]; rintro e w' ⟨rfl, rfl⟩) | (go_at_call 84; (with_reducible refine (digitR _ _).mono ?_); rw [HY.out]; rintro e w' ⟨rfl, rfl⟩))
                  refine ret_tokE rfl (Blk.new _ _ _) rfl rfl ?_
                  exact ⟨by rw [HF.out], alloc_b _ _⟩
          · have hrn := run_len (p := partB) (m := m) (k := k) (by omega) (by omega) (fun j hj h1 h2 => H.out j hj h1 h2) (fun h => absurd h (by omega))
            have HF := Lib.hid (tok_fin (m := m) (k := k) hlt HNB.out HM.out (by omega) (by omega) (by rw [long_w hlt HLt.out, hrn]; omega) 1 (by simp [kindT, HLt.out]))
            clear hrn
            have j1 : (m : Int) ≤ (k : Int) := by omega
            have j2 : (k : Int) ≤ (s.size : Int) := by omega
            have j3 : m ≤ k := by omega
            go_wp2_with fail
            refine ret_tokE rfl (Blk.new _ _ _) rfl rfl ?_
            exact ⟨by rw [HF.out], alloc_b _ _⟩
      | false =>
        cases hdg : digitB s[m] with
        | true =>
          have HLt := Lib.hid hl
          have HDg := Lib.hid hdg
          clear hl hdg
          go_wp2_with (first | (go_at_call 83; (with_reducible refine (letterR _ _).mono ?_); rw [HLt.out]; rintro e w' ⟨rfl, rfl⟩) | (go_at_call 84; (with_reducible refine (digitR _ _).mono ?_); rw [HDg.out]; rintro e w' ⟨rfl, rfl⟩))
          go_loop [5] (fun e => ∃ k : Nat, m + 1 ≤ k ∧ k ≤ s.size ∧ e = .int .i64 k ∧ ∀ j (hj : j < s.size), m + 1 ≤ j → j < k → digitB s[j] = true) (fun e => s.size - (intOf e).toNat)
          case atStart => exact ⟨m + 1, Nat.le_refl _, by omega, by go_num, fun j _ h1 h2 => by omega⟩
          case round =>
            obtain ⟨k, hk1, hk, rfl, hall⟩ := hrel
            have H := Lib.hid hall
            clear hall
            by_cases hlk : k < s.size
            · cases hy : digitB s[k] with
              | true =>
                have HY := Lib.hid hy
                have HB := Lib.hid hy
                clear hy
                go_wp2_with (go_at_call 84; (with_reducible refine (digitR _ _).mono ?_); rw [HY.out]; rintro e w' ⟨rfl, rfl⟩)
                go_round
                case rel => exact ⟨k + 1, by omega, by omega, by go_num, fun j hj h1 h => by
                  by_cases e : j < k
                  · exact H.out j hj h1 e
                  · obtain rfl : j = k := by omega
                    exact HB.out⟩
                case measure => simp [intOf]; omega
              | false =>
                have HY := Lib.hid hy
                have hrn := run_len (p := digitB) (m := m) (k := k) (by omega) (by omega) (fun j hj h1 h2 => H.out j hj h1 h2) (fun _ => hy)
                have HF := Lib.hid (tok_fin (m := m) (k := k) hlt HNB.out HM.out (by omega) (by omega) (by rw [long_d hlt HLt.out HDg.out, hrn]; omega) 2 (by simp [kindT, HLt.out, HDg.out]))
                clear hrn
                have j1 : (m : Int) ≤ (k : Int) := by omega
                have j2 : (k : Int) ≤ (s.size : Int) := by omega
                have j3 : m ≤ k := by omega
                clear hy
                go_wp2_with (go_at_call 84; (with_reducible refine (digitR _ _).mono ?_); rw [HY.out]; rintro e w' ⟨rfl, rfl⟩)
                refine ret_tokE rfl (Blk.new _ _ _) rfl rfl ?_
                exact ⟨by rw [HF.out], alloc_b _ _⟩
            · have hrn := run_len (p := digitB) (m := m) (k := k) (by omega) (by omega) (fun j hj h1 h2 => H.out j hj h1 h2) (fun h => absurd h (by omega))
              have HF := Lib.hid (tok_fin (m := m) (k := k) hlt HNB.out HM.out (by omega) (by omega) (by rw [long_d hlt HLt.out HDg.out, hrn]; omega) 2 (by simp [kindT, HLt.out, HDg.out]))
              clear hrn
              have j1 : (m : Int) ≤ (k : Int) := by omega
              have j2 : (k : Int) ≤ (s.size : Int) := by omega
              have j3 : m ≤ k := by omega
              go_wp2_with fail
              refine ret_tokE rfl (Blk.new _ _ _) rfl rfl ?_
              exact ⟨by rw [HF.out], alloc_b _ _⟩
        | false =>
          have HLt := Lib.hid hl
          have HDg := Lib.hid hdg
          clear hl hdg
          by_cases h45 : s[m] = 45
          · have f45 : ((s[m].toNat : Int) == 45) = true := by rw [h45]; rfl
            have f47 : ((s[m].toNat : Int) == 47) = false := by rw [h45]; rfl
            have f92 : ((s[m].toNat : Int) == 92) = false := by rw [h45]; rfl
            have H45 := Lib.hid h45
            clear h45
            by_cases hm1 : m + 1 < s.size
            · cases hd2 : digitB s[m + 1] with
              | true =>
                have HD2 := Lib.hid hd2
                clear hd2
                go_wp2_with (first | (go_at_call 83; (with_reducible refine (letterR _ _).mono ?_); rw [HLt.out]; rintro e w' ⟨rfl, rfl⟩) | (go_at_call 84; (with_reducible refine (digitR _ _).mono ?_); rw [HDg.out]; rintro e w' ⟨rfl, rfl⟩) | (go_at_call 84; (with_reducible refine (digitR _ _).mono ?_); rw [HD2.out]; rintro e w' ⟨rfl, rfl⟩))
                go_loop [5] (fun e => ∃ k : Nat, m + 1 ≤ k ∧ k ≤ s.size ∧ e = .int .i64 k ∧ ∀ j (hj : j < s.size), m + 1 ≤ j → j < k → digitB s[j] = true) (fun e => s.size - (intOf e).toNat)
                case atStart => exact ⟨m + 1, Nat.le_refl _, by omega, by go_num, fun j _ h1 h2 => by omega⟩
                case round =>
                  obtain ⟨k, hk1, hk, rfl, hall⟩ := hrel
                  have H := Lib.hid hall
                  clear hall
                  by_cases hlk : k < s.size
                  · cases hy : digitB s[k] with
                    | true =>
                      have HY := Lib.hid hy
                      have HB := Lib.hid hy
                      clear hy
                      go_wp2_with (go_at_call 84; (with_reducible refine (digitR _ _).mono ?_); rw [HY.out]; rintro e w' ⟨rfl, rfl⟩)
                      go_round
                      case rel => exact ⟨k + 1, by omega, by omega, by go_num, fun j hj h1 h => by
                        by_cases e : j < k
                        · exact H.out j hj h1 e
                        · obtain rfl : j = k := by omega
                          exact HB.out⟩
                      case measure => simp [intOf]; omega
                    | false =>
                      have HY := Lib.hid hy
                      have hrn := run_len (p := digitB) (m := m) (k := k) (by omega) (by omega) (fun j hj h1 h2 => H.out j hj h1 h2) (fun _ => hy)
                      have HF := Lib.hid (tok_fin (m := m) (k := k) hlt HNB.out HM.out (by omega) (by omega) (by rw [long_m hlt HLt.out H45.out hm1 HD2.out, hrn]; omega) 2 (kind_m hlt H45.out (by by_cases e : k = m + 1; (subst e; first | (have := HD2.out; have h9 := HY.out; rw [this] at h9; cases h9) | omega); omega) (by omega)))
                      clear hrn
                      have j1 : (m : Int) ≤ (k : Int) := by omega
                      have j2 : (k : Int) ≤ (s.size : Int) := by omega
                      have j3 : m ≤ k := by omega
                      clear hy
                      go_wp2_with (go_at_call 84; (with_reducible refine (digitR _ _).mono ?_); rw [HY.out]; rintro e w' ⟨rfl, rfl⟩)
                      refine ret_tokE rfl (Blk.new _ _ _) rfl rfl ?_
                      exact ⟨by rw [HF.out], alloc_b _ _⟩
                  · have hrn := run_len (p := digitB) (m := m) (k := k) (by omega) (by omega) (fun j hj h1 h2 => H.out j hj h1 h2) (fun h => absurd h (by omega))
                    have HF := Lib.hid (tok_fin (m := m) (k := k) hlt HNB.out HM.out (by omega) (by omega) (by rw [long_m hlt HLt.out H45.out hm1 HD2.out, hrn]; omega) 2 (kind_m hlt H45.out (by by_cases e : k = m + 1; (subst e; first | (have := HD2.out; have h9 := HY.out; rw [this] at h9; cases h9) | omega); omega) (by omega)))
                    clear hrn
                    have j1 : (m : Int) ≤ (k : Int) := by omega
                    have j2 : (k : Int) ≤ (s.size : Int) := by omega
                    have j3 : m ≤ k := by omega
                    go_wp2_with fail
                    refine ret_tokE rfl (Blk.new _ _ _) rfl rfl ?_
                    exact ⟨by rw [HF.out], alloc_b _ _⟩
              | false =>
                have HD2 := Lib.hid hd2
                clear hd2
                have HF := Lib.hid (tok_fin hlt HNB.out HM.out (k := m + 1) (by omega) (by omega) (by rw [long_at hlt]; rw [HLt.out, HDg.out, H45.out, hd_dig hm1, HD2.out]; simp [signB]) 3 (by simp [kindT, HLt.out, HDg.out]))
                have j1 : (m : Int) ≤ (m : Int) + 1 := by omega
                have j2 : (m : Int) + 1 ≤ (s.size : Int) := by omega
                go_wp2_with (first | (go_at_call 83; (with_reducible refine (letterR _ _).mono ?_); rw [HLt.out]; rintro e w' ⟨rfl, rfl⟩) | (go_at_call 84; (with_reducible refine (digitR _ _).mono ?_); rw [HDg.out]; rintro e w' ⟨rfl, rfl⟩) | (go_at_call 84; (with_reducible refine (digitR _ _).mono ?_); rw [HD2.out]; rintro e w' ⟨rfl, rfl⟩))
                refine ret_tokE rfl (Blk.new _ _ _) rfl rfl ?_
                exact ⟨by rw [HF.out]; rfl, alloc_b _ _⟩
            · have HF := Lib.hid (tok_fin hlt HNB.out HM.out (k := m + 1) (by omega) (by omega) (by rw [long_at hlt]; rw [HLt.out, HDg.out, H45.out, hd_dig0 (by omega)]; simp [signB]) 3 (by simp [kindT, HLt.out, HDg.out]))
              have j1 : (m : Int) ≤ (m : Int) + 1 := by omega
              have j2 : (m : Int) + 1 ≤ (s.size : Int) := by omega
              go_wp2_with (first | (go_at_call 83; (with_reducible refine (letterR _ _).mono ?_); rw [HLt.out]; rintro e w' ⟨rfl, rfl⟩) | (go_at_call 84; (with_reducible refine (digitR _ _).mono ?_); rw [HDg.out]; rintro e w' ⟨rfl, rfl⟩))
              refine ret_tokE rfl (Blk.new _ _ _) rfl rfl ?_
              exact ⟨by rw [HF.out]; rfl, alloc_b _ _⟩
          · have f45 : ((s[m].toNat : Int) == 45) = false := u8_ne (n := 45) (by decide) h45
            have H45 := Lib.hid h45
            clear h45
            by_cases hm1 : m + 1 < s.size
            · by_cases h47 : s[m] = 47
              · have f47 : ((s[m].toNat : Int) == 47) = true := by rw [h47]; rfl
                have f92 : ((s[m].toNat : Int) == 92) = false := by rw [h47]; rfl
                have HX := Lib.hid h47
                clear h47
                by_cases hn : s[m + 1] = 92
                · have n92 : ((s[m + 1].toNat : Int) == 92) = true := by rw [hn]; rfl
                  have HN := Lib.hid hn
                  clear hn
                  have HF := Lib.hid (tok_fin hlt HNB.out HM.out (k := m + 2) (by omega) (by omega) (by rw [long_at hlt]; rw [HLt.out, HDg.out, HX.out, sign_at hm1, HN.out]; simp) 3 (by simp [kindT, HLt.out, HDg.out, H45.out]))
                  have j1 : (m : Int) ≤ (m : Int) + 1 := by omega
                  have j2 : (m : Int) + 1 + 1 ≤ (s.size : Int) := by omega
                  have j3 : (m : Int) ≤ (m : Int) + 1 + 1 := by omega
                  go_wp2_with (first | (go_at_call 83; (with_reducible refine (letterR _ _).mono ?_); rw [HLt.out]; rintro e w' ⟨rfl, rfl⟩) | (go_at_call 84; (with_reducible refine (digitR _ _).mono ?_); rw [HDg.out]; rintro e w' ⟨rfl, rfl⟩))
                  refine ret_tokE rfl (Blk.new _ _ _) rfl rfl ?_
                  exact ⟨by rw [HF.out]; rfl, alloc_b _ _⟩
                · have n92 : ((s[m + 1].toNat : Int) == 92) = false := u8_ne (n := 92) (by decide) hn
                  have HN := Lib.hid hn
                  clear hn
                  have HF := Lib.hid (tok_fin hlt HNB.out HM.out (k := m + 1) (by omega) (by omega) (by rw [long_at hlt]; rw [HLt.out, HDg.out, HX.out, sign_at hm1]; simp [HN.out]) 3 (by simp [kindT, HLt.out, HDg.out]))
                  have j1 : (m : Int) ≤ (m : Int) + 1 := by omega
                  have j2 : (m : Int) + 1 ≤ (s.size : Int) := by omega
                  go_wp2_with (first | (go_at_call 83; (with_reducible refine (letterR _ _).mono ?_); rw [HLt.out]; rintro e w' ⟨rfl, rfl⟩) | (go_at_call 84; (with_reducible refine (digitR _ _).mono ?_); rw [HDg.out]; rintro e w' ⟨rfl, rfl⟩))
                  refine ret_tokE rfl (Blk.new _ _ _) rfl rfl ?_
                  exact ⟨by rw [HF.out]; rfl, alloc_b _ _⟩
              have f47 : ((s[m].toNat : Int) == 47) = false := u8_ne (n := 47) (by decide) h47
              have H47 := Lib.hid h47
              clear h47
              by_cases h92 : s[m] = 92
              · have f92 : ((s[m].toNat : Int) == 92) = true := by rw [h92]; rfl
                have f47 : ((s[m].toNat : Int) == 47) = false := by rw [h92]; rfl
                have HX := Lib.hid h92
                clear h92
                by_cases hn : s[m + 1] = 47
                · have n47 : ((s[m + 1].toNat : Int) == 47) = true := by rw [hn]; rfl
                  have HN := Lib.hid hn
                  clear hn
                  have HF := Lib.hid (tok_fin hlt HNB.out HM.out (k := m + 2) (by omega) (by omega) (by rw [long_at hlt]; rw [HLt.out, HDg.out, HX.out, sign_at hm1, HN.out]; simp) 3 (by simp [kindT, HLt.out, HDg.out, H45.out]))
                  have j1 : (m : Int) ≤ (m : Int) + 1 := by omega
                  have j2 : (m : Int) + 1 + 1 ≤ (s.size : Int) := by omega
                  have j3 : (m : Int) ≤ (m : Int) + 1 + 1 := by omega
                  go_wp2_with (first | (go_at_call 83; (with_reducible refine (letterR _ _).mono ?_); rw [HLt.out]; rintro e w' ⟨rfl, rfl⟩) | (go_at_call 84; (with_reducible refine (digitR _ _).mono ?_); rw [HDg.out]; rintro e w' ⟨rfl, rfl⟩))
                  refine ret_tokE rfl (Blk.new _ _ _) rfl rfl ?_
                  exact ⟨by rw [HF.out]; rfl, alloc_b _ _⟩
                · have n47 : ((s[m + 1].toNat : Int) == 47) = false := u8_ne (n := 47) (by decide) hn
                  have HN := Lib.hid hn
                  clear hn
                  have HF := Lib.hid (tok_fin hlt HNB.out HM.out (k := m + 1) (by omega) (by omega) (by rw [long_at hlt]; rw [HLt.out, HDg.out, HX.out, sign_at hm1]; simp [HN.out]) 3 (by simp [kindT, HLt.out, HDg.out]))
                  have j1 : (m : Int) ≤ (m : Int) + 1 := by omega
                  have j2 : (m : Int) + 1 ≤ (s.size : Int) := by omega
                  go_wp2_with (first | (go_at_call 83; (with_reducible refine (letterR _ _).mono ?_); rw [HLt.out]; rintro e w' ⟨rfl, rfl⟩) | (go_at_call 84; (with_reducible refine (digitR _ _).mono ?_); rw [HDg.out]; rintro e w' ⟨rfl, rfl⟩))
                  refine ret_tokE rfl (Blk.new _ _ _) rfl rfl ?_
                  exact ⟨by rw [HF.out]; rfl, alloc_b _ _⟩
              have f92 : ((s[m].toNat : Int) == 92) = false := u8_ne (n := 92) (by decide) h92
              have H92 := Lib.hid h92
              clear h92
              have HF := Lib.hid (tok_fin hlt HNB.out HM.out (k := m + 1) (by omega) (by omega) (by rw [long_at hlt]; rw [HLt.out, HDg.out]; simp [H45.out, signB, H47.out, H92.out]) 3 (by simp [kindT, HLt.out, HDg.out]))
              have j1 : (m : Int) ≤ (m : Int) + 1 := by omega
              have j2 : (m : Int) + 1 ≤ (s.size : Int) := by omega
              go_wp2_with (first | (go_at_call 83; (with_reducible refine (letterR _ _).mono ?_); rw [HLt.out]; rintro e w' ⟨rfl, rfl⟩) | (go_at_call 84; (with_reducible refine (digitR _ _).mono ?_); rw [HDg.out]; rintro e w' ⟨rfl, rfl⟩))
              refine ret_tokE rfl (Blk.new _ _ _) rfl rfl ?_
              exact ⟨by rw [HF.out]; rfl, alloc_b _ _⟩
            · have HF := Lib.hid (tok_fin hlt HNB.out HM.out (k := m + 1) (by omega) (by omega) (by rw [long_at hlt]; rw [HLt.out, HDg.out, sign_at0 (by omega)]; simp [H45.out]) 3 (by simp [kindT, HLt.out, HDg.out]))
              have j1 : (m : Int) ≤ (m : Int) + 1 := by omega
              have j2 : (m : Int) + 1 ≤ (s.size : Int) := by omega
              go_wp2_with (first | (go_at_call 83; (with_reducible refine (letterR _ _).mono ?_); rw [HLt.out]; rintro e w' ⟨rfl, rfl⟩) | (go_at_call 84; (with_reducible refine (digitR _ _).mono ?_); rw [HDg.out]; rintro e w' ⟨rfl, rfl⟩))
              refine ret_tokE rfl (Blk.new _ _ _) rfl rfl ?_
              exact ⟨by rw [HF.out]; rfl, alloc_b _ _⟩
    · have HE := Lib.hid (show L = [] by rw [← HM.out, List.drop_eq_nil_of_le (by rw [Array.length_toList]; exact Nat.le_of_not_lt hlt), toks_nil])
      go_wp2_with fail
      refine ret_tokE rfl (Blk.new _ _ _) rfl rfl ?_
      exact ⟨by rw [HE.out]; rfl, alloc_b _ _⟩
end Go.Proofs.YtmlnibjnacfanaaGreatDoor
