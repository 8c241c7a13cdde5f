/- Layer 13: whether a test may be: the program's Check. -/
import Derived.Test.YtjhafgnmahhacaaGreatDoorTe29

namespace Go.Proofs.YtjhafgnmahhacaaGreatDoor
open Go.RowKit
section
set_option maxHeartbeats 4000000
set_option maxRecDepth 100000
variable {w : World} {T : Tst} {Ai Ac : Option Addr} {kv : Value}
theorem archB_or {a : Int} (h : archB a = true) : a = 1 ∨ a = 2 := by unfold archB at h; simp at h; omega
theorem codedP (ci cc : Nat) (ha : archB T.arch = true) (hT : TstAt w T Ai Ac kv) : Calls Tryz.prog 125 #[testV T (.slice Ai T.init.length ci) (.slice Ac T.code.length cc) kv] w fun e w' => e = .returned (.int .i64 (codE T.arch T.code)) ∧ Below w.heap.size w w' := by
  rcases archB_or ha with h | h
  · have := codedP_1 ci cc h hT; rwa [← h] at this
  · have := codedP_2 ci cc h hT; rwa [← h] at this
theorem begunP (ci cc : Nat) (ha : archB T.arch = true) (hT : TstAt w T Ai Ac kv) : Calls Tryz.prog 126 #[testV T (.slice Ai T.init.length ci) (.slice Ac T.code.length cc) kv] w fun e w' => e = .returned (.int .i64 (iniE T.arch T.code.length T.init)) ∧ Below w.heap.size w w' := by
  rcases archB_or ha with h | h
  · have := begunP_1 ci cc h hT; rwa [← h] at this
  · have := begunP_2 ci cc h hT; rwa [← h] at this
theorem trim_c (l : List UInt8) (w : World) (hl : l.length ≤ 9223372036854775807) : Calls Tryz.prog 124 #[.string ⟨l.toArray⟩, .string ⟨#[32]⟩] w fun e w' => e = .returned (.string ⟨(Lib.trimB l 32).toArray⟩) ∧ ∃ n, w' = w.drewN n :=
  (Tryz.strings_Trim_one ⟨l.toArray⟩ 32 (by decide) w hl).mono fun e w' ⟨h1, h2⟩ => ⟨h1, by
    rcases h2 with h | h
    · exact ⟨0, h⟩
    · exact ⟨1, h⟩⟩
theorem rawN_small {T : Tst} (h1 : codE T.arch T.code = 0) (h2 : iniE T.arch T.code.length T.init = 0) : (rawN T).length ≤ 1000000 := by
  have hi : T.init.length ≤ 1024 := by
    refine Decidable.byContradiction fun h => ?_
    rw [iniE_full (by omega)] at h2; cases h2
  have hc : T.code.length ≤ 16 := by
    refine Decidable.byContradiction fun h => ?_
    rw [codE_len (Or.inr (by omega))] at h1; cases h1
  have hl : ∀ c ∈ T.code, c.length ≤ 256 := fun c hc => by
    obtain ⟨k, hk⟩ := List.getElem?_of_mem hc
    refine Decidable.byContradiction fun h => ?_
    rw [codE_long hk (by omega)] at h1; cases h1
  have ht := thsT_len T
  have e1 : ∀ l : List Ini, (l.flatMap fun x => [x.loc, x.vl]).length = 2 * l.length := fun l => by
    induction l with
    | nil => rfl
    | cons x r ih => rw [List.flatMap_cons, List.length_append, ih]; simp; omega
  have e2 : ∀ l : List (List Ins), (∀ c ∈ l, c.length ≤ 256) → (l.flatMap fun c => c.map fun x => x.loc).length ≤ 256 * l.length := fun l => by
    induction l with
    | nil => intro _; simp
    | cons x r ih =>
      intro h
      have h3 := ih (fun c hc => h c (by simp [hc]))
      have h4 := h x (by simp)
      rw [List.flatMap_cons, List.length_append, List.length_map, List.length_cons]; omega
  have := e2 _ hl
  unfold rawN
  rw [List.length_append, List.length_append, List.length_map, e1]
  show 2 * T.init.length + (_ + (thsT T).length) ≤ _
  omega
theorem checkFP (ci cc : Nat) (hT : TstAt w T Ai Ac kv) : Calls Tryz.prog 58 #[testV T (.slice Ai T.init.length ci) (.slice Ac T.code.length cc) kv] w fun e w' => e = .returned (.int .i64 (fileE T)) ∧ Below w.heap.size w w' := by
  have HT := Lib.hid hT
  have hnl := hT.nlen
  have hyl := hT.ylen
  have hcl := hT.clen
  have HBX := Lib.hid (Blk.new w 32 #[.int .i64 T.arch, .string ⟨T.name.toArray⟩, .string ⟨T.cycle.toArray⟩, .slice Ai T.init.length ci, .slice Ac T.code.length cc, .int .i64 T.q, .int .i64 T.k, .int .i64 T.t, .int .i64 T.r, .string ⟨T.l.toArray⟩, .int .i64 T.v, kv])
  have HB0 := Lib.hid (alloc_b w (.cells #[.int .i64 T.arch, .string ⟨T.name.toArray⟩, .string ⟨T.cycle.toArray⟩, .slice Ai T.init.length ci, .slice Ac T.code.length cc, .int .i64 T.q, .int .i64 T.k, .int .i64 T.t, .int .i64 T.r, .string ⟨T.l.toArray⟩, .int .i64 T.v, kv] 32 (0, 0)))
  clear hT
  obtain ⟨ab, hab⟩ : ∃ ab, archB T.arch = ab := ⟨_, rfl⟩
  have HAB := Lib.hid hab
  cases ab with
  | false =>
    have HV := Lib.hid (show fileE T = 5 by unfold fileE; rw [hab]; rfl)
    clear hab
    go_enter Tryz.func58, Tryz.ntmps58
    go_wp2_with (go_at_call 122; refine (knownF _ _).mono ?_; rw [HAB.out]; rintro e w' ⟨rfl, rfl⟩)
    go_ret
    exact ⟨ret_int HV.out.symm, HB0.out⟩
  | true =>
    clear hab
    by_cases ht1 : T.name.length < 1 ∨ 1024 < T.name.length
    · have HV := Lib.hid (show fileE T = 130 by unfold fileE; rw [HAB.out, show titleB T.name = false from titleB_no (s := ⟨T.name.toArray⟩) ht1]; rfl)
      have HSH := Lib.hid (fun w => shownP 33 ⟨T.name.toArray⟩ w hnl)
      rcases ht1 with ht1 | ht1
      all_goals
        go_enter Tryz.func58, Tryz.ntmps58
        go_wp2_with (go_at_call 122; refine (knownF _ _).mono ?_; rw [HAB.out]; rintro e w' ⟨rfl, rfl⟩)
        go_ret
        exact ⟨ret_int HV.out.symm, alloc_b _ _⟩
    · skip
      have hn1 : ¬ T.name.length < 1 := by omega
      have hn2 : ¬ 1024 < T.name.length := by omega
      clear ht1
      have HSH := Lib.hid (fun w => shownP 33 ⟨T.name.toArray⟩ w hnl)
      have HSC := Lib.hid (fun w => shownP 32 ⟨T.cycle.toArray⟩ w hyl)
      have HTI := Lib.hid (show titleB T.name = T.name.all (shC 33) from titleB_yes (s := ⟨T.name.toArray⟩) (show 1 ≤ T.name.length by omega) (show T.name.length ≤ 1024 by omega))
      obtain ⟨sv, hsv⟩ : ∃ sv, T.name.all (shC 33) = sv := ⟨_, rfl⟩
      have HSV := Lib.hid hsv
      clear hsv
      cases sv with
      | false =>
        have HV := Lib.hid (show fileE T = 130 by unfold fileE; rw [HAB.out, HTI.out, HSV.out]; rfl)
        go_enter Tryz.func58, Tryz.ntmps58
        go_wp2_with (first | (go_at_call 122; refine (knownF _ _).mono ?_; rw [HAB.out]; rintro e w' ⟨rfl, rfl⟩) | (go_at_call 123; refine (HSH.out _).mono ?_; rw [HSV.out]; rintro e w' ⟨rfl, rfl⟩))
        go_ret
        exact ⟨ret_int HV.out.symm, alloc_b _ _⟩
      | true =>
        have HT1 := Lib.hid (HTI.out.trans HSV.out)
        by_cases hc1 : 262144 < T.cycle.length
        · have HV := Lib.hid (show fileE T = 130 by unfold fileE; rw [HAB.out, HT1.out, show cycleB T.cycle = false by unfold cycleB; rw [show decide (T.cycle.length ≤ 262144) = false by simp; omega]; rfl]; rfl)
          go_enter Tryz.func58, Tryz.ntmps58
          have fc1 : decide ((262144 : Int) < (T.cycle.length : Int)) = true := by simp; omega
          go_wp2_with (first | (go_at_call 122; refine (knownF _ _).mono ?_; rw [HAB.out]; rintro e w' ⟨rfl, rfl⟩) | (go_at_call 123; refine (HSH.out _).mono ?_; rw [HSV.out]; rintro e w' ⟨rfl, rfl⟩))
          go_quiet (fail)
          go_wp2_with fail
          go_ret
          exact ⟨ret_int HV.out.symm, below_drewN (alloc_b _ _) _⟩
        · have fc1 : decide ((262144 : Int) < (T.cycle.length : Int)) = false := by simp; omega
          obtain ⟨cv, hcv⟩ : ∃ cv, T.cycle.all (shC 32) = cv := ⟨_, rfl⟩
          have HCV := Lib.hid hcv
          have HCY := Lib.hid (show cycleB T.cycle = (cv && edgeB T.cycle) by unfold cycleB; rw [show decide (T.cycle.length ≤ 262144) = true by simp; omega, hcv]; rfl)
          clear hcv
          cases cv with
          | false =>
            have HV := Lib.hid (show fileE T = 130 by unfold fileE; rw [HAB.out, HT1.out, HCY.out]; rfl)
            go_enter Tryz.func58, Tryz.ntmps58
            go_wp2_with (first | (go_at_call 122; refine (knownF _ _).mono ?_; rw [HAB.out]; rintro e w' ⟨rfl, rfl⟩) | (go_at_call 123; refine (HSH.out _).mono ?_; rw [HSV.out]; rintro e w' ⟨rfl, rfl⟩))
            go_quiet ((go_at_call 123; exact quiet_left ((HSC.out _).mono (fun e w' h => by rw [HCV.out] at h; exact h))))
            go_wp2_with fail
            go_ret
            exact ⟨ret_int HV.out.symm, below_drewN (alloc_b _ _) _⟩
          | true =>
            obtain ⟨eb, heb⟩ : ∃ eb, edgeB T.cycle = eb := ⟨_, rfl⟩
            have HEB := Lib.hid heb
            have htr := trim_edge T.cycle
            rw [heb] at htr
            have HTR := Lib.hid (fun w => trim_c T.cycle w hyl)
            cases eb with
            | false =>
              have e1 : (Lib.trimB T.cycle 32 == T.cycle) = false := by simpa using htr
              have HV := Lib.hid (show fileE T = 130 by unfold fileE; rw [HAB.out, HT1.out, HCY.out, HEB.out]; rfl)
              clear heb htr
              go_enter Tryz.func58, Tryz.ntmps58
              go_wp2_with (first | (go_at_call 122; refine (knownF _ _).mono ?_; rw [HAB.out]; rintro e w' ⟨rfl, rfl⟩) | (go_at_call 123; refine (HSH.out _).mono ?_; rw [HSV.out]; rintro e w' ⟨rfl, rfl⟩))
              go_quiet ((first | (go_at_call 123; exact quiet_left ((HSC.out _).mono (fun e w' h => by rw [HCV.out] at h; exact h))) | (go_at_call 124; exact Calls.quiet_of (HTR.out _))))
              go_wp2_with fail
              go_ret
              exact ⟨ret_int HV.out.symm, below_drewN (alloc_b _ _) _⟩
            | true =>
              have e1 : (Lib.trimB T.cycle 32 == T.cycle) = true := by simpa using htr
              clear heb htr
              have HC2 := Lib.hid (show cycleB T.cycle = true by rw [HCY.out, HEB.out]; rfl)
              go_enter Tryz.func58, Tryz.ntmps58
              go_wp2_with (first | (go_at_call 122; refine (knownF _ _).mono ?_; rw [HAB.out]; rintro e w' ⟨rfl, rfl⟩) | (go_at_call 123; refine (HSH.out _).mono ?_; rw [HSV.out]; rintro e w' ⟨rfl, rfl⟩))
              go_quiet ((first | (go_at_call 123; exact quiet_left ((HSC.out _).mono (fun e w' h => by rw [HCV.out] at h; exact h))) | (go_at_call 124; exact Calls.quiet_of (HTR.out _))))
              go_wp2_with fail
              refine (codedP ci cc HAB.out (HT.out.below (below_drewN (alloc_b w _) _))).mono ?_
              rintro e w2 ⟨rfl, hb⟩
              have HBW1 := Lib.hid (below_trans (below_drewN (alloc_b w _) _) hb)
              have HK1 := Lib.hid (HBX.out.go (below_trans (below_drewN (Below.refl _ _) _) hb))
              clear hb
              have k0 := HK1.out.cell 0; have k1 := HK1.out.cell 1; have k2 := HK1.out.cell 2; have k3 := HK1.out.cell 3; have k4 := HK1.out.cell 4; have k5 := HK1.out.cell 5; have k6 := HK1.out.cell 6; have k7 := HK1.out.cell 7; have k8 := HK1.out.cell 8; have k9 := HK1.out.cell 9; have k10 := HK1.out.cell 10; have k11 := HK1.out.cell 11
              by_cases hE1 : codE T.arch T.code = 0
              rotate_left
              · have HV := Lib.hid (show fileE T = codE T.arch T.code by unfold fileE; rw [HAB.out, HT1.out, HC2.out]; simp [hE1])
                have f1 : (codE T.arch T.code != 0) = true := by simpa using hE1
                have f2 : (codE T.arch T.code == 0) = false := by simpa using hE1
                go_wp2_with fail
                go_ret
                exact ⟨ret_int HV.out.symm, HBW1.out⟩
              have XE1 := Lib.hid hE1
              have f1 : (codE T.arch T.code != 0) = false := by simpa using hE1
              clear hE1
              go_wp2_with fail
              refine (begunP ci cc HAB.out (HT.out.below (HBW1.out))).mono ?_
              rintro e w3 ⟨rfl, hb⟩
              have HBW2 := Lib.hid (below_trans (HBW1.out) hb)
              have HK2 := Lib.hid (HK1.out.go (hb))
              clear hb k0 k1 k2 k3 k4 k5 k6 k7 k8 k9 k10 k11
              have k0 := HK2.out.cell 0; have k1 := HK2.out.cell 1; have k2 := HK2.out.cell 2; have k3 := HK2.out.cell 3; have k4 := HK2.out.cell 4; have k5 := HK2.out.cell 5; have k6 := HK2.out.cell 6; have k7 := HK2.out.cell 7; have k8 := HK2.out.cell 8; have k9 := HK2.out.cell 9; have k10 := HK2.out.cell 10; have k11 := HK2.out.cell 11
              by_cases hE2 : iniE T.arch T.code.length T.init = 0
              rotate_left
              · have HV := Lib.hid (show fileE T = iniE T.arch T.code.length T.init by unfold fileE; rw [HAB.out, HT1.out, HC2.out, XE1.out]; simp [hE2])
                have f1 : (iniE T.arch T.code.length T.init != 0) = true := by simpa using hE2
                have f2 : (iniE T.arch T.code.length T.init == 0) = false := by simpa using hE2
                go_wp2_with fail
                go_ret
                exact ⟨ret_int HV.out.symm, HBW2.out⟩
              have XE2 := Lib.hid hE2
              have f2 : (iniE T.arch T.code.length T.init != 0) = false := by simpa using hE2
              clear hE2
              go_wp2_with fail
              refine (checkP T.arch T.q T.k T.t T.r T.l T.v kv T.kids _ HT.out.llen (HT.out.below HBW2.out).kids).mono ?_
              rintro e w4 ⟨rfl, hb⟩
              have HBW3 := Lib.hid (below_trans HBW2.out hb)
              have HK3 := Lib.hid (HK2.out.go hb)
              clear hb k0 k1 k2 k3 k4 k5 k6 k7 k8 k9 k10 k11
              have k0 := HK3.out.cell 0; have k1 := HK3.out.cell 1; have k2 := HK3.out.cell 2; have k3 := HK3.out.cell 3; have k4 := HK3.out.cell 4; have k5 := HK3.out.cell 5; have k6 := HK3.out.cell 6; have k7 := HK3.out.cell 7; have k8 := HK3.out.cell 8; have k9 := HK3.out.cell 9; have k10 := HK3.out.cell 10; have k11 := HK3.out.cell 11
              by_cases hE3 : checkC T.arch T.q T.k T.t T.r T.l T.v T.kids = 0
              rotate_left
              · have HV := Lib.hid (show fileE T = checkC T.arch T.q T.k T.t T.r T.l T.v T.kids by unfold fileE; rw [HAB.out, HT1.out, HC2.out, XE1.out, XE2.out]; simp [hE3])
                have f3 : (checkC T.arch T.q T.k T.t T.r T.l T.v T.kids != 0) = true := by simpa using hE3
                have f4 : (checkC T.arch T.q T.k T.t T.r T.l T.v T.kids == 0) = false := by simpa using hE3
                go_wp2_with fail
                go_ret
                exact ⟨ret_int HV.out.symm, HBW3.out⟩
              have XE3 := Lib.hid hE3
              have f3 : (checkC T.arch T.q T.k T.t T.r T.l T.v T.kids != 0) = false := by simpa using hE3
              clear hE3
              go_wp2_with fail
              refine (askedP ci cc (HT.out.below HBW3.out)).mono ?_
              rintro e w5 ⟨u, rfl, hown, hb⟩
              obtain ⟨Au, cu, rfl, hth⟩ := own_thsB hown
              have HBW4 := Lib.hid (below_trans HBW3.out hb)
              have HK4 := Lib.hid (HK3.out.go hb)
              have HTH := Lib.hid hth
              have htl := thsT_len T
              clear hb hown hth k0 k1 k2 k3 k4 k5 k6 k7 k8 k9 k10 k11
              go_wp2_with fail
              have hs5 : w.heap.size < w5.heap.size := HK4.out.lt
              go_loopw [67] (fun i wr => ∃ k : Nat, k ≤ (thsT T).length ∧ i = .int .i64 k ∧ ((thsT T).take k).any (fun x => decide ((T.code.length : Int) ≤ x.1)) = false ∧ Below w5.heap.size w5 wr) (fun i _ => (thsT T).length - (intOf i).toNat)
              case atStart => exact ⟨0, Nat.zero_le _, rfl, by simp, Below.refl _ _⟩
              case round =>
                obtain ⟨k, hk, rfl, hno, hb⟩ := hrel
                have HNO := Lib.hid hno
                have HBR := Lib.hid hb
                have hzr := hb.size
                have hsw : w.heap.size < wr.heap.size := by omega
                have HKR := Lib.hid (HK4.out.go hb)
                have HBWR := Lib.hid (below_trans HBW4.out hb)
                clear hno hb
                by_cases hlt : k < (thsT T).length
                · have ex := List.getElem?_eq_getElem hlt
                  obtain ⟨x, hx⟩ : ∃ x, (thsT T)[k] = x := ⟨_, rfl⟩
                  rw [hx] at ex
                  obtain ⟨b, o, rfl, c0, c1, c2⟩ := th_at (HTH.out.below HBR.out) ex
                  have hbl : b < wr.heap.size := World.block_lt_of_cell? wr _ c0
                  have k4 := HKR.out.cell 4
                  have HX := Lib.hid ex
                  have hkl : (k : Int) < ((thsT T).length : Int) := by omega
                  clear ex hx
                  by_cases hbad : (T.code.length : Int) ≤ x.1
                  · have HV := Lib.hid (show fileE T = 80 by unfold fileE; rw [HAB.out, HT1.out, HC2.out, XE1.out, XE2.out, XE3.out, show (thsT T).any (fun x => decide ((T.code.length : Int) ≤ x.1)) = true from List.any_eq_true.2 ⟨x, List.mem_of_getElem? HX.out, by simpa using hbad⟩]; rfl)
                    go_wp2_with fail
                    go_ret
                    exact ⟨ret_int HV.out.symm, below_alloc HBWR.out _⟩
                  · have hbad2 : x.1 < (T.code.length : Int) := by omega
                    have HNX := Lib.hid (show ((thsT T).take (k + 1)).any (fun x => decide ((T.code.length : Int) ≤ x.1)) = false by
                      obtain ⟨h1, h2⟩ := List.getElem?_eq_some_iff.1 HX.out
                      rw [List.take_succ_eq_append_getElem h1, List.any_append, HNO.out, h2]; simp; omega)
                    go_wp2_with fail
                    go_roundw
                    case rel => exact ⟨k + 1, by omega, by go_num, HNX.out, below_alloc HBR.out _⟩
                    case measure => simp [intOf]; omega
                · have HANY := Lib.hid (show (thsT T).any (fun x => decide ((T.code.length : Int) ≤ x.1)) = false by have := HNO.out; rwa [List.take_of_length_le (by omega)] at this)
                  have k0 := HKR.out.cell 0; have k1 := HKR.out.cell 1; have k2 := HKR.out.cell 2; have k3 := HKR.out.cell 3; have k4 := HKR.out.cell 4; have k5 := HKR.out.cell 5; have k6 := HKR.out.cell 6; have k7 := HKR.out.cell 7; have k8 := HKR.out.cell 8; have k9 := HKR.out.cell 9; have k10 := HKR.out.cell 10; have k11 := HKR.out.cell 11
                  by_cases h64 : 64 < (locsN (rawN T)).length
                  · have HV := Lib.hid (show fileE T = 2 by unfold fileE; rw [HAB.out, HT1.out, HC2.out, XE1.out, XE2.out, XE3.out, HANY.out]; simp [h64])
                    go_wp2_with (go_at_call 129; refine (namesP ci cc (rawN_small XE1.out XE2.out) (HT.out.below HBWR.out)).mono ?_; rintro e w6 ⟨A6, c6, rfl, hat6, hnew6, hb⟩; have HB6 := Lib.hid hb; clear hat6 hnew6 hb)
                    go_ret
                    exact ⟨ret_int HV.out.symm, below_trans HBWR.out HB6.out⟩
                  · have HV := Lib.hid (show fileE T = 0 by unfold fileE; rw [HAB.out, HT1.out, HC2.out, XE1.out, XE2.out, XE3.out, HANY.out]; simp [h64])
                    go_wp2_with (go_at_call 129; refine (namesP ci cc (rawN_small XE1.out XE2.out) (HT.out.below HBWR.out)).mono ?_; rintro e w6 ⟨A6, c6, rfl, hat6, hnew6, hb⟩; have HB6 := Lib.hid hb; clear hat6 hnew6 hb)
                    go_ret
                    exact ⟨ret_int HV.out.symm, below_trans HBWR.out HB6.out⟩
end
end Go.Proofs.YtjhafgnmahhacaaGreatDoor
