/- Layer 8: the walk of CondPicks. -/
import Derived.Test.YtmlnibjnacfanaaGreatDoorJm
import Derived.Test.YtmlnibjnacfanaaGreatDoorJp
import Derived.Test.YtmlnibjnacfanaaGreatDoorEp
namespace Go.Proofs.YtmlnibjnacfanaaGreatDoor
open Go.RowKit
def sameJ (st vs : List Int) (j : Nat) : Bool := decide (st.length = vs.length) && decide (st.take j = vs.take j)
theorem same_step {st vs : List Int} {j : Nat} {x y : Int} (h : st[j]? = some x) (k : vs[j]? = some y) : sameJ st vs (j + 1) = (sameJ st vs j && decide (x = y)) := by
  unfold sameJ
  rw [List.take_add_one, List.take_add_one, h, k, Bool.and_assoc]
  congr 1
  rw [Bool.eq_iff_iff, Bool.and_eq_true, decide_eq_true_iff, decide_eq_true_iff, decide_eq_true_iff]
  constructor
  · intro e
    have hl : (st.take j).length = (vs.take j).length := by
      have := congrArg List.length e
      simp only [List.length_append, Option.toList_some, List.length_cons, List.length_nil] at this
      omega
    obtain ⟨a, b⟩ := List.append_inj e hl
    exact ⟨a, by simpa using b⟩
  · rintro ⟨a, rfl⟩
    rw [a]
theorem same_no {st vs : List Int} {j : Nat} (h : sameJ st vs j = false) : sameJ st vs (j + 1) = false := by
  unfold sameJ at h ⊢
  by_cases hl : st.length = vs.length
  · simp only [hl, decide_true, Bool.true_and, decide_eq_false_iff_not] at h ⊢
    intro e
    refine h ?_
    have := congrArg (List.take j) e
    simpa [List.take_take, Nat.min_eq_left (Nat.le_succ j)] using this
  · simp [hl]
theorem same_end (st vs : List Int) : sameJ st vs st.length = decide (st = vs) := by
  unfold sameJ
  rw [Bool.eq_iff_iff, Bool.and_eq_true, decide_eq_true_iff, decide_eq_true_iff, decide_eq_true_iff]
  constructor
  · rintro ⟨a, b⟩
    rw [List.take_length, a, List.take_length] at b
    exact b
  · rintro rfl
    exact ⟨rfl, rfl⟩
section
variable {q k t r v : Int} {l : List UInt8} {kids : Fr} {w : World}
set_option maxHeartbeats 8000000 in
set_option maxRecDepth 100000 in
theorem picks_bad (A : Option Addr) (cap : Nat) (A1 : Option Addr) (ca1 : Nat) (vs : List Int) (A2 : Option Addr) (ca2 : Nat) (st : List Int) (hl : l.length ≤ 9223372036854775807) (hs : SlAt w w.heap.size (.slice A kids.len cap) kids) (_hvs : vs.length ≤ 9223372036854775806) (hV : IntsAt w A1 vs) (_hst : st.length ≤ 9223372036854775806) (hA : IntsAt w A2 st) (hE : Env w) (hck : checkC 2 q k t r l v kids ≠ 0) :
    Calls Tryz.prog 9 #[condV q k t r l v (.slice A kids.len cap), .slice A1 vs.length ca1, .slice A2 st.length ca2] w fun e w' => e = .returned (.bool true) ∧ Below w.heap.size w w' := by
  have hb1 := alloc_b w (.cells #[.int .i64 q, .int .i64 k, .int .i64 t, .int .i64 r, .string ⟨l.toArray⟩, .int .i64 v, .slice A kids.len cap] 28 (0, 0))
  have HS := Lib.hid (hs.below (Nat.le_refl _) hb1)
  have HV := Lib.hid (hV.below hb1)
  have HA := Lib.hid (hA.below hb1)
  have HBN := Lib.hid (Blk.new w 28 #[.int .i64 q, .int .i64 k, .int .i64 t, .int .i64 r, .string ⟨l.toArray⟩, .int .i64 v, .slice A kids.len cap])
  have HT := Lib.hid hb1
  have HE := Lib.hid (hE.mono hb1)
  have hz := HT.out.size
  have htp := topG (w := w.alloc (.cells #[.int .i64 q, .int .i64 k, .int .i64 t, .int .i64 r, .string ⟨l.toArray⟩, .int .i64 v, .slice A kids.len cap] 28 (0, 0))) (q := q) (k := k) (t := t) (r := r) (v := v) w.heap.size _ hz HS.out hl
  clear hs hA hV hb1 hE
  obtain ⟨E, hEc⟩ : ∃ E, checkC 2 q k t r l v kids = E := ⟨_, rfl⟩
  rw [show topT q k t r l v kids = [] by unfold topT; rw [if_neg hck], hEc] at htp
  rw [hEc] at hck
  have HCK := Lib.hid hEc
  have HTP := Lib.hid htp
  have e1 : (E != 0) = true := by simpa using hck
  clear hEc hck htp
  go_enter Tryz.func9, Tryz.ntmps9
  go_wp2_with (first
    | (go_at_call 22; refine HTP.out.mono ?_; rintro e wx ⟨u, rfl, hown, hbx⟩; obtain ⟨Au, cu, rfl, hth⟩ := own_thsB hown; have HTH := Lib.hid hth; have HBN := Lib.hid (HBN.out.go hbx); have HT := Lib.hid (below_trans HT.out hbx); have HS := Lib.hid (HS.out.below hz hbx); have HV := Lib.hid (HV.out.below hbx); have HA := Lib.hid (HA.out.below hbx); have HE := Lib.hid (HE.out.mono hbx); have hz := HT.out.size; have b0 := HBN.out.cell 0; have b1 := HBN.out.cell 1; have b2 := HBN.out.cell 2; have b3 := HBN.out.cell 3; have b4 := HBN.out.cell 4; have b5 := HBN.out.cell 5; have b6 := HBN.out.cell 6; clear hbx hth hown)
    | (go_at_call 15; refine (checkR 2 q k t r l v _ kids _ hl (HS.out.up hz)).mono ?_; rw [HCK.out]; rintro e wx ⟨rfl, hbx⟩; have HT := Lib.hid (below_trans HT.out hbx); have HE := Lib.hid (HE.out.mono hbx); clear hbx)
    | (go_at_call 16; refine (awakeP HE.out).mono ?_; rintro e wy ⟨rfl, hby⟩))
  go_ret
  exact ⟨by simp, below_trans HT.out hby⟩
set_option maxHeartbeats 8000000 in
set_option maxRecDepth 100000 in
theorem picks_go (A : Option Addr) (cap : Nat) (A1 : Option Addr) (ca1 : Nat) (vs : List Int) (A2 : Option Addr) (ca2 : Nat) (st : List Int) (hl : l.length ≤ 9223372036854775807) (hs : SlAt w w.heap.size (.slice A kids.len cap) kids) (hvs : vs.length ≤ 9223372036854775806) (hV : IntsAt w A1 vs) (hst : st.length ≤ 9223372036854775806) (hA : IntsAt w A2 st) (hE : Env w) (hck : checkC 2 q k t r l v kids = 0) (T : List Th) (hT : topT q k t r l v kids = T) (hv : ∀ x ∈ T, vthB x) (hsr : Str T) (hnd : T.Nodup) (hTl : T.length ≤ 1024) :
    Calls Tryz.prog 9 #[condV q k t r l v (.slice A kids.len cap), .slice A1 vs.length ca1, .slice A2 st.length ca2] w fun e w' => e = .returned (.bool true) ∧ Below w.heap.size w w' := by
  have hb1 := alloc_b w (.cells #[.int .i64 q, .int .i64 k, .int .i64 t, .int .i64 r, .string ⟨l.toArray⟩, .int .i64 v, .slice A kids.len cap] 28 (0, 0))
  have HS := Lib.hid (hs.below (Nat.le_refl _) hb1)
  have HV := Lib.hid (hV.below hb1)
  have HA := Lib.hid (hA.below hb1)
  have HBN := Lib.hid (Blk.new w 28 #[.int .i64 q, .int .i64 k, .int .i64 t, .int .i64 r, .string ⟨l.toArray⟩, .int .i64 v, .slice A kids.len cap])
  have HT := Lib.hid hb1
  have HE := Lib.hid (hE.mono hb1)
  have hz := HT.out.size
  have htp := topG (w := w.alloc (.cells #[.int .i64 q, .int .i64 k, .int .i64 t, .int .i64 r, .string ⟨l.toArray⟩, .int .i64 v, .slice A kids.len cap] 28 (0, 0))) (q := q) (k := k) (t := t) (r := r) (v := v) w.heap.size _ hz HS.out hl
  clear hs hA hV hb1 hE
  rw [hT, hck] at htp
  have HTP := Lib.hid htp
  have HCK := Lib.hid hck
  have hxs : ∀ x ∈ T, x.2.2.length ≤ 9223372036854775807 := fun x hx => by
    have := vth_parts ⟨x, hv x hx⟩
    simp only at this
    rcases this with p | p
    · omega
    · rw [p.2.2.2.2]; simp
  have HXS := Lib.hid hxs
  obtain ⟨E, hEc⟩ : ∃ E, (allC T vs).2 = E := ⟨_, rfl⟩
  obtain ⟨q1, hq1⟩ : ∃ x, (allC T vs).1.1 = x := ⟨_, rfl⟩
  obtain ⟨n1, hn1⟩ : ∃ x, (allC T vs).1.2 = x := ⟨_, rfl⟩
  have HR := Lib.hid (show allC T vs = ((q1, n1), E) by rw [← hEc, ← hq1, ← hn1])
  have hTl' : T.length ≤ 9223372036854775807 := by omega
  have hvl' : vs.length ≤ 9223372036854775807 := by omega
  clear hck hEc hq1 hn1 htp hxs
  by_cases hE0 : E = 0
  · subst hE0
    have hfacts : T.length = vs.length ∧ T.length ≤ 1023 ∧ (T.zip vs).all okP = true ∧ q1 = 1 ∧ n1 = allN ((T.zip vs).map atomN) := by
      have h := HR.out
      unfold allC at h
      split at h
      · simp at h
      split at h
      · simp at h
      split at h
      · rename_i a b c
        simp only [Prod.mk.injEq] at h
        exact ⟨by omega, by omega, c, h.1.1.symm, h.1.2.symm⟩
      · simp at h
    obtain ⟨h1, h2, h3, rfl, hn1⟩ := hfacts
    have hev := picks_eval T vs st hv hsr hnd h1 h2 h3
    rw [← hn1] at hev
    obtain ⟨xb, xe, hX, hX1, hX2⟩ : ∃ xb xe, (if numsB st T.length = true then (decide (st = vs), (0 : Int)) else (false, 1)) = (xb, xe) ∧ (numsB st T.length = true → xb = decide (st = vs) ∧ xe = 0) ∧ (numsB st T.length = false → xb = false ∧ xe = 1) := by
      cases hnb : numsB st T.length with
      | true => exact ⟨_, _, rfl, (fun _ => ⟨rfl, rfl⟩), (fun h => by cases h)⟩
      | false => exact ⟨_, _, rfl, (fun h => by cases h), (fun _ => ⟨rfl, rfl⟩)⟩
    rw [hX] at hev
    have HEV := Lib.hid hev
    have HX1 := Lib.hid hX1
    have HX2 := Lib.hid hX2
    clear hev hnd hsr hv hn1 h3 hX hX1 hX2
    have HLE := Lib.hid h1
    clear h1
    go_enter Tryz.func9, Tryz.ntmps9
    go_wp2_with (first
      | (go_at_call 22; refine HTP.out.mono ?_; rintro e wx ⟨u, rfl, hown, hbx⟩; obtain ⟨Au, cu, rfl, hth⟩ := own_thsB hown; have HTH := Lib.hid hth; have HBN := Lib.hid (HBN.out.go hbx); have HT := Lib.hid (below_trans HT.out hbx); have HS := Lib.hid (HS.out.below hz hbx); have HV := Lib.hid (HV.out.below hbx); have HA := Lib.hid (HA.out.below hbx); have HE := Lib.hid (HE.out.mono hbx); have hz := HT.out.size; have b0 := HBN.out.cell 0; have b1 := HBN.out.cell 1; have b2 := HBN.out.cell 2; have b3 := HBN.out.cell 3; have b4 := HBN.out.cell 4; have b5 := HBN.out.cell 5; have b6 := HBN.out.cell 6; clear hbx hth hown)
      | (go_at_call 30; refine (allCP T vs Au A1 cu ca1 HTH.out HV.out hTl' hvl' HXS.out).mono ?_; rw [HR.out]; rintro e wx ⟨kv, rfl, hnl, hkc, hbx⟩; obtain ⟨A3, cp3, rfl⟩ := hkc.shape; have HKC := Lib.hid hkc; have HNL := Lib.hid hnl; have HTH := Lib.hid (HTH.out.below hbx); have HT := Lib.hid (below_trans HT.out hbx); have HV := Lib.hid (HV.out.below hbx); have HA := Lib.hid (HA.out.below hbx); have HE := Lib.hid (HE.out.mono hbx); have HSD := Lib.hid (hkc.sl (hi := wx.heap.size) (fun b hb => hb.2)); clear hbx hkc hnl)
      | (go_at_call 23; refine (evalG wx.heap.size _ st A2 ca2 (by simp) (HSD.out.below (Nat.le_refl _) (alloc_b _ _)) (Nat.le_trans HNL.out (by decide)) hst (HA.out.below (alloc_b _ _))).mono ?_; rw [HEV.out]; rintro e wz ⟨rfl, hbz⟩; have hq := below_trans (alloc_b wx _) hbz; have HTZ := Lib.hid (below_trans HT.out hq); have HVZ := Lib.hid (HV.out.below hq); have HAZ := Lib.hid (HA.out.below hq); have HEZ := Lib.hid (HE.out.mono hq); clear hbz hq))
    go_loopw [15, 16] (fun sm i wr => ∃ (j : Nat) (sj : Bool), j ≤ st.length ∧ i = .int .i64 j ∧ sm = .bool sj ∧ sj = sameJ st vs j ∧ (st.take j).all numB = true ∧ Below wz.heap.size wz wr) (fun _ i _ => st.length - (intOf i).toNat)
    case atStart => exact ⟨0, decide (st.length = vs.length), Nat.zero_le _, rfl, by first | rfl | (congr 1; rw [Bool.eq_iff_iff]; simp; omega) | (congr 1; simp), by simp [sameJ], by simp, Below.refl _ _⟩
    case round =>
      obtain ⟨j, sj, hj, rfl, rfl, hsj, hall, hbr⟩ := hrel
      have HSJ := Lib.hid hsj
      have HALL := Lib.hid hall
      have HTW := Lib.hid (below_trans HTZ.out hbr)
      have HVW := Lib.hid (HVZ.out.below hbr)
      have HAW := Lib.hid (HAZ.out.below hbr)
      have HE := Lib.hid (HEZ.out.mono hbr)
      have HBR := Lib.hid hbr
      clear hsj hall hbr
      by_cases hlt : j < st.length
      · have ex := List.getElem?_eq_getElem hlt
        obtain ⟨x, hx⟩ : ∃ x, st[j] = x := ⟨_, rfl⟩
        rw [hx] at ex
        obtain ⟨b2, o2, rfl, d0⟩ := HAW.out j x ex
        have HEX := Lib.hid ex
        obtain ⟨nb, hnb⟩ : ∃ b, numB x = b := ⟨_, rfl⟩
        have HNB := Lib.hid hnb
        clear ex hx hnb
        cases nb with
        | false =>
          have hnn : numsB st T.length = false := by
            unfold numsB
            rw [show st.all numB = false from by rw [List.all_eq_false]; exact ⟨x, List.mem_of_getElem? HEX.out, by simp [HNB.out]⟩]
            simp
          obtain ⟨rfl, rfl⟩ := HX2.out hnn
          clear hnn
          go_wp2_with (first
            | (go_at_call 32; refine (numR _ x).mono ?_; rw [HNB.out]; rintro e w2 ⟨rfl, rfl⟩)
            | (go_at_call 16; refine (awakeP HE.out).mono ?_; rintro e wy ⟨rfl, hby⟩))
          go_ret
          exact ⟨rfl, below_trans HTW.out hby⟩
        | true =>
          have HAL2 := Lib.hid (show (st.take (j + 1)).all numB = true by rw [List.take_add_one, HEX.out]; simp [HALL.out, HNB.out])
          have i1 : (j : Int) < (st.length : Int) := by omega
          cases sj with
          | false =>
            have HS2 := Lib.hid (same_no HSJ.out.symm)
            go_wp2_with (go_at_call 32; refine (numR _ x).mono ?_; rw [HNB.out]; rintro e w2 ⟨rfl, rfl⟩)
            go_quiet (fail)
            go_wp2_with fail
            go_roundw
            case rel => exact ⟨j + 1, false, by omega, by go_num, rfl, HS2.out.symm, HAL2.out, below_drewN HBR.out _⟩
            case measure => simp [intOf]; omega
          | true =>
            have hle : st.length = vs.length := by
              have h := HSJ.out
              unfold sameJ at h
              have h2 := (Bool.and_eq_true _ _).mp h.symm
              exact of_decide_eq_true h2.1
            have hlt2 : j < vs.length := by omega
            have ey := List.getElem?_eq_getElem hlt2
            obtain ⟨y, hy⟩ : ∃ y, vs[j] = y := ⟨_, rfl⟩
            rw [hy] at ey
            obtain ⟨b3, o3, rfl, d1⟩ := HVW.out j y ey
            have HS2 := Lib.hid (show sameJ st vs (j + 1) = (x == y) by rw [same_step HEX.out ey, ← HSJ.out]; simp [BEq.beq])
            have i2 : (j : Int) < (vs.length : Int) := by omega
            have i3 : decide ((j : Int) < (vs.length : Int)) = true := by simp; omega
            have i4 : decide (j < vs.length) = true := by simp; omega
            have HLV := Lib.hid hle
            clear ey hy hle
            go_wp2_with (go_at_call 32; refine (numR _ x).mono ?_; rw [HNB.out]; rintro e w2 ⟨rfl, rfl⟩)
            go_quiet (fail)
            go_wp2_with fail
            go_roundw
            case rel => exact ⟨j + 1, _, by omega, by go_num, rfl, by first | exact HS2.out.symm | (rw [HS2.out]), HAL2.out, below_drewN HBR.out _⟩
            case measure => simp [intOf]; omega
      · have hje : j = st.length := by omega
        have HS2 := Lib.hid (show sj = decide (st = vs) by rw [HSJ.out, hje]; exact same_end st vs)
        have HAL := Lib.hid (show st.all numB = true by have := HALL.out; rwa [List.take_of_length_le (by omega)] at this)
        clear hje
        by_cases hll : st.length = T.length
        · have hnn : numsB st T.length = true := by unfold numsB; rw [HAL.out]; simp [hll]
          obtain ⟨hxb, rfl⟩ := HX1.out hnn
          have HXB := Lib.hid (show xb = sj by rw [hxb, HS2.out])
          have i1 : ((st.length : Int) != (T.length : Int)) = false := by simp; omega
          have i2 : (xb == sj) = true := by rw [HXB.out]; simp
          clear hnn hxb
          go_wp2_with (go_at_call 16; refine (awakeP HE.out).mono ?_; rintro e wy ⟨rfl, hby⟩)
          go_ret
          exact ⟨by simp, below_trans HTW.out hby⟩
        · have hnn : numsB st T.length = false := by unfold numsB; simp [hll]
          obtain ⟨rfl, rfl⟩ := HX2.out hnn
          have i1 : ((st.length : Int) != (T.length : Int)) = true := by simp; omega
          clear hnn
          go_wp2_with (go_at_call 16; refine (awakeP HE.out).mono ?_; rintro e wy ⟨rfl, hby⟩)
          go_ret
          exact ⟨rfl, below_trans HTW.out hby⟩
  · have e1 : (E != 0) = true := by simpa using hE0
    clear hE0
    go_enter Tryz.func9, Tryz.ntmps9
    go_wp2_with (first
      | (go_at_call 22; refine HTP.out.mono ?_; rintro e wx ⟨u, rfl, hown, hbx⟩; obtain ⟨Au, cu, rfl, hth⟩ := own_thsB hown; have HTH := Lib.hid hth; have HBN := Lib.hid (HBN.out.go hbx); have HT := Lib.hid (below_trans HT.out hbx); have HS := Lib.hid (HS.out.below hz hbx); have HV := Lib.hid (HV.out.below hbx); have HA := Lib.hid (HA.out.below hbx); have HE := Lib.hid (HE.out.mono hbx); have hz := HT.out.size; have b0 := HBN.out.cell 0; have b1 := HBN.out.cell 1; have b2 := HBN.out.cell 2; have b3 := HBN.out.cell 3; have b4 := HBN.out.cell 4; have b5 := HBN.out.cell 5; have b6 := HBN.out.cell 6; clear hbx hth hown)
      | (go_at_call 30; refine (allCP T vs Au A1 cu ca1 HTH.out HV.out hTl' hvl' HXS.out).mono ?_; rw [HR.out]; rintro e wx ⟨kv, rfl, hnl, hkc, hbx⟩; obtain ⟨A3, cp3, rfl⟩ := hkc.shape; have HTH := Lib.hid (HTH.out.below hbx); have HT := Lib.hid (below_trans HT.out hbx); have HV := Lib.hid (HV.out.below hbx); have HA := Lib.hid (HA.out.below hbx); have HE := Lib.hid (HE.out.mono hbx); clear hbx hkc)
      | (go_at_call 31; refine (allCR T vs Au A1 cu ca1 (HTH.out.below (alloc_b _ _)) (HV.out.below (alloc_b _ _)) hTl' hvl' HXS.out).mono ?_; rw [HR.out]; rintro e wu ⟨kv, rfl, hnl, hkc, hbx⟩; obtain ⟨A4, cp4, rfl⟩ := hkc.shape; have HT := Lib.hid (below_trans HT.out (below_trans (alloc_b _ _) hbx)); have HE := Lib.hid ((HE.out.mono (alloc_b _ _)).mono hbx); clear hbx hkc)
      | (go_at_call 16; refine (awakeP (HE.out.mono (alloc_b _ _))).mono ?_; rintro e wy ⟨rfl, hby⟩))
    go_ret
    exact ⟨by simp, below_trans HT.out (below_trans (alloc_b _ _) hby)⟩
theorem walkPicks (q k t r : Int) (l : List UInt8) (v : Int) (kv : Value) (kids : Fr) (A1 : Option Addr) (ca1 : Nat) (vs : List Int) (A2 : Option Addr) (ca2 : Nat) (st : List Int) (w : World) (hl : l.length ≤ 9223372036854775807) (hs : SlAt w w.heap.size kv kids) (hvs : vs.length ≤ 9223372036854775806) (hV : IntsAt w A1 vs) (hst : st.length ≤ 9223372036854775806) (hA : IntsAt w A2 st) (hE : Env w) :
    Calls Tryz.prog 9 #[condV q k t r l v kv, .slice A1 vs.length ca1, .slice A2 st.length ca2] w fun e w' => e = .returned (.bool true) ∧ Below w.heap.size w w' := by
  obtain ⟨A, cap, rfl, s'⟩ := hs
  have hs2 : SlAt w w.heap.size (.slice A kids.len cap) kids := ⟨A, cap, rfl, s'⟩
  by_cases hck : checkC 2 q k t r l v kids = 0
  · obtain ⟨_, _, _, hv, hnl⟩ := cond_ok hck
    have hT : topT q k t r l v kids = thsU (atL k t r l ++ atomsF kids) := by unfold topT; rw [if_pos hck]
    exact picks_go A cap A1 ca1 vs A2 ca2 st hl hs2 hvs hV hst hA hE hck _ hT (fun x hx => hv x (thsU_sub _ x hx)) (thsU_str hv) (thsU_nodup hv) (Nat.le_trans (thsU_len _) hnl)
  · exact picks_bad A cap A1 ca1 vs A2 ca2 st hl hs2 hvs hV hst hA hE hck
end
end Go.Proofs.YtmlnibjnacfanaaGreatDoor
