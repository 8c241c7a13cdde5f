/- Layer 8: the condition that things have values: the reference's All. -/
import Derived.Test.YtmlnibjnacfanaaGreatDoorJl
namespace Go.Proofs.YtmlnibjnacfanaaGreatDoor
open Go.RowKit

section
variable {w : World}
set_option maxHeartbeats 4000000 in
set_option maxRecDepth 100000 in
theorem allCR (xs : List Th) (vs : List Int) (A A2 : Option Addr) (cA c2 : Nat) (hA : ThsB w A xs) (hA2 : IntsAt w A2 vs) (hl1 : xs.length ≤ 9223372036854775807) (_hl2 : vs.length ≤ 9223372036854775807) (hst : ∀ x ∈ xs, x.2.2.length ≤ 9223372036854775807) :
    Calls Tryz.prog 31 #[.slice A xs.length cA, .slice A2 vs.length c2] w (AllPost (allC xs vs) w) := by
  have HA := Lib.hid hA
  have HA2 := Lib.hid hA2
  have HST := Lib.hid hst
  clear hA hA2 hst
  by_cases hle : xs.length = vs.length
  · by_cases hbig : 1023 < xs.length
    · have HR := Lib.hid (show allC xs vs = ((0, noNd), 2) by unfold allC; rw [if_neg (by simpa using hle), if_pos hbig])
      have e1 : ((xs.length : Int) != (vs.length : Int)) = false := by simp [hle]
      have e2 : decide ((1023 : Int) < (xs.length : Int)) = true := by simp; omega
      clear hle
      go_enter Tryz.func31, Tryz.ntmps31
      go_wp2_with fail
      refine bodyPost_ret (v := .tuple #[condV 0 0 0 0 [] 0 (.slice none 0 0), .int .i64 2]) (by simp [results, Tryz.results31, go_sem]) rfl ?_
      rw [HR.out]
      exact AllPost.zero (below_alloc (alloc_b _ _) _)
    · have HR := Lib.hid (show allC xs vs = if (xs.zip vs).all okP then ((1, allN ((xs.zip vs).map atomN)), 0) else ((0, noNd), 80) by unfold allC; rw [if_neg (by simpa using hle), if_neg hbig])
      have e1 : ((xs.length : Int) != (vs.length : Int)) = false := by simp [hle]
      have e2 : decide ((1023 : Int) < (xs.length : Int)) = false := by simp; omega
      have hzl : (xs.zip vs).length = xs.length := by simp [hle]
      have HLE := Lib.hid hle
      have HZL := Lib.hid hzl
      have hxl : xs.length ≤ 1023 := by omega
      have HAT := Lib.hid (fun (j : Nat) (x : Th) (v : Int) (h : xs[j]? = some x) (k : vs[j]? = some v) => zip_at h k)
      obtain ⟨Z, hZ⟩ : ∃ Z, xs.zip vs = Z := ⟨_, rfl⟩
      rw [hZ] at HR HZL HAT
      obtain ⟨W0, hW0⟩ : ∃ W0, (w.alloc (.cells #[.int .i64 0, .int .i64 0, .int .i64 0, .int .i64 0, .string ⟨#[]⟩, .int .i64 0, .slice none 0 0] 28 (0, 0))).alloc (.cells #[.int .i64 0, .int .i64 0, .int .i64 0, .int .i64 0, .string ⟨#[]⟩, .int .i64 0, .slice none 0 0] 28 (0, 0)) = W0 := ⟨_, rfl⟩
      have hs0 : W0.heap.size = w.heap.size + 2 := by rw [← hW0]; simp
      have HB1 := Lib.hid (show Below w.heap.size w W0 by rw [← hW0]; exact below_alloc (alloc_b _ _) _)
      have HBN := Lib.hid (show Blk W0 w.heap.size 28 #[.int .i64 0, .int .i64 0, .int .i64 0, .int .i64 0, .string ⟨#[]⟩, .int .i64 0, .slice none 0 0] by rw [← hW0]; exact (Blk.new w _ _).alloc _)
      have HBM := Lib.hid (show Blk W0 (w.heap.size + 1) 28 #[.int .i64 0, .int .i64 0, .int .i64 0, .int .i64 0, .string ⟨#[]⟩, .int .i64 0, .slice none 0 0] by rw [← hW0]; have := Blk.new (w.alloc (.cells #[.int .i64 0, .int .i64 0, .int .i64 0, .int .i64 0, .string ⟨#[]⟩, .int .i64 0, .slice none 0 0] 28 (0, 0))) 28 #[.int .i64 0, .int .i64 0, .int .i64 0, .int .i64 0, .string ⟨#[]⟩, .int .i64 0, .slice none 0 0]; simpa using this)
      have HW0 := Lib.hid hW0
      clear hW0
      clear hle hzl hZ
      go_enter Tryz.func31, Tryz.ntmps31
      go_wp2_with fail
      go_loopw [7, 8] (fun v6 i wr => ∃ j : Nat, j ≤ xs.length ∧ i = .int .i64 j ∧ NdRow wr (w.heap.size + 2) v6 ((Z.take j).map atomN) ∧ (Z.take j).all okP = true ∧ Below (w.heap.size + 2) W0 wr) (fun _ i _ => xs.length - (intOf i).toNat)
      case atStart => exact ⟨0, Nat.zero_le _, rfl, ⟨[], by simpa using World.ownsRow_nil _ _ _ _, rfl, by simp⟩, by simp, by rw [HW0.out]; exact Below.refl _ _⟩
      case round =>
        obtain ⟨j, hj, rfl, hrow, hok, hbr⟩ := hrel
        have HOK := Lib.hid hok
        have HBR := Lib.hid hbr
        have hzr := hbr.size
        have HBT := Lib.hid (show Below w.heap.size w wr from HB1.out.trans (hbr.mono (by omega)))
        have hBk := HBN.out.below hbr (by omega)
        have c0 := hBk.cell 0
        have f0 := hBk.frozen 0
        have c1 := hBk.cell 1
        have f1 := hBk.frozen 1
        have c2 := hBk.cell 2
        have f2 := hBk.frozen 2
        have c3 := hBk.cell 3
        have f3 := hBk.frozen 3
        have c4 := hBk.cell 4
        have f4 := hBk.frozen 4
        have c5 := hBk.cell 5
        have f5 := hBk.frozen 5
        have c6 := hBk.cell 6
        have f6 := hBk.frozen 6
        have HBK := Lib.hid hBk
        have hBm := HBM.out.below hbr (by omega)
        have m0 := hBm.cell 0
        have m1 := hBm.cell 1
        have m2 := hBm.cell 2
        have m3 := hBm.cell 3
        have m4 := hBm.cell 4
        have m5 := hBm.cell 5
        have m6 := hBm.cell 6
        have HMK := Lib.hid hBm
        obtain ⟨cs, hown, hfr, hll⟩ := hrow
        have hlen : ((Z.take j).map atomN).length = j := by have := HZL.out; simp; omega
        rw [hlen] at hown
        obtain ⟨Av, cv, rfl⟩ := own_shp hown
        have HOW := Lib.hid hown
        have HFR := Lib.hid hfr
        have HLN := Lib.hid hlen
        clear hbr hok hBk hBm hown hfr hll hlen
        by_cases hlt : j < xs.length
        · have ex := List.getElem?_eq_getElem hlt
          obtain ⟨x, hx⟩ : ∃ x, xs[j] = x := ⟨_, rfl⟩
          rw [hx] at ex
          have hlt2 : j < vs.length := by rw [← HLE.out]; exact hlt
          have ev := List.getElem?_eq_getElem hlt2
          obtain ⟨v, hv⟩ : ∃ v, vs[j] = v := ⟨_, rfl⟩
          rw [hv] at ev
          have HZ := Lib.hid (HAT.out j x v ex ev)
          have hxs := HST.out x (List.mem_of_getElem? ex)
          obtain ⟨g, o, rfl, y0, y1, y2⟩ := HA.out _ _ ex
          obtain ⟨g2, o2, rfl, d0⟩ := HA2.out _ _ ev
          have hg2 : g2 < w.heap.size := World.block_lt_of_cell? w _ d0
          have hg1 : g < w.heap.size := World.block_lt_of_cell? w _ y0
          have z0 := cell_go y0 HBT.out
          have z1 := cell_go y1 HBT.out
          have z2 := cell_go y2 HBT.out
          have d1 := cell_go d0 HBT.out
          have i1 : (j : Int) < (xs.length : Int) := by omega
          have i2 : (j : Int) < (vs.length : Int) := by omega
          clear hx ex hv ev y0 y1 y2 d0
          obtain ⟨tb, htb⟩ : ∃ b, thingB 2 x.1 x.2.1 x.2.2 = b := ⟨_, rfl⟩
          obtain ⟨nb, hnb⟩ : ∃ b, numB v = b := ⟨_, rfl⟩
          have HTB := Lib.hid (show thingB 2 x.1 x.2.1 (⟨x.2.2.toArray⟩ : ByteArray).data.toList = tb from htb)
          have HNB := Lib.hid hnb
          have HOP := Lib.hid (show okP (x, v) = (tb && nb) by unfold okP; rw [htb, hnb])
          clear htb hnb
          have hbad : (tb && nb) = false → Z.all okP = false := fun h => by
            rw [List.all_eq_false]
            exact ⟨(x, v), List.mem_of_getElem? HZ.out, by rw [HOP.out, h]; simp⟩
          have HBAD := Lib.hid hbad
          clear hbad
          cases tb with
          | false =>
            have HE := Lib.hid (show allC xs vs = ((0, noNd), 80) by rw [HR.out, HBAD.out rfl]; rfl)
            go_wp2_with (go_at_call 65; refine (thingR 2 x.1 x.2.1 _ _ (by rw [str_size]; exact hxs)).mono ?_; rw [HTB.out]; rintro e wx ⟨rfl, hbx⟩; have HBK := Lib.hid (HBK.out.go hbx); have HMK := Lib.hid (HMK.out.go hbx); have d3 := cell_go d1 hbx; have x0 := cell_go z0 hbx; have x1 := cell_go z1 hbx; have x2 := cell_go z2 hbx; have c0 := HBK.out.cell 0; have f0 := HBK.out.frozen 0; have c1 := HBK.out.cell 1; have f1 := HBK.out.frozen 1; have c2 := HBK.out.cell 2; have f2 := HBK.out.frozen 2; have c3 := HBK.out.cell 3; have f3 := HBK.out.frozen 3; have c4 := HBK.out.cell 4; have f4 := HBK.out.frozen 4; have c5 := HBK.out.cell 5; have f5 := HBK.out.frozen 5; have c6 := HBK.out.cell 6; have f6 := HBK.out.frozen 6; have m0 := HMK.out.cell 0; have m1 := HMK.out.cell 1; have m2 := HMK.out.cell 2; have m3 := HMK.out.cell 3; have m4 := HMK.out.cell 4; have m5 := HMK.out.cell 5; have m6 := HMK.out.cell 6; have HQ := Lib.hid hbx; clear hbx)
            refine ret_condE rfl (blk_put7 HBK.out rfl _ _ _ _ _ _ _) rfl rfl rfl ?_
            rw [HE.out]
            exact AllPost.zero (below_put7 (HBT.out.trans (HQ.out.mono (by omega))) (Nat.le_refl _) _ _ _ _ _ _ _)
          | true =>
            cases nb with
            | false =>
              have HE := Lib.hid (show allC xs vs = ((0, noNd), 80) by rw [HR.out, HBAD.out rfl]; rfl)
              go_wp2_with (first | (go_at_call 65; refine (thingR 2 x.1 x.2.1 _ _ (by rw [str_size]; exact hxs)).mono ?_; rw [HTB.out]; rintro e wx ⟨rfl, hbx⟩; have HBK := Lib.hid (HBK.out.go hbx); have HMK := Lib.hid (HMK.out.go hbx); have d3 := cell_go d1 hbx; have x0 := cell_go z0 hbx; have x1 := cell_go z1 hbx; have x2 := cell_go z2 hbx; have c0 := HBK.out.cell 0; have f0 := HBK.out.frozen 0; have c1 := HBK.out.cell 1; have f1 := HBK.out.frozen 1; have c2 := HBK.out.cell 2; have f2 := HBK.out.frozen 2; have c3 := HBK.out.cell 3; have f3 := HBK.out.frozen 3; have c4 := HBK.out.cell 4; have f4 := HBK.out.frozen 4; have c5 := HBK.out.cell 5; have f5 := HBK.out.frozen 5; have c6 := HBK.out.cell 6; have f6 := HBK.out.frozen 6; have m0 := HMK.out.cell 0; have m1 := HMK.out.cell 1; have m2 := HMK.out.cell 2; have m3 := HMK.out.cell 3; have m4 := HMK.out.cell 4; have m5 := HMK.out.cell 5; have m6 := HMK.out.cell 6; have HQ := Lib.hid hbx; clear hbx) | (go_at_call 32; refine (numR _ _).mono ?_; rw [HNB.out]; rintro e wy ⟨rfl, rfl⟩))
              refine ret_condE rfl (blk_put7 HBK.out rfl _ _ _ _ _ _ _) rfl rfl rfl ?_
              rw [HE.out]
              exact AllPost.zero (below_put7 (HBT.out.trans (HQ.out.mono (by omega))) (Nat.le_refl _) _ _ _ _ _ _ _)
            | true =>
              have HGO := Lib.hid (show (Z.take (j + 1)).all okP = true by rw [List.take_add_one, HZ.out]; simp [HOK.out, HOP.out])
              have HSN := Lib.hid (show (Z.take (j + 1)).map atomN = (Z.take j).map atomN ++ [atomN (x, v)] by rw [List.take_add_one, HZ.out]; simp)
              have HTL := Lib.hid (show x.2.2.length ≤ 262144 from Nat.le_trans (thingB_loc (a := 2) (by have := HTB.out; exact this)) (by decide))
              go_wp2_with (first | (go_at_call 65; refine (thingR 2 x.1 x.2.1 _ _ (by rw [str_size]; exact hxs)).mono ?_; rw [HTB.out]; rintro e wx ⟨rfl, hbx⟩; have HBK := Lib.hid (HBK.out.go hbx); have HMK := Lib.hid (HMK.out.go hbx); have d3 := cell_go d1 hbx; have x0 := cell_go z0 hbx; have x1 := cell_go z1 hbx; have x2 := cell_go z2 hbx; have c0 := HBK.out.cell 0; have f0 := HBK.out.frozen 0; have c1 := HBK.out.cell 1; have f1 := HBK.out.frozen 1; have c2 := HBK.out.cell 2; have f2 := HBK.out.frozen 2; have c3 := HBK.out.cell 3; have f3 := HBK.out.frozen 3; have c4 := HBK.out.cell 4; have f4 := HBK.out.frozen 4; have c5 := HBK.out.cell 5; have f5 := HBK.out.frozen 5; have c6 := HBK.out.cell 6; have f6 := HBK.out.frozen 6; have m0 := HMK.out.cell 0; have m1 := HMK.out.cell 1; have m2 := HMK.out.cell 2; have m3 := HMK.out.cell 3; have m4 := HMK.out.cell 4; have m5 := HMK.out.cell 5; have m6 := HMK.out.cell 6; have HQ := Lib.hid hbx; clear hbx) | (go_at_call 32; refine (numR _ _).mono ?_; rw [HNB.out]; rintro e wy ⟨rfl, rfl⟩))
              have q0 := cell_dr x0
              have q1 := cell_dr x1
              have q2 := cell_dr x2
              have q3 := cell_dr d3
              have HOD := Lib.hid (own_below HOW.out HQ.out)
              refine wp_region_held_drew (S := (fun y => y.cell? ⟨g, o + j * 3, none⟩ = some (.int .i64 x.1) ∧ y.cell? ⟨g, o + j * 3 + 1, none⟩ = some (.int .i64 x.2.1) ∧ y.cell? ⟨g, o + j * 3 + 2, none⟩ = some (.string ⟨x.2.2.toArray⟩) ∧ y.cell? ⟨g2, o2 + j, none⟩ = some (.int .i64 v))) (by kernel_rfl) ⟨q0, q1, q2, q3⟩ (fun hHeld => ?_)
              refine wpAnyH_take (i := 0) (v := ?_) rfl (by kernel_rfl) (by kernel_rfl) (by kernel_rfl) (fun _ _ _ h => h) (Or.inl ⟨by rfl, ?_⟩) (by assumption) ?_
              rotate_left
              · intro x' hSx
                try dsimp only at hSx
                go_simp
                try with_reducible rfl
              try simp only [Act.put, List.setIfInBounds_toArray]
              refine wpAnyH_take (i := 1) (v := ?_) rfl (by kernel_rfl) (by kernel_rfl) (by kernel_rfl) (fun _ _ _ h => h) (Or.inl ⟨by rfl, ?_⟩) (by assumption) ?_
              rotate_left
              · intro x' hSx
                try dsimp only at hSx
                go_simp
                try with_reducible rfl
              try simp only [Act.put]
              refine wpAnyH_take (i := 2) (v := ?_) rfl (by kernel_rfl) (by kernel_rfl) (by kernel_rfl) (fun _ _ _ h => h) (Or.inl ⟨by rfl, ?_⟩) (by assumption) ?_
              rotate_left
              · intro x' hSx
                try dsimp only at hSx
                go_simp
                try with_reducible rfl
              try simp only [Act.put]
              refine wpAnyH_take (i := 3) (v := ?_) rfl (by kernel_rfl) (by kernel_rfl) (by kernel_rfl) (fun _ _ _ h => h) (Or.inl ⟨by rfl, ?_⟩) (by assumption) ?_
              rotate_left
              · intro x' hSx
                try dsimp only at hSx
                go_simp
                try with_reducible rfl
              try simp only [Act.put]
              refine wpAnyH_take (i := 4) (v := ?_) rfl (by kernel_rfl) (by kernel_rfl) (by kernel_rfl) (fun _ _ _ h => h) (Or.inl ⟨by rfl, ?_⟩) (by assumption) ?_
              rotate_left
              · intro x' hSx
                try dsimp only at hSx
                go_simp
                try with_reducible rfl
              try simp only [Act.put]
              refine wpAnyH_take (i := 5) (v := ?_) rfl (by kernel_rfl) (by kernel_rfl) (by kernel_rfl) (fun _ _ _ h => h) (Or.inl ⟨by rfl, ?_⟩) (by assumption) ?_
              rotate_left
              · intro x' hSx
                try dsimp only at hSx
                go_simp
                try with_reducible rfl
              try simp only [Act.put]
              refine wpAnyH_take (i := 6) (v := ?_) rfl (by kernel_rfl) (by kernel_rfl) (by kernel_rfl) (fun _ _ _ h => h) (Or.inl ⟨by rfl, ?_⟩) (by assumption) ?_
              rotate_left
              · intro x' hSx
                try dsimp only at hSx
                go_simp
                try with_reducible rfl
              try simp only [Act.put]
              refine wpAnyH_take (i := 7) (v := ?_) rfl (by kernel_rfl) (by kernel_rfl) (by kernel_rfl) (fun _ _ _ h => h) (Or.inl ⟨by rfl, ?_⟩) (by assumption) ?_
              rotate_left
              · intro x' hSx
                try dsimp only at hSx
                go_simp
                try with_reducible rfl
              try simp only [Act.put]
              refine wpAnyH_take (i := 8) (v := ?_) rfl (by kernel_rfl) (by kernel_rfl) (by kernel_rfl) (fun _ _ _ h => h) (Or.inl ⟨by rfl, ?_⟩) (by assumption) ?_
              rotate_left
              · intro x' hSx
                try dsimp only at hSx
                go_simp
                try with_reducible rfl
              try simp only [Act.put]
              refine wpAnyH_take (i := 9) (v := ?_) rfl (by kernel_rfl) (by kernel_rfl) (by kernel_rfl) (fun _ _ _ h => h) (Or.inl ⟨by rfl, ?_⟩) (by assumption) ?_
              rotate_left
              · intro x' hSx
                try dsimp only at hSx
                go_simp
                try with_reducible rfl
              try simp only [Act.put]
              refine wpAnyH_ready (rs := [10]) (by kernel_rfl) (by simp) ?_
              refine AllReadyH.cons rfl (fun K hK => ?_) AllReadyH.nil
              go_simp
              refine hK.out _ _ ⟨cell_dr (cell_al x0 _), cell_dr (cell_al x1 _), cell_dr (cell_al x2 _), cell_dr (cell_al d3 _)⟩ (fun _ => ?_)
              clear hK K
              try simp only [Act.put, List.setIfInBounds_toArray, List.set_cons_zero, List.set_cons_succ]
              refine wpAnyH_ready (rs := [11]) (by kernel_rfl) (by simp) ?_
              refine AllReadyH.cons rfl (fun K hK => ?_) AllReadyH.nil
              rw [if_pos (by kernel_rfl)]
              refine app_wp wx _ _ _ 24 26 rfl _ 6 72 Tryz.underlying24 infoNode rfl (by decide) (nodeCs (atomN (x, v)) (.slice none 0 0)) rfl (ndCs_one _ _ rfl) (w.heap.size + 2) _ _ _ rfl rfl ((alloc_b wx _).drew) (fun jj u hj => by show (wx.alloc (.cells (nodeCs (atomN (x, v)) (.slice none 0 0)).toArray 26 (0, 0))).cell? _ = _; rw [cell_new]; simpa using hj) HOD.out (by omega) (by omega) (by have := HQ.out.size; omega) ?_
              intro v' w2 hown1 hg1
              obtain ⟨Av1, cv1, rfl⟩ := own_shp hown1
              have HO1 := Lib.hid hown1
              have HG1 := Lib.hid hg1
              have HNK := Lib.hid (fun (b : Nat) (hb : b < wx.heap.size) (hne : (Value.slice Av j cv).ownBlock ≠ some b) => hg1.keep b hb hne)
              clear hown1 hg1
              refine hK.out _ _ ⟨own_keepc HNK.out HOW.out x0 (.inl (by omega)), own_keepc HNK.out HOW.out x1 (.inl (by omega)), own_keepc HNK.out HOW.out x2 (.inl (by omega)), own_keepc HNK.out HOW.out d3 (.inl (by omega))⟩ (fun _ => ?_)
              clear hK K
              try simp only [Act.put, List.setIfInBounds_toArray]
              refine wpAnyH_take (i := 12) (v := ?_) rfl (by kernel_rfl) (by kernel_rfl) (by kernel_rfl) (fun _ _ _ h => h) (Or.inl ⟨by rfl, ?_⟩) (by assumption) ?_
              rotate_left
              · intro x' hSx
                try dsimp only at hSx
                go_simp
                try with_reducible rfl
              try simp only [Act.put]
              refine wpAnyH_done (by kernel_rfl) ?_ _
              go_wp2
              go_roundw
              case rel =>
                refine ⟨j + 1, by omega, by go_num, ⟨cs ++ nodeCs (atomN (x, v)) (.slice none 0 0), ?_, ?_, ?_⟩, HGO.out, HBR.out.trans ((HQ.out.mono (by omega)).trans HG1.out.below)⟩
                · rw [HSN.out, List.length_append, HLN.out]; exact HO1.out
                · rw [HSN.out]
                  exact FrC.snoc HTL.out (KidC.nil _ _) _ _ (FrC.keep (fun _ e => e.elim) _ _ HFR.out)
                · rw [HSN.out, List.length_append, HLN.out]; simp; omega
              case measure => simp [intOf]; omega
        · have hje : j = xs.length := by omega
          have HTK := Lib.hid (show Z.take j = Z from List.take_of_length_le (by have := HZL.out; omega))
          have HRR := Lib.hid (show allC xs vs = ((1, allN (Z.map atomN)), 0) by rw [HR.out]; have := HOK.out; rw [HTK.out] at this; rw [this]; rfl)
          have HNR := Lib.hid (show NdRow wr (w.heap.size + 2) (.slice Av j cv) (Z.map atomN) from ⟨cs, by have h := HLN.out; rw [HTK.out] at h; rw [h]; exact HOW.out, by have h := HFR.out; rw [HTK.out] at h; exact h, by have h := HLN.out; rw [HTK.out] at h; omega⟩)
          have HLL := Lib.hid (show (Z.map atomN).length = j by have h := HLN.out; rw [HTK.out] at h; exact h)
          have HEN := Lib.hid (fun (W : World) (hh : ∀ b, w.heap.size + 2 ≤ b → b < wr.heap.size → W.heap[b]? = wr.heap[b]?) (hz : wr.heap.size ≤ W.heap.size) => ((NdRow.done (w0 := W0) HNR.out (by omega)).keep (w' := W) (fun b hb' => hh b (by have := hb'.1; omega) hb'.2)).mono (S' := fun b => w.heap.size ≤ b ∧ b < W.heap.size) (fun b hb' => ⟨by have := hb'.1; omega, Nat.lt_of_lt_of_le hb'.2 hz⟩))
          obtain ⟨L, hL⟩ : ∃ L, Z.map atomN = L := ⟨_, rfl⟩
          rw [hL] at HRR HNR HLL HEN
          clear hje hL
          match L, HLL.out with
          | [], h0 =>
            simp only [List.length_nil] at h0
            subst h0
            have HNB := Lib.hid (HBK.out.alloc (.cells #[.int .i64 1, .int .i64 1, .int .i64 0, .int .i64 0, .string ⟨#[]⟩, .int .i64 0, .slice none 0 0] 28 (0, 0)))
            have c0 := HNB.out.cell 0
            have f0 := HNB.out.frozen 0
            have c1 := HNB.out.cell 1
            have f1 := HNB.out.frozen 1
            have c2 := HNB.out.cell 2
            have f2 := HNB.out.frozen 2
            have c3 := HNB.out.cell 3
            have f3 := HNB.out.frozen 3
            have c4 := HNB.out.cell 4
            have f4 := HNB.out.frozen 4
            have c5 := HNB.out.cell 5
            have f5 := HNB.out.frozen 5
            have c6 := HNB.out.cell 6
            have f6 := HNB.out.frozen 6
            go_wp2_with fail
            refine ret_condE rfl (blk_put7 HNB.out rfl _ _ _ _ _ _ _) rfl rfl rfl ?_
            rw [HRR.out]
            exact ⟨_, rfl, by simp [allN], KidC.nil _ _, below_put7 (below_alloc HBT.out _) (Nat.le_refl _) _ _ _ _ _ _ _⟩
          | [n0], h0 =>
            simp only [List.length_cons, List.length_nil] at h0
            subst h0
            obtain ⟨cs1, ho1, hf1, _⟩ := HNR.out
            obtain ⟨hnl, kv1, rfl, hk1⟩ := hf1.one
            obtain ⟨A1, cp1, rfl⟩ := hk1.shape
            have hg1 : ∃ g, Av = some ⟨g, 0, none⟩ := by
              rcases HOW.out.2 with ⟨_, h0⟩ | ⟨g, cap', cur, e, _⟩
              · omega
              · simp only [Value.slice.injEq, true_and] at e
                exact ⟨g, e.1⟩
            obtain ⟨g, rfl⟩ := hg1
            have n0' := ho1.cellAt 0 (by simp)
            have n1' := ho1.cellAt 1 (by simp)
            have n2' := ho1.cellAt 2 (by simp)
            have n3' := ho1.cellAt 3 (by simp)
            have n4' := ho1.cellAt 4 (by simp)
            have n5' := ho1.cellAt 5 (by simp)
            simp only [nodeCs, List.getElem?_cons_zero, List.getElem?_cons_succ] at n0' n1' n2' n3' n4' n5'
            have HKK := Lib.hid hk1
            have HHO := Lib.hid ho1
            have HNL := Lib.hid hnl
            have m0 := cell_al n0' (.cells #[.int .i64 1, .int .i64 4, .int .i64 0, .int .i64 0, .string ⟨#[]⟩, .int .i64 0, .slice (some ⟨g, 0, none⟩) 1 cv] 28 (0, 0))
            have m1 := cell_al n1' (.cells #[.int .i64 1, .int .i64 4, .int .i64 0, .int .i64 0, .string ⟨#[]⟩, .int .i64 0, .slice (some ⟨g, 0, none⟩) 1 cv] 28 (0, 0))
            have m2 := cell_al n2' (.cells #[.int .i64 1, .int .i64 4, .int .i64 0, .int .i64 0, .string ⟨#[]⟩, .int .i64 0, .slice (some ⟨g, 0, none⟩) 1 cv] 28 (0, 0))
            have m3 := cell_al n3' (.cells #[.int .i64 1, .int .i64 4, .int .i64 0, .int .i64 0, .string ⟨#[]⟩, .int .i64 0, .slice (some ⟨g, 0, none⟩) 1 cv] 28 (0, 0))
            have m4 := cell_al n4' (.cells #[.int .i64 1, .int .i64 4, .int .i64 0, .int .i64 0, .string ⟨#[]⟩, .int .i64 0, .slice (some ⟨g, 0, none⟩) 1 cv] 28 (0, 0))
            have m5 := cell_al n5' (.cells #[.int .i64 1, .int .i64 4, .int .i64 0, .int .i64 0, .string ⟨#[]⟩, .int .i64 0, .slice (some ⟨g, 0, none⟩) 1 cv] 28 (0, 0))
            clear hk1 ho1 hnl hf1
            have HNB := Lib.hid (HBK.out.alloc (.cells #[.int .i64 1, .int .i64 n0.k, .int .i64 n0.t, .int .i64 n0.r, .string ⟨n0.l.toArray⟩, .int .i64 n0.v, .slice A1 n0.kids.len cp1] 28 (0, 0)))
            have c0 := HNB.out.cell 0
            have f0 := HNB.out.frozen 0
            have c1 := HNB.out.cell 1
            have f1 := HNB.out.frozen 1
            have c2 := HNB.out.cell 2
            have f2 := HNB.out.frozen 2
            have c3 := HNB.out.cell 3
            have f3 := HNB.out.frozen 3
            have c4 := HNB.out.cell 4
            have f4 := HNB.out.frozen 4
            have c5 := HNB.out.cell 5
            have f5 := HNB.out.frozen 5
            have c6 := HNB.out.cell 6
            have f6 := HNB.out.frozen 6
            have HAN := Lib.hid (show allN [n0] = n0 from rfl)
            go_wp2_with fail
            refine ret_condE rfl (blk_put7 HNB.out rfl _ _ _ _ _ _ _) rfl rfl rfl ?_
            rw [HRR.out, HAN.out]
            refine ⟨_, rfl, HNL.out, ?_, below_put7 (below_alloc HBT.out _) (Nat.le_refl w.heap.size) _ _ _ _ _ _ _⟩
            exact (KidC.keep HKK.out (fun _ e => e.elim)).mono (fun _ e => e.elim)
          | n0 :: n1 :: L', h0 =>
            have h2 : 2 ≤ j := by rw [← h0]; simp
            have e3 : ((j : Int) == 0) = false := by simp; omega
            have e4 : ((j : Int) == 1) = false := by simp; omega
            have HAN := Lib.hid (show allN (n0 :: n1 :: L') = ⟨4, 0, 0, [], 0, frOf (n0 :: n1 :: L')⟩ from rfl)
            have HNB := Lib.hid (HBK.out.alloc (.cells #[.int .i64 1, .int .i64 4, .int .i64 0, .int .i64 0, .string ⟨#[]⟩, .int .i64 0, .slice Av j cv] 28 (0, 0)))
            have c0 := HNB.out.cell 0
            have f0 := HNB.out.frozen 0
            have c1 := HNB.out.cell 1
            have f1 := HNB.out.frozen 1
            have c2 := HNB.out.cell 2
            have f2 := HNB.out.frozen 2
            have c3 := HNB.out.cell 3
            have f3 := HNB.out.frozen 3
            have c4 := HNB.out.cell 4
            have f4 := HNB.out.frozen 4
            have c5 := HNB.out.cell 5
            have f5 := HNB.out.frozen 5
            have c6 := HNB.out.cell 6
            have f6 := HNB.out.frozen 6
            go_wp2_with fail
            refine ret_condE rfl (blk_put7 HNB.out rfl _ _ _ _ _ _ _) rfl rfl rfl ?_
            rw [HRR.out, HAN.out]
            refine ⟨_, rfl, by simp, ?_, below_put7 (below_alloc HBT.out _) (Nat.le_refl w.heap.size) _ _ _ _ _ _ _⟩
            refine HEN.out _ (fun b hb1 hb2 => ?_) (by simp [World.setCell])
            rw [heap_put7 (by omega), Below.heap_alloc _ _ _ hb2]
  · have HR := Lib.hid (show allC xs vs = ((0, noNd), 1) by unfold allC; rw [if_pos hle])
    have e1 : ((xs.length : Int) != (vs.length : Int)) = true := by simp; omega
    clear hle
    go_enter Tryz.func31, Tryz.ntmps31
    go_wp2_with fail
    refine bodyPost_ret (v := .tuple #[condV 0 0 0 0 [] 0 (.slice none 0 0), .int .i64 1]) (by simp [results, Tryz.results31, go_sem]) rfl ?_
    rw [HR.out]
    exact AllPost.zero (below_alloc (alloc_b _ _) _)
end
end Go.Proofs.YtmlnibjnacfanaaGreatDoor
