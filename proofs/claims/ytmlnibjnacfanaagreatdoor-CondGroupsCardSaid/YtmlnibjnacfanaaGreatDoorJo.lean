/- Layer 8: the walk of CondGroups. -/
import Derived.Test.YtmlnibjnacfanaaGreatDoorJn
import Derived.Test.YtmlnibjnacfanaaGreatDoorJl
import Derived.Test.YtmlnibjnacfanaaGreatDoorLs
import Derived.Test.YtmlnibjnacfanaaGreatDoorEp
namespace Go.Proofs.YtmlnibjnacfanaaGreatDoor
open Go.RowKit
theorem cut_at (cut : Int) (n : Nat) (hn : 3 ≤ n) {cap : Nat} (h2 : cap ≤ 9223372036854775807) (h1 : n ≤ cap) : ∃ k : Nat, wrap64 (1 + wrap64 ((IntKind.u64.wrap cut).tmod ((n : Int) - 2))) = (k : Int) ∧ 1 ≤ k ∧ k + 2 ≤ n + 1 := by
  have hu : 0 ≤ IntKind.u64.wrap cut := by
    simp [IntKind.wrap, IntKind.bits, IntKind.signed]
    omega
  obtain ⟨m, hm⟩ : ∃ m, IntKind.u64.wrap cut = m := ⟨_, rfl⟩
  rw [hm] at hu ⊢
  have h3 : m.tmod ((n : Int) - 2) = m % ((n : Int) - 2) := Int.tmod_eq_emod_of_nonneg hu
  have h4 := Int.emod_nonneg m (show (n : Int) - 2 ≠ 0 by omega)
  have h5 := Int.emod_lt_of_pos m (show 0 < (n : Int) - 2 by omega)
  rw [h3, IntWalk.wrap64_in (m % ((n : Int) - 2)) (by omega), IntWalk.wrap64_in _ (by omega)]
  exact ⟨(1 + m % ((n : Int) - 2)).toNat, by omega, by omega, by omega⟩
section
variable {w : World}
set_option maxHeartbeats 8000000 in
set_option maxRecDepth 100000 in
theorem groups_few (A : Option Addr) (cap : Nat) (f : Fr) (and : Bool) (cut : Int) (A2 : Option Addr) (ca2 : Nat) (st : List Int) (_hs : SlAt w w.heap.size (.slice A f.len cap) f) (hE : Env w) (hn : f.len < 3) :
    Calls Tryz.prog 7 #[.slice A f.len cap, .bool and, .int .i64 cut, .slice A2 st.length ca2] w fun e w' => e = .returned (.bool true) ∧ Below w.heap.size w w' := by
  have HE := Lib.hid (fun (o : Obj) => hE.mono (alloc_b w o))
  have hd : decide ((f.len : Int) < 3) = true := by simp; omega
  clear hE
  cases and
  all_goals
    go_enter Tryz.func7, Tryz.ntmps7
    go_wp2_with (go_at_call 16; refine (awakeP (HE.out _)).mono ?_; rintro e wy ⟨rfl, hby⟩)
    go_ret
    exact ⟨rfl, below_trans (alloc_b w _) hby⟩
set_option maxHeartbeats 8000000 in
set_option maxRecDepth 100000 in
theorem groups_go (A : Option Addr) (cap : Nat) (f : Fr) (and : Bool) (cut : Int) (A2 : Option Addr) (ca2 : Nat) (st : List Int) (hs : SlAt w w.heap.size (.slice A f.len cap) f) (hst : st.length ≤ 9223372036854775806) (hA : IntsAt w A2 st) (hE : Env w) (hn : 3 ≤ f.len) :
    Calls Tryz.prog 7 #[.slice A f.len cap, .bool and, .int .i64 cut, .slice A2 st.length ca2] w fun e w' => e = .returned (.bool true) ∧ Below w.heap.size w w' := by
  have hd : decide ((f.len : Int) < 3) = false := by simp; omega
  obtain ⟨A', cap', e0, h1, h2, h3⟩ := hs
  simp only [Value.slice.injEq, true_and] at e0
  obtain ⟨rfl, rfl⟩ := e0
  obtain ⟨b, o, rfl, hb, hrow⟩ := h3 (by omega)
  have HROW := Lib.hid hrow
  have HS := Lib.hid (⟨_, _, rfl, h1, h2, h3⟩ : SlAt w w.heap.size (.slice (some ⟨b, o, none⟩) f.len cap) f)
  have HA := Lib.hid hA
  have HE := Lib.hid hE
  obtain ⟨n, hnn⟩ : ∃ n, f.len = n := ⟨_, rfl⟩
  have HN := Lib.hid hnn
  have HSN := Lib.hid (show SlAt w w.heap.size (.slice (some ⟨b, o, none⟩) n cap) f by rw [← hnn]; exact HS.out)
  clear h3 hrow hA hE
  rw [hnn] at hn hd h1 h2 ⊢
  clear hnn
  obtain ⟨k, hkk, hk1, hk2⟩ := cut_at cut n hn h2.2 h1
  have h72 := h2.1
  have hcp := h2.2
  have hk3 : (k : Int) ≤ (cap : Int) := by omega
  have hk4 : (k : Int) ≤ (n : Int) := by omega
  have hk5 : k < cap := by omega
  have hk6 : k ≤ n := by omega
  obtain ⟨cs, hrc, hcc⟩ := rowC_of (f.take k) b o (RowAt.take k f b o HROW.out)
  have HRC := Lib.hid hrc
  have HCC := Lib.hid hcc
  have HTL := Lib.hid (Fr.take_len k f (by rw [HN.out]; exact hk6))
  have HDL := Lib.hid (show (f.drop k).len = n - k by rw [Fr.drop_len f k (by rw [HN.out]; exact hk6), HN.out])
  have HCL := Lib.hid (show cs.length = k * 6 by rw [HRC.out.len, HTL.out])
  have HSD := Lib.hid (show SlAt w w.heap.size (.slice (some ⟨b, o + k * 6, none⟩) (n - k) (cap - k)) (f.drop k) by
    rw [← HDL.out]
    exact ⟨_, _, rfl, by rw [HDL.out]; omega, ⟨by rw [HDL.out]; omega, by omega⟩, fun _ => ⟨b, o + k * 6, rfl, hb, RowAt.at_ f b o k HROW.out⟩⟩)
  have HKK := hkk
  obtain ⟨i0, hi, hz0, hz1, hz2⟩ := info_parts infoNode
  clear hrc hcc h2
  cases and with
  | false =>
    have hw1 := below_alloc (alloc_b w (.cells #[.int .i64 1, .int .i64 5, .int .i64 0, .int .i64 0, .string ⟨#[]⟩, .int .i64 0, .slice (some ⟨b, o, none⟩) n cap] 28 (0, 0))) (.cells #[] 26 (0, 0))
    have HOE := Lib.hid (show ((w.alloc (.cells #[.int .i64 1, .int .i64 5, .int .i64 0, .int .i64 0, .string ⟨#[]⟩, .int .i64 0, .slice (some ⟨b, o, none⟩) n cap] 28 (0, 0))).alloc (.cells #[] 26 (0, 0))).ownsRow (w.heap.size + 1) 26 6 (.slice (some ⟨w.heap.size + 1, 0, none⟩) 0 0) 0 [] by have h := own_empty (w.alloc (.cells #[.int .i64 1, .int .i64 5, .int .i64 0, .int .i64 0, .string ⟨#[]⟩, .int .i64 0, .slice (some ⟨b, o, none⟩) n cap] 28 (0, 0))) 26 6; simpa using h)
    have HCW := Lib.hid (fun j u (hj : cs[j]? = some u) => cell_go (HCC.out j u hj) hw1)
    have HW1 := Lib.hid hw1
    have HB0 := Lib.hid ((Blk.new w 28 #[.int .i64 1, .int .i64 5, .int .i64 0, .int .i64 0, .string ⟨#[]⟩, .int .i64 0, .slice (some ⟨b, o, none⟩) n cap]).alloc (.cells #[] 26 (0, 0)))
    clear hw1
    go_enter Tryz.func7, Tryz.ntmps7
    go_wp2_with (first
      | (at_builtin; refine wpList_append_own _ rfl _ _ 24 rfl (w.heap.size + 1) 26 i0 _ 6 72 Tryz.underlying24 hi hz0 hz1 hz2 rfl (by decide) _ 0 [] rfl HOE.out ⟨b, o, none⟩ k cap cs rfl HCL.out (fun j u hj => by rw [add_none']; exact HCW.out j u hj) HRC.out.one (by unfold maxLen; omega) (by omega) (by simp) ?_; intro v' w2 hown1 hg1 _; rw [Nat.zero_add, List.nil_append] at hown1; obtain ⟨Av1, cv1, rfl⟩ := own_shp hown1; have HO1 := Lib.hid hown1; have HG1 := Lib.hid (show Below (w.heap.size + 1) (w.alloc (.cells #[.int .i64 1, .int .i64 5, .int .i64 0, .int .i64 0, .string ⟨#[]⟩, .int .i64 0, .slice (some ⟨b, o, none⟩) n cap] 28 (0, 0))) w2 from (Below.alloc (Below.refl _ _) (by simp) _).grown hg1 (by simp) (fun j hj => by cases hj; exact Nat.le_refl _)); clear hown1 hg1)
      | (at_builtin; refine app_one _ rfl _ _ 24 26 rfl _ 6 72 Tryz.underlying24 infoNode rfl (by decide) [.int .i64 5, .int .i64 0, .int .i64 0, .string ⟨#[]⟩, .int .i64 0, .slice (some ⟨b, o + k * 6, none⟩) (n - k) (cap - k)] rfl (by intro u hu; simp only [List.mem_cons, List.not_mem_nil, or_false] at hu; rcases hu with rfl | rfl | rfl | rfl | rfl | rfl <;> rfl) (w.heap.size + 1) _ _ _ rfl rfl HO1.out (by omega) (by omega) (by have := HG1.out.size; simpa using this) ?_; intro v' w3 hown2 hg2; obtain ⟨Av2, cv2, rfl⟩ := own_shp hown2; have HO2 := Lib.hid hown2; have HG2 := Lib.hid (HG1.out.trans hg2.below); clear hown2 hg2; have HBF := Lib.hid (((Blk.new w 28 #[.int .i64 1, .int .i64 5, .int .i64 0, .int .i64 0, .string ⟨#[]⟩, .int .i64 0, .slice (some ⟨b, o, none⟩) n cap]).below HG2.out (by omega)).alloc (.cells #[.int .i64 1, .int .i64 5, .int .i64 0, .int .i64 0, .string ⟨#[]⟩, .int .i64 0, .slice Av2 (k + 1) cv2] 28 (0, 0))); have c0 := HBF.out.cell 0; have c1 := HBF.out.cell 1; have c2 := HBF.out.cell 2; have c3 := HBF.out.cell 3; have c4 := HBF.out.cell 4; have c5 := HBF.out.cell 5; have c6 := HBF.out.cell 6))
    have ht3 : Below w.heap.size w w3 := (alloc_b w (.cells #[.int .i64 1, .int .i64 5, .int .i64 0, .int .i64 0, .string ⟨#[]⟩, .int .i64 0, .slice (some ⟨b, o, none⟩) n cap] 28 (0, 0))).trans (HG2.out.mono (by omega))
    have hgl : (grp 5 k f).len = k + 1 := grp_len 5 (by rw [HN.out]; exact hk6)
    have hrc3 : RowC w3 w.heap.size (grp 5 k f) (cs ++ [.int .i64 5, .int .i64 0, .int .i64 0, .string ⟨#[]⟩, .int .i64 0, .slice (some ⟨b, o + k * 6, none⟩) (n - k) (cap - k)]) := (RowC.app _ _ _ _ HRC.out (show RowC w w.heap.size (.cons 5 0 0 [] 0 (f.drop k) .nil) [.int .i64 5, .int .i64 0, .int .i64 0, .string ⟨#[]⟩, .int .i64 0, .slice (some ⟨b, o + k * 6, none⟩) (n - k) (cap - k)] from ⟨_, [], rfl, by simp, HSD.out, rfl⟩)).below (Nat.le_refl _) ht3 _ _
    have hs3 : SlAt w3 w3.heap.size (.slice Av2 (k + 1) cv2) (grp 5 k f) := hrc3.own (by rw [hgl]; exact HO2.out) (by rw [hgl]; omega) ht3.size
    have HBG := Lib.hid (Blk.new w3 28 #[.int .i64 1, .int .i64 5, .int .i64 0, .int .i64 0, .string ⟨#[]⟩, .int .i64 0, .slice Av2 (k + 1) cv2])
    have g0 := HBG.out.cell 0
    have g1 := HBG.out.cell 1
    have g2 := HBG.out.cell 2
    have g3 := HBG.out.cell 3
    have g4 := HBG.out.cell 4
    have g5 := HBG.out.cell 5
    have g6 := HBG.out.cell 6
    have HT := Lib.hid (below_alloc ht3 (.cells #[.int .i64 1, .int .i64 5, .int .i64 0, .int .i64 0, .string ⟨#[]⟩, .int .i64 0, .slice Av2 (k + 1) cv2] 28 (0, 0)))
    have HSG := Lib.hid ((hs3.below (Nat.le_refl _) (alloc_b w3 (.cells #[.int .i64 1, .int .i64 5, .int .i64 0, .int .i64 0, .string ⟨#[]⟩, .int .i64 0, .slice Av2 (k + 1) cv2] 28 (0, 0)))).up (show w3.heap.size ≤ (w3.alloc (.cells #[.int .i64 1, .int .i64 5, .int .i64 0, .int .i64 0, .string ⟨#[]⟩, .int .i64 0, .slice Av2 (k + 1) cv2] 28 (0, 0))).heap.size by simp))
    have HSF := Lib.hid (HSN.out.below (Nat.le_refl _) HT.out)
    have HAI := Lib.hid (HA.out.below HT.out)
    have HEI := Lib.hid (HE.out.mono HT.out)
    have hz := HT.out.size
    clear hgl hrc3 hs3 ht3
    by_cases hf : checkC 2 1 5 0 0 [] 0 f = 0
    · have HCF := Lib.hid hf
      by_cases hg : checkC 2 1 5 0 0 [] 0 (grp 5 k f) = 0
      · have HCG := Lib.hid hg
        obtain ⟨X, hX⟩ : ∃ X, evalU 1 5 0 0 [] 0 f st = X := ⟨_, rfl⟩
        have HEG := Lib.hid ((grp_eval (.inr rfl) k f st hf hg).trans hX)
        have HEF := Lib.hid hX
        obtain ⟨xb, xe⟩ := X
        clear hf hg hX
        go_wp2_with (first | (go_at_call 15; (with_reducible refine (checkR 2 1 5 0 0 [] 0 _ f _ (by simp) (HSF.out.up hz)).mono ?_); rw [HCF.out]; rintro e wx ⟨rfl, hbx⟩; have HBF := Lib.hid (HBF.out.go hbx); have HBG := Lib.hid (HBG.out.go hbx); have HT := Lib.hid (below_trans HT.out hbx); have HSF := Lib.hid (HSF.out.below hz hbx); have HSG := Lib.hid ((HSG.out.below (Nat.le_refl _) hbx).up hbx.size); have HAI := Lib.hid (HAI.out.below hbx); have HEI := Lib.hid (HEI.out.mono hbx); have hz := HT.out.size; clear c0 c1 c2 c3 c4 c5 c6 g0 g1 g2 g3 g4 g5 g6; have c0 := HBF.out.cell 0; have c1 := HBF.out.cell 1; have c2 := HBF.out.cell 2; have c3 := HBF.out.cell 3; have c4 := HBF.out.cell 4; have c5 := HBF.out.cell 5; have c6 := HBF.out.cell 6; have g0 := HBG.out.cell 0; have g1 := HBG.out.cell 1; have g2 := HBG.out.cell 2; have g3 := HBG.out.cell 3; have g4 := HBG.out.cell 4; have g5 := HBG.out.cell 5; have g6 := HBG.out.cell 6; clear hbx) | (go_at_call 15; (with_reducible refine (checkR 2 1 5 0 0 [] 0 _ (grp 5 k f) _ (by simp) HSG.out).mono ?_); rw [HCG.out]; rintro e wx ⟨rfl, hbx⟩; have HBF := Lib.hid (HBF.out.go hbx); have HBG := Lib.hid (HBG.out.go hbx); have HT := Lib.hid (below_trans HT.out hbx); have HSF := Lib.hid (HSF.out.below hz hbx); have HSG := Lib.hid ((HSG.out.below (Nat.le_refl _) hbx).up hbx.size); have HAI := Lib.hid (HAI.out.below hbx); have HEI := Lib.hid (HEI.out.mono hbx); have hz := HT.out.size; clear c0 c1 c2 c3 c4 c5 c6 g0 g1 g2 g3 g4 g5 g6; have c0 := HBF.out.cell 0; have c1 := HBF.out.cell 1; have c2 := HBF.out.cell 2; have c3 := HBF.out.cell 3; have c4 := HBF.out.cell 4; have c5 := HBF.out.cell 5; have c6 := HBF.out.cell 6; have g0 := HBG.out.cell 0; have g1 := HBG.out.cell 1; have g2 := HBG.out.cell 2; have g3 := HBG.out.cell 3; have g4 := HBG.out.cell 4; have g5 := HBG.out.cell 5; have g6 := HBG.out.cell 6; clear hbx) | (go_at_call 23; (with_reducible refine (evalG (l := []) (kids := f) w.heap.size _ st A2 ca2 hz HSF.out (by simp) hst HAI.out).mono ?_); rw [HEF.out]; rintro e wx ⟨rfl, hbx⟩; have HBF := Lib.hid (HBF.out.go hbx); have HBG := Lib.hid (HBG.out.go hbx); have HT := Lib.hid (below_trans HT.out hbx); have HSF := Lib.hid (HSF.out.below hz hbx); have HSG := Lib.hid ((HSG.out.below (Nat.le_refl _) hbx).up hbx.size); have HAI := Lib.hid (HAI.out.below hbx); have HEI := Lib.hid (HEI.out.mono hbx); have hz := HT.out.size; clear c0 c1 c2 c3 c4 c5 c6 g0 g1 g2 g3 g4 g5 g6; have c0 := HBF.out.cell 0; have c1 := HBF.out.cell 1; have c2 := HBF.out.cell 2; have c3 := HBF.out.cell 3; have c4 := HBF.out.cell 4; have c5 := HBF.out.cell 5; have c6 := HBF.out.cell 6; have g0 := HBG.out.cell 0; have g1 := HBG.out.cell 1; have g2 := HBG.out.cell 2; have g3 := HBG.out.cell 3; have g4 := HBG.out.cell 4; have g5 := HBG.out.cell 5; have g6 := HBG.out.cell 6; clear hbx) | (go_at_call 23; (with_reducible refine (evalG (l := []) (kids := grp 5 k f) _ _ st A2 ca2 (Nat.le_refl _) HSG.out (by simp) hst HAI.out).mono ?_); rw [HEG.out]; rintro e wx ⟨rfl, hbx⟩; have HBF := Lib.hid (HBF.out.go hbx); have HBG := Lib.hid (HBG.out.go hbx); have HT := Lib.hid (below_trans HT.out hbx); have HSF := Lib.hid (HSF.out.below hz hbx); have HSG := Lib.hid ((HSG.out.below (Nat.le_refl _) hbx).up hbx.size); have HAI := Lib.hid (HAI.out.below hbx); have HEI := Lib.hid (HEI.out.mono hbx); have hz := HT.out.size; clear c0 c1 c2 c3 c4 c5 c6 g0 g1 g2 g3 g4 g5 g6; have c0 := HBF.out.cell 0; have c1 := HBF.out.cell 1; have c2 := HBF.out.cell 2; have c3 := HBF.out.cell 3; have c4 := HBF.out.cell 4; have c5 := HBF.out.cell 5; have c6 := HBF.out.cell 6; have g0 := HBG.out.cell 0; have g1 := HBG.out.cell 1; have g2 := HBG.out.cell 2; have g3 := HBG.out.cell 3; have g4 := HBG.out.cell 4; have g5 := HBG.out.cell 5; have g6 := HBG.out.cell 6; clear hbx) | (go_at_call 27; (with_reducible refine (evalR (l := []) (kids := f) w.heap.size _ st A2 ca2 hz HSF.out (by simp) hst HAI.out).mono ?_); rw [HEF.out]; rintro e wx ⟨rfl, hbx⟩; have HBF := Lib.hid (HBF.out.go hbx); have HBG := Lib.hid (HBG.out.go hbx); have HT := Lib.hid (below_trans HT.out hbx); have HSF := Lib.hid (HSF.out.below hz hbx); have HSG := Lib.hid ((HSG.out.below (Nat.le_refl _) hbx).up hbx.size); have HAI := Lib.hid (HAI.out.below hbx); have HEI := Lib.hid (HEI.out.mono hbx); have hz := HT.out.size; clear c0 c1 c2 c3 c4 c5 c6 g0 g1 g2 g3 g4 g5 g6; have c0 := HBF.out.cell 0; have c1 := HBF.out.cell 1; have c2 := HBF.out.cell 2; have c3 := HBF.out.cell 3; have c4 := HBF.out.cell 4; have c5 := HBF.out.cell 5; have c6 := HBF.out.cell 6; have g0 := HBG.out.cell 0; have g1 := HBG.out.cell 1; have g2 := HBG.out.cell 2; have g3 := HBG.out.cell 3; have g4 := HBG.out.cell 4; have g5 := HBG.out.cell 5; have g6 := HBG.out.cell 6; clear hbx) | (go_at_call 16; refine (awakeP HEI.out).mono ?_; rintro e wy ⟨rfl, hby⟩))
        go_ret
        exact ⟨by simp, below_trans HT.out hby⟩
      · obtain ⟨E, hEE⟩ : ∃ E, checkC 2 1 5 0 0 [] 0 (grp 5 k f) = E := ⟨_, rfl⟩
        rw [hEE] at hg
        have HCG := Lib.hid hEE
        have e2 : (E != 0) = true := by simpa using hg
        clear hf hg hEE
        go_wp2_with (first | (go_at_call 15; (with_reducible refine (checkR 2 1 5 0 0 [] 0 _ f _ (by simp) (HSF.out.up hz)).mono ?_); rw [HCF.out]; rintro e wx ⟨rfl, hbx⟩; have HBF := Lib.hid (HBF.out.go hbx); have HBG := Lib.hid (HBG.out.go hbx); have HT := Lib.hid (below_trans HT.out hbx); have HSF := Lib.hid (HSF.out.below hz hbx); have HSG := Lib.hid ((HSG.out.below (Nat.le_refl _) hbx).up hbx.size); have HAI := Lib.hid (HAI.out.below hbx); have HEI := Lib.hid (HEI.out.mono hbx); have hz := HT.out.size; clear c0 c1 c2 c3 c4 c5 c6 g0 g1 g2 g3 g4 g5 g6; have c0 := HBF.out.cell 0; have c1 := HBF.out.cell 1; have c2 := HBF.out.cell 2; have c3 := HBF.out.cell 3; have c4 := HBF.out.cell 4; have c5 := HBF.out.cell 5; have c6 := HBF.out.cell 6; have g0 := HBG.out.cell 0; have g1 := HBG.out.cell 1; have g2 := HBG.out.cell 2; have g3 := HBG.out.cell 3; have g4 := HBG.out.cell 4; have g5 := HBG.out.cell 5; have g6 := HBG.out.cell 6; clear hbx) | (go_at_call 15; (with_reducible refine (checkR 2 1 5 0 0 [] 0 _ (grp 5 k f) _ (by simp) HSG.out).mono ?_); rw [HCG.out]; rintro e wx ⟨rfl, hbx⟩; have HBF := Lib.hid (HBF.out.go hbx); have HBG := Lib.hid (HBG.out.go hbx); have HT := Lib.hid (below_trans HT.out hbx); have HSF := Lib.hid (HSF.out.below hz hbx); have HSG := Lib.hid ((HSG.out.below (Nat.le_refl _) hbx).up hbx.size); have HAI := Lib.hid (HAI.out.below hbx); have HEI := Lib.hid (HEI.out.mono hbx); have hz := HT.out.size; clear c0 c1 c2 c3 c4 c5 c6 g0 g1 g2 g3 g4 g5 g6; have c0 := HBF.out.cell 0; have c1 := HBF.out.cell 1; have c2 := HBF.out.cell 2; have c3 := HBF.out.cell 3; have c4 := HBF.out.cell 4; have c5 := HBF.out.cell 5; have c6 := HBF.out.cell 6; have g0 := HBG.out.cell 0; have g1 := HBG.out.cell 1; have g2 := HBG.out.cell 2; have g3 := HBG.out.cell 3; have g4 := HBG.out.cell 4; have g5 := HBG.out.cell 5; have g6 := HBG.out.cell 6; clear hbx) | (go_at_call 16; refine (awakeP HEI.out).mono ?_; rintro e wy ⟨rfl, hby⟩))
        go_ret
        exact ⟨rfl, below_trans HT.out hby⟩
    · obtain ⟨E, hEE⟩ : ∃ E, checkC 2 1 5 0 0 [] 0 f = E := ⟨_, rfl⟩
      rw [hEE] at hf
      have HCF := Lib.hid hEE
      have e2 : (E != 0) = true := by simpa using hf
      clear hf hEE
      go_wp2_with (first | (go_at_call 15; (with_reducible refine (checkR 2 1 5 0 0 [] 0 _ f _ (by simp) (HSF.out.up hz)).mono ?_); rw [HCF.out]; rintro e wx ⟨rfl, hbx⟩; have HBF := Lib.hid (HBF.out.go hbx); have HBG := Lib.hid (HBG.out.go hbx); have HT := Lib.hid (below_trans HT.out hbx); have HSF := Lib.hid (HSF.out.below hz hbx); have HSG := Lib.hid ((HSG.out.below (Nat.le_refl _) hbx).up hbx.size); have HAI := Lib.hid (HAI.out.below hbx); have HEI := Lib.hid (HEI.out.mono hbx); have hz := HT.out.size; clear c0 c1 c2 c3 c4 c5 c6 g0 g1 g2 g3 g4 g5 g6; have c0 := HBF.out.cell 0; have c1 := HBF.out.cell 1; have c2 := HBF.out.cell 2; have c3 := HBF.out.cell 3; have c4 := HBF.out.cell 4; have c5 := HBF.out.cell 5; have c6 := HBF.out.cell 6; have g0 := HBG.out.cell 0; have g1 := HBG.out.cell 1; have g2 := HBG.out.cell 2; have g3 := HBG.out.cell 3; have g4 := HBG.out.cell 4; have g5 := HBG.out.cell 5; have g6 := HBG.out.cell 6; clear hbx) | (go_at_call 16; refine (awakeP HEI.out).mono ?_; rintro e wy ⟨rfl, hby⟩))
      go_ret
      exact ⟨rfl, below_trans HT.out hby⟩
  | true =>
    have hw1 := below_alloc (alloc_b w (.cells #[.int .i64 1, .int .i64 4, .int .i64 0, .int .i64 0, .string ⟨#[]⟩, .int .i64 0, .slice (some ⟨b, o, none⟩) n cap] 28 (0, 0))) (.cells #[] 26 (0, 0))
    have HOE := Lib.hid (show ((w.alloc (.cells #[.int .i64 1, .int .i64 4, .int .i64 0, .int .i64 0, .string ⟨#[]⟩, .int .i64 0, .slice (some ⟨b, o, none⟩) n cap] 28 (0, 0))).alloc (.cells #[] 26 (0, 0))).ownsRow (w.heap.size + 1) 26 6 (.slice (some ⟨w.heap.size + 1, 0, none⟩) 0 0) 0 [] by have h := own_empty (w.alloc (.cells #[.int .i64 1, .int .i64 4, .int .i64 0, .int .i64 0, .string ⟨#[]⟩, .int .i64 0, .slice (some ⟨b, o, none⟩) n cap] 28 (0, 0))) 26 6; simpa using h)
    have HCW := Lib.hid (fun j u (hj : cs[j]? = some u) => cell_go (HCC.out j u hj) hw1)
    have HW1 := Lib.hid hw1
    have HB0 := Lib.hid ((Blk.new w 28 #[.int .i64 1, .int .i64 4, .int .i64 0, .int .i64 0, .string ⟨#[]⟩, .int .i64 0, .slice (some ⟨b, o, none⟩) n cap]).alloc (.cells #[] 26 (0, 0)))
    clear hw1
    go_enter Tryz.func7, Tryz.ntmps7
    go_wp2_with (first
      | (at_builtin; refine wpList_append_own _ rfl _ _ 24 rfl (w.heap.size + 1) 26 i0 _ 6 72 Tryz.underlying24 hi hz0 hz1 hz2 rfl (by decide) _ 0 [] rfl HOE.out ⟨b, o, none⟩ k cap cs rfl HCL.out (fun j u hj => by rw [add_none']; exact HCW.out j u hj) HRC.out.one (by unfold maxLen; omega) (by omega) (by simp) ?_; intro v' w2 hown1 hg1 _; rw [Nat.zero_add, List.nil_append] at hown1; obtain ⟨Av1, cv1, rfl⟩ := own_shp hown1; have HO1 := Lib.hid hown1; have HG1 := Lib.hid (show Below (w.heap.size + 1) (w.alloc (.cells #[.int .i64 1, .int .i64 4, .int .i64 0, .int .i64 0, .string ⟨#[]⟩, .int .i64 0, .slice (some ⟨b, o, none⟩) n cap] 28 (0, 0))) w2 from (Below.alloc (Below.refl _ _) (by simp) _).grown hg1 (by simp) (fun j hj => by cases hj; exact Nat.le_refl _)); clear hown1 hg1)
      | (at_builtin; refine app_one _ rfl _ _ 24 26 rfl _ 6 72 Tryz.underlying24 infoNode rfl (by decide) [.int .i64 4, .int .i64 0, .int .i64 0, .string ⟨#[]⟩, .int .i64 0, .slice (some ⟨b, o + k * 6, none⟩) (n - k) (cap - k)] rfl (by intro u hu; simp only [List.mem_cons, List.not_mem_nil, or_false] at hu; rcases hu with rfl | rfl | rfl | rfl | rfl | rfl <;> rfl) (w.heap.size + 1) _ _ _ rfl rfl HO1.out (by omega) (by omega) (by have := HG1.out.size; simpa using this) ?_; intro v' w3 hown2 hg2; obtain ⟨Av2, cv2, rfl⟩ := own_shp hown2; have HO2 := Lib.hid hown2; have HG2 := Lib.hid (HG1.out.trans hg2.below); clear hown2 hg2; have HBF := Lib.hid (((Blk.new w 28 #[.int .i64 1, .int .i64 4, .int .i64 0, .int .i64 0, .string ⟨#[]⟩, .int .i64 0, .slice (some ⟨b, o, none⟩) n cap]).below HG2.out (by omega)).alloc (.cells #[.int .i64 1, .int .i64 4, .int .i64 0, .int .i64 0, .string ⟨#[]⟩, .int .i64 0, .slice Av2 (k + 1) cv2] 28 (0, 0))); have c0 := HBF.out.cell 0; have c1 := HBF.out.cell 1; have c2 := HBF.out.cell 2; have c3 := HBF.out.cell 3; have c4 := HBF.out.cell 4; have c5 := HBF.out.cell 5; have c6 := HBF.out.cell 6))
    have ht3 : Below w.heap.size w w3 := (alloc_b w (.cells #[.int .i64 1, .int .i64 4, .int .i64 0, .int .i64 0, .string ⟨#[]⟩, .int .i64 0, .slice (some ⟨b, o, none⟩) n cap] 28 (0, 0))).trans (HG2.out.mono (by omega))
    have hgl : (grp 4 k f).len = k + 1 := grp_len 4 (by rw [HN.out]; exact hk6)
    have hrc3 : RowC w3 w.heap.size (grp 4 k f) (cs ++ [.int .i64 4, .int .i64 0, .int .i64 0, .string ⟨#[]⟩, .int .i64 0, .slice (some ⟨b, o + k * 6, none⟩) (n - k) (cap - k)]) := (RowC.app _ _ _ _ HRC.out (show RowC w w.heap.size (.cons 4 0 0 [] 0 (f.drop k) .nil) [.int .i64 4, .int .i64 0, .int .i64 0, .string ⟨#[]⟩, .int .i64 0, .slice (some ⟨b, o + k * 6, none⟩) (n - k) (cap - k)] from ⟨_, [], rfl, by simp, HSD.out, rfl⟩)).below (Nat.le_refl _) ht3 _ _
    have hs3 : SlAt w3 w3.heap.size (.slice Av2 (k + 1) cv2) (grp 4 k f) := hrc3.own (by rw [hgl]; exact HO2.out) (by rw [hgl]; omega) ht3.size
    have HBG := Lib.hid (Blk.new w3 28 #[.int .i64 1, .int .i64 4, .int .i64 0, .int .i64 0, .string ⟨#[]⟩, .int .i64 0, .slice Av2 (k + 1) cv2])
    have g0 := HBG.out.cell 0
    have g1 := HBG.out.cell 1
    have g2 := HBG.out.cell 2
    have g3 := HBG.out.cell 3
    have g4 := HBG.out.cell 4
    have g5 := HBG.out.cell 5
    have g6 := HBG.out.cell 6
    have HT := Lib.hid (below_alloc ht3 (.cells #[.int .i64 1, .int .i64 4, .int .i64 0, .int .i64 0, .string ⟨#[]⟩, .int .i64 0, .slice Av2 (k + 1) cv2] 28 (0, 0)))
    have HSG := Lib.hid ((hs3.below (Nat.le_refl _) (alloc_b w3 (.cells #[.int .i64 1, .int .i64 4, .int .i64 0, .int .i64 0, .string ⟨#[]⟩, .int .i64 0, .slice Av2 (k + 1) cv2] 28 (0, 0)))).up (show w3.heap.size ≤ (w3.alloc (.cells #[.int .i64 1, .int .i64 4, .int .i64 0, .int .i64 0, .string ⟨#[]⟩, .int .i64 0, .slice Av2 (k + 1) cv2] 28 (0, 0))).heap.size by simp))
    have HSF := Lib.hid (HSN.out.below (Nat.le_refl _) HT.out)
    have HAI := Lib.hid (HA.out.below HT.out)
    have HEI := Lib.hid (HE.out.mono HT.out)
    have hz := HT.out.size
    clear hgl hrc3 hs3 ht3
    by_cases hf : checkC 2 1 4 0 0 [] 0 f = 0
    · have HCF := Lib.hid hf
      by_cases hg : checkC 2 1 4 0 0 [] 0 (grp 4 k f) = 0
      · have HCG := Lib.hid hg
        obtain ⟨X, hX⟩ : ∃ X, evalU 1 4 0 0 [] 0 f st = X := ⟨_, rfl⟩
        have HEG := Lib.hid ((grp_eval (.inl rfl) k f st hf hg).trans hX)
        have HEF := Lib.hid hX
        obtain ⟨xb, xe⟩ := X
        clear hf hg hX
        go_wp2_with (first | (go_at_call 15; (with_reducible refine (checkR 2 1 4 0 0 [] 0 _ f _ (by simp) (HSF.out.up hz)).mono ?_); rw [HCF.out]; rintro e wx ⟨rfl, hbx⟩; have HBF := Lib.hid (HBF.out.go hbx); have HBG := Lib.hid (HBG.out.go hbx); have HT := Lib.hid (below_trans HT.out hbx); have HSF := Lib.hid (HSF.out.below hz hbx); have HSG := Lib.hid ((HSG.out.below (Nat.le_refl _) hbx).up hbx.size); have HAI := Lib.hid (HAI.out.below hbx); have HEI := Lib.hid (HEI.out.mono hbx); have hz := HT.out.size; clear c0 c1 c2 c3 c4 c5 c6 g0 g1 g2 g3 g4 g5 g6; have c0 := HBF.out.cell 0; have c1 := HBF.out.cell 1; have c2 := HBF.out.cell 2; have c3 := HBF.out.cell 3; have c4 := HBF.out.cell 4; have c5 := HBF.out.cell 5; have c6 := HBF.out.cell 6; have g0 := HBG.out.cell 0; have g1 := HBG.out.cell 1; have g2 := HBG.out.cell 2; have g3 := HBG.out.cell 3; have g4 := HBG.out.cell 4; have g5 := HBG.out.cell 5; have g6 := HBG.out.cell 6; clear hbx) | (go_at_call 15; (with_reducible refine (checkR 2 1 4 0 0 [] 0 _ (grp 4 k f) _ (by simp) HSG.out).mono ?_); rw [HCG.out]; rintro e wx ⟨rfl, hbx⟩; have HBF := Lib.hid (HBF.out.go hbx); have HBG := Lib.hid (HBG.out.go hbx); have HT := Lib.hid (below_trans HT.out hbx); have HSF := Lib.hid (HSF.out.below hz hbx); have HSG := Lib.hid ((HSG.out.below (Nat.le_refl _) hbx).up hbx.size); have HAI := Lib.hid (HAI.out.below hbx); have HEI := Lib.hid (HEI.out.mono hbx); have hz := HT.out.size; clear c0 c1 c2 c3 c4 c5 c6 g0 g1 g2 g3 g4 g5 g6; have c0 := HBF.out.cell 0; have c1 := HBF.out.cell 1; have c2 := HBF.out.cell 2; have c3 := HBF.out.cell 3; have c4 := HBF.out.cell 4; have c5 := HBF.out.cell 5; have c6 := HBF.out.cell 6; have g0 := HBG.out.cell 0; have g1 := HBG.out.cell 1; have g2 := HBG.out.cell 2; have g3 := HBG.out.cell 3; have g4 := HBG.out.cell 4; have g5 := HBG.out.cell 5; have g6 := HBG.out.cell 6; clear hbx) | (go_at_call 23; (with_reducible refine (evalG (l := []) (kids := f) w.heap.size _ st A2 ca2 hz HSF.out (by simp) hst HAI.out).mono ?_); rw [HEF.out]; rintro e wx ⟨rfl, hbx⟩; have HBF := Lib.hid (HBF.out.go hbx); have HBG := Lib.hid (HBG.out.go hbx); have HT := Lib.hid (below_trans HT.out hbx); have HSF := Lib.hid (HSF.out.below hz hbx); have HSG := Lib.hid ((HSG.out.below (Nat.le_refl _) hbx).up hbx.size); have HAI := Lib.hid (HAI.out.below hbx); have HEI := Lib.hid (HEI.out.mono hbx); have hz := HT.out.size; clear c0 c1 c2 c3 c4 c5 c6 g0 g1 g2 g3 g4 g5 g6; have c0 := HBF.out.cell 0; have c1 := HBF.out.cell 1; have c2 := HBF.out.cell 2; have c3 := HBF.out.cell 3; have c4 := HBF.out.cell 4; have c5 := HBF.out.cell 5; have c6 := HBF.out.cell 6; have g0 := HBG.out.cell 0; have g1 := HBG.out.cell 1; have g2 := HBG.out.cell 2; have g3 := HBG.out.cell 3; have g4 := HBG.out.cell 4; have g5 := HBG.out.cell 5; have g6 := HBG.out.cell 6; clear hbx) | (go_at_call 23; (with_reducible refine (evalG (l := []) (kids := grp 4 k f) _ _ st A2 ca2 (Nat.le_refl _) HSG.out (by simp) hst HAI.out).mono ?_); rw [HEG.out]; rintro e wx ⟨rfl, hbx⟩; have HBF := Lib.hid (HBF.out.go hbx); have HBG := Lib.hid (HBG.out.go hbx); have HT := Lib.hid (below_trans HT.out hbx); have HSF := Lib.hid (HSF.out.below hz hbx); have HSG := Lib.hid ((HSG.out.below (Nat.le_refl _) hbx).up hbx.size); have HAI := Lib.hid (HAI.out.below hbx); have HEI := Lib.hid (HEI.out.mono hbx); have hz := HT.out.size; clear c0 c1 c2 c3 c4 c5 c6 g0 g1 g2 g3 g4 g5 g6; have c0 := HBF.out.cell 0; have c1 := HBF.out.cell 1; have c2 := HBF.out.cell 2; have c3 := HBF.out.cell 3; have c4 := HBF.out.cell 4; have c5 := HBF.out.cell 5; have c6 := HBF.out.cell 6; have g0 := HBG.out.cell 0; have g1 := HBG.out.cell 1; have g2 := HBG.out.cell 2; have g3 := HBG.out.cell 3; have g4 := HBG.out.cell 4; have g5 := HBG.out.cell 5; have g6 := HBG.out.cell 6; clear hbx) | (go_at_call 27; (with_reducible refine (evalR (l := []) (kids := f) w.heap.size _ st A2 ca2 hz HSF.out (by simp) hst HAI.out).mono ?_); rw [HEF.out]; rintro e wx ⟨rfl, hbx⟩; have HBF := Lib.hid (HBF.out.go hbx); have HBG := Lib.hid (HBG.out.go hbx); have HT := Lib.hid (below_trans HT.out hbx); have HSF := Lib.hid (HSF.out.below hz hbx); have HSG := Lib.hid ((HSG.out.below (Nat.le_refl _) hbx).up hbx.size); have HAI := Lib.hid (HAI.out.below hbx); have HEI := Lib.hid (HEI.out.mono hbx); have hz := HT.out.size; clear c0 c1 c2 c3 c4 c5 c6 g0 g1 g2 g3 g4 g5 g6; have c0 := HBF.out.cell 0; have c1 := HBF.out.cell 1; have c2 := HBF.out.cell 2; have c3 := HBF.out.cell 3; have c4 := HBF.out.cell 4; have c5 := HBF.out.cell 5; have c6 := HBF.out.cell 6; have g0 := HBG.out.cell 0; have g1 := HBG.out.cell 1; have g2 := HBG.out.cell 2; have g3 := HBG.out.cell 3; have g4 := HBG.out.cell 4; have g5 := HBG.out.cell 5; have g6 := HBG.out.cell 6; clear hbx) | (go_at_call 16; refine (awakeP HEI.out).mono ?_; rintro e wy ⟨rfl, hby⟩))
        go_ret
        exact ⟨by simp, below_trans HT.out hby⟩
      · obtain ⟨E, hEE⟩ : ∃ E, checkC 2 1 4 0 0 [] 0 (grp 4 k f) = E := ⟨_, rfl⟩
        rw [hEE] at hg
        have HCG := Lib.hid hEE
        have e2 : (E != 0) = true := by simpa using hg
        clear hf hg hEE
        go_wp2_with (first | (go_at_call 15; (with_reducible refine (checkR 2 1 4 0 0 [] 0 _ f _ (by simp) (HSF.out.up hz)).mono ?_); rw [HCF.out]; rintro e wx ⟨rfl, hbx⟩; have HBF := Lib.hid (HBF.out.go hbx); have HBG := Lib.hid (HBG.out.go hbx); have HT := Lib.hid (below_trans HT.out hbx); have HSF := Lib.hid (HSF.out.below hz hbx); have HSG := Lib.hid ((HSG.out.below (Nat.le_refl _) hbx).up hbx.size); have HAI := Lib.hid (HAI.out.below hbx); have HEI := Lib.hid (HEI.out.mono hbx); have hz := HT.out.size; clear c0 c1 c2 c3 c4 c5 c6 g0 g1 g2 g3 g4 g5 g6; have c0 := HBF.out.cell 0; have c1 := HBF.out.cell 1; have c2 := HBF.out.cell 2; have c3 := HBF.out.cell 3; have c4 := HBF.out.cell 4; have c5 := HBF.out.cell 5; have c6 := HBF.out.cell 6; have g0 := HBG.out.cell 0; have g1 := HBG.out.cell 1; have g2 := HBG.out.cell 2; have g3 := HBG.out.cell 3; have g4 := HBG.out.cell 4; have g5 := HBG.out.cell 5; have g6 := HBG.out.cell 6; clear hbx) | (go_at_call 15; (with_reducible refine (checkR 2 1 4 0 0 [] 0 _ (grp 4 k f) _ (by simp) HSG.out).mono ?_); rw [HCG.out]; rintro e wx ⟨rfl, hbx⟩; have HBF := Lib.hid (HBF.out.go hbx); have HBG := Lib.hid (HBG.out.go hbx); have HT := Lib.hid (below_trans HT.out hbx); have HSF := Lib.hid (HSF.out.below hz hbx); have HSG := Lib.hid ((HSG.out.below (Nat.le_refl _) hbx).up hbx.size); have HAI := Lib.hid (HAI.out.below hbx); have HEI := Lib.hid (HEI.out.mono hbx); have hz := HT.out.size; clear c0 c1 c2 c3 c4 c5 c6 g0 g1 g2 g3 g4 g5 g6; have c0 := HBF.out.cell 0; have c1 := HBF.out.cell 1; have c2 := HBF.out.cell 2; have c3 := HBF.out.cell 3; have c4 := HBF.out.cell 4; have c5 := HBF.out.cell 5; have c6 := HBF.out.cell 6; have g0 := HBG.out.cell 0; have g1 := HBG.out.cell 1; have g2 := HBG.out.cell 2; have g3 := HBG.out.cell 3; have g4 := HBG.out.cell 4; have g5 := HBG.out.cell 5; have g6 := HBG.out.cell 6; clear hbx) | (go_at_call 16; refine (awakeP HEI.out).mono ?_; rintro e wy ⟨rfl, hby⟩))
        go_ret
        exact ⟨rfl, below_trans HT.out hby⟩
    · obtain ⟨E, hEE⟩ : ∃ E, checkC 2 1 4 0 0 [] 0 f = E := ⟨_, rfl⟩
      rw [hEE] at hf
      have HCF := Lib.hid hEE
      have e2 : (E != 0) = true := by simpa using hf
      clear hf hEE
      go_wp2_with (first | (go_at_call 15; (with_reducible refine (checkR 2 1 4 0 0 [] 0 _ f _ (by simp) (HSF.out.up hz)).mono ?_); rw [HCF.out]; rintro e wx ⟨rfl, hbx⟩; have HBF := Lib.hid (HBF.out.go hbx); have HBG := Lib.hid (HBG.out.go hbx); have HT := Lib.hid (below_trans HT.out hbx); have HSF := Lib.hid (HSF.out.below hz hbx); have HSG := Lib.hid ((HSG.out.below (Nat.le_refl _) hbx).up hbx.size); have HAI := Lib.hid (HAI.out.below hbx); have HEI := Lib.hid (HEI.out.mono hbx); have hz := HT.out.size; clear c0 c1 c2 c3 c4 c5 c6 g0 g1 g2 g3 g4 g5 g6; have c0 := HBF.out.cell 0; have c1 := HBF.out.cell 1; have c2 := HBF.out.cell 2; have c3 := HBF.out.cell 3; have c4 := HBF.out.cell 4; have c5 := HBF.out.cell 5; have c6 := HBF.out.cell 6; have g0 := HBG.out.cell 0; have g1 := HBG.out.cell 1; have g2 := HBG.out.cell 2; have g3 := HBG.out.cell 3; have g4 := HBG.out.cell 4; have g5 := HBG.out.cell 5; have g6 := HBG.out.cell 6; clear hbx) | (go_at_call 16; refine (awakeP HEI.out).mono ?_; rintro e wy ⟨rfl, hby⟩))
      go_ret
      exact ⟨rfl, below_trans HT.out hby⟩
theorem walkGroups (kv : Value) (f : Fr) (and : Bool) (cut : Int) (A2 : Option Addr) (ca2 : Nat) (st : List Int) (w : World) (hs : SlAt w w.heap.size kv f) (hst : st.length ≤ 9223372036854775806) (hA : IntsAt w A2 st) (hE : Env w) :
    Calls Tryz.prog 7 #[kv, .bool and, .int .i64 cut, .slice A2 st.length ca2] w fun e w' => e = .returned (.bool true) ∧ Below w.heap.size w w' := by
  obtain ⟨A, cap, rfl, s'⟩ := hs
  have hs2 : SlAt w w.heap.size (.slice A f.len cap) f := ⟨A, cap, rfl, s'⟩
  by_cases hn : f.len < 3
  · exact groups_few A cap f and cut A2 ca2 st hs2 hE hn
  · exact groups_go A cap f and cut A2 ca2 st hs2 hst hA hE (by omega)
end
end Go.Proofs.YtmlnibjnacfanaaGreatDoor
