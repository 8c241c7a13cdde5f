/- The reference's Do at operation 1. The reference's Do at operation 2. The reference's Do at operation 3. The reference's Do at operation 4. The reference's Do at operation 5. The reference's Do. -/
import Derived.Test.YtlpcahkchmlghaaDoorKj
import Derived.StillTailTactics
namespace Go.Proofs.YtlpcahkchmlghaaDoor
open Go.RowKit

set_option maxHeartbeats 4000000 in
set_option maxRecDepth 100000 in
theorem doR_1 {op d a imm : Int} {loc : List UInt8} (h : insB op d a 0 imm ⟨loc.toArray⟩ ⟨#[]⟩ 0 = true) (v : Value) (at_ : Int) (vs : List (List UInt8 × Int)) (w : World) (hv : ValsAt w v vs) (ht : threadB 15 at_ vs = true) (hop : op = 1) :
    Calls Tryd.prog 27 #[insV op d a 0 imm ⟨loc.toArray⟩ ⟨#[]⟩ 0, locV v at_] w (DoAny (doR op d a imm loc vs) (at_ + 1) w) := by
  subst hop
  obtain ⟨i0, hi, hz0, hz1, hz2⟩ := info_parts valInfo
  have hs := insB_loc h
  have H := Lib.hid h
  have HT := Lib.hid ht
  have hth := ht
  unfold threadB at hth
  simp only [Bool.and_eq_true, decide_eq_true_eq] at hth
  obtain ⟨⟨⟨ht1, ht2⟩, ht3⟩, ht4⟩ := hth
  have HL := Lib.hid ht3
  have hvA := hv
  obtain ⟨A, cap0, rfl, ha1, ha2, ha3, ha4⟩ := hvA
  obtain ⟨b, o, rfl, hbs, hcell⟩ := ha4 (by omega)
  rw [ht3] at ha1 hv ⊢
  have HC := Lib.hid (valsCells_cell hcell)
  have HO := Lib.hid (valsCells_one vs)
  have HCL := Lib.hid (valsCells_len vs)
  clear h ht ht3 ht4 ha3 ha4 hcell
  go_enter Tryd.func27, Tryd.ntmps27
  go_wp2_with fail
  refine (checkR_l2 H.out _ (by omega)).mono ?_
  rintro e w1 ⟨rfl, hb1⟩
  have t0 := doW_cell hb1 (b' := w.heap.size + 1) (o := 0) (u := .slice (some ⟨b, o, none⟩) 15 cap0) (by simp [go_sem])
  have t1 := doW_cell hb1 (b' := w.heap.size + 1) (o := 1) (u := .int .i64 at_) (by simp [go_sem])
  have hv1 := hv.mono (doW_below hb1)
  go_wp2_with fail
  refine (thread_as HT.out hv1).mono ?_
  rintro e w2 ⟨rfl, hb2⟩
  have hb12 := below_trans hb1 hb2
  have t0' := cell_go t0 hb2
  have t1' := cell_go t1 hb2
  have zb := Nat.lt_of_lt_of_le hbs (doW_below hb12).size
  have zt : w.heap.size + 1 < w2.heap.size := by have := hb12.size; simp at this; omega
  have HB := Lib.hid hb12
  have b6 : IntKind.i64.wrap (at_ + 1) = at_ + 1 := IntWalk.i64_in _ (by omega)
  clear hb1 hb2 t0 t1 hv1 hv hb12
  go_wp2_with (at_builtin; refine wpList_append_own _ rfl _ _ 45 rfl (w2.heap.size + 1) 55 i0 (.agg #[.string ⟨#[]⟩, .int .i64 0]) 2 24 Tryd.underlying45 hi hz0 hz1 hz2 rfl (by decide) _ 0 [] rfl (World.ownsRow_nil _ _ _ _) ⟨b, o, none⟩ vs.length cap0 (valsCells vs) (by rw [HL.out]; rfl) HCL.out ?c1 HO.out ?c3 ?c4 ?c5 ?_)
  case c1 => exact fun j u hu => by rw [World.cell?_alloc_lt w2 _ _ (by rw [add_blk]; exact zb), (doW_below HB.out).cell (by rw [add_blk]; exact hbs)]; exact HC.out j u hu
  case c3 => rw [HL.out]; unfold maxLen; omega
  case c4 => rw [HL.out]; omega
  case c5 => simp
  intro v1 w3 hown hgr _
  obtain ⟨g, cap, rfl, hg1, hg2, hp1, hp2, hown, hb3⟩ := own_nil HL.out hown hgr
  clear hgr
  have hBw := below_trans (below_trans HB.out (alloc_b _ _)) hb3
  have zz3 : w2.heap.size + 1 ≤ w3.heap.size := by simpa using hb3.size
  have zz2 : w.heap.size + 4 ≤ w2.heap.size := by simpa using HB.out.size
  have o0 := cell_go (cell_new w2 #[.slice none 0 0, .int .i64 (at_ + 1)] 47 (0, 0) 0) hb3
  have o1 := cell_go (cell_new w2 #[.slice none 0 0, .int .i64 (at_ + 1)] 47 (0, 0) 1) hb3
  have of0 : ∀ j, w3.frozen? ⟨w2.heap.size, j, none⟩ = false := fun j => by rw [hb3.frozen (p := ⟨w2.heap.size, j, none⟩) (by simp)]; simp [go_sem]
  have s0 := cell_go (cell_al t0' _) hb3
  have s1 := cell_go (cell_al t1' _) hb3
  obtain ⟨r0, r1, a0, a1, a2, a3, a4⟩ := doW_res hBw
  have i0 := doW_cell hBw (b' := w.heap.size) (o := 0) (u := .int .i64 1) (by simp [go_sem])
  have i1 := doW_cell hBw (b' := w.heap.size) (o := 1) (u := .int .i64 d) (by simp [go_sem])
  have i2 := doW_cell hBw (b' := w.heap.size) (o := 2) (u := .int .i64 a) (by simp [go_sem])
  have i4 := doW_cell hBw (b' := w.heap.size) (o := 4) (u := .int .i64 imm) (by simp [go_sem])
  have i5 := doW_cell hBw (b' := w.heap.size) (o := 5) (u := .string ⟨loc.toArray⟩) (by simp [go_sem])
  have hf1 := fun o => (doW_fr hBw o).1
  have hf2 := fun o => (doW_fr hBw o).2
  have hBx := doW_below hBw
  have HOwn := Lib.hid (hown.lower (base' := w.heap.size + 4) (by omega))
  have y0 : w.heap.size < w3.heap.size := by omega
  have y1 : w.heap.size + 1 + 1 < w3.heap.size := by omega
  have y2 : w.heap.size + 1 + 1 + 1 < w3.heap.size := by omega
  have y3 : w2.heap.size < w3.heap.size := by omega
  have y4 : w.heap.size + 1 < w3.heap.size := by omega
  clear hown hb3 hBw HB t0' t1' hi hz0 hz1 hz2 b6
  have HR := Lib.hid (show doR 1 d a imm loc vs = some (vs, actV 3 ⟨loc.toArray⟩ imm 0 0) from rfl)
  go_wp2_with fail
  go_region
  all_goals
    go_wp2
    refine bodyPost_ret (v := .tuple #[locV (.slice (some ⟨g, 0, none⟩) 15 cap) (at_ + 1), actV 3 ⟨loc.toArray⟩ imm 0 0, .int .i64 0]) (by simp [results, Tryd.results27, go_sem, *]) rfl ?_
    rw [HR.out]
    refine ⟨_, rfl, RegsOwn.lower (base := w.heap.size + 4) ?_ (by omega), ?_⟩
    · repeat (first | with_reducible exact HOwn.out | with_reducible refine RegsOwn.dr ?_ | with_reducible refine RegsOwn.al ?_ _ | with_reducible refine set_regs ?_ _ _ | with_reducible refine RegsOwn.setOther ?_ (by simp [Value.ownBlock] <;> omega) _)
    · repeat (first | with_reducible exact hBx | with_reducible refine Below.drew ?_ | with_reducible refine below_alloc ?_ _ | with_reducible refine Below.setCell ?_ (by simp <;> omega) _)

set_option maxHeartbeats 4000000 in
set_option maxRecDepth 100000 in
theorem doR_2 {op d a imm : Int} {loc : List UInt8} (h : insB op d a 0 imm ⟨loc.toArray⟩ ⟨#[]⟩ 0 = true) (v : Value) (at_ : Int) (vs : List (List UInt8 × Int)) (w : World) (hv : ValsAt w v vs) (ht : threadB 15 at_ vs = true) (hop : op = 2) :
    Calls Tryd.prog 27 #[insV op d a 0 imm ⟨loc.toArray⟩ ⟨#[]⟩ 0, locV v at_] w (DoAny (doR op d a imm loc vs) (at_ + 1) w) := by
  subst hop
  have h22 := (insB_2 h).2.1
  obtain ⟨k2, hk2, rfl⟩ := regB_nat h22
  clear h22
  obtain ⟨i0, hi, hz0, hz1, hz2⟩ := info_parts valInfo
  have hs := insB_loc h
  have H := Lib.hid h
  have HT := Lib.hid ht
  have hth := ht
  unfold threadB at hth
  simp only [Bool.and_eq_true, decide_eq_true_eq] at hth
  obtain ⟨⟨⟨ht1, ht2⟩, ht3⟩, ht4⟩ := hth
  have HL := Lib.hid ht3
  have hvA := hv
  obtain ⟨A, cap0, rfl, ha1, ha2, ha3, ha4⟩ := hvA
  obtain ⟨b, o, rfl, hbs, hcell⟩ := ha4 (by omega)
  rw [ht3] at ha1 hv ⊢
  have HC := Lib.hid (valsCells_cell hcell)
  have HQ := Lib.hid hcell
  have HO := Lib.hid (valsCells_one vs)
  have HCL := Lib.hid (valsCells_len vs)
  clear h ht ht3 ht4 ha3 ha4 hcell
  go_enter Tryd.func27, Tryd.ntmps27
  go_wp2_with fail
  refine (checkR_l2 H.out _ (by omega)).mono ?_
  rintro e w1 ⟨rfl, hb1⟩
  have t0 := doW_cell hb1 (b' := w.heap.size + 1) (o := 0) (u := .slice (some ⟨b, o, none⟩) 15 cap0) (by simp [go_sem])
  have t1 := doW_cell hb1 (b' := w.heap.size + 1) (o := 1) (u := .int .i64 at_) (by simp [go_sem])
  have hv1 := hv.mono (doW_below hb1)
  go_wp2_with fail
  refine (thread_as HT.out hv1).mono ?_
  rintro e w2 ⟨rfl, hb2⟩
  have hb12 := below_trans hb1 hb2
  have t0' := cell_go t0 hb2
  have t1' := cell_go t1 hb2
  have zb := Nat.lt_of_lt_of_le hbs (doW_below hb12).size
  have zt : w.heap.size + 1 < w2.heap.size := by have := hb12.size; simp at this; omega
  have HB := Lib.hid hb12
  have b6 : IntKind.i64.wrap (at_ + 1) = at_ + 1 := IntWalk.i64_in _ (by omega)
  clear hb1 hb2 t0 t1 hv1 hv hb12
  go_wp2_with (at_builtin; refine wpList_append_own _ rfl _ _ 45 rfl (w2.heap.size + 1) 55 i0 (.agg #[.string ⟨#[]⟩, .int .i64 0]) 2 24 Tryd.underlying45 hi hz0 hz1 hz2 rfl (by decide) _ 0 [] rfl (World.ownsRow_nil _ _ _ _) ⟨b, o, none⟩ vs.length cap0 (valsCells vs) (by rw [HL.out]; rfl) HCL.out ?c1 HO.out ?c3 ?c4 ?c5 ?_)
  case c1 => exact fun j u hu => by rw [World.cell?_alloc_lt w2 _ _ (by rw [add_blk]; exact zb), (doW_below HB.out).cell (by rw [add_blk]; exact hbs)]; exact HC.out j u hu
  case c3 => rw [HL.out]; unfold maxLen; omega
  case c4 => rw [HL.out]; omega
  case c5 => simp
  intro v1 w3 hown hgr _
  obtain ⟨g, cap, rfl, hg1, hg2, hp1, hp2, hown, hb3⟩ := own_nil HL.out hown hgr
  clear hgr
  have hBw := below_trans (below_trans HB.out (alloc_b _ _)) hb3
  have zz3 : w2.heap.size + 1 ≤ w3.heap.size := by simpa using hb3.size
  have zz2 : w.heap.size + 4 ≤ w2.heap.size := by simpa using HB.out.size
  have o0 := cell_go (cell_new w2 #[.slice none 0 0, .int .i64 (at_ + 1)] 47 (0, 0) 0) hb3
  have o1 := cell_go (cell_new w2 #[.slice none 0 0, .int .i64 (at_ + 1)] 47 (0, 0) 1) hb3
  have of0 : ∀ j, w3.frozen? ⟨w2.heap.size, j, none⟩ = false := fun j => by rw [hb3.frozen (p := ⟨w2.heap.size, j, none⟩) (by simp)]; simp [go_sem]
  have s0 := cell_go (cell_al t0' _) hb3
  have s1 := cell_go (cell_al t1' _) hb3
  obtain ⟨r0, r1, a0, a1, a2, a3, a4⟩ := doW_res hBw
  have i0 := doW_cell hBw (b' := w.heap.size) (o := 0) (u := .int .i64 2) (by simp [go_sem])
  have i1 := doW_cell hBw (b' := w.heap.size) (o := 1) (u := .int .i64 d) (by simp [go_sem])
  have i2 := doW_cell hBw (b' := w.heap.size) (o := 2) (u := .int .i64 (k2 : Int)) (by simp [go_sem])
  have i4 := doW_cell hBw (b' := w.heap.size) (o := 4) (u := .int .i64 imm) (by simp [go_sem])
  have i5 := doW_cell hBw (b' := w.heap.size) (o := 5) (u := .string ⟨loc.toArray⟩) (by simp [go_sem])
  have hf1 := fun o => (doW_fr hBw o).1
  have hf2 := fun o => (doW_fr hBw o).2
  have hBx := doW_below hBw
  have HOwn := Lib.hid (hown.lower (base' := w.heap.size + 4) (by omega))
  have y0 : w.heap.size < w3.heap.size := by omega
  have y1 : w.heap.size + 1 + 1 < w3.heap.size := by omega
  have y2 : w.heap.size + 1 + 1 + 1 < w3.heap.size := by omega
  have y3 : w2.heap.size < w3.heap.size := by omega
  have y4 : w.heap.size + 1 < w3.heap.size := by omega
  clear hown hb3 hBw HB t0' t1' hi hz0 hz1 hz2 b6
  have hk2v : k2 < vs.length := by rw [HL.out]; exact hk2
  have hgd : vs.getD ((k2 : Int)).toNat ([], 0) = vs[k2]'hk2v := by rw [Int.toNat_natCast]; simp [List.getD_eq_getElem?_getD, List.getElem?_eq_getElem hk2v]
  obtain ⟨L, hLx⟩ : ∃ L, vs[k2]'hk2v = L := ⟨_, rfl⟩
  obtain ⟨L, n⟩ := L
  have hgd2 := hgd.trans hLx
  have q := HQ.out k2 hk2v
  rw [hLx] at q
  have hk0 : (0 : Int) ≤ (k2 : Int) := by omega
  have hk1 : (k2 : Int) < 15 := by omega
  have q1 := cell_go q.1 hBx
  have q2 := cell_go q.2 hBx
  have zb3 : b < w3.heap.size := Nat.lt_of_lt_of_le hbs hBx.size
  clear hgd hLx q
  by_cases hLn : L = []
  · subst hLn
    have HR := Lib.hid (show doR 2 d k2 imm loc vs = some (vs, actV 3 ⟨loc.toArray⟩ n 0 0) by unfold doR; rw [hgd2]; rfl)
    clear hgd2
    go_wp2_with fail
    refine still_tail 10 (by kernel_rfl) (by kernel_rfl) ?_
    simp only [List.take_succ_cons, List.take_zero, List.drop_succ_cons, List.drop_zero]
    repeat still_step
    refine wpStill_nil ?_
    go_wp2_with fail
    go_region
    all_goals
      go_wp2
      refine bodyPost_ret (v := .tuple #[locV (.slice (some ⟨g, 0, none⟩) 15 cap) (at_ + 1), actV 3 ⟨loc.toArray⟩ n 0 0, .int .i64 0]) (by simp [results, Tryd.results27, go_sem, *]) rfl ?_
      rw [HR.out]
      refine ⟨_, rfl, RegsOwn.lower (base := w.heap.size + 4) ?_ (by omega), ?_⟩
      · repeat (first | with_reducible exact HOwn.out | with_reducible refine RegsOwn.dr ?_ | with_reducible refine RegsOwn.al ?_ _ | with_reducible refine set_regs ?_ _ _ | with_reducible refine RegsOwn.setOther ?_ (by simp [Value.ownBlock] <;> omega) _)
      · repeat (first | with_reducible exact hBx | with_reducible refine Below.drew ?_ | with_reducible refine below_alloc ?_ _ | with_reducible refine Below.setCell ?_ (by simp <;> omega) _)
  · have hLe : L.isEmpty = false := by simpa using hLn
    have HR := Lib.hid (show doR 2 d k2 imm loc vs = none by unfold doR; rw [if_neg (by decide), if_pos rfl, hgd2]; exact if_neg hLn)
    clear hgd2 hLn
    go_wp2
    refine bodyPost_ret (v := doErr 92) (by simp [results, Tryd.results27, go_sem, doErr, *]) rfl ?_
    rw [HR.out]
    refine ⟨rfl, ?_⟩
    repeat (first | with_reducible exact hBx | with_reducible refine Below.drew ?_ | with_reducible refine below_alloc ?_ _ | with_reducible refine Below.setCell ?_ (by simp <;> omega) _)

set_option maxHeartbeats 4000000 in
set_option maxRecDepth 100000 in
theorem doR_3 {op d a imm : Int} {loc : List UInt8} (h : insB op d a 0 imm ⟨loc.toArray⟩ ⟨#[]⟩ 0 = true) (v : Value) (at_ : Int) (vs : List (List UInt8 × Int)) (w : World) (hv : ValsAt w v vs) (ht : threadB 15 at_ vs = true) (hop : op = 3) :
    Calls Tryd.prog 27 #[insV op d a 0 imm ⟨loc.toArray⟩ ⟨#[]⟩ 0, locV v at_] w (DoAny (doR op d a imm loc vs) (at_ + 1) w) := by
  subst hop
  obtain ⟨i0, hi, hz0, hz1, hz2⟩ := info_parts valInfo
  have hs := insB_loc h
  have H := Lib.hid h
  have HT := Lib.hid ht
  have hth := ht
  unfold threadB at hth
  simp only [Bool.and_eq_true, decide_eq_true_eq] at hth
  obtain ⟨⟨⟨ht1, ht2⟩, ht3⟩, ht4⟩ := hth
  have HL := Lib.hid ht3
  have hvA := hv
  obtain ⟨A, cap0, rfl, ha1, ha2, ha3, ha4⟩ := hvA
  obtain ⟨b, o, rfl, hbs, hcell⟩ := ha4 (by omega)
  rw [ht3] at ha1 hv ⊢
  have HC := Lib.hid (valsCells_cell hcell)
  have HO := Lib.hid (valsCells_one vs)
  have HCL := Lib.hid (valsCells_len vs)
  clear h ht ht3 ht4 ha3 ha4 hcell
  go_enter Tryd.func27, Tryd.ntmps27
  go_wp2_with fail
  refine (checkR_l2 H.out _ (by omega)).mono ?_
  rintro e w1 ⟨rfl, hb1⟩
  have t0 := doW_cell hb1 (b' := w.heap.size + 1) (o := 0) (u := .slice (some ⟨b, o, none⟩) 15 cap0) (by simp [go_sem])
  have t1 := doW_cell hb1 (b' := w.heap.size + 1) (o := 1) (u := .int .i64 at_) (by simp [go_sem])
  have hv1 := hv.mono (doW_below hb1)
  go_wp2_with fail
  refine (thread_as HT.out hv1).mono ?_
  rintro e w2 ⟨rfl, hb2⟩
  have hb12 := below_trans hb1 hb2
  have t0' := cell_go t0 hb2
  have t1' := cell_go t1 hb2
  have zb := Nat.lt_of_lt_of_le hbs (doW_below hb12).size
  have zt : w.heap.size + 1 < w2.heap.size := by have := hb12.size; simp at this; omega
  have HB := Lib.hid hb12
  have b6 : IntKind.i64.wrap (at_ + 1) = at_ + 1 := IntWalk.i64_in _ (by omega)
  clear hb1 hb2 t0 t1 hv1 hv hb12
  go_wp2_with (at_builtin; refine wpList_append_own _ rfl _ _ 45 rfl (w2.heap.size + 1) 55 i0 (.agg #[.string ⟨#[]⟩, .int .i64 0]) 2 24 Tryd.underlying45 hi hz0 hz1 hz2 rfl (by decide) _ 0 [] rfl (World.ownsRow_nil _ _ _ _) ⟨b, o, none⟩ vs.length cap0 (valsCells vs) (by rw [HL.out]; rfl) HCL.out ?c1 HO.out ?c3 ?c4 ?c5 ?_)
  case c1 => exact fun j u hu => by rw [World.cell?_alloc_lt w2 _ _ (by rw [add_blk]; exact zb), (doW_below HB.out).cell (by rw [add_blk]; exact hbs)]; exact HC.out j u hu
  case c3 => rw [HL.out]; unfold maxLen; omega
  case c4 => rw [HL.out]; omega
  case c5 => simp
  intro v1 w3 hown hgr _
  obtain ⟨g, cap, rfl, hg1, hg2, hp1, hp2, hown, hb3⟩ := own_nil HL.out hown hgr
  clear hgr
  have hBw := below_trans (below_trans HB.out (alloc_b _ _)) hb3
  have zz3 : w2.heap.size + 1 ≤ w3.heap.size := by simpa using hb3.size
  have zz2 : w.heap.size + 4 ≤ w2.heap.size := by simpa using HB.out.size
  have o0 := cell_go (cell_new w2 #[.slice none 0 0, .int .i64 (at_ + 1)] 47 (0, 0) 0) hb3
  have o1 := cell_go (cell_new w2 #[.slice none 0 0, .int .i64 (at_ + 1)] 47 (0, 0) 1) hb3
  have of0 : ∀ j, w3.frozen? ⟨w2.heap.size, j, none⟩ = false := fun j => by rw [hb3.frozen (p := ⟨w2.heap.size, j, none⟩) (by simp)]; simp [go_sem]
  have s0 := cell_go (cell_al t0' _) hb3
  have s1 := cell_go (cell_al t1' _) hb3
  obtain ⟨r0, r1, a0, a1, a2, a3, a4⟩ := doW_res hBw
  have i0 := doW_cell hBw (b' := w.heap.size) (o := 0) (u := .int .i64 3) (by simp [go_sem])
  have i1 := doW_cell hBw (b' := w.heap.size) (o := 1) (u := .int .i64 d) (by simp [go_sem])
  have i2 := doW_cell hBw (b' := w.heap.size) (o := 2) (u := .int .i64 a) (by simp [go_sem])
  have i4 := doW_cell hBw (b' := w.heap.size) (o := 4) (u := .int .i64 imm) (by simp [go_sem])
  have i5 := doW_cell hBw (b' := w.heap.size) (o := 5) (u := .string ⟨loc.toArray⟩) (by simp [go_sem])
  have hf1 := fun o => (doW_fr hBw o).1
  have hf2 := fun o => (doW_fr hBw o).2
  have hBx := doW_below hBw
  have HOwn := Lib.hid (hown.lower (base' := w.heap.size + 4) (by omega))
  have y0 : w.heap.size < w3.heap.size := by omega
  have y1 : w.heap.size + 1 + 1 < w3.heap.size := by omega
  have y2 : w.heap.size + 1 + 1 + 1 < w3.heap.size := by omega
  have y3 : w2.heap.size < w3.heap.size := by omega
  have y4 : w.heap.size + 1 < w3.heap.size := by omega
  clear hown hb3 hBw HB t0' t1' hi hz0 hz1 hz2 b6
  have HR := Lib.hid (show doR 3 d a imm loc vs = some (vs, actV 2 ⟨loc.toArray⟩ 0 d 0) from rfl)
  go_wp2_with fail
  go_region
  all_goals
    go_wp2
    refine bodyPost_ret (v := .tuple #[locV (.slice (some ⟨g, 0, none⟩) 15 cap) (at_ + 1), actV 2 ⟨loc.toArray⟩ 0 d 0, .int .i64 0]) (by simp [results, Tryd.results27, go_sem, *]) rfl ?_
    rw [HR.out]
    refine ⟨_, rfl, RegsOwn.lower (base := w.heap.size + 4) ?_ (by omega), ?_⟩
    · repeat (first | with_reducible exact HOwn.out | with_reducible refine RegsOwn.dr ?_ | with_reducible refine RegsOwn.al ?_ _ | with_reducible refine set_regs ?_ _ _ | with_reducible refine RegsOwn.setOther ?_ (by simp [Value.ownBlock] <;> omega) _)
    · repeat (first | with_reducible exact hBx | with_reducible refine Below.drew ?_ | with_reducible refine below_alloc ?_ _ | with_reducible refine Below.setCell ?_ (by simp <;> omega) _)

set_option maxHeartbeats 4000000 in
set_option maxRecDepth 100000 in
theorem doR_4 {op d a imm : Int} {loc : List UInt8} (h : insB op d a 0 imm ⟨loc.toArray⟩ ⟨#[]⟩ 0 = true) (v : Value) (at_ : Int) (vs : List (List UInt8 × Int)) (w : World) (hv : ValsAt w v vs) (ht : threadB 15 at_ vs = true) (hop : op = 4) :
    Calls Tryd.prog 27 #[insV op d a 0 imm ⟨loc.toArray⟩ ⟨#[]⟩ 0, locV v at_] w (DoAny (doR op d a imm loc vs) (at_ + 1) w) := by
  subst hop
  have h42 := (insB_4 h).2.1
  obtain ⟨k4, hk4, rfl⟩ := regB_nat h42
  clear h42
  obtain ⟨i0, hi, hz0, hz1, hz2⟩ := info_parts valInfo
  have hs := insB_loc h
  have H := Lib.hid h
  have HT := Lib.hid ht
  have hth := ht
  unfold threadB at hth
  simp only [Bool.and_eq_true, decide_eq_true_eq] at hth
  obtain ⟨⟨⟨ht1, ht2⟩, ht3⟩, ht4⟩ := hth
  have HL := Lib.hid ht3
  have hvA := hv
  obtain ⟨A, cap0, rfl, ha1, ha2, ha3, ha4⟩ := hvA
  obtain ⟨b, o, rfl, hbs, hcell⟩ := ha4 (by omega)
  rw [ht3] at ha1 hv ⊢
  have HC := Lib.hid (valsCells_cell hcell)
  have HO := Lib.hid (valsCells_one vs)
  have HCL := Lib.hid (valsCells_len vs)
  clear h ht ht3 ht4 ha3 ha4 hcell
  go_enter Tryd.func27, Tryd.ntmps27
  go_wp2_with fail
  refine (checkR_l2 H.out _ (by omega)).mono ?_
  rintro e w1 ⟨rfl, hb1⟩
  have t0 := doW_cell hb1 (b' := w.heap.size + 1) (o := 0) (u := .slice (some ⟨b, o, none⟩) 15 cap0) (by simp [go_sem])
  have t1 := doW_cell hb1 (b' := w.heap.size + 1) (o := 1) (u := .int .i64 at_) (by simp [go_sem])
  have hv1 := hv.mono (doW_below hb1)
  go_wp2_with fail
  refine (thread_as HT.out hv1).mono ?_
  rintro e w2 ⟨rfl, hb2⟩
  have hb12 := below_trans hb1 hb2
  have t0' := cell_go t0 hb2
  have t1' := cell_go t1 hb2
  have zb := Nat.lt_of_lt_of_le hbs (doW_below hb12).size
  have zt : w.heap.size + 1 < w2.heap.size := by have := hb12.size; simp at this; omega
  have HB := Lib.hid hb12
  have b6 : IntKind.i64.wrap (at_ + 1) = at_ + 1 := IntWalk.i64_in _ (by omega)
  clear hb1 hb2 t0 t1 hv1 hv hb12
  go_wp2_with (at_builtin; refine wpList_append_own _ rfl _ _ 45 rfl (w2.heap.size + 1) 55 i0 (.agg #[.string ⟨#[]⟩, .int .i64 0]) 2 24 Tryd.underlying45 hi hz0 hz1 hz2 rfl (by decide) _ 0 [] rfl (World.ownsRow_nil _ _ _ _) ⟨b, o, none⟩ vs.length cap0 (valsCells vs) (by rw [HL.out]; rfl) HCL.out ?c1 HO.out ?c3 ?c4 ?c5 ?_)
  case c1 => exact fun j u hu => by rw [World.cell?_alloc_lt w2 _ _ (by rw [add_blk]; exact zb), (doW_below HB.out).cell (by rw [add_blk]; exact hbs)]; exact HC.out j u hu
  case c3 => rw [HL.out]; unfold maxLen; omega
  case c4 => rw [HL.out]; omega
  case c5 => simp
  intro v1 w3 hown hgr _
  obtain ⟨g, cap, rfl, hg1, hg2, hp1, hp2, hown, hb3⟩ := own_nil HL.out hown hgr
  clear hgr
  have hBw := below_trans (below_trans HB.out (alloc_b _ _)) hb3
  have zz3 : w2.heap.size + 1 ≤ w3.heap.size := by simpa using hb3.size
  have zz2 : w.heap.size + 4 ≤ w2.heap.size := by simpa using HB.out.size
  have o0 := cell_go (cell_new w2 #[.slice none 0 0, .int .i64 (at_ + 1)] 47 (0, 0) 0) hb3
  have o1 := cell_go (cell_new w2 #[.slice none 0 0, .int .i64 (at_ + 1)] 47 (0, 0) 1) hb3
  have of0 : ∀ j, w3.frozen? ⟨w2.heap.size, j, none⟩ = false := fun j => by rw [hb3.frozen (p := ⟨w2.heap.size, j, none⟩) (by simp)]; simp [go_sem]
  have s0 := cell_go (cell_al t0' _) hb3
  have s1 := cell_go (cell_al t1' _) hb3
  obtain ⟨r0, r1, a0, a1, a2, a3, a4⟩ := doW_res hBw
  have i0 := doW_cell hBw (b' := w.heap.size) (o := 0) (u := .int .i64 4) (by simp [go_sem])
  have i1 := doW_cell hBw (b' := w.heap.size) (o := 1) (u := .int .i64 (k4 : Int)) (by simp [go_sem])
  have i2 := doW_cell hBw (b' := w.heap.size) (o := 2) (u := .int .i64 a) (by simp [go_sem])
  have i4 := doW_cell hBw (b' := w.heap.size) (o := 4) (u := .int .i64 imm) (by simp [go_sem])
  have i5 := doW_cell hBw (b' := w.heap.size) (o := 5) (u := .string ⟨loc.toArray⟩) (by simp [go_sem])
  have hf1 := fun o => (doW_fr hBw o).1
  have hf2 := fun o => (doW_fr hBw o).2
  have hBx := doW_below hBw
  have HOwn := Lib.hid (hown.lower (base' := w.heap.size + 4) (by omega))
  have y0 : w.heap.size < w3.heap.size := by omega
  have y1 : w.heap.size + 1 + 1 < w3.heap.size := by omega
  have y2 : w.heap.size + 1 + 1 + 1 < w3.heap.size := by omega
  have y3 : w2.heap.size < w3.heap.size := by omega
  have y4 : w.heap.size + 1 < w3.heap.size := by omega
  clear hown hb3 hBw HB t0' t1' hi hz0 hz1 hz2 b6
  have HR := Lib.hid (show doR 4 k4 a imm loc vs = some (vs.set k4 ([], imm), actV 1 ⟨#[]⟩ 0 0 0) from rfl)
  have hown2 : w3.ownsRow (w.heap.size + 4) 55 2 (.slice (some ⟨g, 0, none⟩) 15 cap) vs.length (valsCells vs) := HOwn.out
  rw [show vs.length = 15 from HL.out] at hown2
  have hk4v : k4 < vs.length := by rw [HL.out]; exact hk4
  have q1 : w3.cell? ⟨g, k4 * 2, none⟩ = some (.string ⟨vs[k4].1.toArray⟩) := by rw [World.ownsRow.cellAt hown2 _ (by omega), (valsCells_at vs k4 hk4v).1]
  have q2 : w3.cell? ⟨g, k4 * 2 + 1, none⟩ = some (.int .i64 vs[k4].2) := by rw [World.ownsRow.cellAt hown2 _ (by omega), (valsCells_at vs k4 hk4v).2]
  have f1 : w3.frozen? ⟨g, k4 * 2, none⟩ = false := World.ownsRow.frozenAt hown2 _
  have f2 : w3.frozen? ⟨g, k4 * 2 + 1, none⟩ = false := World.ownsRow.frozenAt hown2 _
  have hk0 : (0 : Int) ≤ (k4 : Int) := by omega
  have hk1 : (k4 : Int) < 15 := by omega
  have gne : g ≠ w2.heap.size := by omega
  have gne' : w2.heap.size ≠ g := by omega
  clear hown2
  go_wp2_with fail
  go_region
  all_goals
    go_wp2
    refine bodyPost_ret (v := .tuple #[locV (.slice (some ⟨g, 0, none⟩) 15 cap) (at_ + 1), actV 1 ⟨#[]⟩ 0 0 0, .int .i64 0]) (by simp [results, Tryd.results27, go_sem, *]) rfl ?_
    rw [HR.out]
    refine ⟨_, rfl, RegsOwn.lower (base := w.heap.size + 4) ?_ (by omega), ?_⟩
    · repeat (first | with_reducible exact HOwn.out | with_reducible refine RegsOwn.dr ?_ | with_reducible refine RegsOwn.al ?_ _ | with_reducible refine set_regs ?_ _ _ | with_reducible refine RegsOwn.setOther ?_ (by simp [Value.ownBlock] <;> omega) _)
    · repeat (first | with_reducible exact hBx | with_reducible refine Below.drew ?_ | with_reducible refine below_alloc ?_ _ | with_reducible refine Below.setCell ?_ (by simp <;> omega) _)

set_option maxHeartbeats 4000000 in
set_option maxRecDepth 100000 in
theorem doR_5 {op d a imm : Int} {loc : List UInt8} (h : insB op d a 0 imm ⟨loc.toArray⟩ ⟨#[]⟩ 0 = true) (v : Value) (at_ : Int) (vs : List (List UInt8 × Int)) (w : World) (hv : ValsAt w v vs) (ht : threadB 15 at_ vs = true) (hop : op = 5) :
    Calls Tryd.prog 27 #[insV op d a 0 imm ⟨loc.toArray⟩ ⟨#[]⟩ 0, locV v at_] w (DoAny (doR op d a imm loc vs) (at_ + 1) w) := by
  subst hop
  obtain ⟨i0, hi, hz0, hz1, hz2⟩ := info_parts valInfo
  have hs := insB_loc h
  have H := Lib.hid h
  have HT := Lib.hid ht
  have hth := ht
  unfold threadB at hth
  simp only [Bool.and_eq_true, decide_eq_true_eq] at hth
  obtain ⟨⟨⟨ht1, ht2⟩, ht3⟩, ht4⟩ := hth
  have HL := Lib.hid ht3
  have hvA := hv
  obtain ⟨A, cap0, rfl, ha1, ha2, ha3, ha4⟩ := hvA
  obtain ⟨b, o, rfl, hbs, hcell⟩ := ha4 (by omega)
  rw [ht3] at ha1 hv ⊢
  have HC := Lib.hid (valsCells_cell hcell)
  have HO := Lib.hid (valsCells_one vs)
  have HCL := Lib.hid (valsCells_len vs)
  clear h ht ht3 ht4 ha3 ha4 hcell
  go_enter Tryd.func27, Tryd.ntmps27
  go_wp2_with fail
  refine (checkR_l2 H.out _ (by omega)).mono ?_
  rintro e w1 ⟨rfl, hb1⟩
  have t0 := doW_cell hb1 (b' := w.heap.size + 1) (o := 0) (u := .slice (some ⟨b, o, none⟩) 15 cap0) (by simp [go_sem])
  have t1 := doW_cell hb1 (b' := w.heap.size + 1) (o := 1) (u := .int .i64 at_) (by simp [go_sem])
  have hv1 := hv.mono (doW_below hb1)
  go_wp2_with fail
  refine (thread_as HT.out hv1).mono ?_
  rintro e w2 ⟨rfl, hb2⟩
  have hb12 := below_trans hb1 hb2
  have t0' := cell_go t0 hb2
  have t1' := cell_go t1 hb2
  have zb := Nat.lt_of_lt_of_le hbs (doW_below hb12).size
  have zt : w.heap.size + 1 < w2.heap.size := by have := hb12.size; simp at this; omega
  have HB := Lib.hid hb12
  have b6 : IntKind.i64.wrap (at_ + 1) = at_ + 1 := IntWalk.i64_in _ (by omega)
  clear hb1 hb2 t0 t1 hv1 hv hb12
  go_wp2_with (at_builtin; refine wpList_append_own _ rfl _ _ 45 rfl (w2.heap.size + 1) 55 i0 (.agg #[.string ⟨#[]⟩, .int .i64 0]) 2 24 Tryd.underlying45 hi hz0 hz1 hz2 rfl (by decide) _ 0 [] rfl (World.ownsRow_nil _ _ _ _) ⟨b, o, none⟩ vs.length cap0 (valsCells vs) (by rw [HL.out]; rfl) HCL.out ?c1 HO.out ?c3 ?c4 ?c5 ?_)
  case c1 => exact fun j u hu => by rw [World.cell?_alloc_lt w2 _ _ (by rw [add_blk]; exact zb), (doW_below HB.out).cell (by rw [add_blk]; exact hbs)]; exact HC.out j u hu
  case c3 => rw [HL.out]; unfold maxLen; omega
  case c4 => rw [HL.out]; omega
  case c5 => simp
  intro v1 w3 hown hgr _
  obtain ⟨g, cap, rfl, hg1, hg2, hp1, hp2, hown, hb3⟩ := own_nil HL.out hown hgr
  clear hgr
  have hBw := below_trans (below_trans HB.out (alloc_b _ _)) hb3
  have zz3 : w2.heap.size + 1 ≤ w3.heap.size := by simpa using hb3.size
  have zz2 : w.heap.size + 4 ≤ w2.heap.size := by simpa using HB.out.size
  have o0 := cell_go (cell_new w2 #[.slice none 0 0, .int .i64 (at_ + 1)] 47 (0, 0) 0) hb3
  have o1 := cell_go (cell_new w2 #[.slice none 0 0, .int .i64 (at_ + 1)] 47 (0, 0) 1) hb3
  have of0 : ∀ j, w3.frozen? ⟨w2.heap.size, j, none⟩ = false := fun j => by rw [hb3.frozen (p := ⟨w2.heap.size, j, none⟩) (by simp)]; simp [go_sem]
  have s0 := cell_go (cell_al t0' _) hb3
  have s1 := cell_go (cell_al t1' _) hb3
  obtain ⟨r0, r1, a0, a1, a2, a3, a4⟩ := doW_res hBw
  have i0 := doW_cell hBw (b' := w.heap.size) (o := 0) (u := .int .i64 5) (by simp [go_sem])
  have i1 := doW_cell hBw (b' := w.heap.size) (o := 1) (u := .int .i64 d) (by simp [go_sem])
  have i2 := doW_cell hBw (b' := w.heap.size) (o := 2) (u := .int .i64 a) (by simp [go_sem])
  have i4 := doW_cell hBw (b' := w.heap.size) (o := 4) (u := .int .i64 imm) (by simp [go_sem])
  have i5 := doW_cell hBw (b' := w.heap.size) (o := 5) (u := .string ⟨loc.toArray⟩) (by simp [go_sem])
  have hf1 := fun o => (doW_fr hBw o).1
  have hf2 := fun o => (doW_fr hBw o).2
  have hBx := doW_below hBw
  have HOwn := Lib.hid (hown.lower (base' := w.heap.size + 4) (by omega))
  have y0 : w.heap.size < w3.heap.size := by omega
  have y1 : w.heap.size + 1 + 1 < w3.heap.size := by omega
  have y2 : w.heap.size + 1 + 1 + 1 < w3.heap.size := by omega
  have y3 : w2.heap.size < w3.heap.size := by omega
  have y4 : w.heap.size + 1 < w3.heap.size := by omega
  clear hown hb3 hBw HB t0' t1' hi hz0 hz1 hz2 b6
  have HR := Lib.hid (show doR 5 d a imm loc vs = some (vs, actV 4 ⟨#[]⟩ 0 0 1) from rfl)
  go_wp2_with fail
  go_region
  all_goals
    go_wp2
    refine bodyPost_ret (v := .tuple #[locV (.slice (some ⟨g, 0, none⟩) 15 cap) (at_ + 1), actV 4 ⟨#[]⟩ 0 0 1, .int .i64 0]) (by simp [results, Tryd.results27, go_sem, *]) rfl ?_
    rw [HR.out]
    refine ⟨_, rfl, RegsOwn.lower (base := w.heap.size + 4) ?_ (by omega), ?_⟩
    · repeat (first | with_reducible exact HOwn.out | with_reducible refine RegsOwn.dr ?_ | with_reducible refine RegsOwn.al ?_ _ | with_reducible refine set_regs ?_ _ _ | with_reducible refine RegsOwn.setOther ?_ (by simp [Value.ownBlock] <;> omega) _)
    · repeat (first | with_reducible exact hBx | with_reducible refine Below.drew ?_ | with_reducible refine below_alloc ?_ _ | with_reducible refine Below.setCell ?_ (by simp <;> omega) _)

theorem doR_c {op d a imm : Int} {loc : List UInt8} (h : insB op d a 0 imm ⟨loc.toArray⟩ ⟨#[]⟩ 0 = true) (v : Value) (at_ : Int) (vs : List (List UInt8 × Int)) (w : World) (hv : ValsAt w v vs) (ht : threadB 15 at_ vs = true) :
    Calls Tryd.prog 27 #[insV op d a 0 imm ⟨loc.toArray⟩ ⟨#[]⟩ 0, locV v at_] w (DoAny (doR op d a imm loc vs) (at_ + 1) w) := by
  rcases insB_op h with e | e | e | e | e
  · exact doR_1 h v at_ vs w hv ht e
  · exact doR_2 h v at_ vs w hv ht e
  · exact doR_3 h v at_ vs w hv ht e
  · exact doR_4 h v at_ vs w hv ht e
  · exact doR_5 h v at_ vs w hv ht e
end Go.Proofs.YtlpcahkchmlghaaDoor
