/- The program's Do at operation 1. The program's Do at operation 2. The program's Do at operation 3. The program's Do at operation 4. The program's Do at operation 5. The program's Do. -/
import Derived.Test.YtlpcahkchmlghaaDoorKh
namespace Go.Proofs.YtlpcahkchmlghaaDoor
open Go.RowKit

set_option maxHeartbeats 4000000 in
set_option maxRecDepth 100000 in
theorem doP_1 {op d a imm : Int} {loc : List UInt8} (h : insB op d a 0 imm ⟨loc.toArray⟩ ⟨#[]⟩ 0 = true) (v : Value) (at_ : Int) (vs : List (List UInt8 × Int)) (w : World) (hv : ValsAt w v vs) (ht : threadB 15 at_ vs = true) (hop : op = 1) :
    Calls Tryd.prog 26 #[insV op d a 0 imm ⟨loc.toArray⟩ ⟨#[]⟩ 0, locV v at_] w (DoAny (doR op d a imm loc vs) (at_ + 1) w) := by
  subst hop
  have hs := insB_loc h
  have H := Lib.hid h
  have HT := Lib.hid ht
  have hth := ht
  unfold threadB at hth
  simp only [Bool.and_eq_true, decide_eq_true_eq] at hth
  obtain ⟨⟨⟨ht1, ht2⟩, ht3⟩, ht4⟩ := hth
  have HL := Lib.hid ht3
  clear h ht ht3 ht4
  go_enter Tryd.func26, Tryd.ntmps26
  go_wp2_with fail
  refine (checkP_l2 H.out _ (by omega)).mono ?_
  rintro e w1 ⟨rfl, hb1⟩
  have t0 := doW_cell hb1 (b' := w.heap.size + 1) (o := 0) (u := v) (by simp [go_sem])
  have t1 := doW_cell hb1 (b' := w.heap.size + 1) (o := 1) (u := .int .i64 at_) (by simp [go_sem])
  have hv1 := hv.mono (doW_below hb1)
  go_wp2_with fail
  refine (may_as HT.out hv1).mono ?_
  rintro e w2 ⟨rfl, hb2⟩
  have hb12 := below_trans hb1 hb2
  have hv2 := hv1.mono hb2
  have t0' := cell_go t0 hb2
  have t1' := cell_go t1 hb2
  clear hb1 hb2 t0 t1 hv1 hv
  have b6 : IntKind.i64.wrap (at_ + 1) = at_ + 1 := IntWalk.i64_in _ (by omega)
  go_upto_region 6 with fail
  have hS : ∀ x, Below w2.heap.size w2 x → x.cell? ⟨w.heap.size + 1, 0, none⟩ = some v ∧ x.cell? ⟨w.heap.size + 1, 1, none⟩ = some (.int .i64 at_) ∧ ValsAt x v vs ∧ Below (doW w 1 d a 0 imm ⟨loc.toArray⟩ ⟨#[]⟩ 0 v at_).heap.size (doW w 1 d a 0 imm ⟨loc.toArray⟩ ⟨#[]⟩ 0 v at_) x := fun x hx => ⟨cell_go t0' hx, cell_go t1' hx, hv2.mono hx, below_trans hb12 hx⟩
  have HS := Lib.hid hS
  have HB := Lib.hid hb12
  clear hS hb12
  go_cut [8] (fun s8 wx => DoHalf (doW w 1 d a 0 imm ⟨loc.toArray⟩ ⟨#[]⟩ 0 v at_) w at_ vs s8 wx)
  case first =>
    go_region_held3 (fun x => x.cell? ⟨w.heap.size + 1, 0, none⟩ = some v ∧ x.cell? ⟨w.heap.size + 1, 1, none⟩ = some (.int .i64 at_) ∧ ValsAt x v vs ∧ Below (doW w 1 d a 0 imm ⟨loc.toArray⟩ ⟨#[]⟩ 0 v at_).heap.size (doW w 1 d a 0 imm ⟨loc.toArray⟩ ⟨#[]⟩ 0 v at_) x)
      ((refine HS.out _ ?_; repeat (first | exact Below.refl _ _ | refine below_trans ?_ hb' | refine Below.drew ?_ | refine below_alloc ?_ _ | refine Below.setCell ?_ (by simp) _)))
      (first | (go_at_call 48; have hh := ‹World.cell? _ _ = _ ∧ _›; refine (clone_15 _ vs _ hh.2.2.1 HL.out).mono ?_; rintro e w' ⟨g, cap, rfl, hg1, hg2, hp1, hp2, hown, hb'⟩; obtain ⟨hcx, hfx⟩ := bcell hb'; have hzx := hb'.size))
    all_goals
      go_wp2
      go_meet
      first
        | exact half_b HL.out (by simp) HB.out.drew hown hb'
        | exact half_a HL.out (by simp) HB.out hown ⟨hb'.os, hb'.tape, hb'.output, hb'.size, hb'.block⟩
  case rest =>
    obtain ⟨Bo, g, cap, rfl, hB1, hB2, hg1, hg2, hne, hp1, hp2, cB0, cB1, hown, hbw⟩ := hcut
    obtain ⟨r0, r1, a0, a1, a2, a3, a4⟩ := doW_res hbw
    have hbx := doW_below hbw
    have i0 := doW_cell hbw (b' := w.heap.size) (o := 0) (u := .int .i64 1) (by simp [go_sem])
    have i1 := doW_cell hbw (b' := w.heap.size) (o := 1) (u := .int .i64 d) (by simp [go_sem])
    have i2 := doW_cell hbw (b' := w.heap.size) (o := 2) (u := .int .i64 a) (by simp [go_sem])
    have i3 := doW_cell hbw (b' := w.heap.size) (o := 3) (u := .int .i64 0) (by simp [go_sem])
    have i4 := doW_cell hbw (b' := w.heap.size) (o := 4) (u := .int .i64 imm) (by simp [go_sem])
    have i5 := doW_cell hbw (b' := w.heap.size) (o := 5) (u := .string ⟨loc.toArray⟩) (by simp [go_sem])
    have i6 := doW_cell hbw (b' := w.heap.size) (o := 6) (u := .string ⟨#[]⟩) (by simp [go_sem])
    have i7 := doW_cell hbw (b' := w.heap.size) (o := 7) (u := .int .i64 0) (by simp [go_sem])
    clear t0' t1' hv2 HS HB b6
    go_wp2_with (go_at_call 49; refine (table_c _).mono ?_; rintro e w3 ⟨rfl, rfl⟩)
    have HOwn := Lib.hid hown
    have HBw := Lib.hid hbw
    have HBx := Lib.hid hbx
    have hk0 : wc.cell? ⟨Bo, 0, none⟩ = some (.slice (some ⟨g, 0, none⟩) 15 cap) := cB0
    clear hown hbw hbx
    have HR := Lib.hid (show doR 1 d a imm loc vs = some (vs, actV 3 ⟨loc.toArray⟩ imm 0 0) from rfl)
    clear i1 i2 i3 i4 i5 i6 i7 r0 r1 a0 a1 a2 a3 a4 hk0
    go_loopw [10, 34] (fun _ i wr => ∃ k : Nat, k < 1 ∧ i = .int .i64 k ∧ Below (wc.heap.size + 1) (wc.alloc (.cells tabCells 81 (0, 0))) wr) (fun _ i _ => 5 - (intOf i).toNat)
    case atStart => exact ⟨0, by omega, rfl, Below.refl _ _⟩
    case round =>
      obtain ⟨k, hk, rfl, hr0⟩ := hrel
      have hr1 : Below (wc.alloc (.cells tabCells 81 (0, 0))).heap.size (wc.alloc (.cells tabCells 81 (0, 0))) wr := by simpa using hr0
      have hrc : Below wc.heap.size wc wr := below_trans (alloc_b _ _) hr1
      have hrw := below_trans HBw.out hrc
      obtain rfl : k = 0 := by omega
      have tk0 : wr.cell? ⟨wc.heap.size, 0, none⟩ = some (.int .i64 1) := cell_go (by rw [cell_new]; rfl) hr1
      have tk1 : wr.cell? ⟨wc.heap.size, 1, none⟩ = some (.func (.func 69) #[] #[]) := cell_go (by rw [cell_new]; rfl) hr1
      have i0 := cell_go i0 hrc
      have zr : w.heap.size + 4 ≤ wr.heap.size := by simpa using hrw.size
      have z1 : w.heap.size < wr.heap.size := by omega
      have z2 : Bo < wr.heap.size := Nat.lt_of_lt_of_le hB2 hrc.size
      have z3 : g < wr.heap.size := Nat.lt_of_lt_of_le hg2 hrc.size
      have z5 : wc.heap.size < wr.heap.size := by have := hr1.size; simp at this; omega
      have i1 := doW_cell hrw (b' := w.heap.size) (o := 1) (u := .int .i64 d) (by simp [go_sem])
      have i2 := doW_cell hrw (b' := w.heap.size) (o := 2) (u := .int .i64 a) (by simp [go_sem])
      have i3 := doW_cell hrw (b' := w.heap.size) (o := 3) (u := .int .i64 0) (by simp [go_sem])
      have i4 := doW_cell hrw (b' := w.heap.size) (o := 4) (u := .int .i64 imm) (by simp [go_sem])
      have i5 := doW_cell hrw (b' := w.heap.size) (o := 5) (u := .string ⟨loc.toArray⟩) (by simp [go_sem])
      have i6 := doW_cell hrw (b' := w.heap.size) (o := 6) (u := .string ⟨#[]⟩) (by simp [go_sem])
      have i7 := doW_cell hrw (b' := w.heap.size) (o := 7) (u := .int .i64 0) (by simp [go_sem])
      have HOr := Lib.hid (HOwn.out.mono hrc)
      have cB0 := cell_go cB0 hrc
      have cB1 := cell_go cB1 hrc
      clear hr0 hr1
      go_wp2_with fail
      refine (do1_c _ _ _ _ _ _ _ _ _ _).mono ?_
      rintro e w4 ⟨rfl, hb4⟩
      have hB4 := below_trans (below_trans hrw (alloc_b _ _)) hb4
      have HO4 := Lib.hid ((HOr.out.mono (alloc_b _ _)).mono hb4)
      have cB0 := cell_go (cell_al cB0 _) hb4
      have cB1 := cell_go (cell_al cB1 _) hb4
      have hY : Bo < w4.heap.size := by have := hb4.size; simp at this; omega
      obtain ⟨r0, r1, a0, a1, a2, a3, a4⟩ := doW_res hB4
      have hBx4 := doW_below hB4
      have hf1 := fun o => (doW_fr hB4 o).1
      have hf2 := fun o => (doW_fr hB4 o).2
      have z4 : w.heap.size + 4 ≤ w4.heap.size := by simpa using hB4.size
      have y1 : w.heap.size + 1 + 1 < w4.heap.size := by omega
      have y2 : w.heap.size + 1 + 1 + 1 < w4.heap.size := by omega
      have y3 : Bo < w4.heap.size := hY
      clear hB4 hb4 hrw hrc i0 i1 i2 i3 i4 i5 i6 i7 tk0 tk1 hY
      go_wp2_with fail
      go_region
      all_goals
        go_wp2
        refine bodyPost_ret (v := .tuple #[locV (.slice (some ⟨g, 0, none⟩) 15 cap) (at_ + 1), actV 3 ⟨loc.toArray⟩ imm 0 0, .int .i64 0]) (by simp [results, Tryd.results26, go_sem, *]) rfl ?_
        rw [HR.out]
        refine ⟨_, rfl, RegsOwn.lower (base := w.heap.size + 4) ?_ (by omega), ?_⟩
        · repeat (first | with_reducible exact HO4.out | with_reducible refine RegsOwn.dr ?_ | with_reducible refine RegsOwn.al ?_ _ | with_reducible refine RegsOwn.setOther ?_ (by simp [Value.ownBlock] <;> omega) _)
        · repeat (first | with_reducible exact hBx4 | with_reducible refine Below.drew ?_ | with_reducible refine below_alloc ?_ _ | with_reducible refine Below.setCell ?_ (by simp <;> omega) _)

set_option maxHeartbeats 4000000 in
set_option maxRecDepth 100000 in
theorem doP_2 {op d a imm : Int} {loc : List UInt8} (h : insB op d a 0 imm ⟨loc.toArray⟩ ⟨#[]⟩ 0 = true) (v : Value) (at_ : Int) (vs : List (List UInt8 × Int)) (w : World) (hv : ValsAt w v vs) (ht : threadB 15 at_ vs = true) (hop : op = 2) :
    Calls Tryd.prog 26 #[insV op d a 0 imm ⟨loc.toArray⟩ ⟨#[]⟩ 0, locV v at_] w (DoAny (doR op d a imm loc vs) (at_ + 1) w) := by
  subst hop
  have h22 := (insB_2 h).2.1
  obtain ⟨k2, hk2, rfl⟩ := regB_nat h22
  clear h22
  have hs := insB_loc h
  have H := Lib.hid h
  have HT := Lib.hid ht
  have hth := ht
  unfold threadB at hth
  simp only [Bool.and_eq_true, decide_eq_true_eq] at hth
  obtain ⟨⟨⟨ht1, ht2⟩, ht3⟩, ht4⟩ := hth
  have HL := Lib.hid ht3
  clear h ht ht3 ht4
  go_enter Tryd.func26, Tryd.ntmps26
  go_wp2_with fail
  refine (checkP_l2 H.out _ (by omega)).mono ?_
  rintro e w1 ⟨rfl, hb1⟩
  have t0 := doW_cell hb1 (b' := w.heap.size + 1) (o := 0) (u := v) (by simp [go_sem])
  have t1 := doW_cell hb1 (b' := w.heap.size + 1) (o := 1) (u := .int .i64 at_) (by simp [go_sem])
  have hv1 := hv.mono (doW_below hb1)
  go_wp2_with fail
  refine (may_as HT.out hv1).mono ?_
  rintro e w2 ⟨rfl, hb2⟩
  have hb12 := below_trans hb1 hb2
  have hv2 := hv1.mono hb2
  have t0' := cell_go t0 hb2
  have t1' := cell_go t1 hb2
  clear hb1 hb2 t0 t1 hv1 hv
  have b6 : IntKind.i64.wrap (at_ + 1) = at_ + 1 := IntWalk.i64_in _ (by omega)
  go_upto_region 6 with fail
  have hS : ∀ x, Below w2.heap.size w2 x → x.cell? ⟨w.heap.size + 1, 0, none⟩ = some v ∧ x.cell? ⟨w.heap.size + 1, 1, none⟩ = some (.int .i64 at_) ∧ ValsAt x v vs ∧ Below (doW w 2 d (k2 : Int) 0 imm ⟨loc.toArray⟩ ⟨#[]⟩ 0 v at_).heap.size (doW w 2 d (k2 : Int) 0 imm ⟨loc.toArray⟩ ⟨#[]⟩ 0 v at_) x := fun x hx => ⟨cell_go t0' hx, cell_go t1' hx, hv2.mono hx, below_trans hb12 hx⟩
  have HS := Lib.hid hS
  have HB := Lib.hid hb12
  clear hS hb12
  go_cut [8] (fun s8 wx => DoHalf (doW w 2 d (k2 : Int) 0 imm ⟨loc.toArray⟩ ⟨#[]⟩ 0 v at_) w at_ vs s8 wx)
  case first =>
    go_region_held3 (fun x => x.cell? ⟨w.heap.size + 1, 0, none⟩ = some v ∧ x.cell? ⟨w.heap.size + 1, 1, none⟩ = some (.int .i64 at_) ∧ ValsAt x v vs ∧ Below (doW w 2 d (k2 : Int) 0 imm ⟨loc.toArray⟩ ⟨#[]⟩ 0 v at_).heap.size (doW w 2 d (k2 : Int) 0 imm ⟨loc.toArray⟩ ⟨#[]⟩ 0 v at_) x)
      ((refine HS.out _ ?_; repeat (first | exact Below.refl _ _ | refine below_trans ?_ hb' | refine Below.drew ?_ | refine below_alloc ?_ _ | refine Below.setCell ?_ (by simp) _)))
      (first | (go_at_call 48; have hh := ‹World.cell? _ _ = _ ∧ _›; refine (clone_15 _ vs _ hh.2.2.1 HL.out).mono ?_; rintro e w' ⟨g, cap, rfl, hg1, hg2, hp1, hp2, hown, hb'⟩; obtain ⟨hcx, hfx⟩ := bcell hb'; have hzx := hb'.size))
    all_goals
      go_wp2
      go_meet
      first
        | exact half_b HL.out (by simp) HB.out.drew hown hb'
        | exact half_a HL.out (by simp) HB.out hown ⟨hb'.os, hb'.tape, hb'.output, hb'.size, hb'.block⟩
  case rest =>
    obtain ⟨Bo, g, cap, rfl, hB1, hB2, hg1, hg2, hne, hp1, hp2, cB0, cB1, hown, hbw⟩ := hcut
    obtain ⟨r0, r1, a0, a1, a2, a3, a4⟩ := doW_res hbw
    have hbx := doW_below hbw
    have i0 := doW_cell hbw (b' := w.heap.size) (o := 0) (u := .int .i64 2) (by simp [go_sem])
    have i1 := doW_cell hbw (b' := w.heap.size) (o := 1) (u := .int .i64 d) (by simp [go_sem])
    have i2 := doW_cell hbw (b' := w.heap.size) (o := 2) (u := .int .i64 (k2 : Int)) (by simp [go_sem])
    have i3 := doW_cell hbw (b' := w.heap.size) (o := 3) (u := .int .i64 0) (by simp [go_sem])
    have i4 := doW_cell hbw (b' := w.heap.size) (o := 4) (u := .int .i64 imm) (by simp [go_sem])
    have i5 := doW_cell hbw (b' := w.heap.size) (o := 5) (u := .string ⟨loc.toArray⟩) (by simp [go_sem])
    have i6 := doW_cell hbw (b' := w.heap.size) (o := 6) (u := .string ⟨#[]⟩) (by simp [go_sem])
    have i7 := doW_cell hbw (b' := w.heap.size) (o := 7) (u := .int .i64 0) (by simp [go_sem])
    clear t0' t1' hv2 HS HB b6
    go_wp2_with (go_at_call 49; refine (table_c _).mono ?_; rintro e w3 ⟨rfl, rfl⟩)
    have HOwn := Lib.hid hown
    have HBw := Lib.hid hbw
    have HBx := Lib.hid hbx
    have hk0 : wc.cell? ⟨Bo, 0, none⟩ = some (.slice (some ⟨g, 0, none⟩) 15 cap) := cB0
    clear hown hbw hbx
    have hgd : vs.getD ((k2 : Int)).toNat ([], 0) = vs[k2]'(by rw [HL.out]; exact hk2) := by rw [Int.toNat_natCast]; simp [List.getD_eq_getElem?_getD, List.getElem?_eq_getElem (show k2 < vs.length by rw [HL.out]; exact hk2)]
    obtain ⟨L, hLx⟩ : ∃ L, vs[k2]'(by rw [HL.out]; exact hk2) = L := ⟨_, rfl⟩
    obtain ⟨L, n⟩ := L
    have hgd2 := hgd.trans hLx
    have HVX := Lib.hid hLx
    clear hgd hLx
    by_cases hLn : L = []
    · subst hLn
      have HR := Lib.hid (show doR 2 d k2 imm loc vs = some (vs, actV 3 ⟨loc.toArray⟩ n 0 0) by unfold doR; rw [hgd2]; rfl)
      clear hgd2
      clear i1 i2 i3 i4 i5 i6 i7 r0 r1 a0 a1 a2 a3 a4 hk0
      go_loopw [10, 34] (fun _ i wr => ∃ k : Nat, k < 2 ∧ i = .int .i64 k ∧ Below (wc.heap.size + 1) (wc.alloc (.cells tabCells 81 (0, 0))) wr) (fun _ i _ => 5 - (intOf i).toNat)
      case atStart => exact ⟨0, by omega, rfl, Below.refl _ _⟩
      case round =>
        obtain ⟨k, hk, rfl, hr0⟩ := hrel
        have hr1 : Below (wc.alloc (.cells tabCells 81 (0, 0))).heap.size (wc.alloc (.cells tabCells 81 (0, 0))) wr := by simpa using hr0
        have hrc : Below wc.heap.size wc wr := below_trans (alloc_b _ _) hr1
        have hrw := below_trans HBw.out hrc
        by_cases e0 : k = 0
        · subst e0
          have tk0 : wr.cell? ⟨wc.heap.size, 0, none⟩ = some (.int .i64 1) := cell_go (by rw [cell_new]; rfl) hr1
          have tk1 : wr.cell? ⟨wc.heap.size, 1, none⟩ = some (.func (.func 69) #[] #[]) := cell_go (by rw [cell_new]; rfl) hr1
          have i0 := cell_go i0 hrc
          have zr : w.heap.size + 4 ≤ wr.heap.size := by simpa using hrw.size
          have z1 : w.heap.size < wr.heap.size := by omega
          have z2 : Bo < wr.heap.size := Nat.lt_of_lt_of_le hB2 hrc.size
          have z3 : g < wr.heap.size := Nat.lt_of_lt_of_le hg2 hrc.size
          have z5 : wc.heap.size < wr.heap.size := by have := hr1.size; simp at this; omega
          clear hr1
          go_wp2_with fail
          go_roundw
          case rel => exact ⟨1, by omega, by first | rfl | go_num, hr0.trans ((alloc_b wr _).mono (by simpa using hr0.size))⟩
          case measure => simp [intOf]
        obtain rfl : k = 1 := by omega
        have tk0 : wr.cell? ⟨wc.heap.size, 2, none⟩ = some (.int .i64 2) := cell_go (by rw [cell_new]; rfl) hr1
        have tk1 : wr.cell? ⟨wc.heap.size, 3, none⟩ = some (.func (.func 70) #[] #[]) := cell_go (by rw [cell_new]; rfl) hr1
        have i0 := cell_go i0 hrc
        have zr : w.heap.size + 4 ≤ wr.heap.size := by simpa using hrw.size
        have z1 : w.heap.size < wr.heap.size := by omega
        have z2 : Bo < wr.heap.size := Nat.lt_of_lt_of_le hB2 hrc.size
        have z3 : g < wr.heap.size := Nat.lt_of_lt_of_le hg2 hrc.size
        have z5 : wc.heap.size < wr.heap.size := by have := hr1.size; simp at this; omega
        have i1 := doW_cell hrw (b' := w.heap.size) (o := 1) (u := .int .i64 d) (by simp [go_sem])
        have i2 := doW_cell hrw (b' := w.heap.size) (o := 2) (u := .int .i64 (k2 : Int)) (by simp [go_sem])
        have i3 := doW_cell hrw (b' := w.heap.size) (o := 3) (u := .int .i64 0) (by simp [go_sem])
        have i4 := doW_cell hrw (b' := w.heap.size) (o := 4) (u := .int .i64 imm) (by simp [go_sem])
        have i5 := doW_cell hrw (b' := w.heap.size) (o := 5) (u := .string ⟨loc.toArray⟩) (by simp [go_sem])
        have i6 := doW_cell hrw (b' := w.heap.size) (o := 6) (u := .string ⟨#[]⟩) (by simp [go_sem])
        have i7 := doW_cell hrw (b' := w.heap.size) (o := 7) (u := .int .i64 0) (by simp [go_sem])
        have HOr := Lib.hid (HOwn.out.mono hrc)
        have cB0 := cell_go cB0 hrc
        have cB1 := cell_go cB1 hrc
        have hown2 : wr.ownsRow (w.heap.size + 4) 55 2 (.slice (some ⟨g, 0, none⟩) 15 cap) vs.length (valsCells vs) := HOr.out
        rw [show vs.length = 15 from HL.out] at hown2
        have q1 : wr.cell? ⟨g, k2 * 2, none⟩ = some (.string ⟨#[]⟩) := by rw [World.ownsRow.cellAt hown2 _ (by omega), (valsCells_at vs k2 (by rw [HL.out]; exact hk2)).1, HVX.out]
        have q2 : wr.cell? ⟨g, k2 * 2 + 1, none⟩ = some (.int .i64 n) := by rw [World.ownsRow.cellAt hown2 _ (by omega), (valsCells_at vs k2 (by rw [HL.out]; exact hk2)).2, HVX.out]
        have hk3 : 15 ≤ cap := hp1
        clear hown2
        clear hr0 hr1
        go_wp2_with fail
        refine (do2_y _ _ _ _ _ _ _ _ _ k2 hk2 g cap n hp1 hp2 (cell_al cB0 _) (cell_al q1 _) (cell_al q2 _)).mono ?_
        rintro e w4 ⟨rfl, hb4⟩
        have hB4 := below_trans (below_trans hrw (alloc_b _ _)) hb4
        have HO4 := Lib.hid ((HOr.out.mono (alloc_b _ _)).mono hb4)
        have cB0 := cell_go (cell_al cB0 _) hb4
        have cB1 := cell_go (cell_al cB1 _) hb4
        have hY : Bo < w4.heap.size := by have := hb4.size; simp at this; omega
        obtain ⟨r0, r1, a0, a1, a2, a3, a4⟩ := doW_res hB4
        have hBx4 := doW_below hB4
        have hf1 := fun o => (doW_fr hB4 o).1
        have hf2 := fun o => (doW_fr hB4 o).2
        have z4 : w.heap.size + 4 ≤ w4.heap.size := by simpa using hB4.size
        have y1 : w.heap.size + 1 + 1 < w4.heap.size := by omega
        have y2 : w.heap.size + 1 + 1 + 1 < w4.heap.size := by omega
        have y3 : Bo < w4.heap.size := hY
        clear q1 q2 hB4 hb4 hrw hrc i0 i1 i2 i3 i4 i5 i6 i7 tk0 tk1 hY
        go_wp2_with fail
        go_region
        all_goals
          go_wp2
          refine bodyPost_ret (v := .tuple #[locV (.slice (some ⟨g, 0, none⟩) 15 cap) (at_ + 1), actV 3 ⟨loc.toArray⟩ n 0 0, .int .i64 0]) (by simp [results, Tryd.results26, go_sem, *]) rfl ?_
          rw [HR.out]
          refine ⟨_, rfl, RegsOwn.lower (base := w.heap.size + 4) ?_ (by omega), ?_⟩
          · repeat (first | with_reducible exact HO4.out | with_reducible refine RegsOwn.dr ?_ | with_reducible refine RegsOwn.al ?_ _ | with_reducible refine RegsOwn.setOther ?_ (by simp [Value.ownBlock] <;> omega) _)
          · repeat (first | with_reducible exact hBx4 | with_reducible refine Below.drew ?_ | with_reducible refine below_alloc ?_ _ | with_reducible refine Below.setCell ?_ (by simp <;> omega) _)
    · have hLe : L.isEmpty = false := by simpa using hLn
      have HR := Lib.hid (show doR 2 d k2 imm loc vs = none by unfold doR; rw [if_neg (by decide), if_pos rfl, hgd2]; exact if_neg hLn)
      clear hgd2 hLn
      clear i1 i2 i3 i4 i5 i6 i7 r0 r1 a0 a1 a2 a3 a4 hk0
      go_loopw [10, 34] (fun _ i wr => ∃ k : Nat, k < 2 ∧ i = .int .i64 k ∧ Below (wc.heap.size + 1) (wc.alloc (.cells tabCells 81 (0, 0))) wr) (fun _ i _ => 5 - (intOf i).toNat)
      case atStart => exact ⟨0, by omega, rfl, Below.refl _ _⟩
      case round =>
        obtain ⟨k, hk, rfl, hr0⟩ := hrel
        have hr1 : Below (wc.alloc (.cells tabCells 81 (0, 0))).heap.size (wc.alloc (.cells tabCells 81 (0, 0))) wr := by simpa using hr0
        have hrc : Below wc.heap.size wc wr := below_trans (alloc_b _ _) hr1
        have hrw := below_trans HBw.out hrc
        by_cases e0 : k = 0
        · subst e0
          have tk0 : wr.cell? ⟨wc.heap.size, 0, none⟩ = some (.int .i64 1) := cell_go (by rw [cell_new]; rfl) hr1
          have tk1 : wr.cell? ⟨wc.heap.size, 1, none⟩ = some (.func (.func 69) #[] #[]) := cell_go (by rw [cell_new]; rfl) hr1
          have i0 := cell_go i0 hrc
          have zr : w.heap.size + 4 ≤ wr.heap.size := by simpa using hrw.size
          have z1 : w.heap.size < wr.heap.size := by omega
          have z2 : Bo < wr.heap.size := Nat.lt_of_lt_of_le hB2 hrc.size
          have z3 : g < wr.heap.size := Nat.lt_of_lt_of_le hg2 hrc.size
          have z5 : wc.heap.size < wr.heap.size := by have := hr1.size; simp at this; omega
          clear hr1
          go_wp2_with fail
          go_roundw
          case rel => exact ⟨1, by omega, by first | rfl | go_num, hr0.trans ((alloc_b wr _).mono (by simpa using hr0.size))⟩
          case measure => simp [intOf]
        obtain rfl : k = 1 := by omega
        have tk0 : wr.cell? ⟨wc.heap.size, 2, none⟩ = some (.int .i64 2) := cell_go (by rw [cell_new]; rfl) hr1
        have tk1 : wr.cell? ⟨wc.heap.size, 3, none⟩ = some (.func (.func 70) #[] #[]) := cell_go (by rw [cell_new]; rfl) hr1
        have i0 := cell_go i0 hrc
        have zr : w.heap.size + 4 ≤ wr.heap.size := by simpa using hrw.size
        have z1 : w.heap.size < wr.heap.size := by omega
        have z2 : Bo < wr.heap.size := Nat.lt_of_lt_of_le hB2 hrc.size
        have z3 : g < wr.heap.size := Nat.lt_of_lt_of_le hg2 hrc.size
        have z5 : wc.heap.size < wr.heap.size := by have := hr1.size; simp at this; omega
        have i1 := doW_cell hrw (b' := w.heap.size) (o := 1) (u := .int .i64 d) (by simp [go_sem])
        have i2 := doW_cell hrw (b' := w.heap.size) (o := 2) (u := .int .i64 (k2 : Int)) (by simp [go_sem])
        have i3 := doW_cell hrw (b' := w.heap.size) (o := 3) (u := .int .i64 0) (by simp [go_sem])
        have i4 := doW_cell hrw (b' := w.heap.size) (o := 4) (u := .int .i64 imm) (by simp [go_sem])
        have i5 := doW_cell hrw (b' := w.heap.size) (o := 5) (u := .string ⟨loc.toArray⟩) (by simp [go_sem])
        have i6 := doW_cell hrw (b' := w.heap.size) (o := 6) (u := .string ⟨#[]⟩) (by simp [go_sem])
        have i7 := doW_cell hrw (b' := w.heap.size) (o := 7) (u := .int .i64 0) (by simp [go_sem])
        have HOr := Lib.hid (HOwn.out.mono hrc)
        have cB0 := cell_go cB0 hrc
        have cB1 := cell_go cB1 hrc
        have hown2 : wr.ownsRow (w.heap.size + 4) 55 2 (.slice (some ⟨g, 0, none⟩) 15 cap) vs.length (valsCells vs) := HOr.out
        rw [show vs.length = 15 from HL.out] at hown2
        have q1 : wr.cell? ⟨g, k2 * 2, none⟩ = some (.string ⟨L.toArray⟩) := by rw [World.ownsRow.cellAt hown2 _ (by omega), (valsCells_at vs k2 (by rw [HL.out]; exact hk2)).1, HVX.out]
        have q2 : wr.cell? ⟨g, k2 * 2 + 1, none⟩ = some (.int .i64 n) := by rw [World.ownsRow.cellAt hown2 _ (by omega), (valsCells_at vs k2 (by rw [HL.out]; exact hk2)).2, HVX.out]
        have hk3 : 15 ≤ cap := hp1
        clear hown2
        clear hr0 hr1
        go_wp2_with fail
        refine (do2_n _ _ _ _ _ _ _ _ _ k2 hk2 g cap L hLe n hp1 hp2 (cell_al cB0 _) (cell_al q1 _) (cell_al q2 _)).mono ?_
        rintro e w4 ⟨rfl, hb4⟩
        have hB4 := below_trans (below_trans hrw (alloc_b _ _)) hb4
        have HO4 := Lib.hid ((HOr.out.mono (alloc_b _ _)).mono hb4)
        have cB0 := cell_go (cell_al cB0 _) hb4
        have cB1 := cell_go (cell_al cB1 _) hb4
        have hY : Bo < w4.heap.size := by have := hb4.size; simp at this; omega
        obtain ⟨r0, r1, a0, a1, a2, a3, a4⟩ := doW_res hB4
        have hBx4 := doW_below hB4
        have hf1 := fun o => (doW_fr hB4 o).1
        have hf2 := fun o => (doW_fr hB4 o).2
        have z4 : w.heap.size + 4 ≤ w4.heap.size := by simpa using hB4.size
        have y1 : w.heap.size + 1 + 1 < w4.heap.size := by omega
        have y2 : w.heap.size + 1 + 1 + 1 < w4.heap.size := by omega
        have y3 : Bo < w4.heap.size := hY
        clear q1 q2 hB4 hb4 hrw hrc i0 i1 i2 i3 i4 i5 i6 i7 tk0 tk1 hY
        go_wp2
        refine bodyPost_ret (v := doErr 92) (by simp [results, Tryd.results26, go_sem, doErr, *]) rfl ?_
        rw [HR.out]
        refine ⟨rfl, ?_⟩
        repeat (first | with_reducible exact hBx4 | with_reducible refine Below.drew ?_ | with_reducible refine below_alloc ?_ _ | with_reducible refine Below.setCell ?_ (by simp <;> omega) _)

set_option maxHeartbeats 4000000 in
set_option maxRecDepth 100000 in
theorem doP_3 {op d a imm : Int} {loc : List UInt8} (h : insB op d a 0 imm ⟨loc.toArray⟩ ⟨#[]⟩ 0 = true) (v : Value) (at_ : Int) (vs : List (List UInt8 × Int)) (w : World) (hv : ValsAt w v vs) (ht : threadB 15 at_ vs = true) (hop : op = 3) :
    Calls Tryd.prog 26 #[insV op d a 0 imm ⟨loc.toArray⟩ ⟨#[]⟩ 0, locV v at_] w (DoAny (doR op d a imm loc vs) (at_ + 1) w) := by
  subst hop
  have hs := insB_loc h
  have H := Lib.hid h
  have HT := Lib.hid ht
  have hth := ht
  unfold threadB at hth
  simp only [Bool.and_eq_true, decide_eq_true_eq] at hth
  obtain ⟨⟨⟨ht1, ht2⟩, ht3⟩, ht4⟩ := hth
  have HL := Lib.hid ht3
  clear h ht ht3 ht4
  go_enter Tryd.func26, Tryd.ntmps26
  go_wp2_with fail
  refine (checkP_l2 H.out _ (by omega)).mono ?_
  rintro e w1 ⟨rfl, hb1⟩
  have t0 := doW_cell hb1 (b' := w.heap.size + 1) (o := 0) (u := v) (by simp [go_sem])
  have t1 := doW_cell hb1 (b' := w.heap.size + 1) (o := 1) (u := .int .i64 at_) (by simp [go_sem])
  have hv1 := hv.mono (doW_below hb1)
  go_wp2_with fail
  refine (may_as HT.out hv1).mono ?_
  rintro e w2 ⟨rfl, hb2⟩
  have hb12 := below_trans hb1 hb2
  have hv2 := hv1.mono hb2
  have t0' := cell_go t0 hb2
  have t1' := cell_go t1 hb2
  clear hb1 hb2 t0 t1 hv1 hv
  have b6 : IntKind.i64.wrap (at_ + 1) = at_ + 1 := IntWalk.i64_in _ (by omega)
  go_upto_region 6 with fail
  have hS : ∀ x, Below w2.heap.size w2 x → x.cell? ⟨w.heap.size + 1, 0, none⟩ = some v ∧ x.cell? ⟨w.heap.size + 1, 1, none⟩ = some (.int .i64 at_) ∧ ValsAt x v vs ∧ Below (doW w 3 d a 0 imm ⟨loc.toArray⟩ ⟨#[]⟩ 0 v at_).heap.size (doW w 3 d a 0 imm ⟨loc.toArray⟩ ⟨#[]⟩ 0 v at_) x := fun x hx => ⟨cell_go t0' hx, cell_go t1' hx, hv2.mono hx, below_trans hb12 hx⟩
  have HS := Lib.hid hS
  have HB := Lib.hid hb12
  clear hS hb12
  go_cut [8] (fun s8 wx => DoHalf (doW w 3 d a 0 imm ⟨loc.toArray⟩ ⟨#[]⟩ 0 v at_) w at_ vs s8 wx)
  case first =>
    go_region_held3 (fun x => x.cell? ⟨w.heap.size + 1, 0, none⟩ = some v ∧ x.cell? ⟨w.heap.size + 1, 1, none⟩ = some (.int .i64 at_) ∧ ValsAt x v vs ∧ Below (doW w 3 d a 0 imm ⟨loc.toArray⟩ ⟨#[]⟩ 0 v at_).heap.size (doW w 3 d a 0 imm ⟨loc.toArray⟩ ⟨#[]⟩ 0 v at_) x)
      ((refine HS.out _ ?_; repeat (first | exact Below.refl _ _ | refine below_trans ?_ hb' | refine Below.drew ?_ | refine below_alloc ?_ _ | refine Below.setCell ?_ (by simp) _)))
      (first | (go_at_call 48; have hh := ‹World.cell? _ _ = _ ∧ _›; refine (clone_15 _ vs _ hh.2.2.1 HL.out).mono ?_; rintro e w' ⟨g, cap, rfl, hg1, hg2, hp1, hp2, hown, hb'⟩; obtain ⟨hcx, hfx⟩ := bcell hb'; have hzx := hb'.size))
    all_goals
      go_wp2
      go_meet
      first
        | exact half_b HL.out (by simp) HB.out.drew hown hb'
        | exact half_a HL.out (by simp) HB.out hown ⟨hb'.os, hb'.tape, hb'.output, hb'.size, hb'.block⟩
  case rest =>
    obtain ⟨Bo, g, cap, rfl, hB1, hB2, hg1, hg2, hne, hp1, hp2, cB0, cB1, hown, hbw⟩ := hcut
    obtain ⟨r0, r1, a0, a1, a2, a3, a4⟩ := doW_res hbw
    have hbx := doW_below hbw
    have i0 := doW_cell hbw (b' := w.heap.size) (o := 0) (u := .int .i64 3) (by simp [go_sem])
    have i1 := doW_cell hbw (b' := w.heap.size) (o := 1) (u := .int .i64 d) (by simp [go_sem])
    have i2 := doW_cell hbw (b' := w.heap.size) (o := 2) (u := .int .i64 a) (by simp [go_sem])
    have i3 := doW_cell hbw (b' := w.heap.size) (o := 3) (u := .int .i64 0) (by simp [go_sem])
    have i4 := doW_cell hbw (b' := w.heap.size) (o := 4) (u := .int .i64 imm) (by simp [go_sem])
    have i5 := doW_cell hbw (b' := w.heap.size) (o := 5) (u := .string ⟨loc.toArray⟩) (by simp [go_sem])
    have i6 := doW_cell hbw (b' := w.heap.size) (o := 6) (u := .string ⟨#[]⟩) (by simp [go_sem])
    have i7 := doW_cell hbw (b' := w.heap.size) (o := 7) (u := .int .i64 0) (by simp [go_sem])
    clear t0' t1' hv2 HS HB b6
    go_wp2_with (go_at_call 49; refine (table_c _).mono ?_; rintro e w3 ⟨rfl, rfl⟩)
    have HOwn := Lib.hid hown
    have HBw := Lib.hid hbw
    have HBx := Lib.hid hbx
    have hk0 : wc.cell? ⟨Bo, 0, none⟩ = some (.slice (some ⟨g, 0, none⟩) 15 cap) := cB0
    clear hown hbw hbx
    have HR := Lib.hid (show doR 3 d a imm loc vs = some (vs, actV 2 ⟨loc.toArray⟩ 0 d 0) from rfl)
    clear i1 i2 i3 i4 i5 i6 i7 r0 r1 a0 a1 a2 a3 a4 hk0
    go_loopw [10, 34] (fun _ i wr => ∃ k : Nat, k < 3 ∧ i = .int .i64 k ∧ Below (wc.heap.size + 1) (wc.alloc (.cells tabCells 81 (0, 0))) wr) (fun _ i _ => 5 - (intOf i).toNat)
    case atStart => exact ⟨0, by omega, rfl, Below.refl _ _⟩
    case round =>
      obtain ⟨k, hk, rfl, hr0⟩ := hrel
      have hr1 : Below (wc.alloc (.cells tabCells 81 (0, 0))).heap.size (wc.alloc (.cells tabCells 81 (0, 0))) wr := by simpa using hr0
      have hrc : Below wc.heap.size wc wr := below_trans (alloc_b _ _) hr1
      have hrw := below_trans HBw.out hrc
      by_cases e0 : k = 0
      · subst e0
        have tk0 : wr.cell? ⟨wc.heap.size, 0, none⟩ = some (.int .i64 1) := cell_go (by rw [cell_new]; rfl) hr1
        have tk1 : wr.cell? ⟨wc.heap.size, 1, none⟩ = some (.func (.func 69) #[] #[]) := cell_go (by rw [cell_new]; rfl) hr1
        have i0 := cell_go i0 hrc
        have zr : w.heap.size + 4 ≤ wr.heap.size := by simpa using hrw.size
        have z1 : w.heap.size < wr.heap.size := by omega
        have z2 : Bo < wr.heap.size := Nat.lt_of_lt_of_le hB2 hrc.size
        have z3 : g < wr.heap.size := Nat.lt_of_lt_of_le hg2 hrc.size
        have z5 : wc.heap.size < wr.heap.size := by have := hr1.size; simp at this; omega
        clear hr1
        go_wp2_with fail
        go_roundw
        case rel => exact ⟨1, by omega, by first | rfl | go_num, hr0.trans ((alloc_b wr _).mono (by simpa using hr0.size))⟩
        case measure => simp [intOf]
      by_cases e1 : k = 1
      · subst e1
        have tk0 : wr.cell? ⟨wc.heap.size, 2, none⟩ = some (.int .i64 2) := cell_go (by rw [cell_new]; rfl) hr1
        have tk1 : wr.cell? ⟨wc.heap.size, 3, none⟩ = some (.func (.func 70) #[] #[]) := cell_go (by rw [cell_new]; rfl) hr1
        have i0 := cell_go i0 hrc
        have zr : w.heap.size + 4 ≤ wr.heap.size := by simpa using hrw.size
        have z1 : w.heap.size < wr.heap.size := by omega
        have z2 : Bo < wr.heap.size := Nat.lt_of_lt_of_le hB2 hrc.size
        have z3 : g < wr.heap.size := Nat.lt_of_lt_of_le hg2 hrc.size
        have z5 : wc.heap.size < wr.heap.size := by have := hr1.size; simp at this; omega
        clear hr1
        go_wp2_with fail
        go_roundw
        case rel => exact ⟨2, by omega, by first | rfl | go_num, hr0.trans ((alloc_b wr _).mono (by simpa using hr0.size))⟩
        case measure => simp [intOf]
      obtain rfl : k = 2 := by omega
      have tk0 : wr.cell? ⟨wc.heap.size, 4, none⟩ = some (.int .i64 3) := cell_go (by rw [cell_new]; rfl) hr1
      have tk1 : wr.cell? ⟨wc.heap.size, 5, none⟩ = some (.func (.func 71) #[] #[]) := cell_go (by rw [cell_new]; rfl) hr1
      have i0 := cell_go i0 hrc
      have zr : w.heap.size + 4 ≤ wr.heap.size := by simpa using hrw.size
      have z1 : w.heap.size < wr.heap.size := by omega
      have z2 : Bo < wr.heap.size := Nat.lt_of_lt_of_le hB2 hrc.size
      have z3 : g < wr.heap.size := Nat.lt_of_lt_of_le hg2 hrc.size
      have z5 : wc.heap.size < wr.heap.size := by have := hr1.size; simp at this; omega
      have i1 := doW_cell hrw (b' := w.heap.size) (o := 1) (u := .int .i64 d) (by simp [go_sem])
      have i2 := doW_cell hrw (b' := w.heap.size) (o := 2) (u := .int .i64 a) (by simp [go_sem])
      have i3 := doW_cell hrw (b' := w.heap.size) (o := 3) (u := .int .i64 0) (by simp [go_sem])
      have i4 := doW_cell hrw (b' := w.heap.size) (o := 4) (u := .int .i64 imm) (by simp [go_sem])
      have i5 := doW_cell hrw (b' := w.heap.size) (o := 5) (u := .string ⟨loc.toArray⟩) (by simp [go_sem])
      have i6 := doW_cell hrw (b' := w.heap.size) (o := 6) (u := .string ⟨#[]⟩) (by simp [go_sem])
      have i7 := doW_cell hrw (b' := w.heap.size) (o := 7) (u := .int .i64 0) (by simp [go_sem])
      have HOr := Lib.hid (HOwn.out.mono hrc)
      have cB0 := cell_go cB0 hrc
      have cB1 := cell_go cB1 hrc
      clear hr0 hr1
      go_wp2_with fail
      refine (do3_c _ _ _ _ _ _ _ _ _ _).mono ?_
      rintro e w4 ⟨rfl, hb4⟩
      have hB4 := below_trans (below_trans hrw (alloc_b _ _)) hb4
      have HO4 := Lib.hid ((HOr.out.mono (alloc_b _ _)).mono hb4)
      have cB0 := cell_go (cell_al cB0 _) hb4
      have cB1 := cell_go (cell_al cB1 _) hb4
      have hY : Bo < w4.heap.size := by have := hb4.size; simp at this; omega
      obtain ⟨r0, r1, a0, a1, a2, a3, a4⟩ := doW_res hB4
      have hBx4 := doW_below hB4
      have hf1 := fun o => (doW_fr hB4 o).1
      have hf2 := fun o => (doW_fr hB4 o).2
      have z4 : w.heap.size + 4 ≤ w4.heap.size := by simpa using hB4.size
      have y1 : w.heap.size + 1 + 1 < w4.heap.size := by omega
      have y2 : w.heap.size + 1 + 1 + 1 < w4.heap.size := by omega
      have y3 : Bo < w4.heap.size := hY
      clear hB4 hb4 hrw hrc i0 i1 i2 i3 i4 i5 i6 i7 tk0 tk1 hY
      go_wp2_with fail
      go_region
      all_goals
        go_wp2
        refine bodyPost_ret (v := .tuple #[locV (.slice (some ⟨g, 0, none⟩) 15 cap) (at_ + 1), actV 2 ⟨loc.toArray⟩ 0 d 0, .int .i64 0]) (by simp [results, Tryd.results26, go_sem, *]) rfl ?_
        rw [HR.out]
        refine ⟨_, rfl, RegsOwn.lower (base := w.heap.size + 4) ?_ (by omega), ?_⟩
        · repeat (first | with_reducible exact HO4.out | with_reducible refine RegsOwn.dr ?_ | with_reducible refine RegsOwn.al ?_ _ | with_reducible refine RegsOwn.setOther ?_ (by simp [Value.ownBlock] <;> omega) _)
        · repeat (first | with_reducible exact hBx4 | with_reducible refine Below.drew ?_ | with_reducible refine below_alloc ?_ _ | with_reducible refine Below.setCell ?_ (by simp <;> omega) _)

set_option maxHeartbeats 4000000 in
set_option maxRecDepth 100000 in
theorem doP_4 {op d a imm : Int} {loc : List UInt8} (h : insB op d a 0 imm ⟨loc.toArray⟩ ⟨#[]⟩ 0 = true) (v : Value) (at_ : Int) (vs : List (List UInt8 × Int)) (w : World) (hv : ValsAt w v vs) (ht : threadB 15 at_ vs = true) (hop : op = 4) :
    Calls Tryd.prog 26 #[insV op d a 0 imm ⟨loc.toArray⟩ ⟨#[]⟩ 0, locV v at_] w (DoAny (doR op d a imm loc vs) (at_ + 1) w) := by
  subst hop
  have h42 := (insB_4 h).2.1
  obtain ⟨k4, hk4, rfl⟩ := regB_nat h42
  clear h42
  have hs := insB_loc h
  have H := Lib.hid h
  have HT := Lib.hid ht
  have hth := ht
  unfold threadB at hth
  simp only [Bool.and_eq_true, decide_eq_true_eq] at hth
  obtain ⟨⟨⟨ht1, ht2⟩, ht3⟩, ht4⟩ := hth
  have HL := Lib.hid ht3
  clear h ht ht3 ht4
  go_enter Tryd.func26, Tryd.ntmps26
  go_wp2_with fail
  refine (checkP_l2 H.out _ (by omega)).mono ?_
  rintro e w1 ⟨rfl, hb1⟩
  have t0 := doW_cell hb1 (b' := w.heap.size + 1) (o := 0) (u := v) (by simp [go_sem])
  have t1 := doW_cell hb1 (b' := w.heap.size + 1) (o := 1) (u := .int .i64 at_) (by simp [go_sem])
  have hv1 := hv.mono (doW_below hb1)
  go_wp2_with fail
  refine (may_as HT.out hv1).mono ?_
  rintro e w2 ⟨rfl, hb2⟩
  have hb12 := below_trans hb1 hb2
  have hv2 := hv1.mono hb2
  have t0' := cell_go t0 hb2
  have t1' := cell_go t1 hb2
  clear hb1 hb2 t0 t1 hv1 hv
  have b6 : IntKind.i64.wrap (at_ + 1) = at_ + 1 := IntWalk.i64_in _ (by omega)
  go_upto_region 6 with fail
  have hS : ∀ x, Below w2.heap.size w2 x → x.cell? ⟨w.heap.size + 1, 0, none⟩ = some v ∧ x.cell? ⟨w.heap.size + 1, 1, none⟩ = some (.int .i64 at_) ∧ ValsAt x v vs ∧ Below (doW w 4 (k4 : Int) a 0 imm ⟨loc.toArray⟩ ⟨#[]⟩ 0 v at_).heap.size (doW w 4 (k4 : Int) a 0 imm ⟨loc.toArray⟩ ⟨#[]⟩ 0 v at_) x := fun x hx => ⟨cell_go t0' hx, cell_go t1' hx, hv2.mono hx, below_trans hb12 hx⟩
  have HS := Lib.hid hS
  have HB := Lib.hid hb12
  clear hS hb12
  go_cut [8] (fun s8 wx => DoHalf (doW w 4 (k4 : Int) a 0 imm ⟨loc.toArray⟩ ⟨#[]⟩ 0 v at_) w at_ vs s8 wx)
  case first =>
    go_region_held3 (fun x => x.cell? ⟨w.heap.size + 1, 0, none⟩ = some v ∧ x.cell? ⟨w.heap.size + 1, 1, none⟩ = some (.int .i64 at_) ∧ ValsAt x v vs ∧ Below (doW w 4 (k4 : Int) a 0 imm ⟨loc.toArray⟩ ⟨#[]⟩ 0 v at_).heap.size (doW w 4 (k4 : Int) a 0 imm ⟨loc.toArray⟩ ⟨#[]⟩ 0 v at_) x)
      ((refine HS.out _ ?_; repeat (first | exact Below.refl _ _ | refine below_trans ?_ hb' | refine Below.drew ?_ | refine below_alloc ?_ _ | refine Below.setCell ?_ (by simp) _)))
      (first | (go_at_call 48; have hh := ‹World.cell? _ _ = _ ∧ _›; refine (clone_15 _ vs _ hh.2.2.1 HL.out).mono ?_; rintro e w' ⟨g, cap, rfl, hg1, hg2, hp1, hp2, hown, hb'⟩; obtain ⟨hcx, hfx⟩ := bcell hb'; have hzx := hb'.size))
    all_goals
      go_wp2
      go_meet
      first
        | exact half_b HL.out (by simp) HB.out.drew hown hb'
        | exact half_a HL.out (by simp) HB.out hown ⟨hb'.os, hb'.tape, hb'.output, hb'.size, hb'.block⟩
  case rest =>
    obtain ⟨Bo, g, cap, rfl, hB1, hB2, hg1, hg2, hne, hp1, hp2, cB0, cB1, hown, hbw⟩ := hcut
    obtain ⟨r0, r1, a0, a1, a2, a3, a4⟩ := doW_res hbw
    have hbx := doW_below hbw
    have i0 := doW_cell hbw (b' := w.heap.size) (o := 0) (u := .int .i64 4) (by simp [go_sem])
    have i1 := doW_cell hbw (b' := w.heap.size) (o := 1) (u := .int .i64 (k4 : Int)) (by simp [go_sem])
    have i2 := doW_cell hbw (b' := w.heap.size) (o := 2) (u := .int .i64 a) (by simp [go_sem])
    have i3 := doW_cell hbw (b' := w.heap.size) (o := 3) (u := .int .i64 0) (by simp [go_sem])
    have i4 := doW_cell hbw (b' := w.heap.size) (o := 4) (u := .int .i64 imm) (by simp [go_sem])
    have i5 := doW_cell hbw (b' := w.heap.size) (o := 5) (u := .string ⟨loc.toArray⟩) (by simp [go_sem])
    have i6 := doW_cell hbw (b' := w.heap.size) (o := 6) (u := .string ⟨#[]⟩) (by simp [go_sem])
    have i7 := doW_cell hbw (b' := w.heap.size) (o := 7) (u := .int .i64 0) (by simp [go_sem])
    clear t0' t1' hv2 HS HB b6
    go_wp2_with (go_at_call 49; refine (table_c _).mono ?_; rintro e w3 ⟨rfl, rfl⟩)
    have HOwn := Lib.hid hown
    have HBw := Lib.hid hbw
    have HBx := Lib.hid hbx
    have hk0 : wc.cell? ⟨Bo, 0, none⟩ = some (.slice (some ⟨g, 0, none⟩) 15 cap) := cB0
    clear hown hbw hbx
    have HR := Lib.hid (show doR 4 k4 a imm loc vs = some (vs.set k4 ([], imm), actV 1 ⟨#[]⟩ 0 0 0) from rfl)
    obtain ⟨L, hLx⟩ : ∃ L, vs[k4]'(by rw [HL.out]; exact hk4) = L := ⟨_, rfl⟩
    obtain ⟨L, n⟩ := L
    have HVX := Lib.hid hLx
    clear hLx
    clear i1 i2 i3 i4 i5 i6 i7 r0 r1 a0 a1 a2 a3 a4 hk0
    go_loopw [10, 34] (fun _ i wr => ∃ k : Nat, k < 4 ∧ i = .int .i64 k ∧ Below (wc.heap.size + 1) (wc.alloc (.cells tabCells 81 (0, 0))) wr) (fun _ i _ => 5 - (intOf i).toNat)
    case atStart => exact ⟨0, by omega, rfl, Below.refl _ _⟩
    case round =>
      obtain ⟨k, hk, rfl, hr0⟩ := hrel
      have hr1 : Below (wc.alloc (.cells tabCells 81 (0, 0))).heap.size (wc.alloc (.cells tabCells 81 (0, 0))) wr := by simpa using hr0
      have hrc : Below wc.heap.size wc wr := below_trans (alloc_b _ _) hr1
      have hrw := below_trans HBw.out hrc
      by_cases e0 : k = 0
      · subst e0
        have tk0 : wr.cell? ⟨wc.heap.size, 0, none⟩ = some (.int .i64 1) := cell_go (by rw [cell_new]; rfl) hr1
        have tk1 : wr.cell? ⟨wc.heap.size, 1, none⟩ = some (.func (.func 69) #[] #[]) := cell_go (by rw [cell_new]; rfl) hr1
        have i0 := cell_go i0 hrc
        have zr : w.heap.size + 4 ≤ wr.heap.size := by simpa using hrw.size
        have z1 : w.heap.size < wr.heap.size := by omega
        have z2 : Bo < wr.heap.size := Nat.lt_of_lt_of_le hB2 hrc.size
        have z3 : g < wr.heap.size := Nat.lt_of_lt_of_le hg2 hrc.size
        have z5 : wc.heap.size < wr.heap.size := by have := hr1.size; simp at this; omega
        clear hr1
        go_wp2_with fail
        go_roundw
        case rel => exact ⟨1, by omega, by first | rfl | go_num, hr0.trans ((alloc_b wr _).mono (by simpa using hr0.size))⟩
        case measure => simp [intOf]
      by_cases e1 : k = 1
      · subst e1
        have tk0 : wr.cell? ⟨wc.heap.size, 2, none⟩ = some (.int .i64 2) := cell_go (by rw [cell_new]; rfl) hr1
        have tk1 : wr.cell? ⟨wc.heap.size, 3, none⟩ = some (.func (.func 70) #[] #[]) := cell_go (by rw [cell_new]; rfl) hr1
        have i0 := cell_go i0 hrc
        have zr : w.heap.size + 4 ≤ wr.heap.size := by simpa using hrw.size
        have z1 : w.heap.size < wr.heap.size := by omega
        have z2 : Bo < wr.heap.size := Nat.lt_of_lt_of_le hB2 hrc.size
        have z3 : g < wr.heap.size := Nat.lt_of_lt_of_le hg2 hrc.size
        have z5 : wc.heap.size < wr.heap.size := by have := hr1.size; simp at this; omega
        clear hr1
        go_wp2_with fail
        go_roundw
        case rel => exact ⟨2, by omega, by first | rfl | go_num, hr0.trans ((alloc_b wr _).mono (by simpa using hr0.size))⟩
        case measure => simp [intOf]
      by_cases e2 : k = 2
      · subst e2
        have tk0 : wr.cell? ⟨wc.heap.size, 4, none⟩ = some (.int .i64 3) := cell_go (by rw [cell_new]; rfl) hr1
        have tk1 : wr.cell? ⟨wc.heap.size, 5, none⟩ = some (.func (.func 71) #[] #[]) := cell_go (by rw [cell_new]; rfl) hr1
        have i0 := cell_go i0 hrc
        have zr : w.heap.size + 4 ≤ wr.heap.size := by simpa using hrw.size
        have z1 : w.heap.size < wr.heap.size := by omega
        have z2 : Bo < wr.heap.size := Nat.lt_of_lt_of_le hB2 hrc.size
        have z3 : g < wr.heap.size := Nat.lt_of_lt_of_le hg2 hrc.size
        have z5 : wc.heap.size < wr.heap.size := by have := hr1.size; simp at this; omega
        clear hr1
        go_wp2_with fail
        go_roundw
        case rel => exact ⟨3, by omega, by first | rfl | go_num, hr0.trans ((alloc_b wr _).mono (by simpa using hr0.size))⟩
        case measure => simp [intOf]
      obtain rfl : k = 3 := by omega
      have tk0 : wr.cell? ⟨wc.heap.size, 6, none⟩ = some (.int .i64 4) := cell_go (by rw [cell_new]; rfl) hr1
      have tk1 : wr.cell? ⟨wc.heap.size, 7, none⟩ = some (.func (.func 72) #[] #[]) := cell_go (by rw [cell_new]; rfl) hr1
      have i0 := cell_go i0 hrc
      have zr : w.heap.size + 4 ≤ wr.heap.size := by simpa using hrw.size
      have z1 : w.heap.size < wr.heap.size := by omega
      have z2 : Bo < wr.heap.size := Nat.lt_of_lt_of_le hB2 hrc.size
      have z3 : g < wr.heap.size := Nat.lt_of_lt_of_le hg2 hrc.size
      have z5 : wc.heap.size < wr.heap.size := by have := hr1.size; simp at this; omega
      have i1 := doW_cell hrw (b' := w.heap.size) (o := 1) (u := .int .i64 (k4 : Int)) (by simp [go_sem])
      have i2 := doW_cell hrw (b' := w.heap.size) (o := 2) (u := .int .i64 a) (by simp [go_sem])
      have i3 := doW_cell hrw (b' := w.heap.size) (o := 3) (u := .int .i64 0) (by simp [go_sem])
      have i4 := doW_cell hrw (b' := w.heap.size) (o := 4) (u := .int .i64 imm) (by simp [go_sem])
      have i5 := doW_cell hrw (b' := w.heap.size) (o := 5) (u := .string ⟨loc.toArray⟩) (by simp [go_sem])
      have i6 := doW_cell hrw (b' := w.heap.size) (o := 6) (u := .string ⟨#[]⟩) (by simp [go_sem])
      have i7 := doW_cell hrw (b' := w.heap.size) (o := 7) (u := .int .i64 0) (by simp [go_sem])
      have HOr := Lib.hid (HOwn.out.mono hrc)
      have cB0 := cell_go cB0 hrc
      have cB1 := cell_go cB1 hrc
      have hown2 : wr.ownsRow (w.heap.size + 4) 55 2 (.slice (some ⟨g, 0, none⟩) 15 cap) vs.length (valsCells vs) := HOr.out
      rw [show vs.length = 15 from HL.out] at hown2
      have q1 : wr.cell? ⟨g, k4 * 2, none⟩ = some (.string ⟨L.toArray⟩) := by rw [World.ownsRow.cellAt hown2 _ (by omega), (valsCells_at vs k4 (by rw [HL.out]; exact hk4)).1, HVX.out]
      have q2 : wr.cell? ⟨g, k4 * 2 + 1, none⟩ = some (.int .i64 n) := by rw [World.ownsRow.cellAt hown2 _ (by omega), (valsCells_at vs k4 (by rw [HL.out]; exact hk4)).2, HVX.out]
      have hk3 : 15 ≤ cap := hp1
      have f1 : wr.frozen? ⟨g, k4 * 2, none⟩ = false := World.ownsRow.frozenAt hown2 _
      have f2 : wr.frozen? ⟨g, k4 * 2 + 1, none⟩ = false := World.ownsRow.frozenAt hown2 _
      clear hown2
      clear hr0 hr1
      go_wp2_with fail
      refine (do4_c _ _ _ _ _ _ _ _ _ k4 hk4 g cap (by simp; omega) (by simp; omega) hp1 hp2 (cell_al cB0 _) L n (cell_al q1 _) (cell_al q2 _) (fr_al f1 z3 _) (fr_al f2 z3 _)).mono ?_
      rintro e w4 ⟨rfl, hb4⟩
      have hset := set_regs (HOr.out.mono (alloc_b wr (.cells #[.int .i64 4, .func (.func 72) #[] #[]] 81 (0, 0)))) k4 imm
      have HO4 := Lib.hid (hset.mono (by simpa [World.setCell] using hb4))
      have hB4 : Below (doW w 4 k4 a 0 imm ⟨loc.toArray⟩ ⟨#[]⟩ 0 v at_).heap.size (doW w 4 k4 a 0 imm ⟨loc.toArray⟩ ⟨#[]⟩ 0 v at_) w4 := (((below_trans hrw (alloc_b wr (.cells #[.int .i64 4, .func (.func 72) #[] #[]] 81 (0, 0)))).setCell (p := ⟨g, k4 * 2, none⟩) (by simp; omega) (.string ⟨#[]⟩)).setCell (p := ⟨g, k4 * 2 + 1, none⟩) (by simp; omega) (.int .i64 imm)).trans (hb4.mono (by simp; omega))
      have cB0 := cell_go' (cell_set (cell_set (cell_al cB0 _) (p := ⟨g, k4 * 2, none⟩) (by simp; omega) (.string ⟨#[]⟩)) (p := ⟨g, k4 * 2 + 1, none⟩) (by simp; omega) (.int .i64 imm)) hb4 (by simp; omega)
      have cB1 := cell_go' (cell_set (cell_set (cell_al cB1 _) (p := ⟨g, k4 * 2, none⟩) (by simp; omega) (.string ⟨#[]⟩)) (p := ⟨g, k4 * 2 + 1, none⟩) (by simp; omega) (.int .i64 imm)) hb4 (by simp; omega)
      have hY : Bo < w4.heap.size := by have := hb4.size; simp [World.setCell] at this; omega
      clear hset q1 q2 f1 f2
      obtain ⟨r0, r1, a0, a1, a2, a3, a4⟩ := doW_res hB4
      have hBx4 := doW_below hB4
      have hf1 := fun o => (doW_fr hB4 o).1
      have hf2 := fun o => (doW_fr hB4 o).2
      have z4 : w.heap.size + 4 ≤ w4.heap.size := by simpa using hB4.size
      have y1 : w.heap.size + 1 + 1 < w4.heap.size := by omega
      have y2 : w.heap.size + 1 + 1 + 1 < w4.heap.size := by omega
      have y3 : Bo < w4.heap.size := hY
      clear hB4 hb4 hrw hrc i0 i1 i2 i3 i4 i5 i6 i7 tk0 tk1 hY
      go_wp2_with fail
      go_region
      all_goals
        go_wp2
        refine bodyPost_ret (v := .tuple #[locV (.slice (some ⟨g, 0, none⟩) 15 cap) (at_ + 1), actV 1 ⟨#[]⟩ 0 0 0, .int .i64 0]) (by simp [results, Tryd.results26, go_sem, *]) rfl ?_
        rw [HR.out]
        refine ⟨_, rfl, RegsOwn.lower (base := w.heap.size + 4) ?_ (by omega), ?_⟩
        · repeat (first | with_reducible exact HO4.out | with_reducible refine RegsOwn.dr ?_ | with_reducible refine RegsOwn.al ?_ _ | with_reducible refine RegsOwn.setOther ?_ (by simp [Value.ownBlock] <;> omega) _)
        · repeat (first | with_reducible exact hBx4 | with_reducible refine Below.drew ?_ | with_reducible refine below_alloc ?_ _ | with_reducible refine Below.setCell ?_ (by simp <;> omega) _)

set_option maxHeartbeats 4000000 in
set_option maxRecDepth 100000 in
theorem doP_5 {op d a imm : Int} {loc : List UInt8} (h : insB op d a 0 imm ⟨loc.toArray⟩ ⟨#[]⟩ 0 = true) (v : Value) (at_ : Int) (vs : List (List UInt8 × Int)) (w : World) (hv : ValsAt w v vs) (ht : threadB 15 at_ vs = true) (hop : op = 5) :
    Calls Tryd.prog 26 #[insV op d a 0 imm ⟨loc.toArray⟩ ⟨#[]⟩ 0, locV v at_] w (DoAny (doR op d a imm loc vs) (at_ + 1) w) := by
  subst hop
  have hs := insB_loc h
  have H := Lib.hid h
  have HT := Lib.hid ht
  have hth := ht
  unfold threadB at hth
  simp only [Bool.and_eq_true, decide_eq_true_eq] at hth
  obtain ⟨⟨⟨ht1, ht2⟩, ht3⟩, ht4⟩ := hth
  have HL := Lib.hid ht3
  clear h ht ht3 ht4
  go_enter Tryd.func26, Tryd.ntmps26
  go_wp2_with fail
  refine (checkP_l2 H.out _ (by omega)).mono ?_
  rintro e w1 ⟨rfl, hb1⟩
  have t0 := doW_cell hb1 (b' := w.heap.size + 1) (o := 0) (u := v) (by simp [go_sem])
  have t1 := doW_cell hb1 (b' := w.heap.size + 1) (o := 1) (u := .int .i64 at_) (by simp [go_sem])
  have hv1 := hv.mono (doW_below hb1)
  go_wp2_with fail
  refine (may_as HT.out hv1).mono ?_
  rintro e w2 ⟨rfl, hb2⟩
  have hb12 := below_trans hb1 hb2
  have hv2 := hv1.mono hb2
  have t0' := cell_go t0 hb2
  have t1' := cell_go t1 hb2
  clear hb1 hb2 t0 t1 hv1 hv
  have b6 : IntKind.i64.wrap (at_ + 1) = at_ + 1 := IntWalk.i64_in _ (by omega)
  go_upto_region 6 with fail
  have hS : ∀ x, Below w2.heap.size w2 x → x.cell? ⟨w.heap.size + 1, 0, none⟩ = some v ∧ x.cell? ⟨w.heap.size + 1, 1, none⟩ = some (.int .i64 at_) ∧ ValsAt x v vs ∧ Below (doW w 5 d a 0 imm ⟨loc.toArray⟩ ⟨#[]⟩ 0 v at_).heap.size (doW w 5 d a 0 imm ⟨loc.toArray⟩ ⟨#[]⟩ 0 v at_) x := fun x hx => ⟨cell_go t0' hx, cell_go t1' hx, hv2.mono hx, below_trans hb12 hx⟩
  have HS := Lib.hid hS
  have HB := Lib.hid hb12
  clear hS hb12
  go_cut [8] (fun s8 wx => DoHalf (doW w 5 d a 0 imm ⟨loc.toArray⟩ ⟨#[]⟩ 0 v at_) w at_ vs s8 wx)
  case first =>
    go_region_held3 (fun x => x.cell? ⟨w.heap.size + 1, 0, none⟩ = some v ∧ x.cell? ⟨w.heap.size + 1, 1, none⟩ = some (.int .i64 at_) ∧ ValsAt x v vs ∧ Below (doW w 5 d a 0 imm ⟨loc.toArray⟩ ⟨#[]⟩ 0 v at_).heap.size (doW w 5 d a 0 imm ⟨loc.toArray⟩ ⟨#[]⟩ 0 v at_) x)
      ((refine HS.out _ ?_; repeat (first | exact Below.refl _ _ | refine below_trans ?_ hb' | refine Below.drew ?_ | refine below_alloc ?_ _ | refine Below.setCell ?_ (by simp) _)))
      (first | (go_at_call 48; have hh := ‹World.cell? _ _ = _ ∧ _›; refine (clone_15 _ vs _ hh.2.2.1 HL.out).mono ?_; rintro e w' ⟨g, cap, rfl, hg1, hg2, hp1, hp2, hown, hb'⟩; obtain ⟨hcx, hfx⟩ := bcell hb'; have hzx := hb'.size))
    all_goals
      go_wp2
      go_meet
      first
        | exact half_b HL.out (by simp) HB.out.drew hown hb'
        | exact half_a HL.out (by simp) HB.out hown ⟨hb'.os, hb'.tape, hb'.output, hb'.size, hb'.block⟩
  case rest =>
    obtain ⟨Bo, g, cap, rfl, hB1, hB2, hg1, hg2, hne, hp1, hp2, cB0, cB1, hown, hbw⟩ := hcut
    obtain ⟨r0, r1, a0, a1, a2, a3, a4⟩ := doW_res hbw
    have hbx := doW_below hbw
    have i0 := doW_cell hbw (b' := w.heap.size) (o := 0) (u := .int .i64 5) (by simp [go_sem])
    have i1 := doW_cell hbw (b' := w.heap.size) (o := 1) (u := .int .i64 d) (by simp [go_sem])
    have i2 := doW_cell hbw (b' := w.heap.size) (o := 2) (u := .int .i64 a) (by simp [go_sem])
    have i3 := doW_cell hbw (b' := w.heap.size) (o := 3) (u := .int .i64 0) (by simp [go_sem])
    have i4 := doW_cell hbw (b' := w.heap.size) (o := 4) (u := .int .i64 imm) (by simp [go_sem])
    have i5 := doW_cell hbw (b' := w.heap.size) (o := 5) (u := .string ⟨loc.toArray⟩) (by simp [go_sem])
    have i6 := doW_cell hbw (b' := w.heap.size) (o := 6) (u := .string ⟨#[]⟩) (by simp [go_sem])
    have i7 := doW_cell hbw (b' := w.heap.size) (o := 7) (u := .int .i64 0) (by simp [go_sem])
    clear t0' t1' hv2 HS HB b6
    go_wp2_with (go_at_call 49; refine (table_c _).mono ?_; rintro e w3 ⟨rfl, rfl⟩)
    have HOwn := Lib.hid hown
    have HBw := Lib.hid hbw
    have HBx := Lib.hid hbx
    have hk0 : wc.cell? ⟨Bo, 0, none⟩ = some (.slice (some ⟨g, 0, none⟩) 15 cap) := cB0
    clear hown hbw hbx
    have HR := Lib.hid (show doR 5 d a imm loc vs = some (vs, actV 4 ⟨#[]⟩ 0 0 1) from rfl)
    clear i1 i2 i3 i4 i5 i6 i7 r0 r1 a0 a1 a2 a3 a4 hk0
    go_loopw [10, 34] (fun _ i wr => ∃ k : Nat, k < 5 ∧ i = .int .i64 k ∧ Below (wc.heap.size + 1) (wc.alloc (.cells tabCells 81 (0, 0))) wr) (fun _ i _ => 5 - (intOf i).toNat)
    case atStart => exact ⟨0, by omega, rfl, Below.refl _ _⟩
    case round =>
      obtain ⟨k, hk, rfl, hr0⟩ := hrel
      have hr1 : Below (wc.alloc (.cells tabCells 81 (0, 0))).heap.size (wc.alloc (.cells tabCells 81 (0, 0))) wr := by simpa using hr0
      have hrc : Below wc.heap.size wc wr := below_trans (alloc_b _ _) hr1
      have hrw := below_trans HBw.out hrc
      by_cases e0 : k = 0
      · subst e0
        have tk0 : wr.cell? ⟨wc.heap.size, 0, none⟩ = some (.int .i64 1) := cell_go (by rw [cell_new]; rfl) hr1
        have tk1 : wr.cell? ⟨wc.heap.size, 1, none⟩ = some (.func (.func 69) #[] #[]) := cell_go (by rw [cell_new]; rfl) hr1
        have i0 := cell_go i0 hrc
        have zr : w.heap.size + 4 ≤ wr.heap.size := by simpa using hrw.size
        have z1 : w.heap.size < wr.heap.size := by omega
        have z2 : Bo < wr.heap.size := Nat.lt_of_lt_of_le hB2 hrc.size
        have z3 : g < wr.heap.size := Nat.lt_of_lt_of_le hg2 hrc.size
        have z5 : wc.heap.size < wr.heap.size := by have := hr1.size; simp at this; omega
        clear hr1
        go_wp2_with fail
        go_roundw
        case rel => exact ⟨1, by omega, by first | rfl | go_num, hr0.trans ((alloc_b wr _).mono (by simpa using hr0.size))⟩
        case measure => simp [intOf]
      by_cases e1 : k = 1
      · subst e1
        have tk0 : wr.cell? ⟨wc.heap.size, 2, none⟩ = some (.int .i64 2) := cell_go (by rw [cell_new]; rfl) hr1
        have tk1 : wr.cell? ⟨wc.heap.size, 3, none⟩ = some (.func (.func 70) #[] #[]) := cell_go (by rw [cell_new]; rfl) hr1
        have i0 := cell_go i0 hrc
        have zr : w.heap.size + 4 ≤ wr.heap.size := by simpa using hrw.size
        have z1 : w.heap.size < wr.heap.size := by omega
        have z2 : Bo < wr.heap.size := Nat.lt_of_lt_of_le hB2 hrc.size
        have z3 : g < wr.heap.size := Nat.lt_of_lt_of_le hg2 hrc.size
        have z5 : wc.heap.size < wr.heap.size := by have := hr1.size; simp at this; omega
        clear hr1
        go_wp2_with fail
        go_roundw
        case rel => exact ⟨2, by omega, by first | rfl | go_num, hr0.trans ((alloc_b wr _).mono (by simpa using hr0.size))⟩
        case measure => simp [intOf]
      by_cases e2 : k = 2
      · subst e2
        have tk0 : wr.cell? ⟨wc.heap.size, 4, none⟩ = some (.int .i64 3) := cell_go (by rw [cell_new]; rfl) hr1
        have tk1 : wr.cell? ⟨wc.heap.size, 5, none⟩ = some (.func (.func 71) #[] #[]) := cell_go (by rw [cell_new]; rfl) hr1
        have i0 := cell_go i0 hrc
        have zr : w.heap.size + 4 ≤ wr.heap.size := by simpa using hrw.size
        have z1 : w.heap.size < wr.heap.size := by omega
        have z2 : Bo < wr.heap.size := Nat.lt_of_lt_of_le hB2 hrc.size
        have z3 : g < wr.heap.size := Nat.lt_of_lt_of_le hg2 hrc.size
        have z5 : wc.heap.size < wr.heap.size := by have := hr1.size; simp at this; omega
        clear hr1
        go_wp2_with fail
        go_roundw
        case rel => exact ⟨3, by omega, by first | rfl | go_num, hr0.trans ((alloc_b wr _).mono (by simpa using hr0.size))⟩
        case measure => simp [intOf]
      by_cases e3 : k = 3
      · subst e3
        have tk0 : wr.cell? ⟨wc.heap.size, 6, none⟩ = some (.int .i64 4) := cell_go (by rw [cell_new]; rfl) hr1
        have tk1 : wr.cell? ⟨wc.heap.size, 7, none⟩ = some (.func (.func 72) #[] #[]) := cell_go (by rw [cell_new]; rfl) hr1
        have i0 := cell_go i0 hrc
        have zr : w.heap.size + 4 ≤ wr.heap.size := by simpa using hrw.size
        have z1 : w.heap.size < wr.heap.size := by omega
        have z2 : Bo < wr.heap.size := Nat.lt_of_lt_of_le hB2 hrc.size
        have z3 : g < wr.heap.size := Nat.lt_of_lt_of_le hg2 hrc.size
        have z5 : wc.heap.size < wr.heap.size := by have := hr1.size; simp at this; omega
        clear hr1
        go_wp2_with fail
        go_roundw
        case rel => exact ⟨4, by omega, by first | rfl | go_num, hr0.trans ((alloc_b wr _).mono (by simpa using hr0.size))⟩
        case measure => simp [intOf]
      obtain rfl : k = 4 := by omega
      have tk0 : wr.cell? ⟨wc.heap.size, 8, none⟩ = some (.int .i64 5) := cell_go (by rw [cell_new]; rfl) hr1
      have tk1 : wr.cell? ⟨wc.heap.size, 9, none⟩ = some (.func (.func 73) #[] #[]) := cell_go (by rw [cell_new]; rfl) hr1
      have i0 := cell_go i0 hrc
      have zr : w.heap.size + 4 ≤ wr.heap.size := by simpa using hrw.size
      have z1 : w.heap.size < wr.heap.size := by omega
      have z2 : Bo < wr.heap.size := Nat.lt_of_lt_of_le hB2 hrc.size
      have z3 : g < wr.heap.size := Nat.lt_of_lt_of_le hg2 hrc.size
      have z5 : wc.heap.size < wr.heap.size := by have := hr1.size; simp at this; omega
      have i1 := doW_cell hrw (b' := w.heap.size) (o := 1) (u := .int .i64 d) (by simp [go_sem])
      have i2 := doW_cell hrw (b' := w.heap.size) (o := 2) (u := .int .i64 a) (by simp [go_sem])
      have i3 := doW_cell hrw (b' := w.heap.size) (o := 3) (u := .int .i64 0) (by simp [go_sem])
      have i4 := doW_cell hrw (b' := w.heap.size) (o := 4) (u := .int .i64 imm) (by simp [go_sem])
      have i5 := doW_cell hrw (b' := w.heap.size) (o := 5) (u := .string ⟨loc.toArray⟩) (by simp [go_sem])
      have i6 := doW_cell hrw (b' := w.heap.size) (o := 6) (u := .string ⟨#[]⟩) (by simp [go_sem])
      have i7 := doW_cell hrw (b' := w.heap.size) (o := 7) (u := .int .i64 0) (by simp [go_sem])
      have HOr := Lib.hid (HOwn.out.mono hrc)
      have cB0 := cell_go cB0 hrc
      have cB1 := cell_go cB1 hrc
      clear hr0 hr1
      go_wp2_with fail
      refine (do5_c _ _ _ _ _ _ _ _ _ _).mono ?_
      rintro e w4 ⟨rfl, hb4⟩
      have hB4 := below_trans (below_trans hrw (alloc_b _ _)) hb4
      have HO4 := Lib.hid ((HOr.out.mono (alloc_b _ _)).mono hb4)
      have cB0 := cell_go (cell_al cB0 _) hb4
      have cB1 := cell_go (cell_al cB1 _) hb4
      have hY : Bo < w4.heap.size := by have := hb4.size; simp at this; omega
      obtain ⟨r0, r1, a0, a1, a2, a3, a4⟩ := doW_res hB4
      have hBx4 := doW_below hB4
      have hf1 := fun o => (doW_fr hB4 o).1
      have hf2 := fun o => (doW_fr hB4 o).2
      have z4 : w.heap.size + 4 ≤ w4.heap.size := by simpa using hB4.size
      have y1 : w.heap.size + 1 + 1 < w4.heap.size := by omega
      have y2 : w.heap.size + 1 + 1 + 1 < w4.heap.size := by omega
      have y3 : Bo < w4.heap.size := hY
      clear hB4 hb4 hrw hrc i0 i1 i2 i3 i4 i5 i6 i7 tk0 tk1 hY
      go_wp2_with fail
      go_region
      all_goals
        go_wp2
        refine bodyPost_ret (v := .tuple #[locV (.slice (some ⟨g, 0, none⟩) 15 cap) (at_ + 1), actV 4 ⟨#[]⟩ 0 0 1, .int .i64 0]) (by simp [results, Tryd.results26, go_sem, *]) rfl ?_
        rw [HR.out]
        refine ⟨_, rfl, RegsOwn.lower (base := w.heap.size + 4) ?_ (by omega), ?_⟩
        · repeat (first | with_reducible exact HO4.out | with_reducible refine RegsOwn.dr ?_ | with_reducible refine RegsOwn.al ?_ _ | with_reducible refine RegsOwn.setOther ?_ (by simp [Value.ownBlock] <;> omega) _)
        · repeat (first | with_reducible exact hBx4 | with_reducible refine Below.drew ?_ | with_reducible refine below_alloc ?_ _ | with_reducible refine Below.setCell ?_ (by simp <;> omega) _)

theorem doP_c {op d a imm : Int} {loc : List UInt8} (h : insB op d a 0 imm ⟨loc.toArray⟩ ⟨#[]⟩ 0 = true) (v : Value) (at_ : Int) (vs : List (List UInt8 × Int)) (w : World) (hv : ValsAt w v vs) (ht : threadB 15 at_ vs = true) :
    Calls Tryd.prog 26 #[insV op d a 0 imm ⟨loc.toArray⟩ ⟨#[]⟩ 0, locV v at_] w (DoAny (doR op d a imm loc vs) (at_ + 1) w) := by
  rcases insB_op h with e | e | e | e | e
  · exact doP_1 h v at_ vs w hv ht e
  · exact doP_2 h v at_ vs w hv ht e
  · exact doP_3 h v at_ vs w hv ht e
  · exact doP_4 h v at_ vs w hv ht e
  · exact doP_5 h v at_ vs w hv ht e
end Go.Proofs.YtlpcahkchmlghaaDoor
