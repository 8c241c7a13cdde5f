/- Layer 15: the runner's run: the program's. -/
import Derived.Test.YtjhafgnmahhacaaGreatDoorTe36

namespace Go.Proofs.YtjhafgnmahhacaaGreatDoor
open Go.RowKit
section
theorem barBlk (w : World) (a b c : Int) : encB.At (w.alloc (.cells #[.int .i64 a, .int .i64 b, .int .i64 c] 72 (0, 0))) (some ⟨w.heap.size, 0, none⟩) [⟨a, b, c⟩] := by
  have hB := Blk.new w 72 #[.int .i64 a, .int .i64 b, .int .i64 c]
  intro i x hx
  refine ⟨w.heap.size, 0, rfl, fun j u hj => ?_⟩
  match i, hx with
  | 0, hx =>
    simp at hx; subst hx
    rw [show 0 + 0 * encB.size + j = j by omega, hB.cell]
    rw [← hj]; simp
section
set_option maxHeartbeats 40000000
set_option maxRecDepth 100000
variable {w0 w : World} {g nr : Nat} {S : RunS} {r : Rn} {V : RunV}
theorem runP (c : List Ins) (HS : Stat w0 S) (hb : Below w0.heap.size w0 w) (hc : S.T.code[S.C.th]? = some c) (hval : ∀ k x, c[k]? = some x → ValI S.C nr c k x) (hcl : c.length ≤ 256) (hI : Inv S.C nr 0 r) (hR : RunAt w w0.heap.size g S r V) (hnr : nr ≤ 32) :
    Calls Tryz.prog 63 #[.pointer (some ⟨g, 0, none⟩)] w (GoPost w0.heap.size g S V (goL S.C c 0 r) w) := by
  obtain ⟨X, hX⟩ : ∃ X, goL S.C c 0 r = X := ⟨_, rfl⟩
  have HRN0 := Lib.hid (show Rnd w0 w g nr S c X V 0 r V w from ⟨hI, hR, hX, Below.refl _ _, FrV.refl _ _ _⟩)
  rw [hX]
  have HB00 := Lib.hid hb
  have hbs := hb.size
  have HVAL := Lib.hid hval
  have HSS := Lib.hid HS
  obtain ⟨Ai, Ac, ci, cc, hiv, hcv, hT⟩ := HS.tst
  obtain ⟨b, o, A2, c2, rfl, hcc0, hins, hl1, hl2⟩ := hT.code _ _ hc
  have hcc := cell_go hcc0 hb
  have k4 : w.cell? ⟨g, 4, none⟩ = some (.slice (some ⟨b, o, none⟩) S.T.code.length cc) := by rw [← hcv]; exact hR.blk.cell 4
  have k12 : w.cell? ⟨g, 12, none⟩ = some (.int .i64 (S.C.th : Int)) := hR.blk.cell 12
  have hth := (List.getElem?_eq_some_iff.1 hc).1
  have hi1 : (0 : Int) ≤ (S.C.th : Int) := by omega
  have hi2 : (S.C.th : Int) < (S.T.code.length : Int) := by omega
  have d4 := cell_dr k4
  have d12 := cell_dr k12
  have dcc := cell_dr hcc
  have HC0 := Lib.hid (show InsAt w0 A2 c from hins)
  clear hX hI hR hval HS hT hins hc hiv hcv hb hcc0
  go_enter Tryz.func63, Tryz.ntmps63
  go_wp2_with fail
  refine still_all (by kernel_rfl) (by kernel_rfl) ?_
  repeat still_step
  refine wpStill_nil ?_
  go_wp2_with fail
  have HR0 := Lib.hid (show Rnd w0 w g nr S c X V 0 r V w.drew from ⟨HRN0.out.inv, HRN0.out.run.drew, HRN0.out.go, HRN0.out.below.drew, HRN0.out.fr.drew⟩)
  clear HRN0 d4 d12 dcc k4 k12 hcc
  go_loopw [4] (fun v wr => ∃ (k : Nat) (r1 : Rn) (V1 : RunV), v = .int .i64 k ∧ Rnd w0 w g nr S c X V k r1 V1 wr) (fun v _ => c.length - (intOf v).toNat)
  case atStart => exact ⟨0, r, V, rfl, HR0.out⟩
  case round =>
    obtain ⟨k, r1, V1, rfl, hrn⟩ := hrel
    have HRN := Lib.hid hrn
    have hbw := hrn.below.size
    have hbs2 : w0.heap.size ≤ wr.heap.size := Nat.le_trans hbs hbw
    have HBW := Lib.hid (HB00.out.trans hrn.below)
    have HCR := Lib.hid (HC0.out.below HBW.out)
    have k25 : wr.cell? ⟨g, 25, none⟩ = some (.bool r1.full) := hrn.run.blk.cell 25
    clear hrn HR0
    by_cases hk : k < c.length
    · have hki : (k : Int) < (c.length : Int) := by omega
      have hki0 : (0 : Int) ≤ (k : Int) := by omega
      cases hf : r1.full with
      | true =>
        rw [hf] at k25
        have HV := Lib.hid (show X = some r1 by rw [← HRN.out.go, goL_full hf])
        clear hf
        go_wp2_with fail
        go_ret
        exact GoPost.yes HV.out ⟨V1, rfl, HRN.out.run, HRN.out.below, HRN.out.fr⟩
      | false =>
        rw [hf] at k25
        have HF := Lib.hid hf
        have HKL := Lib.hid hk
        obtain ⟨x, hx⟩ : ∃ x, c[k]? = some x := ⟨_, List.getElem?_eq_getElem hk⟩
        have hv := HVAL.out k x hx
        obtain ⟨op, d, a, b2, imm, loc, label, fence⟩ := x
        obtain ⟨kd, rfl⟩ := Int.eq_ofNat_of_zero_le hv.d.1
        obtain ⟨ka, rfl⟩ := Int.eq_ofNat_of_zero_le hv.a.1
        obtain ⟨kb, rfl⟩ := Int.eq_ofNat_of_zero_le hv.b.1
        have HX := Lib.hid hx
        have HV := Lib.hid hv
        have hrl := HRN.out.inv.rlen
        have hd1 : kd < r1.regs.length := by have := hv.d.2; simp only at this; omega
        have ha1 : ka < r1.regs.length := by have := hv.a.2; simp only at this; omega
        have hb1 : kb < r1.regs.length := by have := hv.b.2; simp only at this; omega
        have hl1' : r1.regs.length ≤ 32 := by omega
        have hop := hv.op
        simp only at hop
        obtain ⟨b', o', rfl, c0, c1, c2', c3, c4, c5, c6, c7⟩ := HCR.out.cells hx
        simp only at c0 c1 c2' c3 c4 c5 c6 c7
        have HB1 := Lib.hid (alloc_b wr (.cells #[.int .i64 op, .int .i64 (kd : Int), .int .i64 (ka : Int), .int .i64 (kb : Int), .int .i64 imm, .string ⟨loc.toArray⟩, .string ⟨label.toArray⟩, .int .i64 fence] 70 (0, 0)))
        have HBI := Lib.hid (Blk.new wr 70 #[.int .i64 op, .int .i64 (kd : Int), .int .i64 (ka : Int), .int .i64 (kb : Int), .int .i64 imm, .string ⟨loc.toArray⟩, .string ⟨label.toArray⟩, .int .i64 fence])
        have HR1 := Lib.hid (HRN.out.run.below HB1.out)
        have HBC := Lib.hid (HBW.out.trans (HB1.out.mono hbs2))
        have hloc := hv.loc
        have himm := hv.imm
        have hlab := hv.lab
        have hfen := hv.fen
        simp only at hloc himm hlab hfen
        have HLOC := Lib.hid hloc
        have HLAB := Lib.hid hlab
        clear hx hv hf hk hloc hlab HVAL
        have h13 : op = 1 ∨ op = 2 ∨ op = 3 ∨ op = 4 ∨ op = 5 ∨ op = 6 ∨ op = 7 ∨ op = 8 ∨ op = 9 ∨ op = 10 ∨ op = 11 ∨ op = 12 ∨ op = 13 := by omega
        clear hop
        rcases h13 with rfl | rfl | rfl | rfl | rfl | rfl | rfl | rfl | rfl | rfl | rfl | rfl | rfl
        · have HWR := Lib.hid (fun (w : World) (hb : Below w0.heap.size w0 w) (hR : RunAt w w0.heap.size g S r1 V1) => writePn (w := w) k loc imm HSS.out hb HRN.out.inv HF.out hR (HLOC.out (by omega)) himm)
          cases hw : writeL S.C r1 k loc 0 ⟨.num imm, 0⟩ with
          | none =>
            have HW := Lib.hid (fun (w : World) (hb : Below w0.heap.size w0 w) (hR : RunAt w w0.heap.size g S r1 V1) => by have := HWR.out w hb hR; rw [hw] at this; exact this)
            have HS0 := Lib.hid (show stepL S.C r1 c k ⟨1, (kd : Int), (ka : Int), (kb : Int), imm, loc, label, fence⟩ = none by rw [step_1, hw]; rfl)
            clear hw HWR
            go_wp2_with (go_at_call 135; refine (HW.out _ HBC.out HR1.out).mono ?_; rintro e w8 ⟨V8, rfl, hR8, hb8, hf8⟩; have HR8 := Lib.hid hR8; have HB8 := Lib.hid hb8; have HF8 := Lib.hid hf8; clear hR8 hb8 hf8)
            go_ret
            exact HRN.out.fell HX.out HF.out HS0.out rfl HR8.out ((HB1.out.mono hbs2).trans HB8.out) ((FrV.of_below HB1.out).trans HF8.out)
          | some r2 =>
            have HW := Lib.hid (fun (w : World) (hb : Below w0.heap.size w0 w) (hR : RunAt w w0.heap.size g S r1 V1) => by have := HWR.out w hb hR; rw [hw] at this; exact this)
            have HS0 := Lib.hid (show stepL S.C r1 c k ⟨1, (kd : Int), (ka : Int), (kb : Int), imm, loc, label, fence⟩ = some (r2, k + 1) by rw [step_1, hw]; rfl)
            clear hw HWR
            go_wp2_with (go_at_call 135; refine (HW.out _ HBC.out HR1.out).mono ?_; rintro e w8 ⟨V8, rfl, hR8, hb8, hf8⟩; have HR8 := Lib.hid hR8; have HB8 := Lib.hid hb8; have HF8 := Lib.hid hf8; clear hR8 hb8 hf8)
            go_roundw
            case rel => exact ⟨k + 1, _, _, by go_num, HRN.out.step HX.out HF.out HV.out HS0.out HR8.out ((HB1.out.mono hbs2).trans HB8.out) ((FrV.of_below HB1.out).trans HF8.out)⟩
            case measure => have hkl := HKL.out; simp [intOf]; omega
        · have hae := List.getElem?_eq_getElem ha1
          obtain ⟨ra, hra⟩ : ∃ x, r1.regs[ka] = x := ⟨_, rfl⟩
          rw [hra] at hae
          have hga := rgA_at hae
          have HWR := Lib.hid (fun (w : World) (hb : Below w0.heap.size w0 w) (hR : RunAt w w0.heap.size g S r1 V1) => writeP0 (w := w) k loc ra HSS.out hb HRN.out.inv HF.out hR (HLOC.out (by omega)) (HRN.out.inv.regs ra (List.mem_of_getElem? hae)))
          obtain ⟨q, hvr, hqb, hqB⟩ := HR1.out.regs
          have HQ := Lib.hid hqb
          have hi5 : (0 : Int) ≤ (ka : Int) := by omega
          have hi6 : (ka : Int) < (r1.regs.length : Int) := by omega
          have HAE := Lib.hid hae
          have HGA := Lib.hid hga
          have hgw : g < (wr.alloc (.cells #[.int .i64 2, .int .i64 (kd : Int), .int .i64 (ka : Int), .int .i64 (kb : Int), .int .i64 imm, .string ⟨loc.toArray⟩, .string ⟨label.toArray⟩, .int .i64 fence] 70 (0, 0))).heap.size := HR1.out.blk.lt
          have hqw : q < (wr.alloc (.cells #[.int .i64 2, .int .i64 (kd : Int), .int .i64 (ka : Int), .int .i64 (kb : Int), .int .i64 imm, .string ⟨loc.toArray⟩, .string ⟨label.toArray⟩, .int .i64 fence] 70 (0, 0))).heap.size := hqb.lt
          clear hra hqb hae hga hrl
          go_wp2_with fail
          generalize hw1 : (wr.alloc (.cells #[.int .i64 2, .int .i64 (kd : Int), .int .i64 (ka : Int), .int .i64 (kb : Int), .int .i64 imm, .string ⟨loc.toArray⟩, .string ⟨label.toArray⟩, .int .i64 fence] 70 (0, 0))) = w1 at *
          clear hw1
          have i2 : w1.cell? ⟨wr.heap.size, 2, none⟩ = some (.int .i64 (ka : Int)) := HBI.out.cell 2
          have i5 : w1.cell? ⟨wr.heap.size, 5, none⟩ = some (.string ⟨loc.toArray⟩) := HBI.out.cell 5
          have k14 : w1.cell? ⟨g, 14, none⟩ = some (.slice (some ⟨q, 0, none⟩) r1.regs.length r1.regs.length) := by rw [← hvr]; exact HR1.out.blk.cell 14
          obtain ⟨e0, e1, e2, e3, e4⟩ := regs_cell HQ.out HAE.out
          refine wz (fun y : World => (y.cell? ⟨wr.heap.size, 2, none⟩ = some (.int .i64 (ka : Int)) ∧ y.cell? ⟨wr.heap.size, 5, none⟩ = some (.string ⟨loc.toArray⟩)) ∧ y.cell? ⟨g, 14, none⟩ = some (.slice (some ⟨q, 0, none⟩) r1.regs.length r1.regs.length) ∧ y.cell? ⟨q, ka * 5, none⟩ = some (holdV ra.h) ∧ y.cell? ⟨q, ka * 5 + 1, none⟩ = some (.int .u64 (ra.on : Int)) ∧ y.cell? ⟨q, ka * 5 + 2, none⟩ = some (.int .u64 0) ∧ y.cell? ⟨q, ka * 5 + 3, none⟩ = some (.int .u64 0) ∧ y.cell? ⟨q, ka * 5 + 4, none⟩ = some (.int .u64 0)) [3, 8, 10, 11, 12] ⟨⟨i2, i5⟩, k14, e0, e1, e2, e3, e4⟩ (fun hHeld => ?_)
          refine wq 0 ?_
          refine wq 1 ?_
          refine wq 2 ?_
          refine wq 4 ?_
          refine wq 5 ?_
          refine wq 6 ?_
          refine wq 7 ?_
          refine wq 9 ?_
          refine wt 3 (by assumption) ?_
          refine wt 8 (by assumption) ?_
          refine wt 10 (by assumption) ?_
          refine wt 11 (by assumption) ?_
          refine wt 12 (by assumption) ?_
          refine wl 13 ?_
          have HB1D := Lib.hid HB1.out.drew
          have HRD := Lib.hid HR1.out.drew
          have HBD := Lib.hid (HBC.out.drew)
          clear hHeld i2 i5 k14 e0 e1 e2 e3 e4
          cases hw : writeL S.C r1 k loc 0 ra with
          | none =>
            have HW := Lib.hid (fun (w : World) (hb : Below w0.heap.size w0 w) (hR : RunAt w w0.heap.size g S r1 V1) => by have := HWR.out w hb hR; rw [hw] at this; exact this)
            have HS0 := Lib.hid (show stepL S.C r1 c k ⟨2, (kd : Int), (ka : Int), (kb : Int), imm, loc, label, fence⟩ = none by rw [step_2, HGA.out, hw]; rfl)
            clear hw HWR
            go_wp2_with (go_at_call 135; refine (HW.out _ HBD.out HRD.out).mono ?_; rintro e w8 ⟨V8, rfl, hR8, hb8, hf8⟩; have HR8 := Lib.hid hR8; have HB8 := Lib.hid hb8; have HF8 := Lib.hid hf8; clear hR8 hb8 hf8)
            go_ret
            exact HRN.out.fell HX.out HF.out HS0.out rfl HR8.out ((HB1D.out.mono hbs2).trans HB8.out) ((FrV.of_below HB1D.out).trans HF8.out)
          | some r2 =>
            have HW := Lib.hid (fun (w : World) (hb : Below w0.heap.size w0 w) (hR : RunAt w w0.heap.size g S r1 V1) => by have := HWR.out w hb hR; rw [hw] at this; exact this)
            have HS0 := Lib.hid (show stepL S.C r1 c k ⟨2, (kd : Int), (ka : Int), (kb : Int), imm, loc, label, fence⟩ = some (r2, k + 1) by rw [step_2, HGA.out, hw]; rfl)
            clear hw HWR
            go_wp2_with (go_at_call 135; refine (HW.out _ HBD.out HRD.out).mono ?_; rintro e w8 ⟨V8, rfl, hR8, hb8, hf8⟩; have HR8 := Lib.hid hR8; have HB8 := Lib.hid hb8; have HF8 := Lib.hid hf8; clear hR8 hb8 hf8)
            go_roundw
            case rel => exact ⟨k + 1, _, _, by go_num, HRN.out.step HX.out HF.out HV.out HS0.out HR8.out ((HB1D.out.mono hbs2).trans HB8.out) ((FrV.of_below HB1D.out).trans HF8.out)⟩
            case measure => have hkl := HKL.out; simp [intOf]; omega
        · have HRD := Lib.hid (fun (w : World) (hb : Below w0.heap.size w0 w) (hR : RunAt w w0.heap.size g S r1 V1) => readP0 (w := w) k loc kd HSS.out hb HRN.out.inv HF.out hR (HLOC.out (by omega)) hd1 hl1')
          go_wp2_with (go_at_call 136; refine (HRD.out _ HBC.out HR1.out).mono ?_; rintro e w8 ⟨V8, rfl, hR8, hb8, hf8⟩; have HR8 := Lib.hid hR8; have HB8 := Lib.hid hb8; have HF8 := Lib.hid hf8; clear hR8 hb8 hf8)
          go_roundw
          case rel => exact ⟨k + 1, _, _, by go_num, HRN.out.step HX.out HF.out HV.out step_3 HR8.out ((HB1.out.mono hbs2).trans HB8.out) ((FrV.of_below HB1.out).trans HF8.out)⟩
          case measure => have hkl := HKL.out; simp [intOf]; omega
        · have HPT := Lib.hid (fun (w : World) (hb : Below w0.heap.size w0 w) (hR : RunAt w w0.heap.size g S r1 V1) => putPn (w := w) kd imm HSS.out hb hd1 hl1' hR)
          go_wp2_with (go_at_call 137; refine (HPT.out _ HBC.out HR1.out).mono ?_; rintro e w8 ⟨V8, rfl, hR8, hb8, hf8⟩; have HR8 := Lib.hid hR8; have HB8 := Lib.hid hb8; have HF8 := Lib.hid hf8; clear hR8 hb8 hf8)
          go_roundw
          case rel => exact ⟨k + 1, _, _, by go_num, HRN.out.step HX.out HF.out HV.out step_4 HR8.out ((HB1.out.mono hbs2).trans HB8.out) ((FrV.of_below HB1.out).trans HF8.out)⟩
          case measure => have hkl := HKL.out; simp [intOf]; omega
        · go_wp2_with fail
          generalize hw1 : (wr.alloc (.cells #[.int .i64 5, .int .i64 (kd : Int), .int .i64 (ka : Int), .int .i64 (kb : Int), .int .i64 imm, .string ⟨loc.toArray⟩, .string ⟨label.toArray⟩, .int .i64 fence] 70 (0, 0))) = w1 at *
          clear hw1
          obtain ⟨v1, v2, vbr, v4, v5, v6⟩ := V1
          obtain ⟨Ab, cb, hvb⟩ := HR1.out.bars.shp
          simp only at hvb
          subst hvb
          have k20 : w1.cell? ⟨g, 20, none⟩ = some (.slice Ab r1.bars.length cb) := HR1.out.blk.cell 20
          have k12 : w1.cell? ⟨g, 12, none⟩ = some (.int .i64 (S.C.th : Int)) := HR1.out.blk.cell 12
          have hbl := HRN.out.inv.bars
          have hgB := HR1.out.hg
          refine wz (fun y : World => y.cell? ⟨g, 20, none⟩ = some (.slice Ab r1.bars.length cb) ∧ y.cell? ⟨g, 12, none⟩ = some (.int .i64 (S.C.th : Int))) [4, 8, 10, 11] ⟨k20, k12⟩ (fun hHeld => ?_)
          refine wq 0 ?_
          refine wq 1 ?_
          refine wq 2 ?_
          refine wq 3 ?_
          refine wq 5 ?_
          refine wq 6 ?_
          refine wq 7 ?_
          refine wq 9 ?_
          refine wt 4 (by assumption) ?_
          refine wt 8 (by assumption) ?_
          refine wt 10 (by assumption) ?_
          refine wpE_one (i := 11) (by kernel_rfl) rfl (fun K hK => ?_)
          go_simp
          refine hK.out _ _ ⟨cell_al hHeld.1 _, cell_al hHeld.2 _⟩ ?_
          clear hK K
          refine pu ?_
          refine wl 12 ?_
          have HPA := Lib.hid (barBlk w1 (S.C.th : Int) (k : Int) 1)
          have HP2 := Lib.hid ((alloc_b w1 (.cells #[.int .i64 (S.C.th : Int), .int .i64 (k : Int), .int .i64 1] 72 (0, 0))).drew)
          have HRD := Lib.hid (HR1.out.below HP2.out)
          have HOB := Lib.hid HRD.out.bars
          have hz1 := HB1.out.size
          have HPD : Hid (encB.At (w1.alloc (.cells #[.int .i64 (S.C.th : Int), .int .i64 (k : Int), .int .i64 1] 72 (0, 0))).drew (some ⟨w1.heap.size, 0, none⟩) [⟨(S.C.th : Int), (k : Int), 1⟩]) := HPA
          have hzd : w1.heap.size < (w1.alloc (.cells #[.int .i64 (S.C.th : Int), .int .i64 (k : Int), .int .i64 1] 72 (0, 0))).drew.heap.size := by simp
          clear hHeld k20 k12 HPA
          generalize (w1.alloc (.cells #[.int .i64 (S.C.th : Int), .int .i64 (k : Int), .int .i64 1] 72 (0, 0))).drew = wd at *
          go_wp2_with (at_builtin; refine Enc.appW elemB _ rfl (.tmp 92) (.tmp 99) rfl [⟨(S.C.th : Int), (k : Int), 1⟩] w0.heap.size r1.bars _ w1.heap.size 0 1 rfl rfl HPD.out HOB.out (by simp; omega) (by simp; omega) (by omega) ?_; intro v' w4 hown4 hg4; obtain ⟨A4, n4, c4, rfl⟩ := own_shp3 hown4; have HO4 := Lib.hid hown4; have HG4 := Lib.hid hg4; have HB4 := Lib.hid (blk_grew HRD.out.blk HOB.out (by decide) hg4); clear hown4 hg4; have k20 : w4.cell? ⟨g, 20, none⟩ = some (.slice Ab r1.bars.length cb) := HB4.out.cell 20; have f20 := HB4.out.frozen 20)
          have HR8 := Lib.hid (HRD.out.br HG4.out HO4.out)
          have HB8 : Hid (Below w0.heap.size w1 _) := Lib.hid (((HP2.out.mono (by omega)).trans HG4.out.below).setCell (p := ⟨g, 20, none⟩) hgB (.slice A4 n4 c4))
          have HF8 := Lib.hid ((FrV.of_below HP2.out).trans (FrV.br (g := g) (V := ⟨v1, v2, .slice Ab r1.bars.length cb, v4, v5, v6⟩) HG4.out))
          go_roundw
          case rel => exact ⟨k + 1, _, _, by go_num, HRN.out.step HX.out HF.out HV.out step_5 HR8.out ((HB1.out.mono hbs2).trans HB8.out) ((FrV.of_below HB1.out).trans HF8.out)⟩
          case measure => have hkl := HKL.out; simp [intOf]; omega
        · have HMM := Lib.hid (fun (w : World) (hb : Below w0.heap.size w0 w) (hR : RunAt w w0.heap.size g S r1 V1) => memP (w := w) k kd ka kb 6 imm (by omega) loc label fence HSS.out hb HRN.out.inv HF.out hR hd1 hl1' ha1 hb1)
          cases hw : memL S.C r1 k ⟨6, (kd : Int), (ka : Int), (kb : Int), imm, loc, label, fence⟩ with
          | none =>
            have HW := Lib.hid (fun (w : World) (hb : Below w0.heap.size w0 w) (hR : RunAt w w0.heap.size g S r1 V1) => by have := HMM.out w hb hR; rw [hw] at this; exact this)
            have HS0 := Lib.hid (show stepL S.C r1 c k ⟨6, (kd : Int), (ka : Int), (kb : Int), imm, loc, label, fence⟩ = none by rw [step_6, hw]; rfl)
            clear hw HMM
            go_wp2_with (go_at_call 138; refine (HW.out _ HBC.out HR1.out).mono ?_; rintro e w8 ⟨V8, rfl, hR8, hb8, hf8⟩; have HR8 := Lib.hid hR8; have HB8 := Lib.hid hb8; have HF8 := Lib.hid hf8; clear hR8 hb8 hf8)
            go_ret
            exact HRN.out.fell HX.out HF.out HS0.out rfl HR8.out ((HB1.out.mono hbs2).trans HB8.out) ((FrV.of_below HB1.out).trans HF8.out)
          | some r2 =>
            have HW := Lib.hid (fun (w : World) (hb : Below w0.heap.size w0 w) (hR : RunAt w w0.heap.size g S r1 V1) => by have := HMM.out w hb hR; rw [hw] at this; exact this)
            have HS0 := Lib.hid (show stepL S.C r1 c k ⟨6, (kd : Int), (ka : Int), (kb : Int), imm, loc, label, fence⟩ = some (r2, k + 1) by rw [step_6, hw]; rfl)
            clear hw HMM
            go_wp2_with (go_at_call 138; refine (HW.out _ HBC.out HR1.out).mono ?_; rintro e w8 ⟨V8, rfl, hR8, hb8, hf8⟩; have HR8 := Lib.hid hR8; have HB8 := Lib.hid hb8; have HF8 := Lib.hid hf8; clear hR8 hb8 hf8)
            go_roundw
            case rel => exact ⟨k + 1, _, _, by go_num, HRN.out.step HX.out HF.out HV.out HS0.out HR8.out ((HB1.out.mono hbs2).trans HB8.out) ((FrV.of_below HB1.out).trans HF8.out)⟩
            case measure => have hkl := HKL.out; simp [intOf]; omega
        · have HMM := Lib.hid (fun (w : World) (hb : Below w0.heap.size w0 w) (hR : RunAt w w0.heap.size g S r1 V1) => memP (w := w) k kd ka kb 7 imm (by omega) loc label fence HSS.out hb HRN.out.inv HF.out hR hd1 hl1' ha1 hb1)
          cases hw : memL S.C r1 k ⟨7, (kd : Int), (ka : Int), (kb : Int), imm, loc, label, fence⟩ with
          | none =>
            have HW := Lib.hid (fun (w : World) (hb : Below w0.heap.size w0 w) (hR : RunAt w w0.heap.size g S r1 V1) => by have := HMM.out w hb hR; rw [hw] at this; exact this)
            have HS0 := Lib.hid (show stepL S.C r1 c k ⟨7, (kd : Int), (ka : Int), (kb : Int), imm, loc, label, fence⟩ = none by rw [step_7, hw]; rfl)
            clear hw HMM
            go_wp2_with (go_at_call 138; refine (HW.out _ HBC.out HR1.out).mono ?_; rintro e w8 ⟨V8, rfl, hR8, hb8, hf8⟩; have HR8 := Lib.hid hR8; have HB8 := Lib.hid hb8; have HF8 := Lib.hid hf8; clear hR8 hb8 hf8)
            go_ret
            exact HRN.out.fell HX.out HF.out HS0.out rfl HR8.out ((HB1.out.mono hbs2).trans HB8.out) ((FrV.of_below HB1.out).trans HF8.out)
          | some r2 =>
            have HW := Lib.hid (fun (w : World) (hb : Below w0.heap.size w0 w) (hR : RunAt w w0.heap.size g S r1 V1) => by have := HMM.out w hb hR; rw [hw] at this; exact this)
            have HS0 := Lib.hid (show stepL S.C r1 c k ⟨7, (kd : Int), (ka : Int), (kb : Int), imm, loc, label, fence⟩ = some (r2, k + 1) by rw [step_7, hw]; rfl)
            clear hw HMM
            go_wp2_with (go_at_call 138; refine (HW.out _ HBC.out HR1.out).mono ?_; rintro e w8 ⟨V8, rfl, hR8, hb8, hf8⟩; have HR8 := Lib.hid hR8; have HB8 := Lib.hid hb8; have HF8 := Lib.hid hf8; clear hR8 hb8 hf8)
            go_roundw
            case rel => exact ⟨k + 1, _, _, by go_num, HRN.out.step HX.out HF.out HV.out HS0.out HR8.out ((HB1.out.mono hbs2).trans HB8.out) ((FrV.of_below HB1.out).trans HF8.out)⟩
            case measure => have hkl := HKL.out; simp [intOf]; omega
        · have HRK := Lib.hid (fun (w : World) (hb : Below w0.heap.size w0 w) (hR : RunAt w w0.heap.size g S r1 V1) => reckP (w := w) 8 (by omega) kd ka kb imm loc label fence HSS.out hb HRN.out.inv hR hd1 hl1' ha1 hb1 himm)
          go_wp2_with (go_at_call 139; refine (HRK.out _ HBC.out HR1.out).mono ?_; rintro e w8 ⟨V8, rfl, hR8, hb8, hf8⟩; have HR8 := Lib.hid hR8; have HB8 := Lib.hid hb8; have HF8 := Lib.hid hf8; clear hR8 hb8 hf8)
          go_roundw
          case rel => exact ⟨k + 1, _, _, by go_num, HRN.out.step HX.out HF.out HV.out step_8 HR8.out ((HB1.out.mono hbs2).trans HB8.out) ((FrV.of_below HB1.out).trans HF8.out)⟩
          case measure => have hkl := HKL.out; simp [intOf]; omega
        · have HRK := Lib.hid (fun (w : World) (hb : Below w0.heap.size w0 w) (hR : RunAt w w0.heap.size g S r1 V1) => reckP (w := w) 9 (by omega) kd ka kb imm loc label fence HSS.out hb HRN.out.inv hR hd1 hl1' ha1 hb1 himm)
          go_wp2_with (go_at_call 139; refine (HRK.out _ HBC.out HR1.out).mono ?_; rintro e w8 ⟨V8, rfl, hR8, hb8, hf8⟩; have HR8 := Lib.hid hR8; have HB8 := Lib.hid hb8; have HF8 := Lib.hid hf8; clear hR8 hb8 hf8)
          go_roundw
          case rel => exact ⟨k + 1, _, _, by go_num, HRN.out.step HX.out HF.out HV.out step_9 HR8.out ((HB1.out.mono hbs2).trans HB8.out) ((FrV.of_below HB1.out).trans HF8.out)⟩
          case measure => have hkl := HKL.out; simp [intOf]; omega
        · have HRK := Lib.hid (fun (w : World) (hb : Below w0.heap.size w0 w) (hR : RunAt w w0.heap.size g S r1 V1) => reckP (w := w) 10 (by omega) kd ka kb imm loc label fence HSS.out hb HRN.out.inv hR hd1 hl1' ha1 hb1 himm)
          go_wp2_with (go_at_call 139; refine (HRK.out _ HBC.out HR1.out).mono ?_; rintro e w8 ⟨V8, rfl, hR8, hb8, hf8⟩; have HR8 := Lib.hid hR8; have HB8 := Lib.hid hb8; have HF8 := Lib.hid hf8; clear hR8 hb8 hf8)
          go_roundw
          case rel => exact ⟨k + 1, _, _, by go_num, HRN.out.step HX.out HF.out HV.out step_10 HR8.out ((HB1.out.mono hbs2).trans HB8.out) ((FrV.of_below HB1.out).trans HF8.out)⟩
          case measure => have hkl := HKL.out; simp [intOf]; omega
        · have hae := List.getElem?_eq_getElem ha1
          have hbe := List.getElem?_eq_getElem hb1
          obtain ⟨ra, hra⟩ : ∃ x, r1.regs[ka] = x := ⟨_, rfl⟩
          obtain ⟨rb, hrb⟩ : ∃ x, r1.regs[kb] = x := ⟨_, rfl⟩
          rw [hra] at hae
          rw [hrb] at hbe
          have HBRN := Lib.hid (fun (w : World) (hb : Below w0.heap.size w0 w) (hR : RunAt w w0.heap.size g S r1 V1) => branchP (w := w) c _ c2 k 11 imm fence kd ka kb loc label ra rb hb HRN.out.inv hR HC0.out hcl hl2 HX.out (HLAB.out rfl) hae hbe (HRN.out.inv.regs ra (List.mem_of_getElem? hae)) (HRN.out.inv.regs rb (List.mem_of_getElem? hbe)))
          clear hra hrb hae hbe
          cases hw : brL r1 c k ⟨11, (kd : Int), (ka : Int), (kb : Int), imm, loc, label, fence⟩ with
          | none =>
            have HW := Lib.hid (fun (w : World) (hb : Below w0.heap.size w0 w) (hR : RunAt w w0.heap.size g S r1 V1) => by have := HBRN.out w hb hR; rw [hw] at this; exact this)
            have HS0 := Lib.hid (show stepL S.C r1 c k ⟨11, (kd : Int), (ka : Int), (kb : Int), imm, loc, label, fence⟩ = none by rw [step_11, hw])
            clear hw HBRN
            go_wp2_with (go_at_call 140; refine (HW.out _ HBC.out HR1.out).mono ?_; rintro e w8 ⟨r8, V8, rfl, hR8, hb8, hf8⟩; have HR8 := Lib.hid hR8; have HB8 := Lib.hid hb8; have HF8 := Lib.hid hf8; clear hR8 hb8 hf8)
            go_ret
            exact HRN.out.fell HX.out HF.out HS0.out rfl HR8.out ((HB1.out.mono hbs2).trans HB8.out) ((FrV.of_below HB1.out).trans HF8.out)
          | some p =>
            obtain ⟨r2, n⟩ := p
            have HGT := Lib.hid (brL_gt hw)
            have HW := Lib.hid (fun (w : World) (hb : Below w0.heap.size w0 w) (hR : RunAt w w0.heap.size g S r1 V1) => by have := HBRN.out w hb hR; rw [hw] at this; exact this)
            have HS0 := Lib.hid (show stepL S.C r1 c k ⟨11, (kd : Int), (ka : Int), (kb : Int), imm, loc, label, fence⟩ = some (r2, n) by rw [step_11, hw])
            clear hw HBRN
            go_wp2_with (go_at_call 140; refine (HW.out _ HBC.out HR1.out).mono ?_; rintro e w8 ⟨V8, rfl, hR8, hb8, hf8⟩; have HR8 := Lib.hid hR8; have HB8 := Lib.hid hb8; have HF8 := Lib.hid hf8; clear hR8 hb8 hf8)
            go_roundw
            case rel => exact ⟨n, _, _, by go_num, HRN.out.step HX.out HF.out HV.out HS0.out HR8.out ((HB1.out.mono hbs2).trans HB8.out) ((FrV.of_below HB1.out).trans HF8.out)⟩
            case measure => have hkl := HKL.out; have hgt := HGT.out; simp [intOf]; omega
        · go_wp2_with fail
          have HR8 := HR1
          have HB8 := Lib.hid (Below.refl w0.heap.size (wr.alloc (.cells #[.int .i64 12, .int .i64 (kd : Int), .int .i64 (ka : Int), .int .i64 (kb : Int), .int .i64 imm, .string ⟨loc.toArray⟩, .string ⟨label.toArray⟩, .int .i64 fence] 70 (0, 0))))
          have HF8 := Lib.hid (FrV.refl (wr.alloc (.cells #[.int .i64 12, .int .i64 (kd : Int), .int .i64 (ka : Int), .int .i64 (kb : Int), .int .i64 imm, .string ⟨loc.toArray⟩, .string ⟨label.toArray⟩, .int .i64 fence] 70 (0, 0))) g V1)
          go_roundw
          case rel => exact ⟨k + 1, _, _, by go_num, HRN.out.step HX.out HF.out HV.out step_12 HR8.out ((HB1.out.mono hbs2).trans HB8.out) ((FrV.of_below HB1.out).trans HF8.out)⟩
          case measure => have hkl := HKL.out; simp [intOf]; omega
        · go_wp2_with fail
          generalize hw1 : (wr.alloc (.cells #[.int .i64 13, .int .i64 (kd : Int), .int .i64 (ka : Int), .int .i64 (kb : Int), .int .i64 imm, .string ⟨loc.toArray⟩, .string ⟨label.toArray⟩, .int .i64 fence] 70 (0, 0))) = w1 at *
          clear hw1
          obtain ⟨v1, v2, vbr, v4, v5, v6⟩ := V1
          obtain ⟨Ab, cb, hvb⟩ := HR1.out.bars.shp
          simp only at hvb
          subst hvb
          have k20 : w1.cell? ⟨g, 20, none⟩ = some (.slice Ab r1.bars.length cb) := HR1.out.blk.cell 20
          have k12 : w1.cell? ⟨g, 12, none⟩ = some (.int .i64 (S.C.th : Int)) := HR1.out.blk.cell 12
          have hbl := HRN.out.inv.bars
          have hgB := HR1.out.hg
          have i7 : w1.cell? ⟨wr.heap.size, 7, none⟩ = some (.int .i64 fence) := HBI.out.cell 7
          refine wz (fun y : World => y.cell? ⟨g, 20, none⟩ = some (.slice Ab r1.bars.length cb) ∧ y.cell? ⟨g, 12, none⟩ = some (.int .i64 (S.C.th : Int)) ∧ y.cell? ⟨wr.heap.size, 7, none⟩ = some (.int .i64 fence)) [4, 8, 11, 12, 13] ⟨k20, k12, i7⟩ (fun hHeld => ?_)
          refine wq 0 ?_
          refine wq 1 ?_
          refine wq 2 ?_
          refine wq 3 ?_
          refine wq 5 ?_
          refine wq 6 ?_
          refine wq 7 ?_
          refine wq 9 ?_
          refine wq 10 ?_
          refine wt 4 (by assumption) ?_
          refine wt 8 (by assumption) ?_
          refine wt 11 (by assumption) ?_
          refine wt 12 (by assumption) ?_
          refine wpE_one (i := 13) (by kernel_rfl) rfl (fun K hK => ?_)
          go_simp
          refine hK.out _ _ ⟨cell_al hHeld.1 _, cell_al hHeld.2.1 _, cell_al hHeld.2.2 _⟩ ?_
          clear hK K
          refine pu ?_
          refine wl 14 ?_
          clear i7
          have HPA := Lib.hid (barBlk w1 (S.C.th : Int) (k : Int) fence)
          have HP2 := Lib.hid ((alloc_b w1 (.cells #[.int .i64 (S.C.th : Int), .int .i64 (k : Int), .int .i64 fence] 72 (0, 0))).drew)
          have HRD := Lib.hid (HR1.out.below HP2.out)
          have HOB := Lib.hid HRD.out.bars
          have hz1 := HB1.out.size
          have HPD : Hid (encB.At (w1.alloc (.cells #[.int .i64 (S.C.th : Int), .int .i64 (k : Int), .int .i64 fence] 72 (0, 0))).drew (some ⟨w1.heap.size, 0, none⟩) [⟨(S.C.th : Int), (k : Int), fence⟩]) := HPA
          have hzd : w1.heap.size < (w1.alloc (.cells #[.int .i64 (S.C.th : Int), .int .i64 (k : Int), .int .i64 fence] 72 (0, 0))).drew.heap.size := by simp
          clear hHeld k20 k12 HPA
          generalize (w1.alloc (.cells #[.int .i64 (S.C.th : Int), .int .i64 (k : Int), .int .i64 fence] 72 (0, 0))).drew = wd at *
          go_wp2_with (at_builtin; refine Enc.appW elemB _ rfl (.tmp 109) (.tmp 118) rfl [⟨(S.C.th : Int), (k : Int), fence⟩] w0.heap.size r1.bars _ w1.heap.size 0 1 rfl rfl HPD.out HOB.out (by simp; omega) (by simp; omega) (by omega) ?_; intro v' w4 hown4 hg4; obtain ⟨A4, n4, c4, rfl⟩ := own_shp3 hown4; have HO4 := Lib.hid hown4; have HG4 := Lib.hid hg4; have HB4 := Lib.hid (blk_grew HRD.out.blk HOB.out (by decide) hg4); clear hown4 hg4; have k20 : w4.cell? ⟨g, 20, none⟩ = some (.slice Ab r1.bars.length cb) := HB4.out.cell 20; have f20 := HB4.out.frozen 20)
          have HR8 := Lib.hid (HRD.out.br HG4.out HO4.out)
          have HB8 : Hid (Below w0.heap.size w1 _) := Lib.hid (((HP2.out.mono (by omega)).trans HG4.out.below).setCell (p := ⟨g, 20, none⟩) hgB (.slice A4 n4 c4))
          have HF8 := Lib.hid ((FrV.of_below HP2.out).trans (FrV.br (g := g) (V := ⟨v1, v2, .slice Ab r1.bars.length cb, v4, v5, v6⟩) HG4.out))
          go_roundw
          case rel => exact ⟨k + 1, _, _, by go_num, HRN.out.step HX.out HF.out HV.out step_13 HR8.out ((HB1.out.mono hbs2).trans HB8.out) ((FrV.of_below HB1.out).trans HF8.out)⟩
          case measure => have hkl := HKL.out; simp [intOf]; omega
    · have hki : ¬ (k : Int) < (c.length : Int) := by omega
      have HV := Lib.hid (show X = some r1 by rw [← HRN.out.go, goL_end (by omega)])
      go_wp2_with fail
      go_ret
      exact GoPost.yes HV.out ⟨V1, rfl, HRN.out.run, HRN.out.below, HRN.out.fr⟩
end
end
end Go.Proofs.YtjhafgnmahhacaaGreatDoor
