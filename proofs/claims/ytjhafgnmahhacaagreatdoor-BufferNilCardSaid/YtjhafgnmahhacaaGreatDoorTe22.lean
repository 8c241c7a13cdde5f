/- Layer 15: the runner's put, write, read: the program's. -/
import Derived.Test.YtjhafgnmahhacaaGreatDoorTe20

namespace Go.Proofs.YtjhafgnmahhacaaGreatDoor
open Go.RowKit
section
theorem regs_cell {w : World} {q : Nat} {l : List Rg} (h : Blk w q 217 (encR.flat l).toArray) {i : Nat} {x : Rg} (hx : l[i]? = some x) :
    w.cell? ⟨q, i * 5, none⟩ = some (holdV x.h) ∧ w.cell? ⟨q, i * 5 + 1, none⟩ = some (.int .u64 (x.on : Int)) ∧ w.cell? ⟨q, i * 5 + 2, none⟩ = some (.int .u64 0) ∧ w.cell? ⟨q, i * 5 + 3, none⟩ = some (.int .u64 0) ∧ w.cell? ⟨q, i * 5 + 4, none⟩ = some (.int .u64 0) := by
  have hc : ∀ j, j < 5 → w.cell? ⟨q, i * 5 + j, none⟩ = (encR.enc x)[j]? := fun j hj => by
    rw [h.cell, List.getElem?_toArray]
    exact encR.flat_at hx hj
  exact ⟨hc 0 (by omega), hc 1 (by omega), hc 2 (by omega), hc 3 (by omega), hc 4 (by omega)⟩
theorem regs_there {w : World} {q : Nat} {l : List Rg} (h : Blk w q 217 (encR.flat l).toArray) {i : Nat} (hi : i < l.length) : w.there q (i * 5) 5 := fun j hj => by
  refine ⟨?_, h.frozen _⟩
  rw [h.cell, List.getElem?_toArray, Option.isSome_iff_exists]
  have hl : (encR.flat l).length = l.length * 5 := encR.flat_len l
  exact ⟨_, List.getElem?_eq_getElem (by omega)⟩
section
set_option maxHeartbeats 4000000
set_option maxRecDepth 100000
variable {w0 w : World} {g nr k : Nat} {S : RunS} {r : Rn} {V : RunV}
theorem putP (d : Nat) (x : Rg) (HS : Stat w0 S) (hb : Below w0.heap.size w0 w) (hd : d < r.regs.length) (_hl : r.regs.length ≤ 32) (hR : RunAt w w0.heap.size g S r V) :
    Calls Tryz.prog 137 #[.pointer (some ⟨g, 0, none⟩), .int .i64 (d : Int), rgV x] w (RunPost w0.heap.size g S V (putL S.C r (d : Int) x) (.tuple #[]) w) := by
  have HR := Lib.hid hR
  have hgw : g < w.heap.size := hR.blk.lt
  have hgB := hR.hg
  obtain ⟨q, hvr, hqb, hqB⟩ := hR.regs
  have hqw := hqb.lt
  have k0 : w.cell? ⟨g, 0, none⟩ = some (.int .i64 S.T.arch) := hR.blk.cell 0
  have k14 : w.cell? ⟨g, 14, none⟩ = some (.slice (some ⟨q, 0, none⟩) r.regs.length r.regs.length) := by rw [← hvr]; exact hR.blk.cell 14
  have hrisc := HS.risc
  have HB0 := Lib.hid (alloc_b w (.cells #[holdV x.h, .int .u64 (x.on : Int), .int .u64 0, .int .u64 0, .int .u64 0] 217 (0, 0)))
  have HQ := Lib.hid hqb
  have one := holdV_one x.h
  clear hR hqb
  by_cases hz : S.C.risc = true ∧ (d : Int) = 0
  · have HV := Lib.hid (show putL S.C r (d : Int) x = r from if_pos hz)
    have ha : S.T.arch = 2 := by have := hrisc.symm.trans hz.1; simpa using this
    obtain ⟨_, hz2⟩ := hz
    have hd0 : d = 0 := by omega
    subst hd0
    rw [ha] at k0
    go_enter Tryz.func137, Tryz.ntmps137
    go_wp2_with fail
    go_end0
    rw [HV.out]
    exact ⟨_, rfl, HR.out.below HB0.out, HB0.out.mono hb.size, FrV.of_below HB0.out⟩
  · have HV := Lib.hid (show putL S.C r (d : Int) x = { r with regs := r.regs.set d x } by unfold putL; rw [if_neg hz]; simp)
    have hbs := hb.size
    have c0 := fr_new w #[holdV x.h, .int .u64 (x.on : Int), .int .u64 0, .int .u64 0, .int .u64 0] 217
    have hi1 : (0 : Int) ≤ (d : Int) := by omega
    have hi2 : (d : Int) < (r.regs.length : Int) := by omega
    have HBX := Lib.hid (Blk.new w 217 #[holdV x.h, .int .u64 (x.on : Int), .int .u64 0, .int .u64 0, .int .u64 0])
    have HRA := Lib.hid (HR.out.below HB0.out)
    have HQA := Lib.hid (HQ.out.go HB0.out)
    have hor : d ≠ 0 ∨ (d = 0 ∧ S.T.arch ≠ 2) := by
      by_cases h0 : d = 0
      · exact Or.inr ⟨h0, fun ha => hz ⟨by rw [hrisc]; simpa using ha, by omega⟩⟩
      · exact Or.inl h0
    clear hz hrisc
    have k14a : (w.alloc (.cells #[holdV x.h, .int .u64 (x.on : Int), .int .u64 0, .int .u64 0, .int .u64 0] 217 (0, 0))).cell? ⟨g, 14, none⟩ = some (.slice (some ⟨q, 0, none⟩) r.regs.length r.regs.length) := cell_go k14 HB0.out
    have x0 := HBX.out.cell 0
    have x1 := HBX.out.cell 1
    have x2 := HBX.out.cell 2
    have x3 := HBX.out.cell 3
    have x4 := HBX.out.cell 4
    rcases hor with hd0 | ⟨hd0, ha⟩
    · have hd1 : ¬ (d : Int) = 0 := by omega
      go_enter Tryz.func137, Tryz.ntmps137
      go_wp2_with fail
      generalize hw1 : w.alloc (.cells #[holdV x.h, .int .u64 (x.on : Int), .int .u64 0, .int .u64 0, .int .u64 0] 217 (0, 0)) = w1 at *
      refine wz (fun y : World => y.cell? ⟨g, 14, none⟩ = some (.slice (some ⟨q, 0, none⟩) r.regs.length r.regs.length) ∧ y.cell? ⟨w.heap.size, 0, none⟩ = some (holdV x.h) ∧ y.cell? ⟨w.heap.size, 1, none⟩ = some (.int .u64 (x.on : Int)) ∧ y.cell? ⟨w.heap.size, 2, none⟩ = some (.int .u64 0) ∧ y.cell? ⟨w.heap.size, 3, none⟩ = some (.int .u64 0) ∧ y.cell? ⟨w.heap.size, 4, none⟩ = some (.int .u64 0)) [3, 5, 6] ⟨k14a, x0, x1, x2, x3, x4⟩ (fun hHeld => ?_)
      refine wq 0 ?_
      refine wq 1 ?_
      refine wq 2 ?_
      refine wq 4 ?_
      refine wt 3 (by assumption) ?_
      refine wt 5 (by assumption) ?_
      refine wt 6 (by assumption) ?_
      refine wl 7 ?_
      obtain ⟨x0', hx0⟩ : ∃ x0', r.regs[d]? = some x0' := ⟨_, List.getElem?_eq_getElem hd⟩
      obtain ⟨y0, y1, y2, y3, y4⟩ := regs_cell (HQA.out.drew) hx0
      have HRD := Lib.hid (HRA.out.drew.reg (x := x) hd hvr)
      have HBD := Lib.hid ((HB0.out.mono hbs).drew)
      have HTH := Lib.hid (regs_there HQA.out.drew hd)
      clear hx0 y0 y1 y2 y3 y4
      refine wpList_store_mid rfl _ _ _ rfl q (d * 5) #[holdV x.h, .int .u64 (x.on : Int), .int .u64 0, .int .u64 0, .int .u64 0] rfl rfl HTH.out (by kernel_rfl) (all_oneCell_toArray (cs := encR.enc x) (encR.one x)) ?_
      go_end0
      rw [HV.out]
      refine ⟨_, rfl, HRD.out, ?_, ?_⟩
      · exact (((((HBD.out.setCell (p := ⟨q, d * 5, none⟩) hqB _).setCell (p := ⟨q, d * 5 + 1, none⟩) hqB _).setCell (p := ⟨q, d * 5 + 2, none⟩) hqB _).setCell (p := ⟨q, d * 5 + 3, none⟩) hqB _).setCell (p := ⟨q, d * 5 + 4, none⟩) hqB _)
      · have hvo : V.rg.ownBlock = some q := by rw [hvr]; rfl
        exact (((((FrV.of_below (HB0.out.drew)).reg hvo _ _).reg hvo _ _).reg hvo _ _).reg hvo _ _).reg hvo _ _
    · subst hd0
      have ha1 : ¬ S.T.arch = 2 := ha
      go_enter Tryz.func137, Tryz.ntmps137
      go_wp2_with fail
      generalize hw1 : w.alloc (.cells #[holdV x.h, .int .u64 (x.on : Int), .int .u64 0, .int .u64 0, .int .u64 0] 217 (0, 0)) = w1 at *
      refine wz (fun y : World => y.cell? ⟨g, 14, none⟩ = some (.slice (some ⟨q, 0, none⟩) r.regs.length r.regs.length) ∧ y.cell? ⟨w.heap.size, 0, none⟩ = some (holdV x.h) ∧ y.cell? ⟨w.heap.size, 1, none⟩ = some (.int .u64 (x.on : Int)) ∧ y.cell? ⟨w.heap.size, 2, none⟩ = some (.int .u64 0) ∧ y.cell? ⟨w.heap.size, 3, none⟩ = some (.int .u64 0) ∧ y.cell? ⟨w.heap.size, 4, none⟩ = some (.int .u64 0)) [3, 5, 6] ⟨k14a, x0, x1, x2, x3, x4⟩ (fun hHeld => ?_)
      refine wq 0 ?_
      refine wq 1 ?_
      refine wq 2 ?_
      refine wq 4 ?_
      refine wt 3 (by assumption) ?_
      refine wt 5 (by assumption) ?_
      refine wt 6 (by assumption) ?_
      refine wl 7 ?_
      obtain ⟨x0', hx0⟩ : ∃ x0', r.regs[0]? = some x0' := ⟨_, List.getElem?_eq_getElem hd⟩
      obtain ⟨y0, y1, y2, y3, y4⟩ := regs_cell (HQA.out.drew) hx0
      have HRD := Lib.hid (HRA.out.drew.reg (x := x) hd hvr)
      have HBD := Lib.hid ((HB0.out.mono hbs).drew)
      have HTH := Lib.hid (regs_there HQA.out.drew hd)
      clear hx0 y0 y1 y2 y3 y4
      refine wpList_store_mid rfl _ _ _ rfl q (0 * 5) #[holdV x.h, .int .u64 (x.on : Int), .int .u64 0, .int .u64 0, .int .u64 0] rfl rfl HTH.out (by kernel_rfl) (all_oneCell_toArray (cs := encR.enc x) (encR.one x)) ?_
      go_end0
      rw [HV.out]
      refine ⟨_, rfl, HRD.out, ?_, ?_⟩
      · exact (((((HBD.out.setCell (p := ⟨q, 0 * 5, none⟩) hqB _).setCell (p := ⟨q, 0 * 5 + 1, none⟩) hqB _).setCell (p := ⟨q, 0 * 5 + 2, none⟩) hqB _).setCell (p := ⟨q, 0 * 5 + 3, none⟩) hqB _).setCell (p := ⟨q, 0 * 5 + 4, none⟩) hqB _)
      · have hvo : V.rg.ownBlock = some q := by rw [hvr]; rfl
        exact (((((FrV.of_below (HB0.out.drew)).reg hvo _ _).reg hvo _ _).reg hvo _ _).reg hvo _ _).reg hvo _ _
end
end
section
def numOf : Hold → Int
  | .num n => n
  | _ => 0
def isNum : Hold → Bool
  | .num _ => true
  | _ => false
def adrOf : Hold → Nm
  | .adr s => s
  | _ => []
def isAdr : Hold → Bool
  | .adr _ => true
  | _ => false
theorem taN (w : World) : ∀ h : Hold, (Instr.typeAssert (holdV h) 215 213 true).run Tryz.prog w = .ok (.tuple #[.int .i64 (numOf h), .bool (isNum h)]) w
  | .num _ => ta_n_n _ w
  | .adr _ => ta_n_a _ w
  | .rd _ => ta_n_t _ w
  | .non => ta_n_h _ w
theorem taA (w : World) : ∀ h : Hold, (Instr.typeAssert (holdV h) 215 218 true).run Tryz.prog w = .ok (.tuple #[.string ⟨(adrOf h).toArray⟩, .bool (isAdr h)]) w
  | .num _ => ta_a_n _ w
  | .adr _ => ta_a_a _ w
  | .rd _ => ta_a_t _ w
  | .non => ta_a_h _ w
/-- Behind a write: done, or the value is no number. -/
def WritePost (B g : Nat) (S : RunS) (V : RunV) (r : Rn) (o : Option Rn) (w : World) (e : Ending) (w' : World) : Prop := match o with
  | some r' => RunPost B g S V r' (.bool true) w e w'
  | none => RunPost B g S V r (.bool false) w e w'
theorem writeL_num {C : Cx} {r : Rn} {pl : Nat} {loc : Nm} {on xo : Nat} {n : Int} : writeL C r pl loc on ⟨.num n, xo⟩ = some (dataL (evtL C r pl 2 loc n 0 on) xo r.evs.length) := rfl
section
set_option maxHeartbeats 4000000
set_option maxRecDepth 100000
variable {w0 w : World} {g nr k : Nat} {S : RunS} {r : Rn} {V : RunV}
theorem writeP (pl : Nat) (loc : Nm) (on : Nat) (x : Rg) (HS : Stat w0 S) (hb : Below w0.heap.size w0 w) (hI : Inv S.C nr k r) (hf : r.full = false) (hR : RunAt w w0.heap.size g S r V) (hloc : loc ∈ S.C.locs) (hon : Rds r.evs on) (hx : RgOK S.C r.evs x) :
    Calls Tryz.prog 135 #[.pointer (some ⟨g, 0, none⟩), .int .i64 (pl : Int), .string ⟨loc.toArray⟩, setV on, rgV x] w (WritePost w0.heap.size g S V r (writeL S.C r pl loc on x) w) := by
  obtain ⟨xh, xo⟩ := x
  have HR := Lib.hid hR
  have hbs := hb.size
  have HB0 := Lib.hid (below_2 w (.cells #[.int .u64 (on : Int), .int .u64 0, .int .u64 0, .int .u64 0] 141 (0, 0)) (.cells #[holdV xh, .int .u64 (xo : Int), .int .u64 0, .int .u64 0, .int .u64 0] 217 (0, 0)))
  have HX := Lib.hid (blk_new2 w (.cells #[.int .u64 (on : Int), .int .u64 0, .int .u64 0, .int .u64 0] 141 (0, 0)) 217 #[holdV xh, .int .u64 (xo : Int), .int .u64 0, .int .u64 0, .int .u64 0])
  have HXO := Lib.hid (hx.2.lt64 (show r.evs.length ≤ 64 by have := hI.room; omega))
  have hdl := hI.data.len
  have room := hI.room
  cases xh with
  | num n =>
    rw [writeL_num]
    have q1 := fun w => taN w (.num n)
    simp only [numOf, isNum] at q1
    have HEV := Lib.hid (eventP (w := (w.alloc (.cells #[.int .u64 (on : Int), .int .u64 0, .int .u64 0, .int .u64 0] 141 (0, 0))).alloc (.cells #[holdV (.num n), .int .u64 (xo : Int), .int .u64 0, .int .u64 0, .int .u64 0] 217 (0, 0))) pl 2 n 0 loc on HS (hb.trans (HB0.out.mono hbs)) hI (hR.below HB0.out) hloc hon)
    clear hR hI hx hon hloc HS
    by_cases hfull : 64 ≤ S.C.ahead + r.evs.length
    · have HV := Lib.hid (show dataL (evtL S.C r pl 2 loc n 0 on) xo r.evs.length = { r with full := true } by rw [evtL_full hfull]; rfl)
      rw [evtL_full hfull] at HEV
      rw [HV.out]
      go_enter Tryz.func135, Tryz.ntmps135
      go_wp2_with (go_at_call 206; refine HEV.out.mono ?_; rintro e w2 ⟨V2, rfl, hR2, hb2, hf2⟩; have HR2 := Lib.hid hR2; have HB2 := Lib.hid hb2; have HF2 := Lib.hid hf2; have k25 : w2.cell? ⟨g, 25, none⟩ = some (.bool true) := hR2.blk.cell 25; clear hR2 hb2 hf2)
      go_ret
      exact ⟨_, rfl, HR2.out, (HB0.out.mono hbs).trans HB2.out, (FrV.of_below HB0.out).trans HF2.out⟩
    · have HV := Lib.hid (show dataL (evtL S.C r pl 2 loc n 0 on) xo r.evs.length = { (evtL S.C r pl 2 loc n 0 on) with data := r.data ++ pairsL xo r.evs.length 64 } by unfold dataL; rw [evtL_room hfull]; simp [hf])
      have HE25 := Lib.hid (show (evtL S.C r pl 2 loc n 0 on).full = false by rw [evtL_room hfull]; exact hf)
      have HED := Lib.hid (show (evtL S.C r pl 2 loc n 0 on).data = r.data by rw [evtL_room hfull])
      rw [if_neg hfull] at HEV
      rw [HV.out]
      obtain ⟨r1, hr1⟩ : ∃ r1, evtL S.C r pl 2 loc n 0 on = r1 := ⟨_, rfl⟩
      rw [hr1] at HEV HV HE25 HED ⊢
      clear hr1
      have HNM := Lib.hid (show ¬ Mine g V (w.heap.size + 1) from fun hm => by have := (HR.out.mine hm).1; omega)
      have hgB := HR.out.hg
      go_enter Tryz.func135, Tryz.ntmps135
      go_wp2_with (go_at_call 206; refine HEV.out.mono ?_; rintro e w2 ⟨V2, rfl, hR2, hb2, hf2⟩; have HX2 := Lib.hid (HX.out.frv hf2 HNM.out); have HR2 := Lib.hid hR2; have HB2 := Lib.hid ((HB0.out.mono hbs).trans hb2); have HF2 := Lib.hid ((FrV.of_below (g := g) (V := V) HB0.out).trans hf2); have k25 : w2.cell? ⟨g, 25, none⟩ = some (.bool r1.full) := hR2.blk.cell 25; rw [HE25.out] at k25; clear hR2 hb2 hf2)
      clear HX HEV
      have hz2 := HB2.out.size
      obtain ⟨v1, v2, v3, v4, vda, v6⟩ := V2
      obtain ⟨Ad, cd, hvd⟩ := HR2.out.data.shp
      simp only at hvd
      subst hvd
      have k22 : w2.cell? ⟨g, 22, none⟩ = some (.slice Ad r1.data.length cd) := HR2.out.blk.cell 22
      have o0 : w2.cell? ⟨w.heap.size + 1, 1, none⟩ = some (.int .u64 (xo : Int)) := HX2.out.cell 1
      have o1 : w2.cell? ⟨w.heap.size + 1, 2, none⟩ = some (.int .u64 0) := HX2.out.cell 2
      have o2 : w2.cell? ⟨w.heap.size + 1, 3, none⟩ = some (.int .u64 0) := HX2.out.cell 3
      have o3 : w2.cell? ⟨w.heap.size + 1, 4, none⟩ = some (.int .u64 0) := HX2.out.cell 4
      refine wz (fun y : World => y.cell? ⟨g, 22, none⟩ = some (.slice Ad r1.data.length cd) ∧ y.cell? ⟨w.heap.size + 1, 1, none⟩ = some (.int .u64 (xo : Int)) ∧ y.cell? ⟨w.heap.size + 1, 2, none⟩ = some (.int .u64 0) ∧ y.cell? ⟨w.heap.size + 1, 3, none⟩ = some (.int .u64 0) ∧ y.cell? ⟨w.heap.size + 1, 4, none⟩ = some (.int .u64 0)) [4, 6] ⟨k22, o0, o1, o2, o3⟩ (fun hHeld => ?_)
      refine wq 0 ?_
      refine wq 1 ?_
      refine wq 2 ?_
      refine wq 3 ?_
      refine wq 5 ?_
      refine wq 7 ?_
      refine wt 4 (by assumption) ?_
      refine wt 6 (by assumption) ?_
      refine wl 8 ?_
      have HRd := Lib.hid HR2.out.drew
      have HBd := Lib.hid HB2.out.drew
      have HFd := Lib.hid HF2.out.drew
      have HOA := Lib.hid HRd.out.data
      have hrl : r1.data.length ≤ 1000000 := by rw [HED.out]; omega
      clear hHeld k22 k25 o0 o1 o2 o3 HR2 HB2 HF2 HX2
      generalize hwd : w2.drew = wd at *
      clear hwd
      have hzd := HBd.out.size
      go_wp2_with (go_at_call 207; refine (pairsP _ r1.data xo r.evs.length w0.heap.size _ HXO.out hrl (by omega) HOA.out).mono ?_; rintro e w6 ⟨v', rfl, hown6, hg6⟩; obtain ⟨A6, n6, c6, rfl⟩ := own_shp3 hown6; have HO6 := Lib.hid hown6; have HG6 := Lib.hid hg6; have HB6 := Lib.hid (blk_grew HRd.out.blk HOA.out (by decide) hg6); clear hown6 hg6; have k22 : w6.cell? ⟨g, 22, none⟩ = some (.slice Ad r1.data.length cd) := HB6.out.cell 22; have f22 := HB6.out.frozen 22)
      have HR7 := Lib.hid (HRd.out.da HG6.out HO6.out)
      go_ret
      rw [← HED.out]
      exact ⟨_, rfl, HR7.out, (HBd.out.trans HG6.out.below).setCell (p := ⟨g, 22, none⟩) hgB _, HFd.out.trans (FrV.da HG6.out)⟩
  | adr s =>
    have q1 := fun w => taN w (.adr s)
    simp only [numOf, isNum] at q1
    clear hR hI hx hon hloc HS
    go_enter Tryz.func135, Tryz.ntmps135
    go_wp2_with fail
    go_ret
    exact ⟨_, rfl, HR.out.below HB0.out, HB0.out.mono hbs, FrV.of_below HB0.out⟩
  | rd i =>
    have q1 := fun w => taN w (.rd i)
    simp only [numOf, isNum] at q1
    clear hR hI hx hon hloc HS
    go_enter Tryz.func135, Tryz.ntmps135
    go_wp2_with fail
    go_ret
    exact ⟨_, rfl, HR.out.below HB0.out, HB0.out.mono hbs, FrV.of_below HB0.out⟩
  | non =>
    have q1 := fun w => taN w .non
    simp only [numOf, isNum] at q1
    clear hR hI hx hon hloc HS
    go_enter Tryz.func135, Tryz.ntmps135
    go_wp2_with fail
    go_ret
    exact ⟨_, rfl, HR.out.below HB0.out, HB0.out.mono hbs, FrV.of_below HB0.out⟩
end
end
section
set_option maxHeartbeats 4000000
set_option maxRecDepth 100000
variable {w0 w : World} {g nr k : Nat} {S : RunS} {r : Rn} {V : RunV}
theorem readP (pl : Nat) (loc : Nm) (on d : Nat) (HS : Stat w0 S) (hb : Below w0.heap.size w0 w) (hI : Inv S.C nr k r) (hf : r.full = false) (hR : RunAt w w0.heap.size g S r V) (hloc : loc ∈ S.C.locs) (hon : Rds r.evs on) (hd : d < r.regs.length) (hl : r.regs.length ≤ 32) :
    Calls Tryz.prog 136 #[.pointer (some ⟨g, 0, none⟩), .int .i64 (pl : Int), .string ⟨loc.toArray⟩, setV on, .int .i64 (d : Int)] w (RunPost w0.heap.size g S V (readL S.C r pl loc on (d : Int)) (.tuple #[]) w) := by
  have HR := Lib.hid hR
  have hbs := hb.size
  have HB0 := Lib.hid (alloc_b w (.cells #[.int .u64 (on : Int), .int .u64 0, .int .u64 0, .int .u64 0] 141 (0, 0)))
  have room := hI.room
  have HEV := Lib.hid (eventP (w := w.alloc (.cells #[.int .u64 (on : Int), .int .u64 0, .int .u64 0, .int .u64 0] 141 (0, 0))) pl 1 0 (d : Int) loc on HS (hb.trans (HB0.out.mono hbs)) hI (hR.below HB0.out) hloc hon)
  by_cases hfull : 64 ≤ S.C.ahead + r.evs.length
  · have HV := Lib.hid (show readL S.C r pl loc on (d : Int) = { r with full := true } by unfold readL; rw [evtL_full hfull]; rfl)
    rw [evtL_full hfull] at HEV
    rw [HV.out]
    clear hR hI hon hloc HS
    go_enter Tryz.func136, Tryz.ntmps136
    go_wp2_with (go_at_call 206; refine HEV.out.mono ?_; rintro e w2 ⟨V2, rfl, hR2, hb2, hf2⟩; have HR2 := Lib.hid hR2; have HB2 := Lib.hid hb2; have HF2 := Lib.hid hf2; have k25 : w2.cell? ⟨g, 25, none⟩ = some (.bool true) := hR2.blk.cell 25; clear hR2 hb2 hf2)
    go_end0
    exact ⟨_, rfl, HR2.out, (HB0.out.mono hbs).trans HB2.out, (FrV.of_below HB0.out).trans HF2.out⟩
  · obtain ⟨r1, hr1⟩ : ∃ r1, evtL S.C r pl 1 loc 0 (d : Int) on = r1 := ⟨_, rfl⟩
    have HE25 := Lib.hid (show r1.full = false by rw [← hr1, evtL_room hfull]; exact hf)
    have HREG := Lib.hid (show r1.regs = r.regs by rw [← hr1, evtL_room hfull])
    have HV := Lib.hid (show readL S.C r pl loc on (d : Int) = putL S.C r1 (d : Int) ⟨.rd r.evs.length, 2 ^ r.evs.length⟩ by unfold readL; rw [hr1, HE25.out]; rfl)
    rw [if_neg hfull, hr1] at HEV
    rw [HV.out]
    clear hr1
    have HPUT := Lib.hid (fun (w : World) (V : RunV) => putP (w := w) (V := V) (g := g) (r := r1) d ⟨.rd r.evs.length, 2 ^ r.evs.length⟩ HS)
    have hd1 : d < r1.regs.length := by rw [HREG.out]; exact hd
    have hl1 : r1.regs.length ≤ 32 := by rw [HREG.out]; exact hl
    have HB00 := Lib.hid hb
    have HWI := Lib.hid (fun (w : World) => withP 0 r.evs.length w (by omega) (by omega))
    have hz0 : (0 : Nat) ||| 2 ^ r.evs.length = 2 ^ r.evs.length := Nat.zero_or _
    rw [hz0] at HWI
    clear hR hI hon hloc HS hb
    go_enter Tryz.func136, Tryz.ntmps136
    go_wp2_with (first
      | (go_at_call 206; refine HEV.out.mono ?_; rintro e w2 ⟨V2, rfl, hR2, hb2, hf2⟩; have HR2 := Lib.hid hR2; have HB2 := Lib.hid ((HB0.out.mono hbs).trans hb2); have HF2 := Lib.hid ((FrV.of_below (g := g) (V := V) HB0.out).trans hf2); have k25 : w2.cell? ⟨g, 25, none⟩ = some (.bool r1.full) := hR2.blk.cell 25; rw [HE25.out] at k25; clear hR2 hb2 hf2)
      | (go_at_call 208; refine (HWI.out _).mono ?_; rintro e w3 ⟨rfl, hb3⟩; have HB3 := Lib.hid (HB2.out.trans (hb3.mono (show w0.heap.size ≤ w2.heap.size from Nat.le_trans hbs HB2.out.size))); have HR3 := Lib.hid (HR2.out.below hb3); have HF3 := Lib.hid (HF2.out.trans (FrV.of_below hb3)); clear hb3)
      | (go_at_call 137; refine (HPUT.out _ _ (HB00.out.trans HB3.out) hd1 hl1 HR3.out).mono ?_; rintro e w4 ⟨V4, rfl, hR4, hb4, hf4⟩; have HR4 := Lib.hid hR4; have HB4 := Lib.hid (HB3.out.trans hb4); have HF4 := Lib.hid (HF3.out.trans hf4); clear hR4 hb4 hf4))
    go_end0
    exact ⟨_, rfl, HR4.out, HB4.out, HF4.out⟩
end
end Go.Proofs.YtjhafgnmahhacaaGreatDoor
