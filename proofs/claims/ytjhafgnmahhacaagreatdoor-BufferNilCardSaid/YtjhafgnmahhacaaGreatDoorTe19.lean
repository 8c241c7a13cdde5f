/- Layer 15: a read or a write is put down: the program's event. -/
import Derived.Test.YtjhafgnmahhacaaGreatDoorTe17

namespace Go.Proofs.YtjhafgnmahhacaaGreatDoor
open Go.RowKit
section
/-- What stays of a runner: the test and the names, in the world where the thread began. -/
structure Stat (w0 : World) (S : RunS) : Prop where
  tst : ∃ Ai Ac ci cc, S.iv = .slice Ai S.T.init.length ci ∧ S.cv = .slice Ac S.T.code.length cc ∧ TstAt w0 S.T Ai Ac S.kv
  locs : ∃ A cl, S.lv = .slice A S.C.locs.length cl ∧ encS.At w0 A S.C.locs
  str : StrN S.C.locs
  few : S.C.locs.length ≤ 64
  risc : S.C.risc = decide (S.T.arch = 2)
theorem evtBlk (w : World) (a b c d e f : Int) : encE.At (w.alloc (.cells #[.int .i64 a, .int .i64 b, .int .i64 c, .int .i64 d, .int .i64 e, .int .i64 f] 54 (0, 0))) (some ⟨w.heap.size, 0, none⟩) [⟨a, b, c, d, e, f⟩] := by
  have hB := Blk.new w 54 #[.int .i64 a, .int .i64 b, .int .i64 c, .int .i64 d, .int .i64 e, .int .i64 f]
  intro i x hx
  refine ⟨w.heap.size, 0, rfl, fun j u hj => ?_⟩
  match i, hx with
  | 0, hx =>
    simp at hx; subst hx
    rw [show 0 + 0 * encE.size + j = j by omega, hB.cell]
    rw [← hj]; simp
/-- A runner stands as r behind a call that returned v. -/
def RunPost (B g : Nat) (S : RunS) (V : RunV) (r : Rn) (v : Value) (w : World) (e : Ending) (w' : World) : Prop := ∃ V', e = .returned v ∧ RunAt w' B g S r V' ∧ Below B w w' ∧ FrV w w' g V V'
theorem own_shp3 {w : World} {B : Nat} {t : TypeId} {z n : Nat} {v : Value} {cs : List Value} (h : w.ownsRow B t z v n cs) : ∃ A m cap, v = .slice A m cap := by
  obtain ⟨A, cap, e⟩ := own_shp h
  exact ⟨A, n, cap, e⟩
theorem blk_dr {w : World} {g : Nat} {t : TypeId} {cs : Array Value} (h : Blk w g t cs) (n : Nat) : Blk (w.drewN n) g t cs := h
theorem blk_new2 (w : World) (o : Obj) (t : TypeId) (cs : Array Value) : Blk ((w.alloc o).alloc (.cells cs t (0, 0))) (w.heap.size + 1) t cs := by
  have := Blk.new (w.alloc o) t cs
  rwa [show (w.alloc o).heap.size = w.heap.size + 1 by simp] at this
section
set_option maxHeartbeats 4000000
set_option maxRecDepth 100000
variable {w0 w : World} {g nr k : Nat} {S : RunS} {r : Rn} {V : RunV}
theorem eventP (pl : Nat) (dr vl rg : Int) (loc : Nm) (on : Nat) (HS : Stat w0 S) (hb : Below w0.heap.size w0 w) (hI : Inv S.C nr k r) (hR : RunAt w w0.heap.size g S r V) (hloc : loc ∈ S.C.locs) (hon : Rds r.evs on) :
    Calls Tryz.prog 206 #[.pointer (some ⟨g, 0, none⟩), .agg #[.int .i64 0, .int .i64 (pl : Int), .int .i64 dr, .int .i64 0, .int .i64 vl, .int .i64 rg], .string ⟨loc.toArray⟩, setV on] w
      (RunPost w0.heap.size g S V (evtL S.C r pl dr loc vl rg on) (.int .i64 ((if 64 ≤ S.C.ahead + r.evs.length then 0 else r.evs.length : Nat) : Int)) w) := by
  have HR := Lib.hid hR
  obtain ⟨Ae, ce, hve⟩ := hR.evs.shp
  obtain ⟨Aa, ca, hva⟩ := hR.addr.shp
  obtain ⟨Ah, ch, hvh⟩ := hR.hang.shp
  have HON := Lib.hid (hon.lt64 (show r.evs.length ≤ 64 by have := hI.room; omega))
  have HOC := Lib.hid (hI.ctrl.lt64 (show r.evs.length ≤ 64 by have := hI.room; omega))
  have hla := hI.addr.len
  have hlh := hI.hang.len
  have room := hI.room
  have hgw : g < w.heap.size := hR.blk.lt
  have hgB := hR.hg
  have HB := Lib.hid hb
  have hbs := hb.size
  by_cases hfull : 64 ≤ S.C.ahead + r.evs.length
  · have hfi : (64 : Int) ≤ (S.C.ahead : Int) + (r.evs.length : Int) := by omega
    have hri : (S.C.ahead : Int) + (r.evs.length : Int) ≤ 64 := by omega
    have k19 := hR.blk.cell 19
    have k24 := hR.blk.cell 24
    have f25 := hR.blk.frozen 25
    have k25 := hR.blk.cell 25
    simp only [List.getElem?_toArray, List.getElem?_cons_succ, List.getElem?_cons_zero, hve] at k19 k24 k25
    clear hR hb hI
    go_enter Tryz.func206, Tryz.ntmps206
    go_wp2_with fail
    go_ret
    refine ⟨V, ret_int (by simp), ?_, ?_, (FrV.set w g V 25 _).trans (FrV.of_below (below_2 _ _ _))⟩
    · rw [evtL_full hfull]
      exact HR.out.full.below (below_2 _ _ _)
    · exact ((Below.refl _ _).setCell (p := ⟨g, 25, none⟩) hgB _).trans ((below_2 _ _ _).mono (by simp; omega))
  · have hfi : (S.C.ahead : Int) + (r.evs.length : Int) < 64 := by omega
    have k19 := hR.blk.cell 19
    have k24 := hR.blk.cell 24
    have k12 := hR.blk.cell 12
    have k13 := hR.blk.cell 13
    simp only [List.getElem?_toArray, List.getElem?_cons_succ, List.getElem?_cons_zero, hve] at k19 k24 k12 k13
    obtain ⟨Al, cl, hlv, hla⟩ := HS.locs
    rw [hlv] at k13
    have few := HS.few
    have HSR := Lib.hid (searchP Al cl S.C.locs loc)
    have HLA := Lib.hid (hla.below hb)
    have HSTR := Lib.hid HS.str
    have HLOC := Lib.hid hloc
    clear hR hb hI hlv hla HS hloc
    go_enter Tryz.func206, Tryz.ntmps206
    go_wp2_with (go_at_call 60; refine (HSR.out _ (HLA.out.below (below_2 _ _ _)) (by omega) HSTR.out HLOC.out).mono ?_; rintro e w' ⟨rfl, q, rfl⟩)
    generalize hw3 : (World.setCell _ _ _ : World) = w3
    have hn0 : w.heap.size ≠ w.heap.size + 1 := by omega
    have HE3 : Hid (Blk w3 w.heap.size 54 #[.int .i64 (S.C.th : Int), .int .i64 (pl : Int), .int .i64 dr, .int .i64 ((S.C.locs.idxOf loc : Nat) : Int), .int .i64 vl, .int .i64 rg]) := by
      rw [← hw3]
      exact Lib.hid ((blk_dr (Blk.alloc (Blk.new w 54 #[.int .i64 (S.C.th : Int), .int .i64 (pl : Int), .int .i64 dr, .int .i64 0, .int .i64 vl, .int .i64 rg]) _) q).set_ 3 (.int .i64 ((S.C.locs.idxOf loc : Nat) : Int)))
    have HO3 : Hid (Blk w3 (w.heap.size + 1) 141 #[.int .u64 (on : Int), .int .u64 0, .int .u64 0, .int .u64 0]) := by
      rw [← hw3]
      exact Lib.hid ((blk_dr (blk_new2 w _ _ _) q).far (by simp) _)
    have HW3 : Hid (Below w.heap.size w w3) := by
      rw [← hw3]
      exact Lib.hid ((below_drewN (below_2 w _ _) q).setCell (by simp) _)
    clear hw3
    have hz3 := HW3.out.size
    have HR3 := Lib.hid (HR.out.below HW3.out)
    obtain ⟨vrg, vev, vbr, vad, vda, vhg⟩ := V
    simp only at hve hva hvh
    subst hve hva hvh
    have k19 : w3.cell? ⟨g, 19, none⟩ = some (.slice Ae r.evs.length ce) := HR3.out.blk.cell 19
    have e0 : w3.cell? ⟨w.heap.size, 0, none⟩ = some (.int .i64 (S.C.th : Int)) := HE3.out.cell 0
    have e1 : w3.cell? ⟨w.heap.size, 1, none⟩ = some (.int .i64 (pl : Int)) := HE3.out.cell 1
    have e2 : w3.cell? ⟨w.heap.size, 2, none⟩ = some (.int .i64 dr) := HE3.out.cell 2
    have e3 : w3.cell? ⟨w.heap.size, 3, none⟩ = some (.int .i64 ((S.C.locs.idxOf loc : Nat) : Int)) := HE3.out.cell 3
    have e4 : w3.cell? ⟨w.heap.size, 4, none⟩ = some (.int .i64 vl) := HE3.out.cell 4
    have e5 : w3.cell? ⟨w.heap.size, 5, none⟩ = some (.int .i64 rg) := HE3.out.cell 5
    refine wz (fun y : World => y.cell? ⟨g, 19, none⟩ = some (.slice Ae r.evs.length ce) ∧ y.cell? ⟨w.heap.size, 0, none⟩ = some (.int .i64 (S.C.th : Int)) ∧ y.cell? ⟨w.heap.size, 1, none⟩ = some (.int .i64 (pl : Int)) ∧ y.cell? ⟨w.heap.size, 2, none⟩ = some (.int .i64 dr) ∧ y.cell? ⟨w.heap.size, 3, none⟩ = some (.int .i64 ((S.C.locs.idxOf loc : Nat) : Int)) ∧ y.cell? ⟨w.heap.size, 4, none⟩ = some (.int .i64 vl) ∧ y.cell? ⟨w.heap.size, 5, none⟩ = some (.int .i64 rg)) [4, 5, 6] ⟨k19, e0, e1, e2, e3, e4, e5⟩ (fun hHeld => ?_)
    refine wq 0 ?_
    refine wq 1 ?_
    refine wq 2 ?_
    refine wq 3 ?_
    refine wt 4 (by assumption) ?_
    refine wt 5 (by assumption) ?_
    refine wpE_one (i := 6) (by kernel_rfl) rfl (fun K hK => ?_)
    go_simp
    refine hK.out _ _ ⟨cell_al hHeld.1 _, cell_al hHeld.2.1 _, cell_al hHeld.2.2.1 _, cell_al hHeld.2.2.2.1 _, cell_al hHeld.2.2.2.2.1 _, cell_al hHeld.2.2.2.2.2.1 _, cell_al hHeld.2.2.2.2.2.2 _⟩ ?_
    clear hK K
    refine pu ?_
    refine wl 7 ?_
    have HRd := Lib.hid (HR3.out.below ((alloc_b w3 (.cells #[.int .i64 (S.C.th : Int), .int .i64 (pl : Int), .int .i64 dr, .int .i64 ((S.C.locs.idxOf loc : Nat) : Int), .int .i64 vl, .int .i64 rg] 54 (0, 0))).drew))
    have HBd := Lib.hid ((HW3.out.mono hbs).trans ((alloc_b w3 (.cells #[.int .i64 (S.C.th : Int), .int .i64 (pl : Int), .int .i64 dr, .int .i64 ((S.C.locs.idxOf loc : Nat) : Int), .int .i64 vl, .int .i64 rg] 54 (0, 0))).drew.mono (show w0.heap.size ≤ w3.heap.size by omega)))
    have HFd : Hid (FrV w _ g ⟨vrg, .slice Ae r.evs.length ce, vbr, .slice Aa r.addr.length ca, vda, .slice Ah r.hang.length ch⟩ ⟨vrg, .slice Ae r.evs.length ce, vbr, .slice Aa r.addr.length ca, vda, .slice Ah r.hang.length ch⟩) := Lib.hid (FrV.of_below (HW3.out.trans ((alloc_b w3 (.cells #[.int .i64 (S.C.th : Int), .int .i64 (pl : Int), .int .i64 dr, .int .i64 ((S.C.locs.idxOf loc : Nat) : Int), .int .i64 vl, .int .i64 rg] 54 (0, 0))).drew.mono hz3)))
    have HPA := Lib.hid (evtBlk w3 (S.C.th : Int) (pl : Int) dr ((S.C.locs.idxOf loc : Nat) : Int) vl rg)
    have HOE := Lib.hid HRd.out.evs
    have HO3d := Lib.hid (HO3.out.go ((alloc_b w3 (.cells #[.int .i64 (S.C.th : Int), .int .i64 (pl : Int), .int .i64 dr, .int .i64 ((S.C.locs.idxOf loc : Nat) : Int), .int .i64 vl, .int .i64 rg] 54 (0, 0))).drew))
    clear k19 e0 e1 e2 e3 e4 e5 hHeld HR3 HE3 HO3 HR HSR
    generalize hwd : (w3.alloc (.cells #[.int .i64 (S.C.th : Int), .int .i64 (pl : Int), .int .i64 dr, .int .i64 ((S.C.locs.idxOf loc : Nat) : Int), .int .i64 vl, .int .i64 rg] 54 (0, 0))).drew = wd at *
    have HPD : Hid (encE.At wd (some ⟨w3.heap.size, 0, none⟩) [⟨(S.C.th : Int), (pl : Int), dr, ((S.C.locs.idxOf loc : Nat) : Int), vl, rg⟩]) := by rw [← hwd]; exact HPA
    have hzd : w3.heap.size < wd.heap.size := by rw [← hwd]; simp
    clear hwd HPA
    go_wp2_with (at_builtin; refine Enc.appW elemE _ rfl (.tmp 44) (.tmp 46) rfl [⟨(S.C.th : Int), (pl : Int), dr, ((S.C.locs.idxOf loc : Nat) : Int), vl, rg⟩] w0.heap.size r.evs _ w3.heap.size 0 1 rfl rfl HPD.out HOE.out (by simp; omega) (by simp; omega) (by omega) ?_; intro v' w4 hown4 hg4; obtain ⟨A4, n4, c4, rfl⟩ := own_shp3 hown4; have HO4 := Lib.hid hown4; have HG4 := Lib.hid hg4; have HB4 := Lib.hid (blk_grew HRd.out.blk HOE.out (by decide) hg4); have HS4 := Lib.hid (blk_grew HO3d.out HOE.out (by decide) hg4); clear hown4 hg4; have k19 : w4.cell? ⟨g, 19, none⟩ = some (.slice Ae r.evs.length ce) := HB4.out.cell 19; have f19 := HB4.out.frozen 19)
    have HR5 := Lib.hid (HRd.out.ev HG4.out HO4.out)
    have HF5 := Lib.hid (HFd.out.trans (FrV.ev HG4.out))
    have HB5 := Lib.hid ((HBd.out.trans HG4.out.below).setCell (p := ⟨g, 19, none⟩) hgB (.slice A4 n4 c4))
    have HS5 := Lib.hid (HS4.out.far (p := ⟨g, 19, none⟩) (by simp; omega) (.slice A4 n4 c4))
    generalize hw5 : w4.setCell ⟨g, 19, none⟩ (.slice A4 n4 c4) = w5 at *
    clear hw5 HFd HG4 HO4 HB4 HS4 k19 f19 HRd HBd HOE HO3d HPD hzd hn0 HW3 hz3
    have hz5 := HB5.out.size
    have k21 : w5.cell? ⟨g, 21, none⟩ = some (.slice Aa r.addr.length ca) := HR5.out.blk.cell 21
    have o0 : w5.cell? ⟨w.heap.size + 1, 0, none⟩ = some (.int .u64 (on : Int)) := HS5.out.cell 0
    have o1 : w5.cell? ⟨w.heap.size + 1, 1, none⟩ = some (.int .u64 0) := HS5.out.cell 1
    have o2 : w5.cell? ⟨w.heap.size + 1, 2, none⟩ = some (.int .u64 0) := HS5.out.cell 2
    have o3 : w5.cell? ⟨w.heap.size + 1, 3, none⟩ = some (.int .u64 0) := HS5.out.cell 3
    refine wz (fun y : World => y.cell? ⟨g, 21, none⟩ = some (.slice Aa r.addr.length ca) ∧ y.cell? ⟨w.heap.size + 1, 0, none⟩ = some (.int .u64 (on : Int)) ∧ y.cell? ⟨w.heap.size + 1, 1, none⟩ = some (.int .u64 0) ∧ y.cell? ⟨w.heap.size + 1, 2, none⟩ = some (.int .u64 0) ∧ y.cell? ⟨w.heap.size + 1, 3, none⟩ = some (.int .u64 0)) [4, 5] ⟨k21, o0, o1, o2, o3⟩ (fun hHeld => ?_)
    refine wq 0 ?_
    refine wq 1 ?_
    refine wq 2 ?_
    refine wq 3 ?_
    refine wq 6 ?_
    refine wt 4 (by assumption) ?_
    refine wt 5 (by assumption) ?_
    refine wl 7 ?_
    have HRd := Lib.hid HR5.out.drew
    have HFd := Lib.hid HF5.out.drew
    have HBd := Lib.hid HB5.out.drew
    have HOA := Lib.hid HRd.out.addr
    clear hHeld k21 o0 o1 o2 o3 HS5 HR5 HF5
    generalize hwd : w5.drew = wd at *
    clear hwd
    have hzd := HBd.out.size
    go_wp2_with (go_at_call 207; refine (pairsP _ r.addr on r.evs.length w0.heap.size _ HON.out (by omega) (by omega) HOA.out).mono ?_; rintro e w6 ⟨v', rfl, hown6, hg6⟩; obtain ⟨A6, n6, c6, rfl⟩ := own_shp3 hown6; have HO6 := Lib.hid hown6; have HG6 := Lib.hid hg6; have HB6 := Lib.hid (blk_grew HRd.out.blk HOA.out (by decide) hg6); clear hown6 hg6; have k21 : w6.cell? ⟨g, 21, none⟩ = some (.slice Aa r.addr.length ca) := HB6.out.cell 21; have f21 := HB6.out.frozen 21)
    have HR7 := Lib.hid (HRd.out.ad HG6.out HO6.out)
    have HF7 := Lib.hid (HFd.out.trans (FrV.ad HG6.out))
    have HB7 := Lib.hid ((HBd.out.trans HG6.out.below).setCell (p := ⟨g, 21, none⟩) hgB (.slice A6 n6 c6))
    generalize hw7 : w6.setCell ⟨g, 21, none⟩ (.slice A6 n6 c6) = w7 at *
    clear hw7 HFd HG6 HO6 HB6 k21 f21 HRd HBd HOA hzd
    have hz7 := HB7.out.size
    have k23 : w7.cell? ⟨g, 23, none⟩ = some (.slice Ah r.hang.length ch) := HR7.out.blk.cell 23
    have o0 : w7.cell? ⟨g, 15, none⟩ = some (.int .u64 (r.ctrl : Int)) := HR7.out.blk.cell 15
    have o1 : w7.cell? ⟨g, 16, none⟩ = some (.int .u64 0) := HR7.out.blk.cell 16
    have o2 : w7.cell? ⟨g, 17, none⟩ = some (.int .u64 0) := HR7.out.blk.cell 17
    have o3 : w7.cell? ⟨g, 18, none⟩ = some (.int .u64 0) := HR7.out.blk.cell 18
    refine wz (fun y : World => y.cell? ⟨g, 23, none⟩ = some (.slice Ah r.hang.length ch) ∧ y.cell? ⟨g, 15, none⟩ = some (.int .u64 (r.ctrl : Int)) ∧ y.cell? ⟨g, 16, none⟩ = some (.int .u64 0) ∧ y.cell? ⟨g, 17, none⟩ = some (.int .u64 0) ∧ y.cell? ⟨g, 18, none⟩ = some (.int .u64 0)) [4, 8] ⟨k23, o0, o1, o2, o3⟩ (fun hHeld => ?_)
    refine wq 0 ?_
    refine wq 1 ?_
    refine wq 2 ?_
    refine wq 3 ?_
    refine wq 5 ?_
    refine wq 6 ?_
    refine wq 7 ?_
    refine wq 9 ?_
    refine wt 4 (by assumption) ?_
    refine wt 8 (by assumption) ?_
    refine wl 10 ?_
    have HRd := Lib.hid HR7.out.drew
    have HFd := Lib.hid HF7.out.drew
    have HBd := Lib.hid HB7.out.drew
    have HOA := Lib.hid HRd.out.hang
    clear hHeld k23 o0 o1 o2 o3 HR7 HF7
    generalize hwd : w7.drew = wd at *
    clear hwd
    have hzd := HBd.out.size
    go_wp2_with (go_at_call 207; refine (pairsP _ r.hang r.ctrl r.evs.length w0.heap.size _ HOC.out (by omega) (by omega) HOA.out).mono ?_; rintro e w6 ⟨v', rfl, hown6, hg6⟩; obtain ⟨A6, n6, c6, rfl⟩ := own_shp3 hown6; have HO6 := Lib.hid hown6; have HG6 := Lib.hid hg6; have HB6 := Lib.hid (blk_grew HRd.out.blk HOA.out (by decide) hg6); clear hown6 hg6; have k23 : w6.cell? ⟨g, 23, none⟩ = some (.slice Ah r.hang.length ch) := HB6.out.cell 23; have f23 := HB6.out.frozen 23)
    have HR9 := Lib.hid (HRd.out.hgg HG6.out HO6.out)
    have HB9 := Lib.hid ((HBd.out.trans HG6.out.below).setCell (p := ⟨g, 23, none⟩) hgB (.slice A6 n6 c6))
    go_ret
    rw [evtL_room hfull]
    exact ⟨_, rfl, HR9.out, HB9.out, HFd.out.trans (FrV.hgg HG6.out)⟩
end
end
end Go.Proofs.YtjhafgnmahhacaaGreatDoor
