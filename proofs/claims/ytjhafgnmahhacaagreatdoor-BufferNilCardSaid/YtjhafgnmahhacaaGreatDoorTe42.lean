/- Layer 22: a thread's next instruction: the program's acts. -/
import Derived.Test.YtjhafgnmahhacaaGreatDoorTe41

namespace Go.Proofs.YtjhafgnmahhacaaGreatDoor
open Go.RowKit
section
/-- The blocks that a machine writes. -/
def MFoot (V : BMv) (x : Nat) : Prop := (∃ k b, V.tb[k]? = some b ∧ Foot b (V.rv k) (V.qv k) x) ∨ V.mv.ownBlock = some x
/-- Nothing but the machine has turned; its blocks are those that it had, or new. -/
structure MChg (V V' : BMv) (w w' : World) : Prop where
  chg : Chg (MFoot V) w w'
  which : ∀ x, MFoot V' x → MFoot V x ∨ w.heap.size ≤ x
theorem MChg.trans {V V1 V2 : BMv} {w w1 w2 : World} (h : MChg V V1 w w1) (k : MChg V1 V2 w1 w2) : MChg V V2 w w2 :=
  ⟨h.chg.trans k.chg h.which, fun x hx => (k.which x hx).elim (h.which x) (fun e => .inr (Nat.le_trans h.chg.size e))⟩
theorem MChg.of_below {V : BMv} {w w' : World} (h : Below w.heap.size w w') : MChg V V w w' := ⟨Chg.of_below h, fun _ hx => .inl hx⟩
theorem Chg.up {F F' : Nat → Prop} {w w' : World} (h : Chg F w w') (hF : ∀ x, F x → F' x) : Chg F' w w' := ⟨h.os, h.tape, h.output, h.size, fun b hb hn => h.keep b hb (fun hf => hn (hF b hf))⟩
theorem MChg.thread {V : BMv} {w w' : World} {k b : Nat} {rv' qv' : Value} (hb : V.tb[k]? = some b) (hc : Chg (Foot b (V.rv k) (V.qv k)) w w') (hn : ∀ x, Foot b rv' qv' x → Foot b (V.rv k) (V.qv k) x ∨ w.heap.size ≤ x) :
    MChg V { V with rv := fun i => if i = k then rv' else V.rv i, qv := fun i => if i = k then qv' else V.qv i } w w' := by
  refine ⟨hc.up fun x hx => .inl ⟨k, b, hb, hx⟩, fun x hx => ?_⟩
  rcases hx with ⟨i, bi, hi, hx⟩ | hx
  · by_cases e : i = k
    · subst e
      have hbe : V.tb[i]? = some bi := hi
      rw [hb] at hbe
      cases hbe
      simp only [if_true] at hx
      exact (hn x hx).imp (fun h => .inl ⟨i, b, hb, h⟩) id
    · simp only [if_neg e] at hx
      exact .inl (.inl ⟨i, bi, hi, hx⟩)
  · exact .inl (.inr hx)
/-- A machine stands as m behind a call that returned v. -/
def MPost (B g : Nat) (V : BMv) (m : BMc) (v : Value) (w : World) (e : Ending) (w' : World) : Prop := ∃ V', e = .returned v ∧ BufAt w' B g m V' ∧ MChg V V' w w'
theorem foot_b {b : Nat} {rv qv : Value} : Foot b rv qv b := Or.inl rfl
theorem MPost.of {w W : World} {B g k b : Nat} {m : BMc} {V : BMv} {t t' : BTd} {rv' qv' v : Value} (h : BufAt w B g m V) (hk : m.tds[k]? = some t) (hb : V.tb[k]? = some b) (ht : TdAt W B b rv' qv' t') (hc : Chg (Foot b (V.rv k) (V.qv k)) w W)
    (hn : ∀ x, Foot b rv' qv' x → Foot b (V.rv k) (V.qv k) x ∨ w.heap.size ≤ x) : MPost B g V { m with tds := m.tds.set k t' } v w (.returned v) W :=
  ⟨_, rfl, h.thread hk hb ht hc hn, MChg.thread hb hc hn⟩
section
set_option maxHeartbeats 4000000
set_option maxRecDepth 100000
variable {w : World} {B g : Nat} {m : BMc} {V : BMv}
theorem actsP (h : BufAt w B g m V) {k : Nat} {t : BTd} {c : List Ins} {x : Ins} {j : Nat} {vs' : List (List UInt8 × Int)} {ac : Ac} (hk : m.tds[k]? = some t) (hc : m.code[k]? = some c) (ha : t.at_ = (j : Int)) (hx : c[j]? = some x) (harch : m.arch = 1)
    (hins : insB x.op x.d x.a x.b x.imm ⟨x.loc.toArray⟩ ⟨x.label.toArray⟩ x.fence = true) (hth : threadB 15 (j : Int) t.vs = true) (hdo : doL x.op x.d x.a x.imm x.loc t.vs = some (vs', ac)) (hB : B ≤ w.heap.size) :
    Calls Tryz.prog 170 #[.pointer (some ⟨g, 0, none⟩), .int .i64 (k : Int)] w (MPost B g V { m with tds := m.tds.set k { t with vs := vs', at_ := (j : Int) + 1 } } (actV ac) w) := by
  obtain ⟨op, d, a, b', imm, loc, label, fence⟩ := x
  simp only at hins hdo
  have hlf : label = [] ∧ fence = 0 := by
    unfold insB at hins
    simp only [Bool.and_eq_true, beq_iff_eq] at hins
    refine ⟨?_, hins.1.2⟩
    have := hins.1.1.1
    rw [ByteArray.toList_eq] at this
    simpa using this
  obtain ⟨rfl, rfl⟩ := hlf
  obtain ⟨_, _, h15, _⟩ := threadB_iff.1 hth
  obtain ⟨b, pb, cp, qb, cc, A, cr, hb, htd, k5, p0, k1, q0, hrat, hkl⟩ := h.thr hk hc
  obtain ⟨ib, io, rfl, hi⟩ := hrat j _ hx
  obtain ⟨rg, cap, erv, hrc⟩ := own_first htd.regs (List.getElem?_eq_getElem (show 0 < t.vs.length by omega))
  have b0 : w.cell? ⟨b, 0, none⟩ = some (.slice (some ⟨rg, 0, none⟩) t.vs.length cap) := by rw [← erv]; exact htd.blk.cl 0
  have b1 : w.cell? ⟨b, 1, none⟩ = some (.int .i64 (j : Int)) := by rw [← ha]; exact htd.blk.cl 1
  have c0 : w.cell? ⟨ib, io + j * 8, none⟩ = some (.int .i64 op) := hi 0 _ rfl
  have i1 := hi 1 _ rfl
  have i2 := hi 2 _ rfl
  have i3 := hi 3 _ rfl
  have i4 := hi 4 _ rfl
  have i5 := hi 5 _ rfl
  have i6 := hi 6 _ rfl
  have i7 := hi 7 _ rfl
  have HS := Lib.hid (show ∀ y, Below w.heap.size w y → (fun y : World => y.cell? ⟨g, 1, none⟩ = some (.slice (some ⟨qb, 0, none⟩) m.code.length cc) ∧ y.cell? ⟨qb, k, none⟩ = some (.slice (some ⟨ib, io, none⟩) c.length cr) ∧ y.cell? ⟨b, 0, none⟩ = some (.slice (some ⟨rg, 0, none⟩) t.vs.length cap) ∧ y.cell? ⟨b, 1, none⟩ = some (.int .i64 (j : Int)) ∧ y.cell? ⟨ib, io + j * 8, none⟩ = some (.int .i64 op) ∧ y.cell? ⟨ib, io + j * 8 + 1, none⟩ = some (.int .i64 d) ∧ y.cell? ⟨ib, io + j * 8 + 2, none⟩ = some (.int .i64 a) ∧ y.cell? ⟨ib, io + j * 8 + 3, none⟩ = some (.int .i64 b') ∧ y.cell? ⟨ib, io + j * 8 + 4, none⟩ = some (.int .i64 imm) ∧ y.cell? ⟨ib, io + j * 8 + 5, none⟩ = some (.string ⟨loc.toArray⟩) ∧ y.cell? ⟨ib, io + j * 8 + 6, none⟩ = some (.string ⟨#[]⟩) ∧ y.cell? ⟨ib, io + j * 8 + 7, none⟩ = some (.int .i64 0)) y from
    fun y hy => ⟨cell_go k1 hy, cell_go q0 hy, cell_go b0 hy, cell_go b1 hy, cell_go c0 hy, cell_go i1 hy, cell_go i2 hy, cell_go i3 hy, cell_go i4 hy, cell_go i5 hy, cell_go i6 hy, cell_go i7 hy⟩)
  have hrat2 : encV.At w (some ⟨rg, 0, none⟩) t.vs := by
    obtain ⟨A', cap', e, hat, _⟩ := Enc.Own.at_ htd.regs
    rw [erv] at e
    simp only [Value.slice.injEq, true_and] at e
    rw [e.1]; exact hat
  have HD := Lib.hid (fun (W : World) (hW : Below w.heap.size w W) => doP (some ⟨rg, 0, none⟩) cap t.vs vs' ac op d a b' imm loc (j : Int) W hins hdo (hrat2.below hW) hth)
  have HH := Lib.hid h
  have HTd := Lib.hid htd
  have HK := Lib.hid hk
  have HBt := Lib.hid hb
  have z1 : (0 : Int) ≤ (k : Int) := by omega
  have z2 : (k : Int) < (m.tds.length : Int) := by omega
  have z3 : (k : Int) < (m.code.length : Int) := by have := (List.getElem?_eq_some_iff.1 hc).1; omega
  have hjc : j < c.length := (List.getElem?_eq_some_iff.1 hx).1
  have z4 : (0 : Int) ≤ (j : Int) := by omega
  have z5 : (j : Int) < (c.length : Int) := by omega
  have k0 : w.cell? ⟨g, 0, none⟩ = some (.int .i64 1) := by rw [← harch]; exact h.blk.cl 0
  have hgw := h.blk.lt
  have hbw := htd.blk.lt
  have hg1 : g < w.heap.size + 1 := by omega
  have hg2 : g < w.heap.size + 1 + 1 := by omega
  have hpw := World.block_lt_of_cell? w _ p0
  clear h htd hk hc ha hx hins hth hdo hb hrat hrat2 hi erv hrc c0 i1 i2 i3 i4 i5 i6 i7 b0 b1 q0 k1 h15 harch hjc
  go_enter Tryz.func170, Tryz.ntmps170
  go_wp2_with fail
  generalize hW0 : ((w.alloc (.cells #[.int .i64 0, .string ⟨#[]⟩, .int .i64 0, .int .i64 0, .int .i64 0] 64 (0, 0))).alloc (.cells #[.slice none 0 0, .int .i64 0] 60 (0, 0))).alloc (.cells #[.int .i64 0, .string ⟨#[]⟩, .int .i64 0, .int .i64 0, .int .i64 0] 64 (0, 0)) = W0
  have hB0 : Below w.heap.size w W0 ∧ Blk W0 w.heap.size 64 #[.int .i64 0, .string ⟨#[]⟩, .int .i64 0, .int .i64 0, .int .i64 0] ∧ Blk W0 (w.heap.size + 1) 60 #[.slice none 0 0, .int .i64 0] ∧ Blk W0 (w.heap.size + 1 + 1) 64 #[.int .i64 0, .string ⟨#[]⟩, .int .i64 0, .int .i64 0, .int .i64 0] := by
    subst hW0
    refine ⟨below_alloc (below_2 _ _ _) _, ((Blk.new w _ _).alloc _).alloc _, (blkN2 w _ _ _).alloc _, ?_⟩
    have := blkN2 (w.alloc (.cells #[.int .i64 0, .string ⟨#[]⟩, .int .i64 0, .int .i64 0, .int .i64 0] 64 (0, 0))) (.cells #[.slice none 0 0, .int .i64 0] 60 (0, 0)) 64 #[.int .i64 0, .string ⟨#[]⟩, .int .i64 0, .int .i64 0, .int .i64 0]
    rwa [World.size_alloc] at this
  obtain ⟨hb0, hr0, hr1, hr2⟩ := hB0
  have HB0 := Lib.hid hb0
  have HR0 := Lib.hid hr0
  have HR1 := Lib.hid hr1
  have HR2 := Lib.hid hr2
  have HZ := Lib.hid (hr2.lt)
  clear hW0 hb0 hr0 hr1 hr2
  refine wz (fun y : World => y.cell? ⟨g, 1, none⟩ = some (.slice (some ⟨qb, 0, none⟩) m.code.length cc) ∧ y.cell? ⟨qb, k, none⟩ = some (.slice (some ⟨ib, io, none⟩) c.length cr) ∧ y.cell? ⟨b, 0, none⟩ = some (.slice (some ⟨rg, 0, none⟩) t.vs.length cap) ∧ y.cell? ⟨b, 1, none⟩ = some (.int .i64 (j : Int)) ∧ y.cell? ⟨ib, io + j * 8, none⟩ = some (.int .i64 op) ∧ y.cell? ⟨ib, io + j * 8 + 1, none⟩ = some (.int .i64 d) ∧ y.cell? ⟨ib, io + j * 8 + 2, none⟩ = some (.int .i64 a) ∧ y.cell? ⟨ib, io + j * 8 + 3, none⟩ = some (.int .i64 b') ∧ y.cell? ⟨ib, io + j * 8 + 4, none⟩ = some (.int .i64 imm) ∧ y.cell? ⟨ib, io + j * 8 + 5, none⟩ = some (.string ⟨loc.toArray⟩) ∧ y.cell? ⟨ib, io + j * 8 + 6, none⟩ = some (.string ⟨#[]⟩) ∧ y.cell? ⟨ib, io + j * 8 + 7, none⟩ = some (.int .i64 0)) [3, 6, 11, 13, 17] (HS.out _ HB0.out.drew) (fun hHeld => ?_)
  refine wq 0 ?_
  refine wq 1 ?_
  refine wq 2 ?_
  refine wq 4 ?_
  refine wq 7 ?_
  refine wq 8 ?_
  refine wq 9 ?_
  refine wq 10 ?_
  refine wq 14 ?_
  refine wq 15 ?_
  refine wq 16 ?_
  refine wt 3 (by assumption) ?_
  refine wq 5 ?_
  refine wt 6 (by assumption) ?_
  refine wt 11 (by assumption) ?_
  refine wq 12 ?_
  refine wt 13 (by assumption) ?_
  refine wt 17 (by assumption) ?_
  refine wpE_one (i := 18) (by kernel_rfl) rfl (fun K hK => ?_)
  go_simp
  refine (HD.out _ HB0.out.drew).mono ?_
  rintro e w3 ⟨rg', cap', rfl, hown, hb3⟩
  have HB3 := Lib.hid (below_trans HB0.out.drew hb3)
  refine hK.out _ _ (HS.out _ HB3.out) ?_
  clear hK K
  refine pu ?_
  refine wq 19 ?_
  refine wq 20 ?_
  refine wq 21 ?_
  refine wq 22 ?_
  refine wl 23 ?_
  have HR0 := Lib.hid (HR0.out.go (below_of_drew hb3))
  have HR1 := Lib.hid (HR1.out.go (below_of_drew hb3))
  have HR2 := Lib.hid (HR2.out.go (below_of_drew hb3))
  have HOwn := Lib.hid hown
  have HT3 := Lib.hid (HTd.out.below HB3.out)
  have p0 := HR0.out.cl 0
  have p1 := HR0.out.cl 1
  have p2 := HR0.out.cl 2
  have p3 := HR0.out.cl 3
  have p4 := HR0.out.cl 4
  have q0 := HR1.out.cl 0
  have q1 := HR1.out.cl 1
  have r0 := HR2.out.cl 0
  have r1 := HR2.out.cl 1
  have r2 := HR2.out.cl 2
  have r3 := HR2.out.cl 3
  have r4 := HR2.out.cl 4
  have pf := HR0.out.frozen
  have qf := HR1.out.frozen
  have rf := HR2.out.frozen
  have b0 := HT3.out.blk.cl 0
  have b1 := HT3.out.blk.cl 1
  have bf := HT3.out.blk.frozen
  have zr := HR2.out.lt
  have zq := HR1.out.lt
  have zp := HR0.out.lt
  have zb := HT3.out.blk.lt
  clear hown hb3
  go_wp2
  have hzw := HB0.out.size
  have hz0 : w.heap.size + 3 ≤ W0.heap.size := by have := HZ.out; omega
  have hgl := (HOwn.out.lt rg' rfl).1
  have hnA : ∀ x, w.heap.size ≤ x → ¬ Foot b (V.rv k) (V.qv k) x := fun x hx hf => by have := (HTd.out.foot hf).2; omega
  have hnB : ¬ Foot b (.slice (some ⟨rg', 0, none⟩) vs'.length cap') (V.qv k) w.heap.size := by
    rintro (e | e | e)
    · omega
    · simp [Value.ownBlock] at e
      have : W0.drew.heap.size = W0.heap.size := rfl
      omega
    · exact Nat.lt_irrefl _ (own_lt HTd.out.q e)
  have hzd : W0.drew.heap.size = W0.heap.size := rfl
  refine bodyPost_ret (v := actV ac) (by simp [results, Tryz.results170, go_sem, p0, p1, p2, p3, p4]) rfl (MPost.of HH.out HK.out HBt.out (rv' := .slice (some ⟨rg', 0, none⟩) vs'.length cap') (qv' := V.qv k) ?_ ?_ ?_)
  · repeat (first | with_reducible refine TdAt.setF ?_ hnB _)
    refine TdAt.setl (t := t) (rv := V.rv k) ?_ ?_ _
    · repeat (first | with_reducible exact HT3.out | with_reducible refine TdAt.setF ?_ (hnA _ (by simp <;> omega)) _)
    · refine own_lowE (B := W0.drew.heap.size) ?_ (by omega)
      repeat (first | with_reducible exact HOwn.out | with_reducible refine own_farE ?_ (by simp <;> omega) _)
  · iterate 5 refine Chg.setN ?_ (Nat.le_refl _) _
    iterate 2 refine Chg.set ?_ (by exact foot_b) _
    exact Chg.of_below (by repeat (first | with_reducible exact HB3.out | with_reducible refine Below.setCell ?_ (by simp <;> omega) _))
  · rintro x (e | e | e)
    · exact .inl (.inl e)
    · refine .inr ?_
      simp [Value.ownBlock] at e
      omega
    · exact .inl (.inr (.inr e))
end
end
end Go.Proofs.YtjhafgnmahhacaaGreatDoor
