/- Layer 22: a thread's step: the program's. -/
import Derived.Test.YtjhafgnmahhacaaGreatDoorTe42

namespace Go.Proofs.YtjhafgnmahhacaaGreatDoor
open Go.RowKit
section
/-- What a thread reads at location a. -/
def seesL (m : BMc) (t : BTd) (a : Nat) : Int := match youngL t.q (a : Int) with
  | some p => p.2
  | none => (m.mem[a]?).getD 0
/-- A register is written, if it is not that which is always 0. -/
def putQ (arch : Int) (t : BTd) (reg : Nat) (n : Int) : BTd := if arch = 1 ∨ reg ≠ 0 then { t with vs := t.vs.set reg ([], n) } else t
/-- A thread behind its instruction's act. -/
def stepT (m : BMc) (t : BTd) (ac : Ac) : BTd :=
  if ac.kind = 3 then { t with q := t.q ++ [(((m.locs.idxOf ac.loc : Nat) : Int), ac.val)] }
  else if ac.kind = 2 then putQ m.arch t ac.reg.toNat (seesL m t (m.locs.idxOf ac.loc))
  else t
/-- What an act asks for is there. -/
structure AcOK (m : BMc) (t : BTd) (ac : Ac) : Prop where
  loc : ac.kind = 3 ∨ ac.kind = 2 → ac.loc ∈ m.locs ∧ m.locs.idxOf ac.loc < m.mem.length
  reg : ac.kind = 2 → 0 ≤ ac.reg ∧ ac.reg < t.vs.length
  q : t.q.length ≤ 1000000
  ll : m.locs.length ≤ 1000000
section
set_option maxHeartbeats 4000000
set_option maxRecDepth 100000
variable {w : World} {B g : Nat} {m : BMc} {V : BMv}
theorem MPost.tr {w w1 W : World} {B g : Nat} {V V1 : BMv} {m1 m2 : BMc} {v : Value} {e : Ending} (h : MChg V V1 w w1) (k : MPost B g V1 m1 v w1 e W) (hm : m1 = m2) : MPost B g V m2 v w e W := by
  subst hm
  obtain ⟨V2, e1, h1, h2⟩ := k
  exact ⟨V2, e1, h1, h.trans h2⟩
theorem stepP (h : BufAt w B g m V) {k : Nat} {t : BTd} {c : List Ins} {x : Ins} {j : Nat} {vs' : List (List UInt8 × Int)} {ac : Ac} (hk : m.tds[k]? = some t) (hc : m.code[k]? = some c) (ha : t.at_ = (j : Int)) (hx : c[j]? = some x) (harch : m.arch = 1)
    (hins : insB x.op x.d x.a x.b x.imm ⟨x.loc.toArray⟩ ⟨x.label.toArray⟩ x.fence = true) (hth : threadB 15 (j : Int) t.vs = true) (hdo : doL x.op x.d x.a x.imm x.loc t.vs = some (vs', ac)) (hB : B ≤ w.heap.size)
    (hok : AcOK m { t with vs := vs', at_ := (j : Int) + 1 } ac) :
    Calls Tryz.prog 95 #[.pointer (some ⟨g, 0, none⟩), .int .i64 (k : Int)] w (MPost B g V { m with tds := m.tds.set k (stepT m { t with vs := vs', at_ := (j : Int) + 1 } ac) } (.tuple #[]) w) := by
  have HA := Lib.hid (actsP h hk hc ha hx harch hins hth hdo hB)
  obtain ⟨t1, ht1⟩ : ∃ t1, ({ t with vs := vs', at_ := (j : Int) + 1 } : BTd) = t1 := ⟨_, rfl⟩
  rw [ht1] at HA hok ⊢
  have hkl0 : k < m.tds.length := (List.getElem?_eq_some_iff.1 hk).1
  obtain ⟨m1, hm1⟩ : ∃ m1, ({ m with tds := m.tds.set k t1 } : BMc) = m1 := ⟨_, rfl⟩
  rw [hm1] at HA
  have hk1 : m1.tds[k]? = some t1 := by rw [← hm1]; exact List.getElem?_set_self hkl0
  have hc1 : m1.code[k]? = some c := by rw [← hm1]; exact hc
  have HS := Lib.hid (show ∀ t2, ({ m1 with tds := m1.tds.set k t2 } : BMc) = { m with tds := m.tds.set k t2 } from fun t2 => by subst hm1; simp)
  have HL := Lib.hid (show m1.locs = m.locs ∧ m1.mem = m.mem ∧ m1.arch = m.arch ∧ m1.tds.length = m.tds.length from by subst hm1; simp)
  have HM := Lib.hid hm1
  have HOk := Lib.hid hok
  have HAr := Lib.hid harch
  have z1 : (0 : Int) ≤ (k : Int) := by omega
  have z2 : (k : Int) < (m1.tds.length : Int) := by rw [HL.out.2.2.2]; omega
  clear h hk hc ha hx harch hins hth hdo hok ht1 hm1
  go_enter Tryz.func95, Tryz.ntmps95
  go_wp2_with (go_at_call 170; refine HA.out.mono ?_; rintro e w1 ⟨V1, rfl, hm, hch⟩; refine Hid.out ?_)
  refine Lib.hid ?_
  obtain ⟨kind, al, val, reg, fe⟩ := ac
  simp only [actV]
  have HC := Lib.hid hch
  have HM1 := Lib.hid hm
  have HB1 := Lib.hid (alloc_b w1 (.cells #[.int .i64 kind, .string ⟨al.toArray⟩, .int .i64 val, .int .i64 reg, .int .i64 fe] 64 (0, 0)))
  have HM2 := Lib.hid (hm.below HB1.out)
  obtain ⟨b, pb, cp, qb, cc, A, cr, hb, htd, k5, p0, k1, q0, hrat, hkl⟩ := hm.thr hk1 hc1
  have hpw := World.block_lt_of_cell? _ _ p0
  have hgw := hm.blk.lt
  have hbw := htd.blk.lt
  have HTd := Lib.hid htd
  have HBt := Lib.hid hb
  have HK1 := Lib.hid hk1
  have HKx := Lib.hid (Blk.new w1 64 #[.int .i64 kind, .string ⟨al.toArray⟩, .int .i64 val, .int .i64 reg, .int .i64 fe])
  clear hch hm htd hb hk1 hc1 q0 k1 hrat HA
  by_cases h3 : kind = 3
  · subst h3
    have HQ := Lib.hid (show stepT m t1 ⟨3, al, val, reg, fe⟩ = { t1 with q := t1.q ++ [(((m.locs.idxOf al : Nat) : Int), val)] } from rfl)
    have hal := (HOk.out.loc (.inl rfl)).1
    have hz1 := HC.out.chg.size
    have hlc := fun (W : World) (hW : Below w1.heap.size w1 W) => locP (HM1.out.below hW) al (by rw [HL.out.1]; exact hal) (by rw [HL.out.1]; exact HOk.out.ll)
    rw [HL.out.1] at hlc
    have HLc := Lib.hid hlc
    have HPu := Lib.hid (fun (W : World) (hW : Below w1.heap.size w1 W) => pushP (((m.locs.idxOf al : Nat) : Int), val) (HTd.out.below hW) HOk.out.q (Nat.le_trans hB (Nat.le_trans hz1 hW.size)))
    clear hal hlc
    have a1 := HKx.out.cl 1
    have a2 := HKx.out.cl 2
    go_wp2_with fail
    refine wz (fun y : World => y.cell? ⟨w1.heap.size, 1, none⟩ = some (.string ⟨al.toArray⟩) ∧ y.cell? ⟨w1.heap.size, 2, none⟩ = some (.int .i64 val)) [5, 6, 8] ⟨a1, a2⟩ (fun hHeld => ?_)
    refine wq 0 ?_
    refine wq 1 ?_
    refine wq 2 ?_
    refine wq 3 ?_
    refine wq 4 ?_
    refine wq 7 ?_
    refine wt 5 (by assumption) ?_
    refine wt 8 (by assumption) ?_
    refine wpE_one (i := 6) (by kernel_rfl) rfl (fun K hK => ?_)
    go_simp
    refine (HLc.out _ (below_alloc (Below.refl _ _) _).drew).mono ?_
    rintro e w9 ⟨rfl, rfl⟩
    refine hK.out _ _ hHeld ?_
    clear hK K
    refine pu ?_
    refine wl 9 ?_
    go_wp2_with (go_at_call 171; refine (HPu.out _ (below_alloc (Below.refl _ _) _).drew).mono ?_; rintro e w4 ⟨rv', qv', rfl, h1, h2, h3⟩; have G1 := Lib.hid h1; have G2 := Lib.hid h2; have G3 := Lib.hid h3; clear h1 h2 h3)
    go_end0
    exact MPost.tr (HC.out.trans (MChg.of_below (below_alloc (Below.refl _ _) _).drew)) (MPost.of (HM1.out.below (below_alloc (Below.refl _ _) _).drew) HK1.out HBt.out G1.out G2.out G3.out) (by rw [HQ.out]; exact HS.out _)
  · by_cases h2 : kind = 2
    · subst h2
      obtain ⟨hal, hmem⟩ := HOk.out.loc (.inr rfl)
      obtain ⟨hr1, hr2⟩ := HOk.out.reg rfl
      simp only at hal hmem hr1 hr2
      obtain ⟨rn, rfl⟩ : ∃ rn : Nat, reg = (rn : Int) := ⟨reg.toNat, by omega⟩
      have hz1 := HC.out.chg.size
      have hlc := fun (W : World) (hW : Below w1.heap.size w1 W) => locP (HM1.out.below hW) al (by rw [HL.out.1]; exact hal) (by rw [HL.out.1]; exact HOk.out.ll)
      rw [HL.out.1] at hlc
      obtain ⟨ix, hix⟩ : ∃ ix, m.locs.idxOf al = ix := ⟨_, rfl⟩
      rw [hix] at hlc hmem
      obtain ⟨n, hn⟩ : ∃ n, seesL m t1 ix = n := ⟨_, rfl⟩
      have HQ := Lib.hid (show stepT m t1 ⟨2, al, val, (rn : Int), fe⟩ = putQ m.arch t1 rn n from by rw [← hn, ← hix]; rfl)
      have HLc := Lib.hid hlc
      have hx0 := List.getElem?_eq_getElem hmem
      obtain ⟨mv, hmv⟩ : ∃ mv, m.mem[ix] = mv := ⟨_, rfl⟩
      rw [hmv] at hx0
      obtain ⟨mb, mc, emv, hmb⟩ := own_first HM1.out.mem (show m1.mem[ix]? = some mv by rw [HL.out.2.1]; exact hx0)
      have k4 : w1.cell? ⟨g, 4, none⟩ = some (.slice (some ⟨mb, 0, none⟩) m1.mem.length mc) := by rw [← emv]; exact HM1.out.blk.cl 4
      have m0 : w1.cell? ⟨mb, ix, none⟩ = some (.int .i64 mv) := by have := hmb 0 _ rfl; simpa using this
      have i1 : (0 : Int) ≤ (ix : Int) := by omega
      have i2 : (ix : Int) < (m1.mem.length : Int) := by rw [HL.out.2.1]; omega
      have HN := Lib.hid (show n = (match youngL t1.q (ix : Int) with | some p => p.2 | none => mv) from by rw [← hn]; unfold seesL; rw [hx0]; rfl)
      have HY := Lib.hid (fun (W : World) (hW : Below w1.heap.size w1 W) (la : Nat) (hla : W.cell? ⟨la, 0, none⟩ = some (.int .i64 (ix : Int))) => youngP (ix : Int) la (HTd.out.below hW) HOk.out.q (Nat.le_trans hB (Nat.le_trans hz1 hW.size)) hla)
      have HPt := Lib.hid (fun (W : World) (hW : Below w1.heap.size w1 W) (n : Int) => bputP g m.arch rn n (HTd.out.below hW) (by rw [← HL.out.2.2.1]; exact cell_go (HM1.out.blk.cl 0) hW) (by omega))
      have a1 := HKx.out.cl 1
      have HB6 := Lib.hid (below_alloc (alloc_b w1 (.cells #[.int .i64 2, .string ⟨al.toArray⟩, .int .i64 val, .int .i64 (rn : Int), .int .i64 fe] 64 (0, 0))) (.cells #[.int .i64 (ix : Int)] 3 (0, 0)))
      have HI6 := Lib.hid (blkN2 w1 (.cells #[.int .i64 2, .string ⟨al.toArray⟩, .int .i64 val, .int .i64 (rn : Int), .int .i64 fe] 64 (0, 0)) 3 #[.int .i64 (ix : Int)])
      have HA6 := Lib.hid (HKx.out.alloc (.cells #[.int .i64 (ix : Int)] 3 (0, 0)))
      clear hal hmem hr1 hr2 hlc hix hn hmv emv hmb hx0
      go_wp2_with (go_at_call 100; refine (HLc.out _ (below_alloc (Below.refl _ _) _)).mono ?_; rintro e w9 ⟨rfl, rfl⟩)
      generalize (w1.alloc (.cells #[.int .i64 2, .string ⟨al.toArray⟩, .int .i64 val, .int .i64 (rn : Int), .int .i64 fe] 64 (0, 0))).alloc (.cells #[.int .i64 (ix : Int)] 3 (0, 0)) = W6 at *
      have x0 := HI6.out.cl 0
      have k4 := cell_go k4 HB6.out
      have m0 := cell_go m0 HB6.out
      refine wz (fun y : World => y.cell? ⟨g, 4, none⟩ = some (.slice (some ⟨mb, 0, none⟩) m1.mem.length mc) ∧ y.cell? ⟨w1.heap.size + 1, 0, none⟩ = some (.int .i64 (ix : Int)) ∧ y.cell? ⟨mb, ix, none⟩ = some (.int .i64 mv)) [3, 4, 6] ⟨k4, x0, m0⟩ (fun hHeld => ?_)
      refine wq 0 ?_
      refine wq 1 ?_
      refine wq 2 ?_
      refine wt 3 (by assumption) ?_
      refine wt 4 (by assumption) ?_
      refine wq 5 ?_
      refine wt 6 (by assumption) ?_
      refine wl 7 ?_
      have hgw6 : g < W6.heap.size := Nat.lt_of_lt_of_le hgw HB6.out.size
      cases hy : youngL t1.q (ix : Int) with
      | none =>
        rw [hy] at HY HN
        obtain rfl : n = mv := HN.out
        clear hy m0 k4 a1 hHeld
        have x0 : W6.drew.cell? ⟨w1.heap.size + 1, 0, none⟩ = some (.int .i64 (ix : Int)) := x0
        go_wp2_with (first | (go_at_call 172; refine (HY.out _ (by repeat (first | exact HB7.out | exact HB6.out | refine Below.drew ?_ | refine below_alloc ?_ _)) _ x0).mono ?_; rintro e w7 ⟨rfl, hb7⟩; simp only [youngV]; have HB7 := Lib.hid (below_trans (W := w1) (by repeat (first | exact HB7.out | exact HB6.out | refine Below.drew ?_ | refine below_alloc ?_ _)) hb7); have HA7 := Lib.hid (HA6.out.go (below_of_drew hb7)); have a3 := HA7.out.cl 3; have z7 := HA7.out.lt; clear hb7) | (go_at_call 174; refine (HPt.out _ (by repeat (first | exact HB7.out | exact HB6.out | refine Below.drew ?_ | refine below_alloc ?_ _)) _).mono ?_; rintro e w8 ⟨rv', qv', rfl, h1, h2, h3⟩; have G1 := Lib.hid h1; have G2 := Lib.hid h2; have G3 := Lib.hid h3; clear h1 h2 h3))
        go_end0
        exact MPost.tr (HC.out.trans (MChg.of_below (by repeat (first | exact HB7.out | exact HB6.out | refine Below.drew ?_ | refine below_alloc ?_ _)))) (MPost.of (HM1.out.below (by repeat (first | exact HB7.out | exact HB6.out | refine Below.drew ?_ | refine below_alloc ?_ _))) HK1.out HBt.out G1.out G2.out G3.out) (by rw [HQ.out]; exact HS.out _)
      | some p =>
        rw [hy] at HY HN
        obtain ⟨p1, p2⟩ := p
        obtain rfl : n = p2 := HN.out
        clear hy m0 k4 a1 hHeld
        have x0 : W6.drew.cell? ⟨w1.heap.size + 1, 0, none⟩ = some (.int .i64 (ix : Int)) := x0
        go_wp2_with (first | (go_at_call 172; refine (HY.out _ (by repeat (first | exact HB7.out | exact HB6.out | refine Below.drew ?_ | refine below_alloc ?_ _)) _ x0).mono ?_; rintro e w7 ⟨rfl, hb7⟩; simp only [youngV]; have HB7 := Lib.hid (below_trans (W := w1) (by repeat (first | exact HB7.out | exact HB6.out | refine Below.drew ?_ | refine below_alloc ?_ _)) hb7); have HA7 := Lib.hid (HA6.out.go (below_of_drew hb7)); have a3 := HA7.out.cl 3; have z7 := HA7.out.lt; clear hb7) | (go_at_call 174; refine (HPt.out _ (by repeat (first | exact HB7.out | exact HB6.out | refine Below.drew ?_ | refine below_alloc ?_ _)) _).mono ?_; rintro e w8 ⟨rv', qv', rfl, h1, h2, h3⟩; have G1 := Lib.hid h1; have G2 := Lib.hid h2; have G3 := Lib.hid h3; clear h1 h2 h3))
        go_end0
        exact MPost.tr (HC.out.trans (MChg.of_below (by repeat (first | exact HB7.out | exact HB6.out | refine Below.drew ?_ | refine below_alloc ?_ _)))) (MPost.of (HM1.out.below (by repeat (first | exact HB7.out | exact HB6.out | refine Below.drew ?_ | refine below_alloc ?_ _))) HK1.out HBt.out G1.out G2.out G3.out) (by rw [HQ.out]; exact HS.out _)
    · have HQ := Lib.hid (show stepT m t1 ⟨kind, al, val, reg, fe⟩ = t1 from by unfold stepT; rw [if_neg h3, if_neg h2])
      have g3 : (kind == 3) = false := by simpa using h3
      have g2 : (kind == 2) = false := by simpa using h2
      clear h2 h3
      go_wp2
      go_end0
      refine ⟨V1, rfl, ?_, HC.out.trans (MChg.of_below HB1.out)⟩
      rw [HQ.out, HM.out]
      exact HM2.out
end
end
end Go.Proofs.YtjhafgnmahhacaaGreatDoor
