/- Layer 22: how the things stand: the program's State. -/
import Derived.Test.YtjhafgnmahhacaaGreatDoorTe47

namespace Go.Proofs.YtjhafgnmahhacaaGreatDoor
open Go.RowKit
section
/-- What a thing has now. -/
def stand1 (m : BMc) (x : Th) : Int := if x.1 < 0 then (m.mem[m.locs.idxOf x.2.2]?).getD 0 else match m.tds[x.1.toNat]? with
  | some t => ((t.vs[x.2.1.toNat]?).getD ([], 0)).2
  | none => 0
def sts (m : BMc) (k : Nat) : List Int := (m.ths.take k).map (stand1 m)
def stateL (m : BMc) : List Int := m.ths.map (stand1 m)
/-- The things that are asked for are there. -/
structure SOK (m : BMc) : Prop where
  n0 : 0 < m.tds.length
  len : m.ths.length ≤ 100000
  ll : m.locs.length ≤ 1000000
  mem : ∀ x ∈ m.ths, x.1 < 0 → x.2.2 ∈ m.locs ∧ m.locs.idxOf x.2.2 < m.mem.length
  reg : ∀ x ∈ m.ths, 0 ≤ x.1 → ∃ (k r : Nat) (t : BTd), x.1 = (k : Int) ∧ x.2.1 = (r : Int) ∧ m.tds[k]? = some t ∧ r < t.vs.length
section
set_option maxHeartbeats 4000000
set_option maxRecDepth 100000
variable {w : World} {B g : Nat} {m : BMc} {V : BMv}
/-- A row of ints of the call's own. -/
def IsPost (l : List Int) (w : World) (e : Ending) (w' : World) : Prop := ∃ v, e = .returned v ∧ encI.Own 3 w.heap.size w' v l ∧ Below w.heap.size w w'
theorem stateP (h : BufAt w B g m V) (hs : SOK m) :
    Calls Tryz.prog 29 #[.pointer (some ⟨g, 0, none⟩)] w (IsPost (stateL m) w) := by
  have HB := Lib.hid h
  have HI := Lib.hid (fun (W : World) (hW : Below w.heap.size w W) => isP (h.below hW) hs.n0)
  have HSk := Lib.hid hs
  have hgw := h.blk.lt
  have hlen := hs.len
  obtain ⟨n, hne⟩ : ∃ n, m.ths.length = n := ⟨_, rfl⟩
  have HL : Hid (stateL m = sts m n) := Lib.hid (by rw [← hne]; unfold stateL sts; rw [List.take_length])
  obtain ⟨At, ct, et⟩ := h.ths.shp
  have k3 : w.cell? ⟨g, 3, none⟩ = some (.slice At n ct) := by
    have := h.blk.cl 3
    rw [show V.tv = .slice At m.ths.length ct from et, hne] at this
    exact this
  have HNE := Lib.hid hne
  rw [hne] at hlen
  have HEt := Lib.hid et
  clear h hs hne et
  go_enter Tryz.func29, Tryz.ntmps29
  go_wp2_with (go_at_call 93; refine (HI.out _ (by repeat (first | exact Below.refl _ _ | refine Below.drew ?_ | refine below_alloc ?_ _))).mono ?_; rintro e w1 ⟨rfl, rfl⟩)
  go_loopw [3, 15] (fun out i wr => ∃ (k : Nat) (v : Value), out = v ∧ k ≤ n ∧ i = .int .i64 k ∧ encI.Own 3 w1.heap.size wr v (sts m k) ∧ Below w1.heap.size w1 wr) (fun _ i _ => n - (intOf i).toNat)
  case atStart => exact ⟨0, _, rfl, Nat.zero_le _, rfl, Enc.Own.nil _ _ _, Below.refl _ _⟩
  case round =>
    obtain ⟨k, v, rfl, hk, rfl, hown, hbw⟩ := hrel
    have HO := Lib.hid hown
    have HW := Lib.hid hbw
    have hz := hbw.size
    clear hown hbw
    by_cases hkn : k < n
    · have hkm : k < m.ths.length := by rw [HNE.out]; exact hkn
      have hx := List.getElem?_eq_getElem hkm
      obtain ⟨x, hxe⟩ : ∃ x, m.ths[k] = x := ⟨_, rfl⟩
      rw [hxe] at hx
      have hmem := List.mem_of_getElem? hx
      obtain ⟨tb, tc, et2, ht0⟩ := own_first HB.out.ths hx
      rw [HEt.out] at et2
      simp only [Value.slice.injEq] at et2
      obtain ⟨rfl, _, rfl⟩ := et2
      obtain ⟨N, hN⟩ : ∃ N, stand1 m x = N := ⟨_, rfl⟩
      have HS := Lib.hid (show sts m (k + 1) = sts m k ++ [N] from by
        unfold sts
        rw [List.take_succ_eq_append_getElem hkm, List.map_append, hxe, ← hN]; rfl)
      have hsl : (sts m k).length ≤ k := by unfold sts; rw [List.length_map, List.length_take]; omega
      obtain ⟨Av, nv, cv, rfl⟩ := own_shp3 HO.out
      obtain ⟨th, rg, loc⟩ := x
      have t0 : wr.cell? ⟨tb, k * 3, none⟩ = some (.int .i64 th) := cell_go (ht0 0 _ rfl) HW.out
      have t1 : wr.cell? ⟨tb, k * 3 + 1, none⟩ = some (.int .i64 rg) := cell_go (ht0 1 _ rfl) HW.out
      have t2 : wr.cell? ⟨tb, k * 3 + 2, none⟩ = some (.string ⟨loc.toArray⟩) := cell_go (ht0 2 _ rfl) HW.out
      have htw := World.block_lt_of_cell? wr _ t0
      have z1 : (0 : Int) ≤ (k : Int) := by omega
      have z2 : (k : Int) < (n : Int) := by omega
      have hgr : g < wr.heap.size := Nat.lt_of_lt_of_le hgw hz
      have HTx := Lib.hid (Blk.new wr 25 #[.int .i64 th, .int .i64 rg, .string ⟨loc.toArray⟩])
      have HBx := Lib.hid (alloc_b wr (.cells #[.int .i64 th, .int .i64 rg, .string ⟨loc.toArray⟩] 25 (0, 0)))
      have HAt0 := Lib.hid (fun (mv : Int) => show encI.At ((wr.alloc (.cells #[.int .i64 th, .int .i64 rg, .string ⟨loc.toArray⟩] 25 (0, 0))).alloc (.cells #[.int .i64 mv] 3 (0, 0))).drew (some ⟨wr.heap.size + 1, 0, none⟩) [mv] from by
        have := oneAt encI (wr.alloc (.cells #[.int .i64 th, .int .i64 rg, .string ⟨loc.toArray⟩] 25 (0, 0))) 3 mv
        rw [World.size_alloc] at this
        exact at_dr this)
      have x0 := HTx.out.cl 0
      have x1 := HTx.out.cl 1
      have x2 := HTx.out.cl 2
      clear hx hxe ht0
      by_cases hth : th < 0
      · obtain ⟨hlo, hix⟩ := HSk.out.mem _ hmem hth
        simp only at hlo hix
        have HLc := Lib.hid (fun (W : World) (hW : Below w1.heap.size w1 W) => locP (HB.out.below hW) loc hlo HSk.out.ll)
        obtain ⟨ix, hixe⟩ : ∃ ix, m.locs.idxOf loc = ix := ⟨_, rfl⟩
        rw [hixe] at hix HLc
        have hm0 := List.getElem?_eq_getElem hix
        obtain ⟨mv, hmv⟩ : ∃ mv, m.mem[ix] = mv := ⟨_, rfl⟩
        rw [hmv] at hm0
        obtain ⟨mb, mc, em, hmb⟩ := own_first HB.out.mem hm0
        obtain rfl : mv = N := by
          rw [← hN]
          unfold stand1
          rw [if_pos hth]
          simp only
          rw [hixe, hm0]; rfl
        have k4 : wr.cell? ⟨g, 4, none⟩ = some (.slice (some ⟨mb, 0, none⟩) m.mem.length mc) := by rw [← em]; exact cell_go (HB.out.blk.cl 4) HW.out
        have m0 : wr.cell? ⟨mb, ix, none⟩ = some (.int .i64 mv) := by have := cell_go (hmb 0 _ rfl) HW.out; simpa using this
        have y1 : (0 : Int) ≤ (ix : Int) := by omega
        have y2 : (ix : Int) < (m.mem.length : Int) := by omega
        have g1 : decide (th < 0) = true := by simpa using hth
        have k4 := cell_go k4 HBx.out
        have m0 := cell_go m0 HBx.out
        have HAt := Lib.hid (HAt0.out mv)
        clear hlo hix hixe hm0 hmv em hmb hmem hN HAt0
        go_wp2_with fail
        refine wz (fun y : World => y.cell? ⟨g, 4, none⟩ = some (.slice (some ⟨mb, 0, none⟩) m.mem.length mc) ∧ y.cell? ⟨wr.heap.size, 2, none⟩ = some (.string ⟨loc.toArray⟩)) [3, 6, 7] ⟨k4, x2⟩ (fun hHeld => ?_)
        refine wq 0 ?_
        refine wq 1 ?_
        refine wq 2 ?_
        refine wq 4 ?_
        refine wq 5 ?_
        refine wt 3 (by assumption) ?_
        refine wt 6 (by assumption) ?_
        refine wpE_one (i := 7) (by kernel_rfl) rfl (fun K hK => ?_)
        go_simp
        refine (HLc.out _ (by repeat (first | exact Below.refl _ _ | exact HW.out | refine Below.drew ?_ | refine below_alloc ?_ _))).mono ?_
        rintro e w9 ⟨rfl, rfl⟩
        refine hK.out _ _ hHeld ?_
        clear hK K
        refine pu ?_
        refine wl 8 ?_
        clear hHeld
        go_wp2_with (at_builtin; refine Enc.appW elemI _ rfl (.tmp 49) (.tmp 51) rfl [mv] w1.heap.size (sts m k) (.slice Av nv cv) _ 0 1 rfl rfl HAt.out (own_below HO.out (by repeat (first | exact Below.refl _ _ | refine Below.drew ?_ | refine below_alloc ?_ _))) (by simp; omega) (by simp; omega) (by simp; omega) ?_; intro v3 w3 hown3 hg3; obtain ⟨Av, nv, cv, rfl⟩ := own_shp3 hown3; have HO := Lib.hid hown3; have HB3 := Lib.hid (Below.trans (a := w1) (by repeat (first | exact Below.refl _ _ | exact HW.out | refine Below.drew ?_ | refine below_alloc ?_ _)) hg3.below); clear hown3 hg3)
        go_roundw
        case rel => exact ⟨k + 1, _, rfl, by omega, by go_num, by rw [HS.out]; exact HO.out, HB3.out⟩
        case measure => simp [intOf]; omega
      · obtain ⟨kk, r, t, hk1, hr1, ht, hrl⟩ := HSk.out.reg _ hmem (by simp only; omega)
        simp only at hk1 hr1
        subst hk1
        subst hr1
        obtain ⟨b, hb, htd⟩ := HB.out.td kk t ht
        have hv := List.getElem?_eq_getElem hrl
        obtain ⟨v0, hv0⟩ : ∃ v0, t.vs[r] = v0 := ⟨_, rfl⟩
        rw [hv0] at hv
        obtain ⟨rq, rc, erv, hrc⟩ := own_first htd.regs hv
        obtain ⟨pb, cp, ep, hp0⟩ := own_first HB.out.ptr hb
        obtain ⟨L, mv⟩ := v0
        obtain rfl : mv = N := by
          rw [← hN]
          unfold stand1
          rw [if_neg hth]
          simp only [Int.toNat_natCast]
          rw [ht]
          simp only [hv]; rfl
        have k5 : wr.cell? ⟨g, 5, none⟩ = some (.slice (some ⟨pb, 0, none⟩) m.tds.length cp) := by rw [← HB.out.tlen, ← ep]; exact cell_go (HB.out.blk.cl 5) HW.out
        have p0 : wr.cell? ⟨pb, kk, none⟩ = some (.pointer (some ⟨b, 0, none⟩)) := by have := cell_go (hp0 0 _ rfl) HW.out; simpa using this
        have b0 : wr.cell? ⟨b, 0, none⟩ = some (.slice (some ⟨rq, 0, none⟩) t.vs.length rc) := by rw [← erv]; exact cell_go (htd.blk.cl 0) HW.out
        have r1 : wr.cell? ⟨rq, r * 2 + 1, none⟩ = some (.int .i64 mv) := cell_go (hrc 1 _ rfl) HW.out
        have hkl := (List.getElem?_eq_some_iff.1 ht).1
        have y1 : (0 : Int) ≤ (kk : Int) := by omega
        have y2 : (kk : Int) < (m.tds.length : Int) := by omega
        have y3 : (0 : Int) ≤ (r : Int) := by omega
        have y4 : (r : Int) < (t.vs.length : Int) := by omega
        have g1 : decide ((kk : Int) < 0) = false := by simp
        have k5 := cell_go k5 HBx.out
        have p0 := cell_go p0 HBx.out
        have b0 := cell_go b0 HBx.out
        have r1 := cell_go r1 HBx.out
        have HAt := Lib.hid (HAt0.out mv)
        clear ht hrl hb htd hv hv0 erv hrc ep hp0 hkl hmem hN HAt0
        go_wp2_with fail
        refine wz (fun y : World => y.cell? ⟨g, 5, none⟩ = some (.slice (some ⟨pb, 0, none⟩) m.tds.length cp) ∧ y.cell? ⟨wr.heap.size, 0, none⟩ = some (.int .i64 (kk : Int)) ∧ y.cell? ⟨pb, kk, none⟩ = some (.pointer (some ⟨b, 0, none⟩)) ∧ y.cell? ⟨b, 0, none⟩ = some (.slice (some ⟨rq, 0, none⟩) t.vs.length rc) ∧ y.cell? ⟨wr.heap.size, 1, none⟩ = some (.int .i64 (r : Int)) ∧ y.cell? ⟨rq, r * 2 + 1, none⟩ = some (.int .i64 mv)) [3, 5, 7, 11, 13, 16] ⟨k5, x0, p0, b0, x1, r1⟩ (fun hHeld => ?_)
        refine wq 0 ?_
        refine wq 1 ?_
        refine wq 2 ?_
        refine wq 4 ?_
        refine wq 12 ?_
        refine wt 3 (by assumption) ?_
        refine wt 5 (by assumption) ?_
        refine wq 6 ?_
        refine wt 7 (by assumption) ?_
        refine wq 8 ?_
        refine wq 9 ?_
        refine wq 10 ?_
        refine wt 11 (by assumption) ?_
        refine wt 13 (by assumption) ?_
        refine wq 14 ?_
        refine wq 15 ?_
        refine wt 16 (by assumption) ?_
        refine wl 17 ?_
        clear hHeld
        go_wp2_with (at_builtin; refine Enc.appW elemI _ rfl (.tmp 49) (.tmp 51) rfl [mv] w1.heap.size (sts m k) (.slice Av nv cv) _ 0 1 rfl rfl HAt.out (own_below HO.out (by repeat (first | exact Below.refl _ _ | refine Below.drew ?_ | refine below_alloc ?_ _))) (by simp; omega) (by simp; omega) (by simp; omega) ?_; intro v3 w3 hown3 hg3; obtain ⟨Av, nv, cv, rfl⟩ := own_shp3 hown3; have HO := Lib.hid hown3; have HB3 := Lib.hid (Below.trans (a := w1) (by repeat (first | exact Below.refl _ _ | exact HW.out | refine Below.drew ?_ | refine below_alloc ?_ _)) hg3.below); clear hown3 hg3)
        go_roundw
        case rel => exact ⟨k + 1, _, rfl, by omega, by go_num, by rw [HS.out]; exact HO.out, HB3.out⟩
        case measure => simp [intOf]; omega
    · have hkn2 : k = n := by omega
      have HE := Lib.hid (show stateL m = sts m k by rw [HL.out, hkn2])
      have g1 : ¬ k < n := hkn
      clear hkn2 hkn
      go_wp2
      go_ret
      rw [HE.out]
      exact ⟨_, rfl, HO.out, HW.out⟩
end
end
section
def nextMv (m : BMc) (pick : Int) : Option (Int × Int) := (movesL m)[pickN pick (movesL m).length]?
/-- The machine and its moves behind i moves of a script. -/
def runTo (m : BMc) (script : List Int) : Nat → BMc × List (Int × Int)
  | 0 => (m, [])
  | i + 1 => match nextMv (runTo m script i).1 ((script[i]?).getD 0) with
    | some x => (moveM (runTo m script i).1 x, (runTo m script i).2 ++ [x])
    | none => runTo m script i
theorem runTo_len (m : BMc) (script : List Int) : ∀ i, (runTo m script i).2.length ≤ i
  | 0 => Nat.le_refl _
  | i + 1 => by
    have h := runTo_len m script i
    unfold runTo
    split
    · rw [List.length_append]; simp; omega
    · omega
/-- A run that ends behind n moves. -/
structure RunOK (m : BMc) (script : List Int) (n : Nat) : Prop where
  ok : ∀ i ≤ n, MOK (runTo m script i).1
  go : ∀ i < n, ∃ x, nextMv (runTo m script i).1 ((script[i]?).getD 0) = some x
  stop : movesL (runTo m script n).1 = []
  sok : SOK (runTo m script n).1
  small : n ≤ 100000
theorem BufAt.low {w : World} {B g : Nat} {m : BMc} {V : BMv} (h : BufAt w B g m V) {x : Nat} (hx : MFoot V x) : B ≤ x := by
  rcases hx with ⟨j, bj, hj, hx⟩ | hx
  · have hl := (List.getElem?_eq_some_iff.1 hj).1
    rw [h.tlen] at hl
    obtain ⟨b2, h1, h2⟩ := h.td j _ (List.getElem?_eq_getElem hl)
    rw [hj] at h1
    cases h1
    exact (h2.foot hx).1
  · exact (h.mem.lt _ hx).1
/-- Where only a row of moves has turned. -/
theorem BufAt.tyO {w w' : World} {F : Nat → Prop} {B g : Nat} {m : BMc} {V : BMv} (h : BufAt w B g m V) (hF : TyF w F [79]) (hc : Chg F w w') : BufAt w' B g m V := by
  refine ⟨blk_ty hF hc h.blk (by decide), h.hg, own_tyF hF hc h.code (by decide), fun j c hj => ?_, own_tyF hF hc h.locs (by decide), own_tyF hF hc h.ths (by decide), own_tyF hF hc h.mem (by decide), own_tyF hF hc h.ptr (by decide), h.tlen, h.crl, fun j s hj => ?_, h.apart⟩
  · obtain ⟨A, cap, h1, h2⟩ := h.rows j c hj
    exact ⟨A, cap, h1, own_tyF hF hc h2 (by decide)⟩
  · obtain ⟨b', h1, h2⟩ := h.td j s hj
    exact ⟨b', h1, td_tyF hF hc h2 (by decide) (by decide) (by decide)⟩
section
set_option maxHeartbeats 4000000
set_option maxRecDepth 100000
/-- What Run answers. -/
def RuPost (st : List Int) (mv : List (Int × Int)) (w : World) (e : Ending) (w' : World) : Prop := ∃ v1 v2, e = .returned (.tuple #[.agg #[v1, v2], .int .i64 0]) ∧ encI.Own 3 w.heap.size w' v1 st ∧ encM.Own 79 w.heap.size w' v2 mv ∧ Below w.heap.size w w'
theorem runMP (T : Tst) (Ai Ac As : Option Addr) (ci cc cs : Nat) (kv : Value) (script : List Int) (w : World) (hT : TstAt w T Ai Ac kv) (a : Tr) (ha : traceL T = .ok a) (hS : encI.At w As script) (hsl : script.length ≤ 65536) (n : Nat) (hr : RunOK (initM T) script n) :
    Calls Tryz.prog 33 #[testV T (.slice Ai T.init.length ci) (.slice Ac T.code.length cc) kv, .slice As script.length cs] w (RuPost (stateL (runTo (initM T) script n).1) (runTo (initM T) script n).2 w) := by
  obtain ⟨A0, l0, q0, rfl⟩ : ∃ A n c, kv = .slice A n c := by obtain ⟨A, cap, e, _⟩ := hT.kids; exact ⟨A, _, cap, e⟩
  simp only [testV]
  have hB0 := below_2 w (.cells #[.int .i64 T.arch, .string ⟨T.name.toArray⟩, .string ⟨T.cycle.toArray⟩, .slice Ai T.init.length ci, .slice Ac T.code.length cc, .int .i64 T.q, .int .i64 T.k, .int .i64 T.t, .int .i64 T.r, .string ⟨T.l.toArray⟩, .int .i64 T.v, .slice A0 l0 q0] 32 (0, 0)) (.cells #[.slice none 0 0, .slice none 0 0] 93 (0, 0))
  have hRes := blkN2 w (.cells #[.int .i64 T.arch, .string ⟨T.name.toArray⟩, .string ⟨T.cycle.toArray⟩, .slice Ai T.init.length ci, .slice Ac T.code.length cc, .int .i64 T.q, .int .i64 T.k, .int .i64 T.t, .int .i64 T.r, .string ⟨T.l.toArray⟩, .int .i64 T.v, .slice A0 l0 q0] 32 (0, 0)) 93 #[.slice none 0 0, .slice none 0 0]
  have HNew := Lib.hid (newP T Ai Ac ci cc (.slice A0 l0 q0) _ (hT.below hB0) a ha)
  have HB0 := Lib.hid hB0
  have HRes := Lib.hid hRes
  have HS := Lib.hid hS
  have HR := Lib.hid hr
  have hns := hr.small
  simp only [testV] at HNew
  clear hT hB0 hRes ha hS hr
  go_enter Tryz.func33, Tryz.ntmps33
  go_wp2_with (go_at_call 37; refine HNew.out.mono ?_; rintro e w1 ⟨g, V, rfl, hM, hb1⟩; refine Hid.out ?_)
  refine Lib.hid ?_
  have hz1 := hb1.size
  have hz0 := HB0.out.size
  have HM := Lib.hid hM
  have HW1 := Lib.hid (below_trans HB0.out hb1)
  have HRs := Lib.hid (HRes.out.go hb1)
  have hbsz : w.heap.size + 2 = ((w.alloc (.cells #[.int .i64 T.arch, .string ⟨T.name.toArray⟩, .string ⟨T.cycle.toArray⟩, .slice Ai T.init.length ci, .slice Ac T.code.length cc, .int .i64 T.q, .int .i64 T.k, .int .i64 T.t, .int .i64 T.r, .string ⟨T.l.toArray⟩, .int .i64 T.v, .slice A0 l0 q0] 32 (0, 0))).alloc (.cells #[.slice none 0 0, .slice none 0 0] 93 (0, 0))).heap.size := by simp
  rw [← hbsz] at HM
  have HOb := Lib.hid (Blk.new w1 93 #[.slice none 0 0, .slice none 0 0])
  have HBo := Lib.hid (alloc_b w1 (.cells #[.slice none 0 0, .slice none 0 0] 93 (0, 0)))
  have HM1 := Lib.hid (HM.out.below HBo.out)
  have HW2 := Lib.hid (below_trans HW1.out HBo.out)
  have HRs2 := Lib.hid (HRs.out.go HBo.out)
  have g0 : ¬ (65536 : Int) < (script.length : Int) := by omega
  have hz3 : w.heap.size + 2 ≤ w1.heap.size := by omega
  have hg2 : w1.heap.size < (w1.alloc (.cells #[.slice none 0 0, .slice none 0 0] 93 (0, 0))).heap.size := by simp
  clear hM hb1 HNew HM HW1 HRs HBo hbsz hz1 hz0 HB0 HRes
  go_wp2_with fail
  generalize (w1.alloc (.cells #[.slice none 0 0, .slice none 0 0] 93 (0, 0))) = wa at *
  generalize w1.heap.size = ob at *
  go_loopw [9] (fun i wr => ∃ (k : Nat) (M : BMv) (mvv : Value), k ≤ n ∧ i = .int .i64 k ∧ BufAt wr (w.heap.size + 2) g (runTo (initM T) script k).1 M ∧ Below w.heap.size w wr ∧ Blk wr (w.heap.size + 1) 93 #[.slice none 0 0, .slice none 0 0] ∧ Blk wr ob 93 #[.slice none 0 0, mvv] ∧ encM.Own 79 (w.heap.size + 2) wr mvv (runTo (initM T) script k).2) (fun i _ => n + 1 - (intOf i).toNat)
  case atStart => exact ⟨0, V, _, Nat.zero_le _, rfl, HM1.out, HW2.out, HRs2.out, HOb.out, Enc.Own.nil _ _ _⟩
  case round =>
    obtain ⟨k, M, mvv, hk, rfl, hm, hbw, hrs, hob, hmo⟩ := hrel
    clear HM1 HW2 HRs2 HOb
    have HM := Lib.hid hm
    have HW := Lib.hid hbw
    have HRs := Lib.hid hrs
    have HOb := Lib.hid hob
    have HO := Lib.hid hmo
    have HS2 := Lib.hid (HS.out.below hbw)
    have hz := hbw.size
    have hlr := runTo_len (initM T) script k
    have hB2 : w.heap.size + 2 ≤ wr.heap.size := hrs.lt
    obtain ⟨Av, nv, cv, rfl⟩ := own_shp3 HO.out
    have hlv : nv = (runTo (initM T) script k).2.length := by
      obtain ⟨A9, c9, e9⟩ := own_shp HO.out
      simp only [Value.slice.injEq] at e9
      exact e9.2.1
    clear hm hbw hrs hob hmo
    obtain ⟨pk, hpk⟩ : ∃ pk, (script[k]?).getD 0 = pk := ⟨_, rfl⟩
    obtain ⟨m, hm⟩ : ∃ m, (runTo (initM T) script k).1 = m := ⟨_, rfl⟩
    obtain ⟨ms, hms⟩ : ∃ ms, (runTo (initM T) script k).2 = ms := ⟨_, rfl⟩
    rw [hm] at HM
    rw [hms] at HO hlv hlr
    subst hlv
    have HOK := Lib.hid (hm ▸ HR.out.ok k hk)
    by_cases hkn : k < n
    · obtain ⟨x, hx⟩ := HR.out.go k hkn
      have HE := Lib.hid (show runTo (initM T) script (k + 1) = (moveM m x, ms ++ [x]) by
        show (match nextMv (runTo (initM T) script k).1 ((script[k]?).getD 0) with
          | some x => (moveM (runTo (initM T) script k).1 x, (runTo (initM T) script k).2 ++ [x])
          | none => runTo (initM T) script k) = _
        rw [hx, hm, hms])
      rw [hm, hpk] at hx
      have HX := Lib.hid hx
      clear hx hm hms
      by_cases hks : k < script.length
      · have hx1 := List.getElem?_eq_getElem hks
        obtain ⟨p1, hp1⟩ : ∃ p1, script[k] = p1 := ⟨_, rfl⟩
        rw [hp1] at hx1
        obtain ⟨sb, so, rfl, hsc⟩ := HS2.out k p1 hx1
        have s0 : wr.cell? ⟨sb, so + k * 1, none⟩ = some (.int .i64 p1) := hsc 0 _ rfl
        rw [Nat.mul_one] at s0
        rw [hx1] at hpk
        replace hpk : p1 = pk := by simpa using hpk
        subst hpk
        have g1 : (k : Int) < (script.length : Int) := by omega
        have g2 : (0 : Int) ≤ (k : Int) := by omega
        clear hx1 hp1 hsc
        have HD := Lib.hid (doSome HM.out HOK.out p1 hB2 x HX.out)
        go_wp2_with (go_at_call 25; refine (HD.out).mono ?_; rintro e w3 ⟨V3, rfl, h3, hc3⟩; refine Hid.out ?_)
        refine Lib.hid ?_
        have hz4 := hc3.chg.size
        have HM3 := Lib.hid h3
        have HRs3 := Lib.hid (hc3.blk HM.out HRs.out (by decide))
        have HOb3 := Lib.hid (hc3.blk HM.out HOb.out (by decide))
        have HO3 := Lib.hid (own_tyF HM.out.tyF hc3.chg HO.out (by decide))
        have HW3 := Lib.hid (HW.out.trans (hc3.chg.below (fun b hb => Nat.le_trans (by omega : w.heap.size ≤ w.heap.size + 2) (HM.out.low hb)) HW.out.size))
        clear h3 hc3
        have HBx := Lib.hid (alloc_b w3 (.cells #[.int .i64 x.1, .int .i64 x.2] 79 (0, 0)))
        have HXb := Lib.hid (Blk.new w3 79 #[.int .i64 x.1, .int .i64 x.2])
        have x0 := HXb.out.cl 0
        have x1 := HXb.out.cl 1
        have HOb4 := Lib.hid (HOb3.out.go HBx.out)
        have HRs4 := Lib.hid (HRs3.out.go HBx.out)
        have HO4 := Lib.hid (own_below HO3.out HBx.out)
        have HM4 := Lib.hid (HM3.out.below HBx.out)
        have HW4 := Lib.hid (below_trans HW3.out HBx.out)
        have o1 := HOb4.out.cl 1
        have of := HOb4.out.frozen
        have oz := HOb4.out.lt
        have hz5 : wr.heap.size < (w3.alloc (.cells #[.int .i64 x.1, .int .i64 x.2] 79 (0, 0))).heap.size := by simp; omega
        have HAx := Lib.hid (show encM.At ((w3.alloc (.cells #[.int .i64 x.1, .int .i64 x.2] 79 (0, 0))).alloc (.cells #[.int .i64 x.1, .int .i64 x.2] 79 (0, 0))) (some ⟨w3.heap.size + 1, 0, none⟩) [x] from by
          have := oneAt encM (w3.alloc (.cells #[.int .i64 x.1, .int .i64 x.2] 79 (0, 0))) 79 x
          rw [World.size_alloc] at this
          exact this)
        clear HD HM HRs HOb HO HM3 HRs3 HOb3 HO3 HW HW3
        go_wp2_with (at_builtin; refine Hid.out ?_)
        refine Lib.hid ?_
        refine Enc.appW elemM _ rfl (.tmp 45) (.tmp 47) rfl [x] (w.heap.size + 2) ms (.slice Av ms.length cv) _ 0 1 rfl rfl HAx.out (own_below HO4.out (by repeat (first | with_reducible exact Below.refl _ _ | with_reducible refine Below.drew ?_ | with_reducible refine below_alloc ?_ _))) (by simp; omega) (by simp; omega) (by simp; omega) ?_
        intro v5 w5 hown5 hg5
        obtain ⟨Av5, nv5, cv5, rfl⟩ := own_shp3 hown5
        have HBy := Lib.hid (alloc_b (w3.alloc (.cells #[.int .i64 x.1, .int .i64 x.2] 79 (0, 0))) (.cells #[.int .i64 x.1, .int .i64 x.2] 79 (0, 0)))
        have hT := own_tyf (own_below HO4.out HBy.out)
        have HM5 := Lib.hid ((HM4.out.below HBy.out).tyO hT (grew_chg hg5))
        have HOb5 := Lib.hid (blk_ty hT (grew_chg hg5) (HOb4.out.go HBy.out) (by decide))
        have HRs5 := Lib.hid (blk_ty hT (grew_chg hg5) (HRs4.out.go HBy.out) (by decide))
        have HW5 := Lib.hid ((below_trans HW4.out HBy.out).trans (hg5.below.mono (by omega)))
        have HO5 := Lib.hid hown5
        have o1 := HOb5.out.cl 1
        have of := HOb5.out.frozen
        have oz := HOb5.out.lt
        clear hown5 hg5 hT HM4 HOb4 HRs4 HW4 HO4 HAx HBy HBx HXb x0 x1
        go_wp2_with fail
        go_roundw
        case rel =>
          refine ⟨k + 1, _, _, by omega, by go_num, by rw [HE.out]; exact HM5.out.setO HOb5.out (by decide) 1 _, HW5.out.setCell (by dsimp only; omega) _, HRs5.out.far (by dsimp only; omega) _, HOb5.out.set_ 1 _, by rw [HE.out]; exact own_setO HO5.out HOb5.out (by decide) 1 _⟩
        case measure => simp [intOf]; omega
      · rw [List.getElem?_eq_none (by omega)] at hpk
        replace hpk : (0 : Int) = pk := by simpa using hpk
        subst hpk
        have g1 : ¬ (k : Int) < (script.length : Int) := by omega
        have HD := Lib.hid (doSome HM.out HOK.out 0 hB2 x HX.out)
        go_wp2_with (go_at_call 25; refine (HD.out).mono ?_; rintro e w3 ⟨V3, rfl, h3, hc3⟩; refine Hid.out ?_)
        refine Lib.hid ?_
        have hz4 := hc3.chg.size
        have HM3 := Lib.hid h3
        have HRs3 := Lib.hid (hc3.blk HM.out HRs.out (by decide))
        have HOb3 := Lib.hid (hc3.blk HM.out HOb.out (by decide))
        have HO3 := Lib.hid (own_tyF HM.out.tyF hc3.chg HO.out (by decide))
        have HW3 := Lib.hid (HW.out.trans (hc3.chg.below (fun b hb => Nat.le_trans (by omega : w.heap.size ≤ w.heap.size + 2) (HM.out.low hb)) HW.out.size))
        clear h3 hc3
        have HBx := Lib.hid (alloc_b w3 (.cells #[.int .i64 x.1, .int .i64 x.2] 79 (0, 0)))
        have HXb := Lib.hid (Blk.new w3 79 #[.int .i64 x.1, .int .i64 x.2])
        have x0 := HXb.out.cl 0
        have x1 := HXb.out.cl 1
        have HOb4 := Lib.hid (HOb3.out.go HBx.out)
        have HRs4 := Lib.hid (HRs3.out.go HBx.out)
        have HO4 := Lib.hid (own_below HO3.out HBx.out)
        have HM4 := Lib.hid (HM3.out.below HBx.out)
        have HW4 := Lib.hid (below_trans HW3.out HBx.out)
        have o1 := HOb4.out.cl 1
        have of := HOb4.out.frozen
        have oz := HOb4.out.lt
        have hz5 : wr.heap.size < (w3.alloc (.cells #[.int .i64 x.1, .int .i64 x.2] 79 (0, 0))).heap.size := by simp; omega
        have HAx := Lib.hid (show encM.At ((w3.alloc (.cells #[.int .i64 x.1, .int .i64 x.2] 79 (0, 0))).alloc (.cells #[.int .i64 x.1, .int .i64 x.2] 79 (0, 0))) (some ⟨w3.heap.size + 1, 0, none⟩) [x] from by
          have := oneAt encM (w3.alloc (.cells #[.int .i64 x.1, .int .i64 x.2] 79 (0, 0))) 79 x
          rw [World.size_alloc] at this
          exact this)
        clear HD HM HRs HOb HO HM3 HRs3 HOb3 HO3 HW HW3
        go_wp2_with (at_builtin; refine Hid.out ?_)
        refine Lib.hid ?_
        refine Enc.appW elemM _ rfl (.tmp 45) (.tmp 47) rfl [x] (w.heap.size + 2) ms (.slice Av ms.length cv) _ 0 1 rfl rfl HAx.out (own_below HO4.out (by repeat (first | with_reducible exact Below.refl _ _ | with_reducible refine Below.drew ?_ | with_reducible refine below_alloc ?_ _))) (by simp; omega) (by simp; omega) (by simp; omega) ?_
        intro v5 w5 hown5 hg5
        obtain ⟨Av5, nv5, cv5, rfl⟩ := own_shp3 hown5
        have HBy := Lib.hid (alloc_b (w3.alloc (.cells #[.int .i64 x.1, .int .i64 x.2] 79 (0, 0))) (.cells #[.int .i64 x.1, .int .i64 x.2] 79 (0, 0)))
        have hT := own_tyf (own_below HO4.out HBy.out)
        have HM5 := Lib.hid ((HM4.out.below HBy.out).tyO hT (grew_chg hg5))
        have HOb5 := Lib.hid (blk_ty hT (grew_chg hg5) (HOb4.out.go HBy.out) (by decide))
        have HRs5 := Lib.hid (blk_ty hT (grew_chg hg5) (HRs4.out.go HBy.out) (by decide))
        have HW5 := Lib.hid ((below_trans HW4.out HBy.out).trans (hg5.below.mono (by omega)))
        have HO5 := Lib.hid hown5
        have o1 := HOb5.out.cl 1
        have of := HOb5.out.frozen
        have oz := HOb5.out.lt
        clear hown5 hg5 hT HM4 HOb4 HRs4 HW4 HO4 HAx HBy HBx HXb x0 x1
        go_wp2_with fail
        go_roundw
        case rel =>
          refine ⟨k + 1, _, _, by omega, by go_num, by rw [HE.out]; exact HM5.out.setO HOb5.out (by decide) 1 _, HW5.out.setCell (by dsimp only; omega) _, HRs5.out.far (by dsimp only; omega) _, HOb5.out.set_ 1 _, by rw [HE.out]; exact own_setO HO5.out HOb5.out (by decide) 1 _⟩
        case measure => simp [intOf]; omega
    · obtain rfl : k = n := by omega
      have hn0 : movesL m = [] := by rw [← hm]; exact HR.out.stop
      have HSo := Lib.hid (show SOK m by rw [← hm]; exact HR.out.sok)
      have HE := Lib.hid (show stateL (runTo (initM T) script k).1 = stateL m ∧ (runTo (initM T) script k).2 = ms from ⟨by rw [hm], hms⟩)
      clear hm hms hkn
      by_cases hks : k < script.length
      · have hx1 := List.getElem?_eq_getElem hks
        obtain ⟨p1, hp1⟩ : ∃ p1, script[k] = p1 := ⟨_, rfl⟩
        rw [hp1] at hx1
        obtain ⟨sb, so, rfl, hsc⟩ := HS2.out k p1 hx1
        have s0 : wr.cell? ⟨sb, so + k * 1, none⟩ = some (.int .i64 p1) := hsc 0 _ rfl
        rw [Nat.mul_one] at s0
        rw [hx1] at hpk
        replace hpk : p1 = pk := by simpa using hpk
        subst hpk
        have g1 : (k : Int) < (script.length : Int) := by omega
        have g2 : (0 : Int) ≤ (k : Int) := by omega
        clear hx1 hp1 hsc
        have HD := Lib.hid (doNone HM.out HOK.out p1 hn0)
        clear hn0
        go_wp2_with (go_at_call 25; refine (HD.out).mono ?_; rintro e w3 ⟨V3, rfl, h3, hc3⟩; refine Hid.out ?_)
        refine Lib.hid ?_
        have hz4 := hc3.chg.size
        have HM3 := Lib.hid h3
        have HRs3 := Lib.hid (hc3.blk HM.out HRs.out (by decide))
        have HOb3 := Lib.hid (hc3.blk HM.out HOb.out (by decide))
        have HO3 := Lib.hid (own_tyF HM.out.tyF hc3.chg HO.out (by decide))
        have HW3 := Lib.hid (HW.out.trans (hc3.chg.below (fun b hb => Nat.le_trans (by omega : w.heap.size ≤ w.heap.size + 2) (HM.out.low hb)) HW.out.size))
        clear h3 hc3
        have HBx := Lib.hid (alloc_b w3 (.cells #[.int .i64 0, .int .i64 0] 79 (0, 0)))
        have HM4 := Lib.hid (HM3.out.below HBx.out)
        have HOb4 := Lib.hid (HOb3.out.go HBx.out)
        have HRs4 := Lib.hid (HRs3.out.go HBx.out)
        have HO4 := Lib.hid (own_below HO3.out HBx.out)
        have HW4 := Lib.hid (below_trans HW3.out HBx.out)
        have HSt := Lib.hid (stateP HM4.out HSo.out)
        clear HD HM HRs HOb HO HM3 HRs3 HOb3 HO3 HW HW3
        go_wp2_with (go_at_call 29; refine HSt.out.mono ?_; rintro e w5 ⟨v5, rfl, hown5, hb5⟩; refine Hid.out ?_)
        refine Lib.hid ?_
        obtain ⟨Av5, nv5, cv5, rfl⟩ := own_shp3 hown5
        have HS5 := Lib.hid (own_lowE hown5 HW4.out.size)
        have HOb5 := Lib.hid (HOb4.out.go hb5)
        have HRs5 := Lib.hid (HRs4.out.go hb5)
        have HO5 := Lib.hid (own_below HO4.out hb5)
        have HW5 := Lib.hid (below_trans HW4.out hb5)
        have o0 := HOb5.out.cl 0
        have o1 := HOb5.out.cl 1
        have of := HOb5.out.frozen
        have oz := HOb5.out.lt
        have r0 := HRs5.out.cl 0
        have r1 := HRs5.out.cl 1
        have rf := HRs5.out.frozen
        have rz := HRs5.out.lt
        have hne : ¬ w.heap.size + 1 = ob := by omega
        have hne2 : ¬ ob = w.heap.size + 1 := by omega
        clear hown5 hb5 HM4 HOb4 HRs4 HO4 HW4 HSt HBx
        go_wp2_with fail
        have HOb6 := Lib.hid (HOb5.out.set_ 0 (.slice Av5 nv5 cv5))
        have HRs6 := Lib.hid (HRs5.out.far (p := ⟨ob, 0, none⟩) hne (.slice Av5 nv5 cv5))
        have HRs7 := Lib.hid (HRs6.out.set_ 0 (.slice Av5 nv5 cv5))
        have HRs8 := Lib.hid (HRs7.out.set_ 1 (.slice Av ms.length cv))
        have y0 : (((w5.setCell ⟨ob, 0, none⟩ (.slice Av5 nv5 cv5)).setCell ⟨w.heap.size + 1, 0, none⟩ (.slice Av5 nv5 cv5)).setCell ⟨w.heap.size + 1, 1, none⟩ (.slice Av ms.length cv)).cell? ⟨w.heap.size + 1, 0, none⟩ = some (.slice Av5 nv5 cv5) := HRs8.out.cl 0
        have y1 : (((w5.setCell ⟨ob, 0, none⟩ (.slice Av5 nv5 cv5)).setCell ⟨w.heap.size + 1, 0, none⟩ (.slice Av5 nv5 cv5)).setCell ⟨w.heap.size + 1, 1, none⟩ (.slice Av ms.length cv)).cell? ⟨w.heap.size + 1, 1, none⟩ = some (.slice Av ms.length cv) := HRs8.out.cl 1
        refine bodyPost_ret (v := .tuple #[.agg #[.slice Av5 nv5 cv5, .slice Av ms.length cv], .int .i64 0]) (by simp [results, Tryz.results33, go_sem, y0, y1]) rfl ⟨_, _, rfl, ?_, ?_, ?_⟩
        · rw [HE.out.1]; exact own_setO (own_setO (own_setO HS5.out HOb5.out (by decide) 0 _) HRs6.out (by decide) 0 _) HRs7.out (by decide) 1 _
        · rw [HE.out.2]; exact own_lowE (own_setO (own_setO (own_setO HO5.out HOb5.out (by decide) 0 _) HRs6.out (by decide) 0 _) HRs7.out (by decide) 1 _) (by omega)
        · exact ((HW5.out.setCell (by dsimp only; omega) _).setCell (by dsimp only; omega) _).setCell (by dsimp only; omega) _
      · rw [List.getElem?_eq_none (by omega)] at hpk
        replace hpk : (0 : Int) = pk := by simpa using hpk
        subst hpk
        have g1 : ¬ (k : Int) < (script.length : Int) := by omega
        have HD := Lib.hid (doNone HM.out HOK.out 0 hn0)
        clear hn0
        go_wp2_with (go_at_call 25; refine (HD.out).mono ?_; rintro e w3 ⟨V3, rfl, h3, hc3⟩; refine Hid.out ?_)
        refine Lib.hid ?_
        have hz4 := hc3.chg.size
        have HM3 := Lib.hid h3
        have HRs3 := Lib.hid (hc3.blk HM.out HRs.out (by decide))
        have HOb3 := Lib.hid (hc3.blk HM.out HOb.out (by decide))
        have HO3 := Lib.hid (own_tyF HM.out.tyF hc3.chg HO.out (by decide))
        have HW3 := Lib.hid (HW.out.trans (hc3.chg.below (fun b hb => Nat.le_trans (by omega : w.heap.size ≤ w.heap.size + 2) (HM.out.low hb)) HW.out.size))
        clear h3 hc3
        have HBx := Lib.hid (alloc_b w3 (.cells #[.int .i64 0, .int .i64 0] 79 (0, 0)))
        have HM4 := Lib.hid (HM3.out.below HBx.out)
        have HOb4 := Lib.hid (HOb3.out.go HBx.out)
        have HRs4 := Lib.hid (HRs3.out.go HBx.out)
        have HO4 := Lib.hid (own_below HO3.out HBx.out)
        have HW4 := Lib.hid (below_trans HW3.out HBx.out)
        have HSt := Lib.hid (stateP HM4.out HSo.out)
        clear HD HM HRs HOb HO HM3 HRs3 HOb3 HO3 HW HW3
        go_wp2_with (go_at_call 29; refine HSt.out.mono ?_; rintro e w5 ⟨v5, rfl, hown5, hb5⟩; refine Hid.out ?_)
        refine Lib.hid ?_
        obtain ⟨Av5, nv5, cv5, rfl⟩ := own_shp3 hown5
        have HS5 := Lib.hid (own_lowE hown5 HW4.out.size)
        have HOb5 := Lib.hid (HOb4.out.go hb5)
        have HRs5 := Lib.hid (HRs4.out.go hb5)
        have HO5 := Lib.hid (own_below HO4.out hb5)
        have HW5 := Lib.hid (below_trans HW4.out hb5)
        have o0 := HOb5.out.cl 0
        have o1 := HOb5.out.cl 1
        have of := HOb5.out.frozen
        have oz := HOb5.out.lt
        have r0 := HRs5.out.cl 0
        have r1 := HRs5.out.cl 1
        have rf := HRs5.out.frozen
        have rz := HRs5.out.lt
        have hne : ¬ w.heap.size + 1 = ob := by omega
        have hne2 : ¬ ob = w.heap.size + 1 := by omega
        clear hown5 hb5 HM4 HOb4 HRs4 HO4 HW4 HSt HBx
        go_wp2_with fail
        have HOb6 := Lib.hid (HOb5.out.set_ 0 (.slice Av5 nv5 cv5))
        have HRs6 := Lib.hid (HRs5.out.far (p := ⟨ob, 0, none⟩) hne (.slice Av5 nv5 cv5))
        have HRs7 := Lib.hid (HRs6.out.set_ 0 (.slice Av5 nv5 cv5))
        have HRs8 := Lib.hid (HRs7.out.set_ 1 (.slice Av ms.length cv))
        have y0 : (((w5.setCell ⟨ob, 0, none⟩ (.slice Av5 nv5 cv5)).setCell ⟨w.heap.size + 1, 0, none⟩ (.slice Av5 nv5 cv5)).setCell ⟨w.heap.size + 1, 1, none⟩ (.slice Av ms.length cv)).cell? ⟨w.heap.size + 1, 0, none⟩ = some (.slice Av5 nv5 cv5) := HRs8.out.cl 0
        have y1 : (((w5.setCell ⟨ob, 0, none⟩ (.slice Av5 nv5 cv5)).setCell ⟨w.heap.size + 1, 0, none⟩ (.slice Av5 nv5 cv5)).setCell ⟨w.heap.size + 1, 1, none⟩ (.slice Av ms.length cv)).cell? ⟨w.heap.size + 1, 1, none⟩ = some (.slice Av ms.length cv) := HRs8.out.cl 1
        refine bodyPost_ret (v := .tuple #[.agg #[.slice Av5 nv5 cv5, .slice Av ms.length cv], .int .i64 0]) (by simp [results, Tryz.results33, go_sem, y0, y1]) rfl ⟨_, _, rfl, ?_, ?_, ?_⟩
        · rw [HE.out.1]; exact own_setO (own_setO (own_setO HS5.out HOb5.out (by decide) 0 _) HRs6.out (by decide) 0 _) HRs7.out (by decide) 1 _
        · rw [HE.out.2]; exact own_lowE (own_setO (own_setO (own_setO HO5.out HOb5.out (by decide) 0 _) HRs6.out (by decide) 0 _) HRs7.out (by decide) 1 _) (by omega)
        · exact ((HW5.out.setCell (by dsimp only; omega) _).setCell (by dsimp only; omega) _).setCell (by dsimp only; omega) _
end
end
section
/-- No machine, or one with nothing in it. -/
def NilM (w : World) (p : Value) : Prop := p = .pointer none ∨ ∃ g A, p = .pointer (some ⟨g, 0, none⟩) ∧ Blk w g 84 #[A, .slice none 0 0, .slice none 0 0, .slice none 0 0, .slice none 0 0, .slice none 0 0]
theorem NilM.below {w w' : World} {p : Value} (h : NilM w p) (hb : Below w.heap.size w w') : NilM w' p := by
  rcases h with rfl | ⟨g, A, rfl, h⟩
  · exact .inl rfl
  · exact .inr ⟨g, A, rfl, h.go hb⟩
section
set_option maxHeartbeats 2000000
set_option maxRecDepth 100000
variable {w : World} {p : Value}
theorem isN (h : NilM w p) : Calls Tryz.prog 93 #[p] w fun e w' => e = .returned (.bool false) ∧ w' = w := by
  rcases h with rfl | ⟨g, A, rfl, hb⟩
  · go_enter Tryz.func93, Tryz.ntmps93
    go_wp2
    go_ret
    exact ⟨rfl, rfl⟩
  · have k5 := hb.cl 5
    have hg := hb.lt
    clear hb
    go_enter Tryz.func93, Tryz.ntmps93
    go_wp2
    go_ret
    exact ⟨rfl, rfl⟩
theorem MovesN (h : NilM w p) : Calls Tryz.prog 26 #[p] w fun e w' => e = .returned (.slice none 0 0) ∧ Below w.heap.size w w' := by
  have HI := Lib.hid (fun (W : World) (hW : Below w.heap.size w W) => isN (h.below hW))
  clear h
  go_enter Tryz.func26, Tryz.ntmps26
  go_wp2_with (go_at_call 93; refine (HI.out _ (by repeat (first | exact Below.refl _ _ | refine Below.drew ?_ | refine below_alloc ?_ _))).mono ?_; rintro e w9 ⟨rfl, rfl⟩)
  go_ret
  exact ⟨rfl, (by repeat (first | exact Below.refl _ _ | refine Below.drew ?_ | refine below_alloc ?_ _))⟩
theorem MemoryN (h : NilM w p) : Calls Tryz.prog 27 #[p] w fun e w' => e = .returned (.slice none 0 0) ∧ Below w.heap.size w w' := by
  have HI := Lib.hid (fun (W : World) (hW : Below w.heap.size w W) => isN (h.below hW))
  clear h
  go_enter Tryz.func27, Tryz.ntmps27
  go_wp2_with (go_at_call 93; refine (HI.out _ (by repeat (first | exact Below.refl _ _ | refine Below.drew ?_ | refine below_alloc ?_ _))).mono ?_; rintro e w9 ⟨rfl, rfl⟩)
  go_ret
  exact ⟨rfl, (by repeat (first | exact Below.refl _ _ | refine Below.drew ?_ | refine below_alloc ?_ _))⟩
theorem StateN (h : NilM w p) : Calls Tryz.prog 29 #[p] w fun e w' => e = .returned (.slice none 0 0) ∧ Below w.heap.size w w' := by
  have HI := Lib.hid (fun (W : World) (hW : Below w.heap.size w W) => isN (h.below hW))
  clear h
  go_enter Tryz.func29, Tryz.ntmps29
  go_wp2_with (go_at_call 93; refine (HI.out _ (by repeat (first | exact Below.refl _ _ | refine Below.drew ?_ | refine below_alloc ?_ _))).mono ?_; rintro e w9 ⟨rfl, rfl⟩)
  go_ret
  exact ⟨rfl, (by repeat (first | exact Below.refl _ _ | refine Below.drew ?_ | refine below_alloc ?_ _))⟩
theorem BufferN (h : NilM w p) (k : Int) : Calls Tryz.prog 28 #[p, .int .i64 k] w fun e w' => e = .returned (.slice none 0 0) ∧ Below w.heap.size w w' := by
  have HI := Lib.hid (fun (W : World) (hW : Below w.heap.size w W) => isN (h.below hW))
  clear h
  go_enter Tryz.func28, Tryz.ntmps28
  go_wp2_with (go_at_call 93; refine (HI.out _ (by repeat (first | exact Below.refl _ _ | refine Below.drew ?_ | refine below_alloc ?_ _))).mono ?_; rintro e w9 ⟨rfl, rfl⟩)
  go_ret
  exact ⟨rfl, (by repeat (first | exact Below.refl _ _ | refine Below.drew ?_ | refine below_alloc ?_ _))⟩
theorem CopyN (h : NilM w p) : Calls Tryz.prog 30 #[p] w fun e w' => e = .returned (.pointer none) ∧ Below w.heap.size w w' := by
  have HI := Lib.hid (fun (W : World) (hW : Below w.heap.size w W) => isN (h.below hW))
  clear h
  go_enter Tryz.func30, Tryz.ntmps30
  go_wp2_with (go_at_call 93; refine (HI.out _ (by repeat (first | exact Below.refl _ _ | refine Below.drew ?_ | refine below_alloc ?_ _))).mono ?_; rintro e w9 ⟨rfl, rfl⟩)
  go_ret
  exact ⟨rfl, (by repeat (first | exact Below.refl _ _ | refine Below.drew ?_ | refine below_alloc ?_ _))⟩
theorem KeyN (h : NilM w p) : Calls Tryz.prog 31 #[p] w fun e w' => e = .returned (.string ⟨#[]⟩) ∧ Below w.heap.size w w' := by
  have HI := Lib.hid (fun (W : World) (hW : Below w.heap.size w W) => isN (h.below hW))
  clear h
  go_enter Tryz.func31, Tryz.ntmps31
  go_wp2_with (go_at_call 93; refine (HI.out _ (by repeat (first | exact Below.refl _ _ | refine Below.drew ?_ | refine below_alloc ?_ _))).mono ?_; rintro e w9 ⟨rfl, rfl⟩)
  go_ret
  exact ⟨rfl, (by repeat (first | exact Below.refl _ _ | refine Below.drew ?_ | refine below_alloc ?_ _))⟩
theorem DoN (h : NilM w p) (k : Int) : Calls Tryz.prog 25 #[p, .int .i64 k] w fun e w' => e = .returned (.tuple #[.agg #[.int .i64 0, .int .i64 0], .int .i64 1]) ∧ Below w.heap.size w w' := by
  have HR := Lib.hid (Blk.new w 79 #[.int .i64 0, .int .i64 0])
  have HI := Lib.hid (fun (W : World) (hW : Below w.heap.size w W) => isN (h.below hW))
  clear h
  have r0 := HR.out.cl 0
  have r1 := HR.out.cl 1
  have rf := HR.out.frozen
  have rz := HR.out.lt
  go_enter Tryz.func25, Tryz.ntmps25
  go_wp2_with (go_at_call 93; refine (HI.out _ (by repeat (first | exact Below.refl _ _ | refine Below.drew ?_ | refine below_alloc ?_ _))).mono ?_; rintro e w9 ⟨rfl, rfl⟩)
  refine bodyPost_ret (v := .tuple #[.agg #[.int .i64 0, .int .i64 0], .int .i64 1]) (by simp [results, Tryz.results25, go_sem, r0, r1]) rfl ⟨rfl, ?_⟩
  repeat (first | exact Below.refl _ _ | refine Below.setCell ?_ (by simp) _ | refine Below.drew ?_ | refine below_alloc ?_ _)
/-- What waits in a thread's buffer, where something does. -/
theorem bufferP {B g : Nat} {m : BMc} {V : BMv} (h : BufAt w B g m V) {k : Nat} {t : BTd} {c : List Ins} (ht : m.tds[k]? = some t) (hc : m.code[k]? = some c) (hq : t.q ≠ []) (hl : t.q.length ≤ 1000000) : Calls Tryz.prog 28 #[.pointer (some ⟨g, 0, none⟩), .int .i64 (k : Int)] w fun e w' => ∃ gb cp, e = .returned (.slice (some ⟨gb, 0, none⟩) t.q.length cp) ∧ encP.Own 106 w.heap.size w' (.slice (some ⟨gb, 0, none⟩) t.q.length cp) t.q ∧ Below w.heap.size w w' := by
  have hkl := (List.getElem?_eq_some_iff.1 ht).1
  have HI := Lib.hid (fun (W : World) (hW : Below w.heap.size w W) => isP (h.below hW) (by omega))
  obtain ⟨b, pb, cp, qb, cc, A, cr, hb, htd, k5, p0, k1, q0, hrat, hkl2⟩ := h.thr ht hc
  have hgw := h.blk.lt
  obtain ⟨Aq, cq, eq, hat, _, _⟩ := Enc.Own.at_ htd.q
  have b2 := htd.blk.cl 2
  rw [eq] at b2
  have hbw := htd.blk.lt
  have hpw := World.block_lt_of_cell? w _ p0
  have hq0 := List.length_pos_iff.2 hq
  obtain ⟨ab, ao, rfl, hcell⟩ := hat 0 t.q[0] (List.getElem?_eq_getElem hq0)
  clear hcell hq0
  have HK := Lib.hid (cloneE elemP Tryz.cloneP rfl Tryz.sizeOf106 ab ao cq t.q w hat hl (by decide))
  have z1 : (0 : Int) ≤ (k : Int) := by omega
  have z2 : (k : Int) < (m.tds.length : Int) := by omega
  have g1 : decide ((k : Int) < 0) = false := by simp
  have g2 : decide ((k : Int) ≥ (m.tds.length : Int)) = false := by simp; omega
  have g3 : decide ((m.tds.length : Int) ≤ (k : Int)) = false := by simp; omega
  clear h hkl hb htd k1 q0 hrat hkl2 ht hc hq eq hat
  go_enter Tryz.func28, Tryz.ntmps28
  go_wp2_with (go_at_call 93; refine (HI.out _ (by repeat (first | exact Below.refl _ _ | refine Below.drew ?_ | refine below_alloc ?_ _))).mono ?_; rintro e w9 ⟨rfl, rfl⟩)
  refine HK.out.mono ?_
  rintro e w3 ⟨gb, c3, rfl, hown, hb3⟩
  have HO := Lib.hid hown
  have HB3 := Lib.hid hb3
  clear hown hb3
  go_wp2
  go_ret
  exact ⟨gb, c3, rfl, HO.out, HB3.out⟩
end
end
def sbT : Tst := ⟨1, [83, 66], [], [], [[⟨1, 0, 0, 0, 1, [120], [], 0⟩, ⟨3, 0, 0, 0, 0, [121], [], 0⟩], [⟨1, 0, 0, 0, 1, [121], [], 0⟩, ⟨3, 0, 0, 0, 0, [120], [], 0⟩]], 1, 4, 0, 0, [], 0, .cons 2 0 0 [] 0 .nil (.cons 2 1 0 [] 0 .nil .nil)⟩
def sbA : Tr := ⟨[⟨0, 0, 2, 0, 1, 0⟩, ⟨0, 1, 1, 1, 0, 0⟩, ⟨1, 0, 2, 1, 1, 0⟩, ⟨1, 1, 1, 0, 0, 0⟩], [], [], [], [], [(2, 1), (2, 3)]⟩
def sbM : BMc := ⟨1, sbT.code, [[120], [121]], [(0, 0, []), (1, 0, [])], [0, 0], [⟨List.replicate 15 ([], 0), 0, []⟩, ⟨List.replicate 15 ([], 0), 0, []⟩]⟩
set_option maxRecDepth 100000 in
theorem sb_check : checkC 2 sbT.q sbT.k sbT.t sbT.r sbT.l sbT.v sbT.kids = 0 ∧ checkC 1 sbT.q sbT.k sbT.t sbT.r sbT.l sbT.v sbT.kids = 0 := by decide +kernel
set_option maxRecDepth 100000 in
theorem sb_ths : thsT sbT = [(0, 0, []), (1, 0, [])] := by
  unfold thsT topT
  rw [if_pos sb_check.1, ← gatL_thsU]
  · decide +kernel
  · intro x hx
    have : x = (0, 0, []) ∨ x = (1, 0, []) := by simpa [sbT, atL, atomsF] using hx
    rcases this with rfl | rfl
    · exact (by decide : thingB 2 0 0 [] = true)
    · exact (by decide : thingB 2 1 0 [] = true)
theorem sb_locs : locsT sbT = [[120], [121]] := by
  refine strN_unique (locsN_str _) (by unfold StrN; simp; decide) (fun x => ?_)
  unfold locsT
  rw [locsN_mem]
  have : rawN sbT = [[120], [121], [121], [120], [], []] := by
    unfold rawN
    rw [show topT sbT.q sbT.k sbT.t sbT.r sbT.l sbT.v sbT.kids = [(0, 0, []), (1, 0, [])] from sb_ths]
    rfl
  rw [this]
  simp
  constructor
  · rintro ⟨h | h | h | h | h, h2⟩ <;> simp_all
  · rintro (rfl | rfl) <;> simp
set_option maxRecDepth 100000 in
theorem sb_file : fileE sbT = 0 := by
  unfold fileE
  rw [if_neg (by decide +kernel), if_neg (by decide +kernel), if_neg (by decide +kernel), if_neg (by decide +kernel), if_neg (by rw [show sbT.arch = 1 from rfl]; exact fun h => h sb_check.2), sb_ths, if_neg (by decide), if_neg (by rw [show locsN (rawN sbT) = [[120], [121]] from sb_locs]; decide)]
set_option maxRecDepth 100000 in
theorem sb_tr : traceL sbT = .ok sbA := by
  unfold traceL
  rw [if_neg (by rw [sb_file]; decide), sb_locs, sb_ths]
  first | kernel_rfl | rfl | decide
theorem sb_init : initM sbT = sbM := by
  unfold initM
  rw [sb_locs, sb_ths]
  rfl
/-- Is a machine as MOK asks? -/
def acB (m : BMc) (t : BTd) (ac : Ac) : Bool := ((ac.kind != 3 && ac.kind != 2) || (m.locs.contains ac.loc && decide (m.locs.idxOf ac.loc < m.mem.length))) && (ac.kind != 2 || (decide (0 ≤ ac.reg) && decide (ac.reg < (t.vs.length : Int)))) && decide (t.q.length ≤ 1000000) && decide (m.locs.length ≤ 1000000)
def tdB (m : BMc) (t : BTd) (c : List Ins) : Bool := decide (0 ≤ t.at_) && decide (t.q.length ≤ 1000000) && t.q.all (fun p => decide (0 ≤ p.1) && decide (p.1 < (m.mem.length : Int))) && (match c[t.at_.toNat]? with
  | none => true
  | some x => insB x.op x.d x.a x.b x.imm ⟨x.loc.toArray⟩ ⟨x.label.toArray⟩ x.fence && threadB 15 t.at_ t.vs && (match doL x.op x.d x.a x.imm x.loc t.vs with
    | some r => acB m { t with vs := r.1, at_ := t.at_ + 1 } r.2
    | none => false))
def mokB (m : BMc) : Bool := decide (m.arch = 1) && decide (0 < m.tds.length) && decide (m.tds.length ≤ 256) && decide (m.code.length = m.tds.length) && (m.tds.zip m.code).all (fun y => tdB m y.1 y.2)
theorem acOK_of {m : BMc} {t : BTd} {ac : Ac} (h : acB m t ac = true) : AcOK m t ac := by
  unfold acB at h
  simp only [Bool.and_eq_true, Bool.or_eq_true, bne_iff_ne, decide_eq_true_eq, List.contains_iff_mem] at h
  obtain ⟨⟨⟨h1, h2⟩, h3⟩, h4⟩ := h
  refine ⟨fun e => ?_, fun e => ?_, h3, h4⟩
  · rcases h1 with ⟨a, b⟩ | h1
    · rcases e with e | e
      · exact absurd e a
      · exact absurd e b
    · exact h1
  · exact h2.resolve_left (fun a => a e)
theorem mok_of {m : BMc} (h : mokB m = true) : MOK m := by
  unfold mokB at h
  simp only [Bool.and_eq_true, decide_eq_true_eq] at h
  obtain ⟨⟨⟨⟨h1, h2⟩, h3⟩, h4⟩, h5⟩ := h
  have h6 : ∀ (k : Nat) (t : BTd), m.tds[k]? = some t → ∃ c, m.code[k]? = some c ∧ tdB m t c = true := fun k t ht => by
    have hk := (List.getElem?_eq_some_iff.1 ht).1
    refine ⟨_, List.getElem?_eq_getElem (by omega), ?_⟩
    refine List.all_eq_true.1 h5 (t, m.code[k]'(by omega)) (List.mem_of_getElem? (i := k) ?_)
    rw [List.getElem?_zip_eq_some]
    exact ⟨ht, List.getElem?_eq_getElem (by omega)⟩
  refine ⟨h1, h2, h3, h4, fun k t ht => ?_, fun k t c x ht hc hx => ?_, fun k t ht => ?_⟩
  · obtain ⟨c, _, h7⟩ := h6 k t ht
    unfold tdB at h7
    simp only [Bool.and_eq_true, decide_eq_true_eq] at h7
    exact h7.1.1.1
  · obtain ⟨c', hc', h7⟩ := h6 k t ht
    rw [hc] at hc'
    cases hc'
    unfold tdB at h7
    simp only [Bool.and_eq_true, hx] at h7
    obtain ⟨_, ⟨h8, h9⟩, h10⟩ := h7
    cases hd : doL x.op x.d x.a x.imm x.loc t.vs with
    | none => rw [hd] at h10; cases h10
    | some r => rw [hd] at h10; exact ⟨h8, h9, r.1, r.2, rfl, acOK_of h10⟩
  · obtain ⟨c, _, h7⟩ := h6 k t ht
    unfold tdB at h7
    simp only [Bool.and_eq_true, decide_eq_true_eq, List.all_eq_true] at h7
    exact ⟨h7.1.1.2, h7.1.2⟩
set_option maxRecDepth 100000 in
theorem sb_moks : ∀ i ≤ 6, mokB (runTo sbM [0, 0, 1, 1] i).1 = true := by decide +kernel
set_option maxRecDepth 100000 in
theorem sb_next : ∀ i < 6, (nextMv (runTo sbM [0, 0, 1, 1] i).1 ((([0, 0, 1, 1] : List Int)[i]?).getD 0)).isSome = true := by decide +kernel
set_option maxRecDepth 100000 in
theorem sb_stop : movesL (runTo sbM [0, 0, 1, 1] 6).1 = [] := by decide +kernel
set_option maxRecDepth 100000 in
theorem sb_state : stateL (runTo sbM [0, 0, 1, 1] 6).1 = [0, 0] := by decide +kernel
set_option maxRecDepth 100000 in
theorem sb_moves : (runTo sbM [0, 0, 1, 1] 6).2.length = 6 := by decide +kernel
set_option maxRecDepth 100000 in
theorem sb_sok : SOK (runTo sbM [0, 0, 1, 1] 6).1 := by
  have h1 : (runTo sbM [0, 0, 1, 1] 6).1.ths = [(0, 0, []), (1, 0, [])] := by decide +kernel
  have h2 : (runTo sbM [0, 0, 1, 1] 6).1.tds = [⟨List.replicate 15 ([], 0), 2, []⟩, ⟨List.replicate 15 ([], 0), 2, []⟩] := by kernel_rfl
  have h3 : (runTo sbM [0, 0, 1, 1] 6).1.locs = [[120], [121]] := by decide +kernel
  refine ⟨by rw [h2]; decide, by rw [h1]; decide, by rw [h3]; decide, fun x hx hn => ?_, fun x hx hn => ?_⟩
  · rw [h1] at hx
    simp at hx
    rcases hx with rfl | rfl <;> simp at hn
  · rw [h1] at hx
    rw [h2]
    simp at hx
    rcases hx with rfl | rfl
    · exact ⟨0, 0, _, rfl, rfl, rfl, by decide⟩
    · exact ⟨1, 0, _, rfl, rfl, rfl, by decide⟩
theorem sb_run : RunOK (initM sbT) [0, 0, 1, 1] 6 := by
  rw [sb_init]
  exact ⟨fun i hi => mok_of (sb_moks i hi), fun i hi => Option.isSome_iff_exists.1 (sb_next i hi), sb_stop, sb_sok, by decide⟩
/-- The machine behind its first move. -/
def sbN : BMc := moveM sbM (1, 0)
set_option maxRecDepth 100000 in
theorem sb_first : (movesL sbM)[pickN 0 (movesL sbM).length]? = some (1, 0) := by decide +kernel
set_option maxRecDepth 100000 in
theorem sb_mok0 : MOK sbM := mok_of (by decide +kernel)
set_option maxRecDepth 100000 in
theorem sb_mok1 : MOK sbN := mok_of (by decide +kernel)
set_option maxRecDepth 100000 in
theorem sb_td0 : ∃ t c, sbN.tds[0]? = some t ∧ sbN.code[0]? = some c ∧ t.q = [(0, 1)] := ⟨⟨List.replicate 15 ([], 0), 1, [(0, 1)]⟩, _, by kernel_rfl, rfl, rfl⟩
set_option maxRecDepth 100000 in
theorem sb_moves1 : (movesL sbN).length = 3 := by decide +kernel
end Go.Proofs.YtjhafgnmahhacaaGreatDoor
