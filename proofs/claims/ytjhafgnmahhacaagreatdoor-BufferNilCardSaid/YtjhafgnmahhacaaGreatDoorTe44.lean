/- Layer 22: a move of the machine: the program's Do. -/
import Derived.Test.YtjhafgnmahhacaaGreatDoorTe43

namespace Go.Proofs.YtjhafgnmahhacaaGreatDoor
open Go.RowKit
def actX (c : List Ins) (t : BTd) : Option (BTd × Ac) := match c[t.at_.toNat]? with
  | some x => (doL x.op x.d x.a x.imm x.loc t.vs).map fun p => ({ t with vs := p.1, at_ := t.at_ + 1 }, p.2)
  | none => none
/-- A machine behind a thread's step; behind a thread's flush; behind a move. -/
def stepM (m : BMc) (k : Nat) : BMc := match m.code[k]?, m.tds[k]? with
  | some c, some t => match actX c t with
    | some p => { m with tds := m.tds.set k (stepT m p.1 p.2) }
    | none => m
  | _, _ => m
def flushM (m : BMc) (k : Nat) : BMc := match m.tds[k]? with
  | some t => match t.q with
    | p :: r => { m with mem := m.mem.set p.1.toNat p.2, tds := m.tds.set k { t with q := r } }
    | [] => m
  | none => m
def moveM (m : BMc) (x : Int × Int) : BMc := if x.1 = 2 then flushM m x.2.toNat else stepM m x.2.toNat
/-- Which of n a pick means. -/
def pickN (pick : Int) (n : Nat) : Nat := (pick % (n : Int)).toNat
/-- A machine whose moves can be done. -/
structure MOK (m : BMc) : Prop where
  arch : m.arch = 1
  n0 : 0 < m.tds.length
  n1 : m.tds.length ≤ 256
  cl : m.code.length = m.tds.length
  at_ : ∀ (k : Nat) (t : BTd), m.tds[k]? = some t → 0 ≤ t.at_
  can : ∀ (k : Nat) (t : BTd) (c : List Ins) (x : Ins), m.tds[k]? = some t → m.code[k]? = some c → c[t.at_.toNat]? = some x →
    insB x.op x.d x.a x.b x.imm ⟨x.loc.toArray⟩ ⟨x.label.toArray⟩ x.fence = true ∧ threadB 15 t.at_ t.vs = true ∧ ∃ vs' ac, doL x.op x.d x.a x.imm x.loc t.vs = some (vs', ac) ∧ AcOK m { t with vs := vs', at_ := t.at_ + 1 } ac
  q : ∀ (k : Nat) (t : BTd), m.tds[k]? = some t → t.q.length ≤ 1000000 ∧ ∀ p ∈ t.q, 0 ≤ p.1 ∧ p.1 < m.mem.length
/-- What a move is: a step of a thread that is not at its end, or a flush of a thread with something that waits. -/
theorem move_is {m : BMc} {x : Int × Int} (hx : x ∈ movesL m) : ∃ (k : Nat) (t : BTd) (c : List Ins), x.2 = (k : Int) ∧ m.tds[k]? = some t ∧ m.code[k]? = some c ∧ ((x.1 = 1 ∧ t.at_ < c.length) ∨ (x.1 = 2 ∧ t.q ≠ [])) := by
  unfold movesL movesTo at hx
  obtain ⟨k, _, hx⟩ := List.mem_flatMap.1 hx
  unfold mvAt at hx
  split at hx
  · rename_i c t hc ht
    refine ⟨k, t, c, ?_⟩
    unfold mvK at hx
    rcases List.mem_append.1 hx with h | h
    · split at h
      · rename_i hl
        simp only [List.mem_singleton] at h
        subst h
        simp only [Bool.and_eq_true, decide_eq_true_eq] at hl
        exact ⟨rfl, ht, hc, .inl ⟨rfl, hl.1⟩⟩
      · simp at h
    · split at h
      · simp at h
      · rename_i hq
        simp only [List.mem_singleton] at h
        subst h
        exact ⟨rfl, ht, hc, .inr ⟨rfl, by simpa using hq⟩⟩
  · simp at hx
theorem pick_rem (pick : Int) {n : Nat} (h : 0 < n) : ((pickN pick n : Nat) : Int) = if pick.tmod (n : Int) < 0 then pick.tmod (n : Int) + (n : Int) else pick.tmod (n : Int) := by
  have h2 := Int.emod_nonneg pick (show (n : Int) ≠ 0 by omega)
  unfold pickN
  rw [Int.toNat_of_nonneg h2]
  have h3 := Int.tmod_eq_emod (a := pick) (b := (n : Int))
  have h4 := Int.emod_lt_of_pos pick (show (0 : Int) < (n : Int) by omega)
  rw [Int.natAbs_natCast] at h3
  by_cases hc : 0 ≤ pick ∨ (n : Int) ∣ pick
  · rw [if_pos hc] at h3
    rw [if_neg (by omega)]; omega
  · rw [if_neg hc] at h3
    rw [if_pos (by omega)]; omega
theorem pick_bd (pick : Int) {n : Nat} (h : 0 < n) : -(n : Int) < pick.tmod (n : Int) ∧ pick.tmod (n : Int) < (n : Int) := by
  have h2 := Int.emod_nonneg pick (show (n : Int) ≠ 0 by omega)
  have h3 := Int.tmod_eq_emod (a := pick) (b := (n : Int))
  have h4 := Int.emod_lt_of_pos pick (show (0 : Int) < (n : Int) by omega)
  have h5 := Int.tmod_nonneg (n : Int) (a := pick)
  rw [Int.natAbs_natCast] at h3
  by_cases hc : 0 ≤ pick ∨ (n : Int) ∣ pick
  · rw [if_pos hc] at h3
    omega
  · rw [if_neg hc] at h3
    have hne : pick % (n : Int) ≠ 0 := fun e => hc (.inr (Int.dvd_of_emod_eq_zero e))
    omega
theorem flatI_setL : ∀ (l : List Int) (i : Nat) (n : Int), (encI.flat l).set i (.int .i64 n) = encI.flat (l.set i n)
  | [], _, _ => rfl
  | _ :: _, 0, _ => rfl
  | x :: l, i + 1, n => by
    have ih := flatI_setL l i n
    rw [List.set_cons_succ, Enc.flat_cons, Enc.flat_cons, ← ih]
    rfl
theorem BufAt.setMem {w : World} {B g : Nat} {m : BMc} {V : BMv} (h : BufAt w B g m V) {mb mc : Nat} (hv : V.mv = .slice (some ⟨mb, 0, none⟩) m.mem.length mc) (i : Nat) (n : Int) :
    BufAt (w.setCell ⟨mb, i, none⟩ (.int .i64 n)) B g { m with mem := m.mem.set i n } V ∧ MChg V V w (w.setCell ⟨mb, i, none⟩ (.int .i64 n)) := by
  have hown := h.mem
  rw [hv] at hown
  have hmo : V.mv.ownBlock = some mb := by rw [hv]; rfl
  obtain ⟨cur, hcur, _⟩ := own_ty hown (b := mb) rfl
  have hF : TyF w (fun x => x = mb) [3] := fun x hx => ⟨_, cur, hx ▸ hcur, by simp⟩
  have hc : Chg (fun x => x = mb) w (w.setCell ⟨mb, i, none⟩ (.int .i64 n)) := Chg.set (F := fun x => x = mb) (p := ⟨mb, i, none⟩) Chg.refl rfl _
  refine ⟨⟨blk_ty hF hc h.blk (by decide), h.hg, own_tyF hF hc h.code (by decide), fun j c hj => ?_, own_tyF hF hc h.locs (by decide), own_tyF hF hc h.ths (by decide), ?_, own_tyF hF hc h.ptr (by decide), h.tlen, h.crl, fun j s hj => ?_, h.apart⟩, ⟨hc.up fun x hx => .inr (hx ▸ hmo), fun _ hx => .inl hx⟩⟩
  · obtain ⟨A, cap, h1, h2⟩ := h.rows j c hj
    exact ⟨A, cap, h1, own_tyF hF hc h2 (by decide)⟩
  · have := own_setE hown i (.int .i64 n)
    rw [flatI_setL] at this
    show World.ownsRow _ _ _ _ _ (m.mem.set i n).length _
    rw [hv, List.length_set]
    exact this
  · obtain ⟨b, h1, h2⟩ := h.td j s hj
    refine ⟨b, h1, h2.far hc fun x hx hy => ?_⟩
    obtain ⟨u, cs, hb, hu⟩ := h2.ty hx
    have hy : x = mb := hy
    subst hy
    have hcb : Blk w x 3 cur := hcur
    rcases hu with rfl | rfl | rfl
    · exact blk_ne hb hcb (by decide) rfl
    · exact blk_ne hb hcb (by decide) rfl
    · exact blk_ne hb hcb (by decide) rfl
theorem cell_ty {w w' : World} {F : Nat → Prop} {l : List TypeId} (hF : TyF w F l) (hc : Chg F w w') {b : Nat} {t : TypeId} {cs : Array Value} (h : Blk w b t cs) (ht : t ∉ l) {i : Nat} {v : Value} (hv : w.cell? ⟨b, i, none⟩ = some v) : w'.cell? ⟨b, i, none⟩ = some v := by
  rw [(blk_ty hF hc h ht).cell, ← h.cell]; exact hv
theorem TdAt.tyF {w : World} {B b : Nat} {rv qv : Value} {t : BTd} (h : TdAt w B b rv qv t) : TyF w (Foot b rv qv) [172, 68, 106] := fun x hx => by
  obtain ⟨u, cs, h1, h2⟩ := h.ty hx
  exact ⟨u, cs, h1, by simpa using h2⟩
theorem MChg.setN {V V' : BMv} {w W : World} (h : MChg V V' w W) {p : Addr} (hp : w.heap.size ≤ p.block) (u : Value) : MChg V V' w (W.setCell p u) := ⟨h.chg.setN hp u, h.which⟩
theorem MChg.drew {V V' : BMv} {w W : World} (h : MChg V V' w W) : MChg V V' w W.drew := ⟨h.chg.drew, h.which⟩
theorem BufAt.drew {w : World} {B g : Nat} {m : BMc} {V : BMv} (h : BufAt w B g m V) : BufAt w.drew B g m V := h.below (Below.refl _ _).drew
/-- A store into a block of another type. -/
theorem BufAt.setO {w : World} {B g : Nat} {m : BMc} {V : BMv} (h : BufAt w B g m V) {b : Nat} {T : TypeId} {cs : Array Value} (hb : Blk w b T cs) (hT : T ∉ [84, 62, 70, 9, 25, 3, 167, 172, 68, 106]) (i : Nat) (u : Value) : BufAt (w.setCell ⟨b, i, none⟩ u) B g m V := by
  have hF : TyF w (fun x => x = b) [T] := fun x hx => ⟨T, cs, hx ▸ hb, by simp⟩
  have hc : Chg (fun x => x = b) w (w.setCell ⟨b, i, none⟩ u) := Chg.set (F := fun x => x = b) (p := ⟨b, i, none⟩) Chg.refl rfl _
  simp only [List.mem_cons, List.not_mem_nil, or_false, not_or] at hT
  obtain ⟨t0, t1, t2, t3, t4, t5, t6, t7, t8, t9⟩ := hT
  have hn : ∀ {a : TypeId}, ¬ T = a → a ∉ [T] := fun h e => h (by simpa using (List.mem_singleton.1 e).symm)
  refine ⟨blk_ty hF hc h.blk (hn t0), h.hg, own_tyF hF hc h.code (hn t1), fun j c hj => ?_, own_tyF hF hc h.locs (hn t3), own_tyF hF hc h.ths (hn t4), own_tyF hF hc h.mem (hn t5), own_tyF hF hc h.ptr (hn t6), h.tlen, h.crl, fun j s hj => ?_, h.apart⟩
  · obtain ⟨A, cap, h1, h2⟩ := h.rows j c hj
    exact ⟨A, cap, h1, own_tyF hF hc h2 (hn t2)⟩
  · obtain ⟨b', h1, h2⟩ := h.td j s hj
    refine ⟨b', h1, h2.far hc fun x hx hy => ?_⟩
    obtain ⟨v, ds, hb2, hu⟩ := h2.ty hx
    have hy : x = b := hy
    subst hy
    rcases hu with rfl | rfl | rfl
    · exact blk_ne hb hb2 t7 rfl
    · exact blk_ne hb hb2 t8 rfl
    · exact blk_ne hb hb2 t9 rfl
/-- What the machine writes is of four types. -/
theorem BufAt.tyF {w : World} {B g : Nat} {m : BMc} {V : BMv} (h : BufAt w B g m V) : TyF w (MFoot V) [172, 68, 106, 3] := by
  rintro x (⟨k, b, hb, hx⟩ | hx)
  · have hk := (List.getElem?_eq_some_iff.1 hb).1
    rw [h.tlen] at hk
    obtain ⟨b2, h1, h2⟩ := h.td k _ (List.getElem?_eq_getElem hk)
    rw [hb] at h1
    cases h1
    obtain ⟨u, cs, h3, h4⟩ := h2.ty hx
    exact ⟨u, cs, h3, by rcases h4 with rfl | rfl | rfl <;> simp⟩
  · obtain ⟨cur, hc, _⟩ := own_ty h.mem hx
    exact ⟨_, cur, hc, by simp⟩
theorem MChg.blk {w w' : World} {B g : Nat} {m : BMc} {V V' : BMv} (h : BufAt w B g m V) (hc : MChg V V' w w') {b : Nat} {T : TypeId} {cs : Array Value} (hb : Blk w b T cs) (hT : T ∉ [172, 68, 106, 3]) : Blk w' b T cs := blk_ty h.tyF hc.chg hb hT
section
set_option maxHeartbeats 4000000
set_option maxRecDepth 100000
variable {w : World} {B g : Nat} {m : BMc} {V : BMv}
theorem two_wayB {K : Act → World → Prop} {F : Nat → World → Prop} {A : Nat → Act} {G : Prop} (h1 : (∀ lb W3, F lb W3 → K (A lb) W3) → G) (h2 : ∀ lb W3, F lb W3 → K (A lb) W3) : G := h1 h2
theorem doNone (h : BufAt w B g m V) (hm : MOK m) (pick : Int) (h0 : movesL m = []) :
    Calls Tryz.prog 25 #[.pointer (some ⟨g, 0, none⟩), .int .i64 pick] w (MPost B g V m (.tuple #[.agg #[.int .i64 0, .int .i64 0], .int .i64 210]) w) := by
  have HI := Lib.hid (fun (W : World) (hW : Below w.heap.size w W) => isP (h.below hW) hm.n0)
  have HMv := Lib.hid (fun (W : World) (hW : Below w.heap.size w W) => movesP (h.below hW) hm.n0 hm.n1 hm.cl hm.at_)
  rw [h0] at HMv
  have HH := Lib.hid h
  have HR := Lib.hid (Blk.new w 79 #[.int .i64 0, .int .i64 0])
  clear h hm h0
  go_enter Tryz.func25, Tryz.ntmps25
  go_wp2_with (first | (go_at_call 93; refine (HI.out _ (by repeat (first | exact Below.refl _ _ | exact HB2.out | refine Below.drew ?_ | refine below_alloc ?_ _))).mono ?_; rintro e w9 ⟨rfl, rfl⟩) | (go_at_call 26; refine (HMv.out _ (by repeat (first | exact Below.refl _ _ | exact HB2.out | refine Below.drew ?_ | refine below_alloc ?_ _))).mono ?_; rintro e w2 ⟨v, rfl, hown, hb2⟩; obtain ⟨Av, cv, rfl⟩ := own_shp hown; have HB2 := Lib.hid (below_trans (W := w) (by repeat (first | exact Below.refl _ _ | exact HB2.out | refine Below.drew ?_ | refine below_alloc ?_ _)) hb2); have HR2 := Lib.hid (HR.out.go hb2); have r0 := HR2.out.cl 0; have r1 := HR2.out.cl 1; have rf := HR2.out.frozen; have rz := HR2.out.lt; clear hb2 hown))
  refine bodyPost_ret (v := .tuple #[.agg #[.int .i64 0, .int .i64 0], .int .i64 210]) (by simp [results, Tryz.results25, go_sem, r0, r1]) rfl ⟨V, rfl, ?_, ?_⟩
  · exact HH.out.below (by repeat (first | with_reducible exact HB2.out | with_reducible refine Below.setCell ?_ (by simp) _))
  · exact MChg.of_below (by repeat (first | with_reducible exact HB2.out | with_reducible refine Below.setCell ?_ (by simp) _))
/-- Behind a flush's pop: what waits no longer lies in block lb. -/
def Popped (B g : Nat) (V : BMv) (m1 : BMc) (p : Int × Int) (r q : Nat) (x : Int × Int) (w : World) (lb : Nat) (W : World) : Prop :=
  ∃ V1, BufAt W B g m1 V1 ∧ MChg V V1 w W ∧ Blk W lb 106 #[.int .i64 p.1, .int .i64 p.2] ∧ Blk W r 79 #[.int .i64 0, .int .i64 0] ∧ Blk W q 79 #[.int .i64 x.1, .int .i64 x.2]
theorem doSome (h : BufAt w B g m V) (hm : MOK m) (pick : Int) (hB : B ≤ w.heap.size) (x : Int × Int) (hx : (movesL m)[pickN pick (movesL m).length]? = some x) :
    Calls Tryz.prog 25 #[.pointer (some ⟨g, 0, none⟩), .int .i64 pick] w (MPost B g V (moveM m x) (.tuple #[.agg #[.int .i64 x.1, .int .i64 x.2], .int .i64 0]) w) := by
  have HI := Lib.hid (fun (W : World) (hW : Below w.heap.size w W) => isP (h.below hW) hm.n0)
  have HMv := Lib.hid (fun (W : World) (hW : Below w.heap.size w W) => movesP (h.below hW) hm.n0 hm.n1 hm.cl hm.at_)
  have HMo := Lib.hid (move_is (List.mem_of_getElem? hx))
  obtain ⟨mv, hmv⟩ : ∃ mv, movesL m = mv := ⟨_, rfl⟩
  have hl2 : mv.length ≤ 512 := by
    have h1 := movesTo_len m m.tds.length
    have h2 : (movesTo m m.tds.length).length = mv.length := by rw [← hmv]; rfl
    have := hm.n1
    omega
  rw [hmv] at HMv hx
  have hl1 : 0 < mv.length := by have := (List.getElem?_eq_some_iff.1 hx).1; omega
  obtain ⟨ix, hix⟩ : ∃ ix, pickN pick mv.length = ix := ⟨_, rfl⟩
  have hrem := pick_rem pick hl1
  rw [hix] at hx hrem
  have hixl := (List.getElem?_eq_some_iff.1 hx).1
  have HX := Lib.hid hx
  have HH := Lib.hid h
  have HMk := Lib.hid hm
  have HR := Lib.hid (Blk.new w 79 #[.int .i64 0, .int .i64 0])
  have n1 : ((mv.length : Int) == 0) = false := beq_eq_false_iff_ne.2 (by omega)
  obtain ⟨hb2, hb1⟩ := pick_bd pick hl1
  obtain ⟨rm, hrm⟩ : ∃ rm, pick.tmod (mv.length : Int) = rm := ⟨_, rfl⟩
  rw [hrm] at hrem hb1 hb2
  have HRm := Lib.hid hrm
  clear h hm hx hix hmv
  go_enter Tryz.func25, Tryz.ntmps25
  go_wp2_with (first | (go_at_call 93; refine (HI.out _ (by repeat (first | exact Below.refl _ _ | exact HB2.out | refine Below.drew ?_ | refine below_alloc ?_ _))).mono ?_; rintro e w9 ⟨rfl, rfl⟩) | (go_at_call 26; refine (HMv.out _ (by repeat (first | exact Below.refl _ _ | exact HB2.out | refine Below.drew ?_ | refine below_alloc ?_ _))).mono ?_; rintro e w2 ⟨v, rfl, hown, hb2⟩; refine Hid.out ?_))
  refine Lib.hid ?_
  obtain ⟨rb, rc, rfl, hrow⟩ := own_first hown HX.out
  have c0 : w2.cell? ⟨rb, ix * 2, none⟩ = some (.int .i64 x.1) := hrow 0 _ rfl
  have c1 : w2.cell? ⟨rb, ix * 2 + 1, none⟩ = some (.int .i64 x.2) := hrow 1 _ rfl
  have HB2 := Lib.hid (below_trans (W := w) (by repeat (first | exact Below.refl _ _ | exact HB2.out | refine Below.drew ?_ | refine below_alloc ?_ _)) hb2)
  have HR2 := Lib.hid (HR.out.go hb2)
  have HH2 := Lib.hid (HH.out.below HB2.out)
  have r0 := HR2.out.cl 0
  have r1 := HR2.out.cl 1
  have rf := HR2.out.frozen
  have rz := HR2.out.lt
  have i1 : (0 : Int) ≤ (ix : Int) := by omega
  have i2 : (ix : Int) < (mv.length : Int) := by omega
  clear hb2 hown hrow
  obtain ⟨x1, x2⟩ := x
  simp only at c0 c1
  obtain ⟨k, t, c, hxk, ht, hc, hor⟩ := HMo.out
  simp only at hxk hor
  subst hxk
  have hat := HMk.out.at_ k t ht
  obtain ⟨j, hj⟩ : ∃ j : Nat, t.at_ = (j : Int) := ⟨t.at_.toNat, by omega⟩
  have HBX := Lib.hid (alloc_b w2 (.cells #[.int .i64 x1, .int .i64 (k : Int)] 79 (0, 0)))
  have HXB := Lib.hid (Blk.new w2 79 #[.int .i64 x1, .int .i64 (k : Int)])
  rcases hor with ⟨rfl, hlt⟩ | ⟨rfl, hq⟩
  · have hjc : j < c.length := by omega
    have hx := List.getElem?_eq_getElem hjc
    obtain ⟨y, hy⟩ : ∃ y, c[j] = y := ⟨_, rfl⟩
    rw [hy] at hx
    obtain ⟨h1, h2, vs', ac, h3, h4⟩ := HMk.out.can k t c y ht hc (by rw [hj, Int.toNat_natCast]; exact hx)
    rw [hj] at h2 h4
    have HS := Lib.hid (stepP (HH2.out.below HBX.out) ht hc hj hx HMk.out.arch h1 h2 h3 (Nat.le_trans hB (Nat.le_trans HB2.out.size HBX.out.size)) h4)
    have HE := Lib.hid (show moveM m (1, (k : Int)) = { m with tds := m.tds.set k (stepT m { t with vs := vs', at_ := (j : Int) + 1 } ac) } from by
      unfold moveM
      rw [if_neg (by simp)]
      unfold stepM actX
      simp only [Int.toNat_natCast, hc, ht, hj, hx, h3, Option.map_some])
    clear ht hc hat hj hlt hjc hx hy h1 h2 h3 h4
    by_cases hneg : rm < 0
    · have e1 : rm + (mv.length : Int) = (ix : Int) := by rw [if_pos hneg] at hrem; omega
      have g1 : decide (rm < 0) = true := by simpa using hneg
      clear hrem
      go_wp2_with (go_at_call 95; refine HS.out.mono ?_; rintro e w4 ⟨V4, rfl, h41, h42⟩; have H41 := Lib.hid h41; have H42 := Lib.hid h42; clear h41 h42; refine Hid.out ?_)
      refine Lib.hid ?_
      have HR4 := Lib.hid (H42.out.blk (HH2.out.below HBX.out) (HR2.out.go HBX.out) (by decide))
      have HX4 := Lib.hid (H42.out.blk (HH2.out.below HBX.out) HXB.out (by decide))
      have r0 := HR4.out.cl 0
      have r1 := HR4.out.cl 1
      have rf := HR4.out.frozen
      have rz := HR4.out.lt
      have x0 := HX4.out.cl 0
      have x1 := HX4.out.cl 1
      have HC4 := Lib.hid ((MChg.of_below (V := V) (below_trans HB2.out HBX.out)).trans H42.out)
      go_wp2
      refine bodyPost_ret (v := .tuple #[.agg #[.int .i64 1, .int .i64 (k : Int)], .int .i64 0]) (by simp [results, Tryz.results25, go_sem, r0, r1]) rfl ⟨V4, rfl, ?_, (HC4.out.setN (Nat.le_refl _) _).setN (Nat.le_refl _) _⟩
      rw [HE.out]
      exact (H41.out.setO HR4.out (by decide) _ _).setO (HR4.out.set_ 0 _) (by decide) _ _
    · have e1 : rm = (ix : Int) := by rw [if_neg hneg] at hrem; omega
      subst e1
      clear hrem hneg
      go_wp2_with (go_at_call 95; refine HS.out.mono ?_; rintro e w4 ⟨V4, rfl, h41, h42⟩; have H41 := Lib.hid h41; have H42 := Lib.hid h42; clear h41 h42; refine Hid.out ?_)
      refine Lib.hid ?_
      have HR4 := Lib.hid (H42.out.blk (HH2.out.below HBX.out) (HR2.out.go HBX.out) (by decide))
      have HX4 := Lib.hid (H42.out.blk (HH2.out.below HBX.out) HXB.out (by decide))
      have r0 := HR4.out.cl 0
      have r1 := HR4.out.cl 1
      have rf := HR4.out.frozen
      have rz := HR4.out.lt
      have x0 := HX4.out.cl 0
      have x1 := HX4.out.cl 1
      have HC4 := Lib.hid ((MChg.of_below (V := V) (below_trans HB2.out HBX.out)).trans H42.out)
      go_wp2
      refine bodyPost_ret (v := .tuple #[.agg #[.int .i64 1, .int .i64 (k : Int)], .int .i64 0]) (by simp [results, Tryz.results25, go_sem, r0, r1]) rfl ⟨V4, rfl, ?_, (HC4.out.setN (Nat.le_refl _) _).setN (Nat.le_refl _) _⟩
      rw [HE.out]
      exact (H41.out.setO HR4.out (by decide) _ _).setO (HR4.out.set_ 0 _) (by decide) _ _
  · obtain ⟨p, r, hqe⟩ : ∃ p r, t.q = p :: r := by
      cases hqq : t.q with
      | nil => exact absurd hqq hq
      | cons p r => exact ⟨p, r, rfl⟩
    obtain ⟨hql, hqp⟩ := HMk.out.q k t ht
    obtain ⟨hp1, hp2⟩ := hqp p (by rw [hqe]; simp)
    obtain ⟨p1, p2⟩ := p
    simp only at hp1 hp2
    obtain ⟨a, rfl⟩ : ∃ a : Nat, p1 = (a : Int) := ⟨p1.toNat, by omega⟩
    obtain ⟨b, pb, cp, qb, cc, A, cr, hb, htd, k5, p0, k1, q0, hrat, hkl⟩ := HH2.out.thr ht hc
    have HTd := Lib.hid htd
    have HBt := Lib.hid hb
    have HT := Lib.hid ht
    have HM3 := Lib.hid (HH2.out.below HBX.out)
    have HPop := Lib.hid (fun (W : World) (hW : Below w2.heap.size w2 W) => popP ((a : Int), p2) r (HTd.out.below hW) hqe hql (Nat.le_trans hB (Nat.le_trans HB2.out.size hW.size)))
    have HE := Lib.hid (show moveM m (2, (k : Int)) = { m with mem := m.mem.set a p2, tds := m.tds.set k { t with q := r } } from by
      unfold moveM
      rw [if_pos rfl]
      unfold flushM
      simp only [Int.toNat_natCast, ht, hqe])
    have hpw := World.block_lt_of_cell? w2 _ p0
    have hgw := HH2.out.blk.lt
    have z1 : (0 : Int) ≤ (k : Int) := by omega
    have z2 : (k : Int) < (m.tds.length : Int) := by omega
    have HA := Lib.hid (show a < m.mem.length by omega)
    clear ht hc hat hj hq hqe hql hqp hb htd hrat k1 q0 hp1 hp2
    by_cases hneg : rm < 0
    · have e1 : rm + (mv.length : Int) = (ix : Int) := by rw [if_pos hneg] at hrem; omega
      have g1 : decide (rm < 0) = true := by simpa using hneg
      clear hrem
      go_wp2_with fail
      rename_i K9 hK9
      have HK9 := Lib.hid hK9
      clear hK9
      have hxz : (w2.alloc (.cells #[.int .i64 2, .int .i64 (k : Int)] 79 (0, 0))).heap.size = w2.heap.size + 1 := by simp
      have HR3 := Lib.hid (HR2.out.go HBX.out)
      have HB3 := Lib.hid (below_trans HB2.out HBX.out)
      have k5 := cell_go k5 HBX.out
      have p0 := cell_go p0 HBX.out
      have x1' := HXB.out.cl 1
      have HT3 := Lib.hid (HTd.out.below HBX.out)
      obtain ⟨pcur, hpc, _⟩ := own_ty HM3.out.ptr (b := pb) (by
        obtain ⟨A, cap, e⟩ := HM3.out.ptr.shp
        have h5 := HM3.out.blk.cell 5
        rw [k5] at h5
        rw [e] at h5 ⊢
        simp at h5
        rw [← h5.1]; rfl)
      have hpb : Blk (w2.alloc (.cells #[.int .i64 2, .int .i64 (k : Int)] 79 (0, 0))) pb 167 pcur := hpc
      generalize w2.alloc (.cells #[.int .i64 2, .int .i64 (k : Int)] 79 (0, 0)) = W3 at *
      have HS := Lib.hid (show ∀ (W W' : World), Below W3.heap.size W3 W → Chg (Foot b (V.rv k) (V.qv k)) W W' → (fun y : World => y.cell? ⟨g, 5, none⟩ = some (.slice (some ⟨pb, 0, none⟩) m.tds.length cp) ∧ y.cell? ⟨w2.heap.size, 1, none⟩ = some (.int .i64 (k : Int)) ∧ y.cell? ⟨pb, k, none⟩ = some (.pointer (some ⟨b, 0, none⟩))) W' from fun W W' hW hc =>
        have hF := (HT3.out.below hW).tyF
        ⟨cell_ty hF hc (HM3.out.blk.go hW) (by decide) (cell_go k5 hW), cell_ty hF hc (HXB.out.go hW) (by decide) (cell_go x1' hW), cell_ty hF hc (hpb.go hW) (by decide) (cell_go p0 hW)⟩)
      have HPop := Lib.hid (fun (W : World) (hW : Below W3.heap.size W3 W) => HPop.out W (below_trans HBX.out hW))
      clear k5 p0 x1' hpc hpb
      apply two_wayB (K := K9) (F := Popped B g V { m with tds := m.tds.set k { t with q := r } } ((a : Int), p2) w.heap.size w2.heap.size (2, (k : Int)) w)
      · intro HM
        have HM := Lib.hid HM
        refine wz (fun y : World => y.cell? ⟨g, 5, none⟩ = some (.slice (some ⟨pb, 0, none⟩) m.tds.length cp) ∧ y.cell? ⟨w2.heap.size, 1, none⟩ = some (.int .i64 (k : Int)) ∧ y.cell? ⟨pb, k, none⟩ = some (.pointer (some ⟨b, 0, none⟩))) [3, 5, 7, 11] (HS.out _ _ (Below.refl _ _).drew Chg.refl) (fun hHeld => ?_)
        refine wq 0 ?_
        refine wq 1 ?_
        refine wq 2 ?_
        refine wq 4 ?_
        refine wt 3 (by assumption) ?_
        refine wt 5 (by assumption) ?_
        refine wq 6 ?_
        refine wt 7 (by assumption) ?_
        refine wq 8 ?_
        refine wq 9 ?_
        clear hHeld
        refine wpE_two (i := 10) (j := 11) (by kernel_rfl) rfl rfl (fun K hK => ?_) (fun K hK => ?_)
        · go_simp
          refine (HPop.out _ (Below.drew (Below.refl _ _))).mono ?_
          rintro e w4 ⟨rv', qv', rfl, h1, h2, h3⟩
          have G1 := Lib.hid h1
          have G2 := Lib.hid h2
          have G3 := Lib.hid h3
          have HS4 := Lib.hid (HS.out _ _ (Below.drew (Below.refl _ _)) h2)
          clear h1 h2 h3
          refine hK.out _ _ HS4.out ?_
          clear hK K
          refine pu ?_
          refine wpE_one (i := 11) (by kernel_rfl) rfl (fun K hK => ?_)
          go_simp
          refine hK.out _ _ (HS.out _ _ (Below.refl _ _).drew (G2.out.alloc _)) ?_
          clear hK K
          refine pu ?_
          refine wl 12 ?_
          have HZ := Lib.hid (Blk.new w4 106 #[.int .i64 0, .int .i64 0])
          refine wpList_store_mid rfl _ _ _ rfl w4.heap.size 0 #[.int .i64 (a : Int), .int .i64 p2] rfl rfl (there_blk HZ.out 2 (by simp)) (by kernel_rfl) (all_oneCell_toArray (cs := encP.enc ((a : Int), p2)) (encP.one _)) ?_
          have hP : Popped B g V { m with tds := m.tds.set k { t with q := r } } ((a : Int), p2) w.heap.size w2.heap.size (2, (k : Int)) w w4.heap.size (World.setCells (w4.alloc (.cells #[.int .i64 0, .int .i64 0] 106 (0, 0))) w4.heap.size 0 [.int .i64 (a : Int), .int .i64 p2]) := by
            have hnf : ¬ Foot b rv' qv' w4.heap.size := fun hf => Nat.lt_irrefl _ (G1.out.foot hf).2
            have hle : W3.drew.heap.size ≤ w4.heap.size := G2.out.size
            have hT : TdAt ((((w4.alloc (.cells #[.int .i64 0, .int .i64 0] 106 (0, 0)))).setCell ⟨w4.heap.size, 0, none⟩ (.int .i64 (a : Int))).setCell ⟨w4.heap.size, 1, none⟩ (.int .i64 p2)) B b rv' qv' { t with q := r } := ((G1.out.below (alloc_b _ _)).setF hnf _).setF hnf _
            have hC := ((G2.out.alloc (.cells #[.int .i64 0, .int .i64 0] 106 (0, 0))).setN (p := ⟨w4.heap.size, 0, none⟩) hle (.int .i64 (a : Int))).setN (p := ⟨w4.heap.size, 1, none⟩) hle (.int .i64 p2)
            obtain ⟨V5, _, hb5, hc5⟩ := MPost.of (v := .tuple #[]) (HM3.out.below (Below.refl _ _).drew) HT.out HBt.out hT hC G3.out
            exact ⟨V5, hb5, (MChg.of_below HB3.out.drew).trans hc5, (HZ.out.set_ 0 _).set_ 1 _, blk_ty HT3.out.drew.tyF hC HR3.out (by decide), blk_ty HT3.out.drew.tyF hC HXB.out (by decide)⟩
          generalize (World.setCells (w4.alloc (.cells #[.int .i64 0, .int .i64 0] 106 (0, 0))) w4.heap.size 0 _) = W7 at hP ⊢
          generalize w4.heap.size = lb at hP ⊢
          exact wpList_nil (HM.out lb W7 hP)
        · go_simp
          refine hK.out _ _ (HS.out _ _ (below_alloc (Below.refl _ _).drew _) Chg.refl) ?_
          clear hK K
          refine pu ?_
          have HZ0 : Hid (Blk (W3.alloc (.cells #[.int .i64 0, .int .i64 0] 106 (0, 0))) (w2.heap.size + 1) 106 #[.int .i64 0, .int .i64 0]) := Lib.hid (hxz ▸ Blk.new W3 _ _)
          refine wpE_one (i := 10) (by kernel_rfl) rfl (fun K hK => ?_)
          go_simp
          refine (HPop.out _ (Below.drew (alloc_b _ _))).mono ?_
          rintro e w4 ⟨rv', qv', rfl, h1, h2, h3⟩
          have G1 := Lib.hid h1
          have G2 := Lib.hid h2
          have G3 := Lib.hid h3
          have HS4 := Lib.hid (HS.out _ _ (Below.drew (alloc_b _ _)) h2)
          clear h1 h2 h3
          refine hK.out _ _ HS4.out ?_
          clear hK K
          refine pu ?_
          refine wl 12 ?_
          have hnF : ¬ Foot b (V.rv k) (V.qv k) (w2.heap.size + 1) := fun hf => by have := (HT3.out.foot hf).2; omega
          have HZ := Lib.hid (G2.out.far HZ0.out.drew hnF)
          refine wpList_store_mid rfl _ _ _ rfl (w2.heap.size + 1) 0 #[.int .i64 (a : Int), .int .i64 p2] rfl rfl (there_blk HZ.out 2 (by simp)) (by kernel_rfl) (all_oneCell_toArray (cs := encP.enc ((a : Int), p2)) (encP.one _)) ?_
          have hP : Popped B g V { m with tds := m.tds.set k { t with q := r } } ((a : Int), p2) w.heap.size w2.heap.size (2, (k : Int)) w (w2.heap.size + 1) (World.setCells w4 (w2.heap.size + 1) 0 [.int .i64 (a : Int), .int .i64 p2]) := by
            have hsz : (W3.alloc (.cells #[.int .i64 0, .int .i64 0] 106 (0, 0))).drew.heap.size = W3.heap.size + 1 := by simp [World.drew]
            have hnf : ¬ Foot b rv' qv' (w2.heap.size + 1) := fun hf => (G3.out _ hf).elim hnF (fun e => by omega)
            have hle : W3.drew.heap.size ≤ w2.heap.size + 1 := Nat.le_of_eq hxz
            have hT : TdAt ((w4.setCell ⟨w2.heap.size + 1, 0, none⟩ (.int .i64 (a : Int))).setCell ⟨w2.heap.size + 1, 1, none⟩ (.int .i64 p2)) B b rv' qv' { t with q := r } := (G1.out.setF hnf _).setF hnf _
            have hC := ((((Chg.of_below (alloc_b W3.drew (.cells #[.int .i64 0, .int .i64 0] 106 (0, 0))) : Chg (Foot b (V.rv k) (V.qv k)) W3.drew (W3.alloc (.cells #[.int .i64 0, .int .i64 0] 106 (0, 0))).drew).trans G2.out (fun _ hx => .inl hx)).setN (p := ⟨w2.heap.size + 1, 0, none⟩) hle (.int .i64 (a : Int))).setN (p := ⟨w2.heap.size + 1, 1, none⟩) hle (.int .i64 p2))
            have G3 := Lib.hid (show ∀ x, Foot b rv' qv' x → Foot b (V.rv k) (V.qv k) x ∨ W3.drew.heap.size ≤ x from fun x hx => (G3.out x hx).imp id (fun e => by have : W3.drew.heap.size = W3.heap.size := rfl; omega))
            obtain ⟨V5, _, hb5, hc5⟩ := MPost.of (v := .tuple #[]) (HM3.out.below (Below.refl _ _).drew) HT.out HBt.out hT hC G3.out
            exact ⟨V5, hb5, (MChg.of_below HB3.out.drew).trans hc5, (HZ.out.set_ 0 _).set_ 1 _, blk_ty HT3.out.drew.tyF hC HR3.out (by decide), blk_ty HT3.out.drew.tyF hC HXB.out (by decide)⟩
          generalize (World.setCells w4 (w2.heap.size + 1) 0 _) = W7 at hP ⊢
          generalize w2.heap.size + 1 = lb at hP ⊢
          exact wpList_nil (HM.out lb W7 hP)
      · intro lb W5 ⟨V5, hb5, hc5, hlb, hr5, hx5⟩
        refine HK9.out _ _ ?_
        clear HK9 K9 HS HPop HT3 HXB HM3 HR3 HB3
        obtain ⟨mb, mc, emv, hmb⟩ := own_first hb5.mem (List.getElem?_eq_getElem HA.out)
        have k4 : W5.cell? ⟨g, 4, none⟩ = some (.slice (some ⟨mb, 0, none⟩) m.mem.length mc) := by rw [← emv]; exact hb5.blk.cl 4
        have l0 := hlb.cl 0
        have l1 := hlb.cl 1
        obtain ⟨mcur, hmc, _⟩ := own_ty hb5.mem (b := mb) (by rw [emv]; rfl)
        have hmB : Blk W5 mb 3 mcur := hmc
        have m0 : W5.cell? ⟨mb, a, none⟩ = some (.int .i64 (m.mem[a]'HA.out)) := by have := hmb 0 _ rfl; simpa using this
        have mf := hmB.frozen
        have y1 : (0 : Int) ≤ (a : Int) := by omega
        have y2 : (a : Int) < (m.mem.length : Int) := by have := HA.out; omega
        have HBs := Lib.hid (hb5.setMem emv a p2)
        have HR4 := Lib.hid (hr5.far (p := ⟨mb, a, none⟩) (blk_ne hr5 hmB (by decide)) (.int .i64 p2))
        have HX4 := Lib.hid (hx5.far (p := ⟨mb, a, none⟩) (blk_ne hx5 hmB (by decide)) (.int .i64 p2))
        have HC5 := Lib.hid hc5
        clear hb5 hc5 hlb hr5 hx5 hmb hmc hmB
        go_wp2_with fail
        refine wz (fun y : World => y.cell? ⟨g, 4, none⟩ = some (.slice (some ⟨mb, 0, none⟩) m.mem.length mc) ∧ y.cell? ⟨lb, 0, none⟩ = some (.int .i64 (a : Int)) ∧ y.cell? ⟨lb, 1, none⟩ = some (.int .i64 p2)) [3, 5, 7] ⟨k4, l0, l1⟩ (fun hHeld => ?_)
        refine wq 0 ?_
        refine wq 1 ?_
        refine wq 2 ?_
        refine wq 4 ?_
        refine wq 6 ?_
        refine wt 3 (by assumption) ?_
        refine wt 5 (by assumption) ?_
        refine wt 7 (by assumption) ?_
        refine wq 8 ?_
        refine wl 9 ?_
        clear hHeld
        have r0 := HR4.out.cl 0
        have r1 := HR4.out.cl 1
        have rf := HR4.out.frozen
        have rz := HR4.out.lt
        have x0 := HX4.out.cl 0
        have x1 := HX4.out.cl 1
        have HC4 := Lib.hid (HC5.out.trans HBs.out.2)
        go_wp2
        refine bodyPost_ret (v := .tuple #[.agg #[.int .i64 2, .int .i64 (k : Int)], .int .i64 0]) (by simp [results, Tryz.results25, go_sem, r0, r1]) rfl ⟨V5, rfl, ?_, ?_⟩
        · rw [HE.out]
          exact ((BufAt.setO HBs.out.1 HR4.out (by decide) _ _).setO (HR4.out.set_ 0 _) (by decide) _ _).drew
        · refine MChg.drew ?_
          refine MChg.setN ?_ (Nat.le_refl _) _
          refine MChg.setN ?_ (Nat.le_refl _) _
          exact HC4.out
    · have e1 : rm = (ix : Int) := by rw [if_neg hneg] at hrem; omega
      subst e1
      clear hrem hneg
      go_wp2_with fail
      rename_i K9 hK9
      have HK9 := Lib.hid hK9
      clear hK9
      have hxz : (w2.alloc (.cells #[.int .i64 2, .int .i64 (k : Int)] 79 (0, 0))).heap.size = w2.heap.size + 1 := by simp
      have HR3 := Lib.hid (HR2.out.go HBX.out)
      have HB3 := Lib.hid (below_trans HB2.out HBX.out)
      have k5 := cell_go k5 HBX.out
      have p0 := cell_go p0 HBX.out
      have x1' := HXB.out.cl 1
      have HT3 := Lib.hid (HTd.out.below HBX.out)
      obtain ⟨pcur, hpc, _⟩ := own_ty HM3.out.ptr (b := pb) (by
        obtain ⟨A, cap, e⟩ := HM3.out.ptr.shp
        have h5 := HM3.out.blk.cell 5
        rw [k5] at h5
        rw [e] at h5 ⊢
        simp at h5
        rw [← h5.1]; rfl)
      have hpb : Blk (w2.alloc (.cells #[.int .i64 2, .int .i64 (k : Int)] 79 (0, 0))) pb 167 pcur := hpc
      generalize w2.alloc (.cells #[.int .i64 2, .int .i64 (k : Int)] 79 (0, 0)) = W3 at *
      have HS := Lib.hid (show ∀ (W W' : World), Below W3.heap.size W3 W → Chg (Foot b (V.rv k) (V.qv k)) W W' → (fun y : World => y.cell? ⟨g, 5, none⟩ = some (.slice (some ⟨pb, 0, none⟩) m.tds.length cp) ∧ y.cell? ⟨w2.heap.size, 1, none⟩ = some (.int .i64 (k : Int)) ∧ y.cell? ⟨pb, k, none⟩ = some (.pointer (some ⟨b, 0, none⟩))) W' from fun W W' hW hc =>
        have hF := (HT3.out.below hW).tyF
        ⟨cell_ty hF hc (HM3.out.blk.go hW) (by decide) (cell_go k5 hW), cell_ty hF hc (HXB.out.go hW) (by decide) (cell_go x1' hW), cell_ty hF hc (hpb.go hW) (by decide) (cell_go p0 hW)⟩)
      have HPop := Lib.hid (fun (W : World) (hW : Below W3.heap.size W3 W) => HPop.out W (below_trans HBX.out hW))
      clear k5 p0 x1' hpc hpb
      apply two_wayB (K := K9) (F := Popped B g V { m with tds := m.tds.set k { t with q := r } } ((a : Int), p2) w.heap.size w2.heap.size (2, (k : Int)) w)
      · intro HM
        have HM := Lib.hid HM
        refine wz (fun y : World => y.cell? ⟨g, 5, none⟩ = some (.slice (some ⟨pb, 0, none⟩) m.tds.length cp) ∧ y.cell? ⟨w2.heap.size, 1, none⟩ = some (.int .i64 (k : Int)) ∧ y.cell? ⟨pb, k, none⟩ = some (.pointer (some ⟨b, 0, none⟩))) [3, 5, 7, 11] (HS.out _ _ (Below.refl _ _).drew Chg.refl) (fun hHeld => ?_)
        refine wq 0 ?_
        refine wq 1 ?_
        refine wq 2 ?_
        refine wq 4 ?_
        refine wt 3 (by assumption) ?_
        refine wt 5 (by assumption) ?_
        refine wq 6 ?_
        refine wt 7 (by assumption) ?_
        refine wq 8 ?_
        refine wq 9 ?_
        clear hHeld
        refine wpE_two (i := 10) (j := 11) (by kernel_rfl) rfl rfl (fun K hK => ?_) (fun K hK => ?_)
        · go_simp
          refine (HPop.out _ (Below.drew (Below.refl _ _))).mono ?_
          rintro e w4 ⟨rv', qv', rfl, h1, h2, h3⟩
          have G1 := Lib.hid h1
          have G2 := Lib.hid h2
          have G3 := Lib.hid h3
          have HS4 := Lib.hid (HS.out _ _ (Below.drew (Below.refl _ _)) h2)
          clear h1 h2 h3
          refine hK.out _ _ HS4.out ?_
          clear hK K
          refine pu ?_
          refine wpE_one (i := 11) (by kernel_rfl) rfl (fun K hK => ?_)
          go_simp
          refine hK.out _ _ (HS.out _ _ (Below.refl _ _).drew (G2.out.alloc _)) ?_
          clear hK K
          refine pu ?_
          refine wl 12 ?_
          have HZ := Lib.hid (Blk.new w4 106 #[.int .i64 0, .int .i64 0])
          refine wpList_store_mid rfl _ _ _ rfl w4.heap.size 0 #[.int .i64 (a : Int), .int .i64 p2] rfl rfl (there_blk HZ.out 2 (by simp)) (by kernel_rfl) (all_oneCell_toArray (cs := encP.enc ((a : Int), p2)) (encP.one _)) ?_
          have hP : Popped B g V { m with tds := m.tds.set k { t with q := r } } ((a : Int), p2) w.heap.size w2.heap.size (2, (k : Int)) w w4.heap.size (World.setCells (w4.alloc (.cells #[.int .i64 0, .int .i64 0] 106 (0, 0))) w4.heap.size 0 [.int .i64 (a : Int), .int .i64 p2]) := by
            have hnf : ¬ Foot b rv' qv' w4.heap.size := fun hf => Nat.lt_irrefl _ (G1.out.foot hf).2
            have hle : W3.drew.heap.size ≤ w4.heap.size := G2.out.size
            have hT : TdAt ((((w4.alloc (.cells #[.int .i64 0, .int .i64 0] 106 (0, 0)))).setCell ⟨w4.heap.size, 0, none⟩ (.int .i64 (a : Int))).setCell ⟨w4.heap.size, 1, none⟩ (.int .i64 p2)) B b rv' qv' { t with q := r } := ((G1.out.below (alloc_b _ _)).setF hnf _).setF hnf _
            have hC := ((G2.out.alloc (.cells #[.int .i64 0, .int .i64 0] 106 (0, 0))).setN (p := ⟨w4.heap.size, 0, none⟩) hle (.int .i64 (a : Int))).setN (p := ⟨w4.heap.size, 1, none⟩) hle (.int .i64 p2)
            obtain ⟨V5, _, hb5, hc5⟩ := MPost.of (v := .tuple #[]) (HM3.out.below (Below.refl _ _).drew) HT.out HBt.out hT hC G3.out
            exact ⟨V5, hb5, (MChg.of_below HB3.out.drew).trans hc5, (HZ.out.set_ 0 _).set_ 1 _, blk_ty HT3.out.drew.tyF hC HR3.out (by decide), blk_ty HT3.out.drew.tyF hC HXB.out (by decide)⟩
          generalize (World.setCells (w4.alloc (.cells #[.int .i64 0, .int .i64 0] 106 (0, 0))) w4.heap.size 0 _) = W7 at hP ⊢
          generalize w4.heap.size = lb at hP ⊢
          exact wpList_nil (HM.out lb W7 hP)
        · go_simp
          refine hK.out _ _ (HS.out _ _ (below_alloc (Below.refl _ _).drew _) Chg.refl) ?_
          clear hK K
          refine pu ?_
          have HZ0 : Hid (Blk (W3.alloc (.cells #[.int .i64 0, .int .i64 0] 106 (0, 0))) (w2.heap.size + 1) 106 #[.int .i64 0, .int .i64 0]) := Lib.hid (hxz ▸ Blk.new W3 _ _)
          refine wpE_one (i := 10) (by kernel_rfl) rfl (fun K hK => ?_)
          go_simp
          refine (HPop.out _ (Below.drew (alloc_b _ _))).mono ?_
          rintro e w4 ⟨rv', qv', rfl, h1, h2, h3⟩
          have G1 := Lib.hid h1
          have G2 := Lib.hid h2
          have G3 := Lib.hid h3
          have HS4 := Lib.hid (HS.out _ _ (Below.drew (alloc_b _ _)) h2)
          clear h1 h2 h3
          refine hK.out _ _ HS4.out ?_
          clear hK K
          refine pu ?_
          refine wl 12 ?_
          have hnF : ¬ Foot b (V.rv k) (V.qv k) (w2.heap.size + 1) := fun hf => by have := (HT3.out.foot hf).2; omega
          have HZ := Lib.hid (G2.out.far HZ0.out.drew hnF)
          refine wpList_store_mid rfl _ _ _ rfl (w2.heap.size + 1) 0 #[.int .i64 (a : Int), .int .i64 p2] rfl rfl (there_blk HZ.out 2 (by simp)) (by kernel_rfl) (all_oneCell_toArray (cs := encP.enc ((a : Int), p2)) (encP.one _)) ?_
          have hP : Popped B g V { m with tds := m.tds.set k { t with q := r } } ((a : Int), p2) w.heap.size w2.heap.size (2, (k : Int)) w (w2.heap.size + 1) (World.setCells w4 (w2.heap.size + 1) 0 [.int .i64 (a : Int), .int .i64 p2]) := by
            have hsz : (W3.alloc (.cells #[.int .i64 0, .int .i64 0] 106 (0, 0))).drew.heap.size = W3.heap.size + 1 := by simp [World.drew]
            have hnf : ¬ Foot b rv' qv' (w2.heap.size + 1) := fun hf => (G3.out _ hf).elim hnF (fun e => by omega)
            have hle : W3.drew.heap.size ≤ w2.heap.size + 1 := Nat.le_of_eq hxz
            have hT : TdAt ((w4.setCell ⟨w2.heap.size + 1, 0, none⟩ (.int .i64 (a : Int))).setCell ⟨w2.heap.size + 1, 1, none⟩ (.int .i64 p2)) B b rv' qv' { t with q := r } := (G1.out.setF hnf _).setF hnf _
            have hC := ((((Chg.of_below (alloc_b W3.drew (.cells #[.int .i64 0, .int .i64 0] 106 (0, 0))) : Chg (Foot b (V.rv k) (V.qv k)) W3.drew (W3.alloc (.cells #[.int .i64 0, .int .i64 0] 106 (0, 0))).drew).trans G2.out (fun _ hx => .inl hx)).setN (p := ⟨w2.heap.size + 1, 0, none⟩) hle (.int .i64 (a : Int))).setN (p := ⟨w2.heap.size + 1, 1, none⟩) hle (.int .i64 p2))
            have G3 := Lib.hid (show ∀ x, Foot b rv' qv' x → Foot b (V.rv k) (V.qv k) x ∨ W3.drew.heap.size ≤ x from fun x hx => (G3.out x hx).imp id (fun e => by have : W3.drew.heap.size = W3.heap.size := rfl; omega))
            obtain ⟨V5, _, hb5, hc5⟩ := MPost.of (v := .tuple #[]) (HM3.out.below (Below.refl _ _).drew) HT.out HBt.out hT hC G3.out
            exact ⟨V5, hb5, (MChg.of_below HB3.out.drew).trans hc5, (HZ.out.set_ 0 _).set_ 1 _, blk_ty HT3.out.drew.tyF hC HR3.out (by decide), blk_ty HT3.out.drew.tyF hC HXB.out (by decide)⟩
          generalize (World.setCells w4 (w2.heap.size + 1) 0 _) = W7 at hP ⊢
          generalize w2.heap.size + 1 = lb at hP ⊢
          exact wpList_nil (HM.out lb W7 hP)
      · intro lb W5 ⟨V5, hb5, hc5, hlb, hr5, hx5⟩
        refine HK9.out _ _ ?_
        clear HK9 K9 HS HPop HT3 HXB HM3 HR3 HB3
        obtain ⟨mb, mc, emv, hmb⟩ := own_first hb5.mem (List.getElem?_eq_getElem HA.out)
        have k4 : W5.cell? ⟨g, 4, none⟩ = some (.slice (some ⟨mb, 0, none⟩) m.mem.length mc) := by rw [← emv]; exact hb5.blk.cl 4
        have l0 := hlb.cl 0
        have l1 := hlb.cl 1
        obtain ⟨mcur, hmc, _⟩ := own_ty hb5.mem (b := mb) (by rw [emv]; rfl)
        have hmB : Blk W5 mb 3 mcur := hmc
        have m0 : W5.cell? ⟨mb, a, none⟩ = some (.int .i64 (m.mem[a]'HA.out)) := by have := hmb 0 _ rfl; simpa using this
        have mf := hmB.frozen
        have y1 : (0 : Int) ≤ (a : Int) := by omega
        have y2 : (a : Int) < (m.mem.length : Int) := by have := HA.out; omega
        have HBs := Lib.hid (hb5.setMem emv a p2)
        have HR4 := Lib.hid (hr5.far (p := ⟨mb, a, none⟩) (blk_ne hr5 hmB (by decide)) (.int .i64 p2))
        have HX4 := Lib.hid (hx5.far (p := ⟨mb, a, none⟩) (blk_ne hx5 hmB (by decide)) (.int .i64 p2))
        have HC5 := Lib.hid hc5
        clear hb5 hc5 hlb hr5 hx5 hmb hmc hmB
        go_wp2_with fail
        refine wz (fun y : World => y.cell? ⟨g, 4, none⟩ = some (.slice (some ⟨mb, 0, none⟩) m.mem.length mc) ∧ y.cell? ⟨lb, 0, none⟩ = some (.int .i64 (a : Int)) ∧ y.cell? ⟨lb, 1, none⟩ = some (.int .i64 p2)) [3, 5, 7] ⟨k4, l0, l1⟩ (fun hHeld => ?_)
        refine wq 0 ?_
        refine wq 1 ?_
        refine wq 2 ?_
        refine wq 4 ?_
        refine wq 6 ?_
        refine wt 3 (by assumption) ?_
        refine wt 5 (by assumption) ?_
        refine wt 7 (by assumption) ?_
        refine wq 8 ?_
        refine wl 9 ?_
        clear hHeld
        have r0 := HR4.out.cl 0
        have r1 := HR4.out.cl 1
        have rf := HR4.out.frozen
        have rz := HR4.out.lt
        have x0 := HX4.out.cl 0
        have x1 := HX4.out.cl 1
        have HC4 := Lib.hid (HC5.out.trans HBs.out.2)
        go_wp2
        refine bodyPost_ret (v := .tuple #[.agg #[.int .i64 2, .int .i64 (k : Int)], .int .i64 0]) (by simp [results, Tryz.results25, go_sem, r0, r1]) rfl ⟨V5, rfl, ?_, ?_⟩
        · rw [HE.out]
          exact ((BufAt.setO HBs.out.1 HR4.out (by decide) _ _).setO (HR4.out.set_ 0 _) (by decide) _ _).drew
        · refine MChg.drew ?_
          refine MChg.setN ?_ (Nat.le_refl _) _
          refine MChg.setN ?_ (Nat.le_refl _) _
          exact HC4.out
end
section
def toldOf : Hold → Int
  | .rd i => (i : Int)
  | _ => 0
def isTold : Hold → Bool
  | .rd _ => true
  | _ => false
theorem taT (w : World) : ∀ h : Hold, (Instr.typeAssert (holdV h) 215 225 true).run Tryz.prog w = .ok (.tuple #[.int .i64 (toldOf h), .bool (isTold h)]) w
  | .num _ => ta_t_n _ w
  | .adr _ => ta_t_a _ w
  | .rd _ => ta_t_t _ w
  | .non => ta_t_h _ w
def endV (o : Option (Int × Int)) : Value := match o with
  | some p => .tuple #[.agg #[.int .i64 p.1, .int .i64 p.2], .bool true]
  | none => .tuple #[.agg #[.int .i64 0, .int .i64 0], .bool false]
section
set_option maxHeartbeats 4000000
set_option maxRecDepth 100000
variable {w0 w : World} {g nr k : Nat} {S : RunS} {r : Rn} {V : RunV}
theorem endP (d first : Nat) (x : Rg) (hfi : first ≤ 64) (hx0 : ∀ i, x.h = .rd i → i ≤ 64) (hR : RunAt w w0.heap.size g S r V) (hx : r.regs[d]? = some x) :
    Calls Tryz.prog 64 #[.pointer (some ⟨g, 0, none⟩), .int .i64 (d : Int), .int .i64 (first : Int)] w fun e w' => e = .returned (endV (endL first x.h)) ∧ Below w.heap.size w w' := by
  obtain ⟨q, hvr, hqb, hqB⟩ := hR.regs
  have hdl := (List.getElem?_eq_some_iff.1 hx).1
  have hi1 : (0 : Int) ≤ (d : Int) := by omega
  have hi2 : (d : Int) < (r.regs.length : Int) := by omega
  obtain ⟨c0, c1, c2, c3, c4⟩ := regs_cell hqb hx
  have k14 : w.cell? ⟨g, 14, none⟩ = some (.slice (some ⟨q, 0, none⟩) r.regs.length r.regs.length) := by rw [← hvr]; exact hR.blk.cell 14
  have hqw := hqb.lt
  have hgw : g < w.heap.size := hR.blk.lt
  obtain ⟨xh, xo⟩ := x
  simp only at hx0 c0 ⊢
  clear hR hqb hx c1 c2 c3 c4
  cases xh with
  | num n =>
    have q1 := fun w => taN w (.num n)
    have q2 := fun w => taT w (.num n)
    simp only [numOf, isNum, toldOf, isTold] at q1 q2
    go_enter Tryz.func64, Tryz.ntmps64
    go_wp2_with fail
    have z0 := cell_new w #[.int .i64 1, .int .i64 n] 75 (0, 0) 0
    have z1 := cell_new w #[.int .i64 1, .int .i64 n] 75 (0, 0) 1
    refine bodyPost_ret (v := .tuple #[.agg #[.int .i64 1, .int .i64 n], .bool true]) (by simp [results, Tryz.results64, go_sem, z0, z1]) rfl ⟨rfl, alloc_b _ _⟩
  | rd i =>
    have q1 := fun w => taN w (.rd i)
    have q2 := fun w => taT w (.rd i)
    simp only [numOf, isNum, toldOf, isTold] at q1 q2
    have hi3 : (0 : Int) ≤ (i : Int) := by omega
    have hi4 : (i : Int) ≤ 64 := by have := hx0 i rfl; omega
    have hi5 : (first : Int) ≤ 64 := by omega
    go_enter Tryz.func64, Tryz.ntmps64
    go_wp2_with fail
    have z0 := cell_new w #[.int .i64 2, .int .i64 ((first : Int) + (i : Int))] 75 (0, 0) 0
    have z1 := cell_new w #[.int .i64 2, .int .i64 ((first : Int) + (i : Int))] 75 (0, 0) 1
    refine bodyPost_ret (v := .tuple #[.agg #[.int .i64 2, .int .i64 ((first : Int) + (i : Int))], .bool true]) (by simp [results, Tryz.results64, go_sem, z0, z1]) rfl ⟨by simp [endL, endV], alloc_b _ _⟩
  | adr s =>
    have q1 := fun w => taN w (.adr s)
    have q2 := fun w => taT w (.adr s)
    simp only [numOf, isNum, toldOf, isTold] at q1 q2
    go_enter Tryz.func64, Tryz.ntmps64
    go_wp2_with fail
    have z0 := cell_new w #[.int .i64 0, .int .i64 0] 75 (0, 0) 0
    have z1 := cell_new w #[.int .i64 0, .int .i64 0] 75 (0, 0) 1
    refine bodyPost_ret (v := .tuple #[.agg #[.int .i64 0, .int .i64 0], .bool false]) (by simp [results, Tryz.results64, go_sem, z0, z1]) rfl ⟨rfl, alloc_b _ _⟩
  | non =>
    have q1 := fun w => taN w .non
    have q2 := fun w => taT w .non
    simp only [numOf, isNum, toldOf, isTold] at q1 q2
    go_enter Tryz.func64, Tryz.ntmps64
    go_wp2_with fail
    have z0 := cell_new w #[.int .i64 0, .int .i64 0] 75 (0, 0) 0
    have z1 := cell_new w #[.int .i64 0, .int .i64 0] 75 (0, 0) 1
    refine bodyPost_ret (v := .tuple #[.agg #[.int .i64 0, .int .i64 0], .bool false]) (by simp [results, Tryz.results64, go_sem, z0, z1]) rfl ⟨rfl, alloc_b _ _⟩
end
end
end Go.Proofs.YtjhafgnmahhacaaGreatDoor
