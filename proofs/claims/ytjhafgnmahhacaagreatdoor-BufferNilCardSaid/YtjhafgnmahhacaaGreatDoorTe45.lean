/- Layer 22: a machine at a test's beginning: slices.Clone at instructions. -/
import Derived.Test.YtjhafgnmahhacaaGreatDoorTe44

namespace Go.Proofs.YtjhafgnmahhacaaGreatDoor
open Go.RowKit
section
theorem insAt_N {w : World} {A : Option Addr} {c : List Ins} (h : InsAt w A c) : encN.At w A c := fun i x hx => by
  obtain ⟨b, o, e, h0, h1, h2, h3, h4, h5, h6, h7, _⟩ := h i x hx
  refine ⟨b, o, e, fun j u hj => ?_⟩
  have hjl : j < 8 := by have := (List.getElem?_eq_some_iff.1 hj).1; simpa using this
  match j, hjl with
  | 0, _ => cases hj; exact h0
  | 1, _ => cases hj; exact h1
  | 2, _ => cases hj; exact h2
  | 3, _ => cases hj; exact h3
  | 4, _ => cases hj; exact h4
  | 5, _ => cases hj; exact h5
  | 6, _ => cases hj; exact h6
  | 7, _ => cases hj; exact h7
section
set_option maxHeartbeats 2000000
set_option maxRecDepth 100000
theorem cloneNP (A : Option Addr) (cap : Nat) (c : List Ins) (w : World) (h : InsAt w A c) (hl : c.length ≤ 256) :
    Calls Tryz.prog 111 #[.slice A c.length cap] w fun e w' => ∃ A' cp, e = .returned (.slice A' c.length cp) ∧ encN.Own 70 w.heap.size w' (.slice A' c.length cp) c ∧ Below w.heap.size w w' := by
  cases A with
  | none =>
    have hc : c = [] := by
      cases c with
      | nil => rfl
      | cons x r =>
        obtain ⟨b, o, e, _⟩ := h 0 x rfl
        cases e
    subst hc
    refine (AnyE.slices_Clone_nil Tryz.cloneN 0 cap w).mono ?_
    rintro e w' ⟨rfl, rfl⟩
    exact ⟨none, 0, rfl, Enc.Own.nil _ _ _, Below.refl _ _⟩
  | some p =>
    obtain ⟨z, hz, hzs⟩ := elemN.info
    obtain ⟨i0, hi, hz0, hz1, hz2⟩ := info_partsM hz
    have hcells : ∀ j u, (encN.flat c)[j]? = some u → w.cell? (p.add j) = some u := fun j u hj => by
      have h0 : 0 < c.length := by
        refine Nat.pos_of_ne_zero fun e => ?_
        rw [List.length_eq_zero_iff.1 e] at hj
        cases hj
      obtain ⟨b, o, e, _⟩ := h 0 c[0] (List.getElem?_eq_getElem h0)
      cases e
      rw [Enc.addr_add]
      exact (insAt_N h).cells j u hj
    have HC := Lib.hid hcells
    have hsl := fun (W : World) => Lib.run_eql_slice_nil (P := Tryz.prog) W 62 70 (some p) c.length cap 0 0 Tryz.underlying62
    clear h hcells
    go_enter Tryz.func111, Tryz.ntmps111
    go_wp2_with (at_builtin; refine wpList_append_own _ rfl _ _ 62 rfl w.heap.size 70 i0 z 8 80 Tryz.underlying62 hi hz0 hz1 hz2 hzs (by decide) _ _ _ rfl (World.ownsRow_made w #[] 0 (Nat.le_refl _) (Nat.zero_le _) (by simp)) p c.length cap (encN.flat c) rfl ?qc1 ?qc2 ?qc3 ?qc4 ?qc5 ?qc6 ?_)
    case qc1 => exact encN.flat_len c
    case qc2 => exact fun j u hj => Lib.cell?_alloc_some _ (HC.out j u hj)
    case qc3 => exact flat_oneE
    case qc4 => unfold maxLen; omega
    case qc5 => omega
    intro v' w1 hown hgrow hnil
    have HO := Lib.hid hown
    have HB := Lib.hid (((Below.refl _ w).alloc (Nat.le_refl _) _).grown hgrow (by simp) (by intro k hk; simp [Value.ownBlock] at hk; omega))
    clear hown hgrow
    go_wp2
    go_ret
    obtain ⟨A', cp, rfl⟩ := own_shp HO.out
    exact ⟨A', cp, rfl, HO.out, HB.out⟩
end
theorem grew_chg {w w1 : World} {B : Nat} {v v' : Value} (hg : GrewS w w1 B v v') : Chg (fun x => v.ownBlock = some x) w w1 := Chg.of_grew hg fun _ h => h
theorem own_tyf {w : World} {B : Nat} {t : TypeId} {z n : Nat} {v : Value} {cs : List Value} (h : w.ownsRow B t z v n cs) : TyF w (fun x => v.ownBlock = some x) [t] := fun x hx => by
  obtain ⟨cur, hc, _⟩ := own_ty h hx
  exact ⟨t, cur, hc, by simp⟩
theorem td_tyF {w w' : World} {F : Nat → Prop} {l : List TypeId} (hF : TyF w F l) (hc : Chg F w w') {B b : Nat} {rv qv : Value} {t : BTd} (h : TdAt w B b rv qv t) (h1 : 172 ∉ l) (h2 : 68 ∉ l) (h3 : 106 ∉ l) : TdAt w' B b rv qv t :=
  ⟨blk_ty hF hc h.blk h1, h.hb, own_tyF hF hc h.regs h2, own_tyF hF hc h.q h3⟩
/-- A row of code is put behind. -/
theorem BufAt.addCode {w w1 : World} {B g : Nat} {m : BMc} {V : BMv} {cv' : Value} {A : Option Addr} {cp : Nat} {c : List Ins} (h : BufAt w B g m V) (hg : GrewS w w1 B V.cv cv') (ho : encA.Own 62 B w1 cv' (V.cr ++ [(A, c.length, cp)])) (hrow : encN.Own 70 B w (.slice A c.length cp) c) :
    BufAt (w1.setCell ⟨g, 1, none⟩ cv') B g { m with code := m.code ++ [c] } { V with cv := cv', cr := V.cr ++ [(A, c.length, cp)] } := by
  have hF := own_tyf h.code
  have hc := grew_chg hg
  have hb := blk_ty hF hc h.blk (by decide)
  have hF2 : TyF w1 (fun x => x = g) [84] := fun x hx => ⟨_, _, hx ▸ hb, by simp⟩
  have hc2 : Chg (fun x => x = g) w1 (w1.setCell ⟨g, 1, none⟩ cv') := Chg.set (F := fun x => x = g) (p := ⟨g, 1, none⟩) Chg.refl rfl _
  have k : ∀ {t : TypeId} {z n : Nat} {v : Value} {cs : List Value}, w.ownsRow B t z v n cs → t ∉ [62] → t ∉ [84] → (w1.setCell ⟨g, 1, none⟩ cv').ownsRow B t z v n cs := fun h0 h1 h2 => own_tyF hF2 hc2 (own_tyF hF hc h0 h1) h2
  refine ⟨hb.set_ 1 _, h.hg, own_tyF hF2 hc2 ho (by decide), fun j c' hj => ?_, k h.locs (by decide) (by decide), k h.ths (by decide) (by decide), k h.mem (by decide) (by decide), k h.ptr (by decide) (by decide), h.tlen, by simp [h.crl], fun j s hj => ?_, h.apart⟩
  · by_cases e : j < m.code.length
    · rw [List.getElem?_append_left e] at hj
      obtain ⟨A', cap, h1, h2⟩ := h.rows j c' hj
      exact ⟨A', cap, by rw [List.getElem?_append_left (by rw [h.crl]; exact e)]; exact h1, k h2 (by decide) (by decide)⟩
    · rw [List.getElem?_append_right (by omega)] at hj
      have e0 : j = m.code.length := by
        have := (List.getElem?_eq_some_iff.1 hj).1
        simp at this
        omega
      subst e0
      simp at hj
      subst hj
      exact ⟨A, cp, by rw [List.getElem?_append_right (by rw [h.crl]; exact Nat.le_refl _), h.crl]; simp, k hrow (by decide) (by decide)⟩
  · obtain ⟨b, h1, h2⟩ := h.td j s hj
    exact ⟨b, h1, td_tyF hF2 hc2 (td_tyF hF hc h2 (by decide) (by decide) (by decide)) (by decide) (by decide) (by decide)⟩
/-- A thread is put behind. -/
theorem BufAt.addThread {w w1 : World} {B g b : Nat} {m : BMc} {V : BMv} {pv' rv' qv' : Value} {t : BTd} (h : BufAt w B g m V) (hg : GrewS w w1 B V.pv pv') (ho : encQ.Own 167 B w1 pv' (V.tb ++ [b])) (ht : TdAt w B b rv' qv' t)
    (hn : ∀ x, Foot b rv' qv' x → ∀ j bj, V.tb[j]? = some bj → ¬ Foot bj (V.rv j) (V.qv j) x) :
    BufAt (w1.setCell ⟨g, 5, none⟩ pv') B g { m with tds := m.tds ++ [t] } { V with pv := pv', tb := V.tb ++ [b], rv := fun i => if i = m.tds.length then rv' else V.rv i, qv := fun i => if i = m.tds.length then qv' else V.qv i } := by
  have hF := own_tyf h.ptr
  have hc := grew_chg hg
  have hb := blk_ty hF hc h.blk (by decide)
  have hF2 : TyF w1 (fun x => x = g) [84] := fun x hx => ⟨_, _, hx ▸ hb, by simp⟩
  have hc2 : Chg (fun x => x = g) w1 (w1.setCell ⟨g, 5, none⟩ pv') := Chg.set (F := fun x => x = g) (p := ⟨g, 5, none⟩) Chg.refl rfl _
  have k : ∀ {t : TypeId} {z n : Nat} {v : Value} {cs : List Value}, w.ownsRow B t z v n cs → t ∉ [167] → t ∉ [84] → (w1.setCell ⟨g, 5, none⟩ pv').ownsRow B t z v n cs := fun h0 h1 h2 => own_tyF hF2 hc2 (own_tyF hF hc h0 h1) h2
  have kt : ∀ {b : Nat} {rv qv : Value} {t : BTd}, TdAt w B b rv qv t → TdAt (w1.setCell ⟨g, 5, none⟩ pv') B b rv qv t := fun h2 => td_tyF hF2 hc2 (td_tyF hF hc h2 (by decide) (by decide) (by decide)) (by decide) (by decide) (by decide)
  have at_ : ∀ {i bi : Nat}, (V.tb ++ [b])[i]? = some bi → (i < m.tds.length ∧ V.tb[i]? = some bi) ∨ (i = m.tds.length ∧ bi = b) := fun {i bi} hi => by
    by_cases e : i < V.tb.length
    · rw [List.getElem?_append_left e] at hi
      exact .inl ⟨by rw [← h.tlen]; exact e, hi⟩
    · have hl := (List.getElem?_eq_some_iff.1 hi).1
      simp at hl
      have e2 : i = V.tb.length := by omega
      subst e2
      rw [List.getElem?_append_right (Nat.le_refl _)] at hi
      simp at hi
      exact .inr ⟨h.tlen, hi.symm⟩
  refine ⟨hb.set_ 5 _, h.hg, k h.code (by decide) (by decide), fun j c' hj => ?_, k h.locs (by decide) (by decide), k h.ths (by decide) (by decide), k h.mem (by decide) (by decide), own_tyF hF2 hc2 ho (by decide), by simp [h.tlen], h.crl, fun j s hj => ?_, fun i j bi bj hij hi hj x hx hy => ?_⟩
  · obtain ⟨A', cap, h1, h2⟩ := h.rows j c' hj
    exact ⟨A', cap, h1, k h2 (by decide) (by decide)⟩
  · by_cases e : j < m.tds.length
    · rw [List.getElem?_append_left e] at hj
      obtain ⟨b', h1, h2⟩ := h.td j s hj
      refine ⟨b', by rw [List.getElem?_append_left (by rw [h.tlen]; exact e)]; exact h1, ?_⟩
      simp only [if_neg (Nat.ne_of_lt e)]
      exact kt h2
    · have hl := (List.getElem?_eq_some_iff.1 hj).1
      simp at hl
      have e2 : j = m.tds.length := by omega
      subst e2
      rw [List.getElem?_append_right (Nat.le_refl _)] at hj
      simp at hj
      subst hj
      refine ⟨b, by rw [List.getElem?_append_right (by rw [h.tlen]; exact Nat.le_refl _), h.tlen]; simp, ?_⟩
      simp only [if_true]
      exact kt ht
  · rcases at_ hi with ⟨i1, i2⟩ | ⟨rfl, rfl⟩
    · simp only [if_neg (Nat.ne_of_lt i1)] at hx
      rcases at_ hj with ⟨j1, j2⟩ | ⟨rfl, rfl⟩
      · simp only [if_neg (Nat.ne_of_lt j1)] at hy
        exact h.apart i j bi bj hij i2 j2 x hx hy
      · simp only [if_true] at hy
        exact hn x hy i bi i2 hx
    · simp only [if_true] at hx
      rcases at_ hj with ⟨j1, j2⟩ | ⟨rfl, rfl⟩
      · simp only [if_neg (Nat.ne_of_lt j1)] at hy
        exact hn x hx j bj j2 hy
      · exact hij rfl
theorem BufAt.footLt {w : World} {B g : Nat} {m : BMc} {V : BMv} (h : BufAt w B g m V) {j bj x : Nat} (hj : V.tb[j]? = some bj) (hx : Foot bj (V.rv j) (V.qv j) x) : x < w.heap.size := by
  have hl := (List.getElem?_eq_some_iff.1 hj).1
  rw [h.tlen] at hl
  obtain ⟨b2, h1, h2⟩ := h.td j _ (List.getElem?_eq_getElem hl)
  rw [hj] at h1
  cases h1
  exact (h2.foot hx).2
end
end Go.Proofs.YtjhafgnmahhacaaGreatDoor
