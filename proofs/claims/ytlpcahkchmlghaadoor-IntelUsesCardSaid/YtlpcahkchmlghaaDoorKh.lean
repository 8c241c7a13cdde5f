/- The program's Do: where it tells an error, and up to its loop. -/
import Derived.Test.YtlpcahkchmlghaaDoorKg
import Derived.Test.YtlpcahkchmlghaaDoorKb
import Derived.Deep.CutBlock
import Derived.Deep.DeepCutAuto
import Derived.Outline
import Derived.IntWalk
import Derived.RegionTactic
namespace Go.Proofs.YtlpcahkchmlghaaDoor
open Go.RowKit

theorem may_as {v : Value} {at_ : Int} {vs : List (List UInt8 × Int)} {r : Bool} (h : threadB 15 at_ vs = r) {w : World} (hv : ValsAt w v vs) :
    Calls Tryd.prog 47 #[locV v at_] w fun e w' => e = .returned (.bool r) ∧ Below w.heap.size w w' := by
  have := may_c v at_ vs w hv
  rw [h] at this; exact this
def doErr (er : Int) : Value := .tuple #[locV (.slice none 0 0) 0, actV 0 ⟨#[]⟩ 0 0 0, .int .i64 er]
/-- The world where Do's own boxes lie: the instruction, the thread, the results. -/
abbrev doW (w : World) (op d a b imm : Int) (loc label : ByteArray) (fence : Int) (v : Value) (at_ : Int) : World :=
  (((w.alloc (.cells #[.int .i64 op, .int .i64 d, .int .i64 a, .int .i64 b, .int .i64 imm, .string loc, .string label, .int .i64 fence] 23 (0, 0))).alloc (.cells #[v, .int .i64 at_] 47 (0, 0))).alloc
    (.cells #[.slice none 0 0, .int .i64 0] 47 (0, 0))).alloc (.cells #[.int .i64 0, .string ⟨#[]⟩, .int .i64 0, .int .i64 0, .int .i64 0] 50 (0, 0))
section
variable {w x : World} {op d a b imm : Int} {loc label : ByteArray} {fence : Int} {v : Value} {at_ : Int} (hb : Below (doW w op d a b imm loc label fence v at_).heap.size (doW w op d a b imm loc label fence v at_) x)
include hb
theorem doW_cell {b' o : Nat} {u : Value} (h : (doW w op d a b imm loc label fence v at_).cell? ⟨b', o, none⟩ = some u) : x.cell? ⟨b', o, none⟩ = some u := cell_go h hb
theorem doW_res : x.cell? ⟨w.heap.size + 1 + 1, 0, none⟩ = some (.slice none 0 0) ∧ x.cell? ⟨w.heap.size + 1 + 1, 1, none⟩ = some (.int .i64 0) ∧
    x.cell? ⟨w.heap.size + 1 + 1 + 1, 0, none⟩ = some (.int .i64 0) ∧ x.cell? ⟨w.heap.size + 1 + 1 + 1, 1, none⟩ = some (.string ⟨#[]⟩) ∧ x.cell? ⟨w.heap.size + 1 + 1 + 1, 2, none⟩ = some (.int .i64 0) ∧ x.cell? ⟨w.heap.size + 1 + 1 + 1, 3, none⟩ = some (.int .i64 0) ∧ x.cell? ⟨w.heap.size + 1 + 1 + 1, 4, none⟩ = some (.int .i64 0) := by
  refine ⟨doW_cell hb ?_, doW_cell hb ?_, doW_cell hb ?_, doW_cell hb ?_, doW_cell hb ?_, doW_cell hb ?_, doW_cell hb ?_⟩ <;> simp [go_sem]
theorem doW_fr (o : Nat) : x.frozen? ⟨w.heap.size + 1 + 1, o, none⟩ = false ∧ x.frozen? ⟨w.heap.size + 1 + 1 + 1, o, none⟩ = false := by
  constructor
  · rw [hb.frozen (p := ⟨w.heap.size + 1 + 1, o, none⟩) (by simp)]; simp [go_sem]
  · rw [hb.frozen (p := ⟨w.heap.size + 1 + 1 + 1, o, none⟩) (by simp)]; simp [go_sem]
theorem doW_below : Below w.heap.size w x := below_trans (below_alloc (below_alloc (below_alloc (alloc_below _ _) _) _) _) hb
end
section
variable {op d a b imm : Int} {loc label : ByteArray} {fence : Int} (w : World)
set_option maxHeartbeats 1000000
set_option maxRecDepth 100000
theorem doP_bad (v : Value) (at_ : Int) (h : insB op d a b imm loc label fence = false) (hs : loc.size ≤ 9223372036854775807) :
    Calls Tryd.prog 26 #[insV op d a b imm loc label fence, locV v at_] w fun e w' => e = .returned (doErr 91) ∧ Below w.heap.size w w' := by
  have H := Lib.hid h
  clear h
  go_enter Tryd.func26, Tryd.ntmps26
  go_wp2_with fail
  refine (checkP_l2 H.out _ hs).mono ?_
  rintro e w1 ⟨rfl, hb1⟩
  obtain ⟨c0, c1, a0, a1, a2, a3, a4⟩ := doW_res hb1
  have hB1 := doW_below hb1
  have hf1 := fun o => (doW_fr hb1 o).1
  have hf2 := fun o => (doW_fr hb1 o).2
  clear hb1
  go_wp2
  refine bodyPost_ret (v := doErr 91) (by simp [results, Tryd.results26, go_sem, doErr, chkI, *]) rfl ⟨rfl, ?_⟩
  repeat (first | refine Below.setCell ?_ (by simp <;> omega) _ | with_reducible exact hB1)
theorem doP_thread (h : insB op d a b imm loc label fence = true) (v : Value) (at_ : Int) (vs : List (List UInt8 × Int)) (hv : ValsAt w v vs) (ht : threadB 15 at_ vs = false) :
    Calls Tryd.prog 26 #[insV op d a b imm loc label fence, locV v at_] w fun e w' => e = .returned (doErr 1) ∧ Below w.heap.size w w' := by
  have hs := insB_loc h
  have H := Lib.hid h
  have HT := Lib.hid ht
  clear h ht
  go_enter Tryd.func26, Tryd.ntmps26
  go_wp2_with fail
  refine (checkP_l2 H.out _ (by omega)).mono ?_
  rintro e w1 ⟨rfl, hb1⟩
  have t0 := doW_cell hb1 (b' := w.heap.size + 1) (o := 0) (u := v) (by simp [go_sem])
  have t1 := doW_cell hb1 (b' := w.heap.size + 1) (o := 1) (u := .int .i64 at_) (by simp [go_sem])
  have hv1 := hv.mono (doW_below hb1)
  go_wp2_with fail
  refine (may_as HT.out hv1).mono ?_
  rintro e w2 ⟨rfl, hb2⟩
  have hb12 := below_trans hb1 hb2
  obtain ⟨c0, c1, a0, a1, a2, a3, a4⟩ := doW_res hb12
  have hB2 := doW_below hb12
  have hf1 := fun o => (doW_fr hb12 o).1
  have hf2 := fun o => (doW_fr hb12 o).2
  clear hb1 hb2 hb12 t0 t1 hv1 hv
  go_wp2
  refine bodyPost_ret (v := doErr 1) (by simp [results, Tryd.results26, go_sem, doErr, *]) rfl ⟨rfl, ?_⟩
  repeat (first | refine Below.setCell ?_ (by simp <;> omega) _ | with_reducible exact hB2)
end
/-- What Do hands back: registers of its own memory, an act. -/
def DoPost (vs : List (List UInt8 × Int)) (at_ : Int) (act : Value) (w : World) (e : Ending) (w' : World) : Prop :=
  ∃ v, e = .returned (.tuple #[locV v at_, act, .int .i64 0]) ∧ RegsOwn w' w.heap.size v vs ∧ Below w.heap.size w w'
theorem RegsOwn.mono {w w' : World} {base : Nat} {v : Value} {vs : List (List UInt8 × Int)} (h : RegsOwn w base v vs) (hb : Below w.heap.size w w') : RegsOwn w' base v vs := by
  obtain ⟨h1, h2 | ⟨g, cap, cur, hv, hbs, hh, hr⟩⟩ := h
  · exact ⟨h1, .inl h2⟩
  · refine ⟨h1, .inr ⟨g, cap, cur, hv, hbs, ?_, hr⟩⟩
    have hg : g < w.heap.size := by
      rcases Nat.lt_or_ge g w.heap.size with h | h
      · exact h
      · rw [Array.getElem?_eq_none h] at hh; cases hh
    rw [hb.block g hg]; exact hh
theorem RegsOwn.lower {w : World} {base base' : Nat} {v : Value} {vs : List (List UInt8 × Int)} (h : RegsOwn w base v vs) (hb : base' ≤ base) : RegsOwn w base' v vs := by
  obtain ⟨h1, h2 | ⟨g, cap, cur, hv, hbs, hr⟩⟩ := h
  · exact ⟨h1, .inl h2⟩
  · exact ⟨h1, .inr ⟨g, cap, cur, hv, Nat.le_trans hb hbs, hr⟩⟩
theorem RegsOwn.setOther {w : World} {base : Nat} {v : Value} {vs : List (List UInt8 × Int)} (h : RegsOwn w base v vs) {p : Addr} (hp : v.ownBlock ≠ some p.block) (u : Value) : RegsOwn (w.setCell p u) base v vs := by
  obtain ⟨h1, h2 | ⟨g, cap, cur, hv, hbs, hh, hr⟩⟩ := h
  · exact ⟨h1, .inl h2⟩
  · refine ⟨h1, .inr ⟨g, cap, cur, hv, hbs, ?_, hr⟩⟩
    rw [heap_setCell_other w p g u (by rintro rfl; rw [hv] at hp; exact hp rfl)]; exact hh

theorem RegsOwn.al {w : World} {base : Nat} {v : Value} {vs : List (List UInt8 × Int)} (h : RegsOwn w base v vs) (o : Obj) : RegsOwn (w.alloc o) base v vs := h.mono (alloc_b w o)
theorem RegsOwn.dr {w : World} {base : Nat} {v : Value} {vs : List (List UInt8 × Int)} (h : RegsOwn w base v vs) : RegsOwn w.drew base v vs := h
theorem cell_set {B o : Nat} {v : Value} {x : World} (h : x.cell? ⟨B, o, none⟩ = some v) {p : Addr} (hp : p.block ≠ B) (u : Value) : (x.setCell p u).cell? ⟨B, o, none⟩ = some v := by
  rw [World.cell?_setCell_other x p ⟨B, o, none⟩ u (fun e => hp (by rw [e]))]; exact h
theorem cell_go' {B o n : Nat} {v : Value} {x x' : World} (h : x.cell? ⟨B, o, none⟩ = some v) (hb : Below n x x') (hB : B < n) : x'.cell? ⟨B, o, none⟩ = some v := by
  rw [hb.cell (p := ⟨B, o, none⟩) hB]; exact h
theorem fr_al {B o : Nat} {x : World} (h : x.frozen? ⟨B, o, none⟩ = false) (hB : B < x.heap.size) (ob : Obj) : (x.alloc ob).frozen? ⟨B, o, none⟩ = false := by
  rw [(alloc_b x ob).frozen (p := ⟨B, o, none⟩) hB]; exact h
theorem valsCells_set : ∀ (vs : List (List UInt8 × Int)) (k : Nat) (x : List UInt8 × Int), ((valsCells vs).set (k * 2) (.string ⟨x.1.toArray⟩)).set (k * 2 + 1) (.int .i64 x.2) = valsCells (vs.set k x)
  | [], k, x => by simp [valsCells]
  | y :: vs, 0, x => by simp [valsCells_cons]
  | y :: vs, k + 1, x => by
    rw [valsCells_cons, List.set_cons_succ, valsCells_cons, ← valsCells_set vs k x, show (k + 1) * 2 = k * 2 + 1 + 1 by omega]
    simp
theorem set_regs {x : World} {base g cap : Nat} {vs : List (List UInt8 × Int)} (h : RegsOwn x base (.slice (some ⟨g, 0, none⟩) 15 cap) vs) (k : Nat) (n : Int) :
    RegsOwn ((x.setCell ⟨g, k * 2, none⟩ (.string ⟨#[]⟩)).setCell ⟨g, k * 2 + 1, none⟩ (.int .i64 n)) base (.slice (some ⟨g, 0, none⟩) 15 cap) (vs.set k ([], n)) := by
  have hl : vs.length = 15 := by
    obtain ⟨_, ⟨h1, _⟩ | ⟨_, _, _, h1, _⟩⟩ := h
    · cases h1
    · injection h1 with _ h2; exact h2.symm
  have h1 : x.ownsRow base 55 2 (.slice (some ⟨g, 0, none⟩) 15 cap) 15 (valsCells vs) := by
    have := h; unfold RegsOwn at this; rw [hl] at this; exact this
  have h2 := (World.ownsRow.stored ((World.ownsRow.stored h1 (k * 2) (.string ⟨#[]⟩)).1) (k * 2 + 1) (.int .i64 n)).1
  have h3 := valsCells_set vs k ([], n)
  unfold RegsOwn
  rw [List.length_set, hl, ← h3]
  exact h2

/-- What Do answers: the registers behind it, and the act; none: an address where a number is wanted. -/
def doR (op d a imm : Int) (loc : List UInt8) (vs : List (List UInt8 × Int)) : Option (List (List UInt8 × Int) × Value) :=
  if op = 1 then some (vs, actV 3 ⟨loc.toArray⟩ imm 0 0)
  else if op = 2 then (if (vs.getD a.toNat ([], 0)).1 = [] then some (vs, actV 3 ⟨loc.toArray⟩ (vs.getD a.toNat ([], 0)).2 0 0) else none)
  else if op = 3 then some (vs, actV 2 ⟨loc.toArray⟩ 0 d 0)
  else if op = 4 then some (vs.set d.toNat ([], imm), actV 1 ⟨#[]⟩ 0 0 0)
  else some (vs, actV 4 ⟨#[]⟩ 0 0 1)
def DoAny (r : Option (List (List UInt8 × Int) × Value)) (at_ : Int) (w : World) (e : Ending) (w' : World) : Prop := match r with
  | some (vs, act) => DoPost vs at_ act w e w'
  | none => e = .returned (doErr 92) ∧ Below w.heap.size w w'

def Clone15 (vs : List (List UInt8 × Int)) (w : World) (e : Ending) (w' : World) : Prop :=
  ∃ g cap, e = .returned (.slice (some ⟨g, 0, none⟩) 15 cap) ∧ w.heap.size ≤ g ∧ g < w'.heap.size ∧ 15 ≤ cap ∧ cap ≤ 9223372036854775807 ∧ RegsOwn w' w.heap.size (.slice (some ⟨g, 0, none⟩) 15 cap) vs ∧ Below w.heap.size w w'
theorem clone_15 (v : Value) (vs : List (List UInt8 × Int)) (w : World) (hv : ValsAt w v vs) (h15 : vs.length = 15) :
    Calls Tryd.prog 48 #[v] w (Clone15 vs w) :=
  (clone_c v vs w hv h15).mono fun _ _ ⟨vc, he, hown, hb⟩ => by
    obtain ⟨g, cap, rfl, hg1, hg2, hc1, hc2⟩ := hown.form (by omega)
    rw [h15] at he hown hc1
    exact ⟨g, cap, he, hg1, hg2, hc1, hc2, hown, hb⟩
/-- Behind Do's first half: its own copy of the thread lies at s. -/
def DoHalf (w0 w : World) (at_ : Int) (vs : List (List UInt8 × Int)) (s : Value) (x : World) : Prop :=
  ∃ Bo g cap, s = .pointer (some ⟨Bo, 0, none⟩) ∧ w.heap.size + 4 ≤ Bo ∧ Bo < x.heap.size ∧ w.heap.size + 4 ≤ g ∧ g < x.heap.size ∧ g ≠ Bo ∧ 15 ≤ cap ∧ cap ≤ 9223372036854775807 ∧
    x.cell? ⟨Bo, 0, none⟩ = some (.slice (some ⟨g, 0, none⟩) 15 cap) ∧ x.cell? ⟨Bo, 1, none⟩ = some (.int .i64 (at_ + 1)) ∧ RegsOwn x (w.heap.size + 4) (.slice (some ⟨g, 0, none⟩) 15 cap) vs ∧ Below w0.heap.size w0 x
theorem half_a {w0 w x1 w3 : World} {at_ : Int} {vs : List (List UInt8 × Int)} {vc : Value} {t : TypeId} {u0 u1 : Value} (hl : vs.length = 15) (hw : w0.heap.size = w.heap.size + 4) (hB : Below w0.heap.size w0 x1)
    (hown : RegsOwn w3 (x1.alloc (.cells #[u0, u1] t (0, 0))).heap.size vc vs) (hb : Below (x1.alloc (.cells #[u0, u1] t (0, 0))).heap.size (x1.alloc (.cells #[u0, u1] t (0, 0))) w3) :
    DoHalf w0 w at_ vs (.pointer (some ⟨x1.heap.size, 0, none⟩)) ((w3.setCell ⟨x1.heap.size, 0, none⟩ vc).setCell ⟨x1.heap.size, 1, none⟩ (.int .i64 (at_ + 1))) := by
  obtain ⟨g, cap, rfl, hg1, hg2, hc1, hc2⟩ := hown.form (by omega)
  have hz1 := hB.size
  have hz2 := hb.size
  rw [World.size_alloc] at hg1 hz2
  rw [hl] at hown hc1 ⊢
  have k0 : w3.cell? ⟨x1.heap.size, 0, none⟩ = some u0 := by rw [hb.cell (p := ⟨x1.heap.size, 0, none⟩) (by simp), cell_new]; rfl
  have k1 : w3.cell? ⟨x1.heap.size, 1, none⟩ = some u1 := by rw [hb.cell (p := ⟨x1.heap.size, 1, none⟩) (by simp), cell_new]; rfl
  have hs : ((w3.setCell ⟨x1.heap.size, 0, none⟩ (.slice (some ⟨g, 0, none⟩) 15 cap)).setCell ⟨x1.heap.size, 1, none⟩ (.int .i64 (at_ + 1))).heap.size = w3.heap.size := by simp [World.setCell]
  refine ⟨x1.heap.size, g, cap, rfl, by omega, by rw [hs]; omega, by omega, by rw [hs]; exact hg2, by omega, hc1, hc2, ?_, ?_, ?_, ?_⟩
  · simp [go_sem, k0]
  · simp [go_sem, k1]
  · exact ((RegsOwn.lower hown (by rw [World.size_alloc]; omega)).setOther (by simp [Value.ownBlock]; omega) _).setOther (by simp [Value.ownBlock]; omega) _
  · have h1 : Below w0.heap.size w0 w3 := hB.trans (((alloc_b x1 _).mono hz1).trans (hb.mono (by rw [World.size_alloc]; omega)))
    exact (h1.setCell (by simpa using hz1) _).setCell (by simpa using hz1) _
theorem half_b {w0 w x1 w3 : World} {at_ : Int} {vs : List (List UInt8 × Int)} {vc : Value} {t : TypeId} (hl : vs.length = 15) (hw : w0.heap.size = w.heap.size + 4) (hB : Below w0.heap.size w0 x1)
    (hown : RegsOwn w3 x1.heap.size vc vs) (hb : Below x1.heap.size x1 w3) :
    DoHalf w0 w at_ vs (.pointer (some ⟨w3.heap.size, 0, none⟩)) (w3.alloc (.cells #[vc, .int .i64 (at_ + 1)] t (0, 0))) := by
  obtain ⟨g, cap, rfl, hg1, hg2, hc1, hc2⟩ := hown.form (by omega)
  have hz1 := hB.size
  have hz2 := hb.size
  rw [hl] at hown hc1 ⊢
  refine ⟨w3.heap.size, g, cap, rfl, by omega, by simp, by omega, by simp; omega, by omega, hc1, hc2, ?_, ?_, ?_, ?_⟩
  · rw [cell_new]; rfl
  · rw [cell_new]; rfl
  · exact (RegsOwn.lower hown (by omega)).mono (alloc_b _ _)
  · exact (hB.trans (hb.mono hz1)).alloc (Nat.le_trans hz1 hz2) _
theorem DoHalf.drew {w0 w : World} {at_ : Int} {vs : List (List UInt8 × Int)} {s : Value} {x : World} (h : DoHalf w0 w at_ vs s x) : DoHalf w0 w at_ vs s x.drew := by
  obtain ⟨Bo, g, cap, h1, h2, h3, h4, h5, h6, h7, h8, h9, h10, h11, h12⟩ := h
  exact ⟨Bo, g, cap, h1, h2, h3, h4, h5, h6, h7, h8, h9, h10, h11, h12.drew⟩

end Go.Proofs.YtlpcahkchmlghaaDoor
