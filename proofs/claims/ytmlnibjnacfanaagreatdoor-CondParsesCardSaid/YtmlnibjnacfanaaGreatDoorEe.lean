/- Layer 8: maps keyed by things. Layer 8: the program's given: things' values in a map. -/
import Derived.Maps.OwnOps
import Derived.DeepKeys4
import Derived.MapViews
import Derived.Test.YtmlnibjnacfanaaGreatDoorEi
import Derived.Maps.Views
namespace Go.Proofs.YtmlnibjnacfanaaGreatDoor
open Go.RowKit
open Go.Maps

theorem laidOutB_prog8 : laidOutB Tryz.prog = true := by kernel_rfl
theorem row_thing : (23 : TypeId) < Tryz.prog.types.size := of_decide_eq_true (by kernel_rfl)
theorem wide_thing : (match Tryz.prog.underlying 23 with | some (.array _ _) | some (.struct _) => true | _ => false) = true := by rw [Tryz.underlying23]
set_option maxHeartbeats 2000000 in
set_option maxRecDepth 100000 in
theorem law_thing : Keyed Tryz.prog 23 := Keyed.of_law (deep_law_laid laidOutB_prog8 (m := 2) (by omega) row_thing (by kernel_rfl) wide_thing)
theorem keyType_thing : Tryz.prog.keyType 23 = true := by kernel_rfl
theorem cells_thing : Tryz.prog.cellsOf 23 = 3 := by kernel_rfl
theorem zero_int (w : World) : (zeroValue 3).run Tryz.prog w = .ok (.int .i64 0) w := by kernel_rfl
theorem formed_thing {a b c : Value} : (Value.agg #[a, b, c]).formed Tryz.prog 23 = true := by simp [Value.formed, Tryz.underlying23, cells_thing]
theorem cells_int : Tryz.prog.cellsOf 3 = 1 := by kernel_rfl
theorem cells_string : Tryz.prog.cellsOf 9 = 1 := by kernel_rfl
theorem lits_thing (d : Nat) (t r : Int) (l : List UInt8) (h1 : (Lit.int .i64 t).wf = true) (h2 : (Lit.int .i64 r).wf = true) (hl : l.length ≤ 9223372036854775807) :
    Tryz.prog.keyLits (d + 2) 23 [.int .i64 t, .int .i64 r, .string ⟨l.toArray⟩] = some [.int .i64 t, .int .i64 r, .string l] := by
  have hs : (⟨l.toArray⟩ : ByteArray).size ≤ maxLen := by rw [str_size]; unfold maxLen; omega
  simp [Program.keyLits, Tryz.underlying23, Tryz.underlying3, Tryz.underlying9, cells_thing, cells_int, cells_string, h1, h2, hs]
theorem key_thing (t r : Int) (l : List UInt8) (h1 : (Lit.int .i64 t).wf = true) (h2 : (Lit.int .i64 r).wf = true) (hl : l.length ≤ 9223372036854775807) :
    keyOf Tryz.prog 23 (thVal t r l) = some (.string (keyBytes [.int .i64 t, .int .i64 r, .string l])) := by
  have h : Tryz.prog.keyLits 211 23 [.int .i64 t, .int .i64 r, .string ⟨l.toArray⟩] = _ := lits_thing 209 t r l h1 h2 hl
  have hc : (thVal t r l).cells.toList = [.int .i64 t, .int .i64 r, .string ⟨l.toArray⟩] := rfl
  unfold keyOf
  simp only [Tryz.underlying23, keyType_thing, formed_thing]
  simp [hc, h]

def klT (x : Th) : Lit := .string (keyBytes [.int .i64 x.1, .int .i64 x.2.1, .string x.2.2])
def okT (x : Th) : Prop := -1000 ≤ x.1 ∧ x.1 ≤ 1000 ∧ -1000 ≤ x.2.1 ∧ x.2.1 ≤ 1000 ∧ x.2.2.length ≤ 262144
theorem key_ok {x : Th} (h : okT x) : keyOf Tryz.prog 23 (thVal x.1 x.2.1 x.2.2) = some (klT x) :=
  key_thing _ _ _ (WalkArith.wf_i64 (by have := h.1; have := h.2.1; omega)) (WalkArith.wf_i64 (by have := h.2.2.1; have := h.2.2.2.1; omega)) (by have := h.2.2.2.2; omega)
theorem klT_inj {x y : Th} (hx : okT x) (hy : okT y) (h : klT x = klT y) : x = y := by
  have h1 := key_ok hx
  have h2 := key_ok hy
  rw [h] at h1
  have := law_thing.inj h1 h2
  obtain ⟨a, b, c⟩ := x
  obtain ⟨a', b', c'⟩ := y
  simp only [Value.agg.injEq, Array.mk.injEq, List.cons.injEq, Value.int.injEq, Value.string.injEq, true_and, and_true, ByteArray.mk.injEq] at this
  obtain ⟨rfl, rfl, h3⟩ := this
  first | subst h3 | (simp at h3; subst h3)
  rfl
def upd (f : Th → Int) (x : Th) (v : Int) : Th → Int := fun y => if y = x then v else f y
def valG : List Th → List Int → (Th → Int) → Th → Int
  | x :: r, v :: s, f => valG r s (upd f x v)
  | _, _, f => f
/-- Block b is a map of things that tells f. -/
def MapIs (w : World) (b n : Nat) (f : Th → Int) : Prop := ∃ D : DataW Unit, w.ownsMap Tryz.prog 23 (plainElem Tryz.prog 3) b n D ∧ IsMap D ∧ ∀ x, okT x → D.atKey (klT x) (.lit (.int .i64 0)) = .lit (.int .i64 (f x))
theorem MapIs.made (w : World) : MapIs (w.alloc (.map #[] 0)) w.heap.size 0 (fun _ => 0) :=
  ⟨.map [], World.ownsMap_made _ _ _ _, isMap_empty, fun x _ => WideAt.atKey_none _ (fun p hp => by cases hp)⟩
theorem MapIs.put {D : DataW Unit} {f : Th → Int} {x : Th} {v : Int} (hx : okT x) (hD : IsMap D) (h : ∀ y, okT y → D.atKey (klT y) (.lit (.int .i64 0)) = .lit (.int .i64 (f y))) :
    IsMap (D.put (klT x) (.lit (.int .i64 v))) ∧ ∀ y, okT y → (D.put (klT x) (.lit (.int .i64 v))).atKey (klT y) (.lit (.int .i64 0)) = .lit (.int .i64 (upd f x v y)) := by
  refine ⟨hD.put _ _, fun y hy => ?_⟩
  by_cases e : y = x
  · subst e
    rw [atKey_put_same hD (show WideAt.IsKeyLit (klT y) from trivial)]
    simp [upd]
  · rw [atKey_put_other (fun e2 => e (klT_inj hy hx e2)), h y hy]
    simp [upd, e]
theorem valG_step {ths : List Th} {st : List Int} {i : Nat} {x : Th} {v : Int} (hx : ths[i]? = some x) (hv : st[i]? = some v) (f : Th → Int) : valG (ths.drop i) (st.drop i) f = valG (ths.drop (i + 1)) (st.drop (i + 1)) (upd f x v) := by
  obtain ⟨h1, rfl⟩ := List.getElem?_eq_some_iff.1 hx
  obtain ⟨h2, rfl⟩ := List.getElem?_eq_some_iff.1 hv
  rw [List.drop_eq_getElem_cons h1, List.drop_eq_getElem_cons h2]
  rfl
theorem valG_end {ths : List Th} {st : List Int} {i : Nat} (h : ths.length ≤ i) (f : Th → Int) : valG (ths.drop i) (st.drop i) f = f := by
  rw [List.drop_of_length_le h]; rfl
theorem ownsMap_al {H : Type} {w : World} {P : Program} {k : TypeId} {R : Value → Option (DataW H × List MemPlace)} {b n : Nat} {D : DataW H} (h : w.ownsMap P k R b n D) (o : Obj) : (w.alloc o).drew.ownsMap P k R b n D := by
  obtain ⟨es, clock, hb, F⟩ := h
  have hlt : b < w.heap.size := (Array.getElem?_eq_some_iff.1 hb).1
  exact ⟨es, clock, (Below.heap_alloc w o b hlt).trans hb, F⟩
def GivPost (ths : List Th) (st : List Int) (w : World) (e : Ending) (w' : World) : Prop := ∃ b, e = .returned (.map (some b)) ∧ w.heap.size ≤ b ∧ MapIs w' b ths.length (valG ths st (fun _ => 0)) ∧ Below w.heap.size w w'
set_option maxHeartbeats 2000000 in
set_option maxRecDepth 100000 in
theorem givenP (ths : List Th) (st : List Int) (A A2 : Option Addr) (cA c2 : Nat) (w : World) (hlen : ths.length ≤ 1000000) (hls : st.length = ths.length) (hok : ∀ x ∈ ths, okT x) (hnb : ∀ v ∈ st, numB v = true)
    (hA : ∀ i x, ths[i]? = some x → ∃ g, A = some ⟨g, 0, none⟩ ∧ w.cell? ⟨g, i * 3, none⟩ = some (.int .i64 x.1) ∧ w.cell? ⟨g, i * 3 + 1, none⟩ = some (.int .i64 x.2.1) ∧ w.cell? ⟨g, i * 3 + 2, none⟩ = some (.string ⟨x.2.2.toArray⟩))
    (hS : ∀ i v, st[i]? = some v → ∃ b o, A2 = some ⟨b, o, none⟩ ∧ w.cell? ⟨b, o + i, none⟩ = some (.int .i64 v)) :
    Calls Tryz.prog 58 #[.slice A ths.length cA, .slice A2 st.length c2] w (GivPost ths st w) := by
  have HA := Lib.hid hA
  have HS := Lib.hid hS
  have HOK := Lib.hid hok
  have HNB := Lib.hid hnb
  have hmm := @run_makeMap Tryz.prog
  rw [hls]
  clear hA hS hok hnb
  have HLS := Lib.hid hls
  clear hls
  go_enter Tryz.func58, Tryz.ntmps58
  go_wp2_with fail
  go_loopw [11] (fun i wr => ∃ (k : Nat) (f : Th → Int), k ≤ ths.length ∧ i = .int .i64 k ∧ MapIs wr w.heap.size k f ∧ valG ths st (fun _ => 0) = valG (ths.drop k) (st.drop k) f ∧ Below w.heap.size w wr) (fun i _ => ths.length - (intOf i).toNat)
  case atStart => exact ⟨0, fun _ => 0, Nat.zero_le _, rfl, MapIs.made w, rfl, (Below.refl _ _).alloc (Nat.le_refl _) _⟩
  case round =>
    obtain ⟨k, f, hk, rfl, hmap, hval, hb⟩ := hrel
    have HM := Lib.hid hmap
    have HV := Lib.hid hval
    have HB := Lib.hid hb
    have hbs := hb.size
    clear hmap hval hb
    by_cases hlt : k < ths.length
    · have ex := List.getElem?_eq_getElem hlt
      have hlt2 : k < st.length := by rw [HLS.out]; exact hlt
      have ev := List.getElem?_eq_getElem hlt2
      obtain ⟨g, rfl, c0, c1, c2'⟩ := HA.out _ _ ex
      obtain ⟨b2, o2, rfl, d0⟩ := HS.out _ _ ev
      have hokx := HOK.out _ (List.getElem_mem hlt)
      have hnv := numB_iff (HNB.out _ (List.getElem_mem hlt2))
      obtain ⟨x, hx⟩ : ∃ x, ths[k] = x := ⟨_, rfl⟩
      obtain ⟨v, hv⟩ : ∃ v, st[k] = v := ⟨_, rfl⟩
      rw [hx] at ex c0 c1 c2' hokx
      rw [hv] at ev d0 hnv
      have HST := Lib.hid (HV.out.trans (valG_step ex ev f))
      have c0r := cell_go' c0 HB.out (World.block_lt_of_cell? w _ c0)
      have c1r := cell_go' c1 HB.out (World.block_lt_of_cell? w _ c1)
      have c2r := cell_go' c2' HB.out (World.block_lt_of_cell? w _ c2')
      have d0r := cell_go' d0 HB.out (World.block_lt_of_cell? w _ d0)
      have hg := World.block_lt_of_cell? w _ c0
      have hb2 := World.block_lt_of_cell? w _ d0
      have HOX := Lib.hid hokx
      obtain ⟨D, hown, hD, hat⟩ := HM.out
      have HOWN := Lib.hid hown
      have HP := Lib.hid (MapIs.put (v := v) hokx hD hat)
      have hkl : (k : Int) < (ths.length : Int) := by omega
      have hkl2 : (k : Int) < (st.length : Int) := by omega
      clear hx hv ex ev c0 c1 c2' d0 hokx hown hD hat
      go_wp2_with fail
      have HOW2 := Lib.hid (ownsMap_al HOWN.out (.cells #[.int .i64 x.1, .int .i64 x.2.1, .string ⟨x.2.2.toArray⟩] 23 (0, 0)))
      have d1 := cell_dr (cell_al d0r (.cells #[.int .i64 x.1, .int .i64 x.2.1, .string ⟨x.2.2.toArray⟩] 23 (0, 0)))
      refine still_tail 6 (by kernel_rfl) (by kernel_rfl) ?_
      simp only [List.take_succ_cons, List.take_zero, List.drop_succ_cons, List.drop_zero]
      repeat still_step
      refine wpStill_nil ?_
      go_wp2_with (at_mapUpdate; refine wpList_mapUpdate_own _ rfl _ _ _ 104 rfl 23 3 law_thing Tryz.underlying104 (plainElem Tryz.prog 3) w.heap.size k D rfl HOW2.out (by unfold maxLen; omega) _ _ (klT x) rfl rfl (key_ok HOX.out) (.lit (.int .i64 v)) [] (plainElem_int Tryz.underlying3 (WalkArith.wf_i64 (by omega))) ?_)
      intro w1 hown1 hgrow1
      have HB1 := Lib.hid (((below_alloc HB.out (.cells #[.int .i64 x.1, .int .i64 x.2.1, .string ⟨x.2.2.toArray⟩] 23 (0, 0))).drew).grown hgrow1 (by simp; omega) (fun j hj => by cases hj; exact Nat.le_refl _))
      have HN1 : Hid (MapIs w1 w.heap.size (k + 1) (upd f x v)) := Lib.hid ⟨_, hown1, HP.out.1, HP.out.2⟩
      clear hown1 hgrow1
      go_wp2
      go_roundw
      case rel => exact ⟨k + 1, upd f x v, by omega, by go_num, HN1.out, HST.out, HB1.out⟩
      case measure => simp [intOf]; omega
    · have HE := Lib.hid (HV.out.trans (valG_end (by omega) f))
      go_wp2_with fail
      go_ret
      have hke : k = ths.length := by omega
      subst hke
      exact ⟨w.heap.size, rfl, Nat.le_refl _, by rw [HE.out]; exact HM.out, HB.out⟩
end Go.Proofs.YtmlnibjnacfanaaGreatDoor
