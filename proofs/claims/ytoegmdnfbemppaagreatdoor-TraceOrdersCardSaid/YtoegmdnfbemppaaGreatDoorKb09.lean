/- Layer 8: maps keyed by things. Layer 8: the program's given: things' values in a map. -/
import Derived.Test.YtoegmdnfbemppaaGreatDoorKb08
import Derived.Maps.OwnOps
import Derived.DeepKeys4
import Derived.MapViews
import Derived.Maps.Views
namespace Go.Proofs.YtoegmdnfbemppaaGreatDoor
open Go.RowKit
open Go.Maps

theorem laidOutB_prog8 : laidOutB Tryz.prog = true := by kernel_rfl
theorem row_thing : (25 : TypeId) < Tryz.prog.types.size := of_decide_eq_true (by kernel_rfl)
theorem wide_thing : (match Tryz.prog.underlying 25 with | some (.array _ _) | some (.struct _) => true | _ => false) = true := by rw [Tryz.underlying25]
set_option maxHeartbeats 2000000 in
set_option maxRecDepth 100000 in
theorem law_thing : Keyed Tryz.prog 25 := Keyed.of_law (deep_law_laid laidOutB_prog8 (m := 2) (by omega) row_thing (by kernel_rfl) wide_thing)
theorem keyType_thing : Tryz.prog.keyType 25 = true := by kernel_rfl
theorem cells_thing : Tryz.prog.cellsOf 25 = 3 := by kernel_rfl
theorem zero_int (w : World) : (zeroValue 3).run Tryz.prog w = .ok (.int .i64 0) w := by kernel_rfl
theorem formed_thing {a b c : Value} : (Value.agg #[a, b, c]).formed Tryz.prog 25 = true := by simp [Value.formed, Tryz.underlying25, cells_thing]
theorem cells_int : Tryz.prog.cellsOf 3 = 1 := by kernel_rfl
theorem cells_string : Tryz.prog.cellsOf 9 = 1 := by kernel_rfl
theorem lits_thing (d : Nat) (t r : Int) (l : List UInt8) (h1 : (Lit.int .i64 t).wf = true) (h2 : (Lit.int .i64 r).wf = true) (hl : l.length ≤ 9223372036854775807) :
    Tryz.prog.keyLits (d + 2) 25 [.int .i64 t, .int .i64 r, .string ⟨l.toArray⟩] = some [.int .i64 t, .int .i64 r, .string l] := by
  have hs : (⟨l.toArray⟩ : ByteArray).size ≤ maxLen := by rw [str_size]; unfold maxLen; omega
  simp [Program.keyLits, Tryz.underlying25, Tryz.underlying3, Tryz.underlying9, cells_thing, cells_int, cells_string, h1, h2, hs]
theorem key_thing (t r : Int) (l : List UInt8) (h1 : (Lit.int .i64 t).wf = true) (h2 : (Lit.int .i64 r).wf = true) (hl : l.length ≤ 9223372036854775807) :
    keyOf Tryz.prog 25 (thVal t r l) = some (.string (keyBytes [.int .i64 t, .int .i64 r, .string l])) := by
  have h : ∀ d, Tryz.prog.keyLits (d + 2) 25 [.int .i64 t, .int .i64 r, .string ⟨l.toArray⟩] = _ := fun d => lits_thing d t r l h1 h2 hl
  have hc : (thVal t r l).cells.toList = [.int .i64 t, .int .i64 r, .string ⟨l.toArray⟩] := rfl
  unfold keyOf
  simp only [Tryz.underlying25, keyType_thing, formed_thing]
  simp [hc, h]

def klT (x : Th) : Lit := .string (keyBytes [.int .i64 x.1, .int .i64 x.2.1, .string x.2.2])
def okT (x : Th) : Prop := -1000 ≤ x.1 ∧ x.1 ≤ 1000 ∧ -1000 ≤ x.2.1 ∧ x.2.1 ≤ 1000 ∧ x.2.2.length ≤ 262144
theorem key_ok {x : Th} (h : okT x) : keyOf Tryz.prog 25 (thVal x.1 x.2.1 x.2.2) = some (klT x) :=
  key_thing _ _ _ (WalkArith.wf_i64 (by have := h.1; have := h.2.1; omega)) (WalkArith.wf_i64 (by have := h.2.2.1; have := h.2.2.2.1; omega)) (by have := h.2.2.2.2; omega)
theorem klT_inj {x y : Th} (hx : okT x) (hy : okT y) (h : klT x = klT y) : x = y := by
  have h1 := key_ok hx
  have h2 := key_ok hy
  rw [h] at h1
  have := law_thing.inj h1 h2
  obtain ⟨a, b, c⟩ := x
  obtain ⟨a', b', c'⟩ := y
  simp only [Value.agg.injEq, Array.mk.injEq, List.cons.injEq, Value.int.injEq, Value.string.injEq, true_and, and_true, ByteArray.mk.injEq] at this
  obtain ⟨rfl, rfl, h3⟩ := this
  first | subst h3 | (simp at h3; subst h3)
  rfl
def upd (f : Th → Int) (x : Th) (v : Int) : Th → Int := fun y => if y = x then v else f y
/-- Block b is a map of things that tells f. -/
def MapIs (w : World) (b n : Nat) (f : Th → Int) : Prop := ∃ D : DataW Unit, w.ownsMap Tryz.prog 25 (plainElem Tryz.prog 3) b n D ∧ IsMap D ∧ ∀ x, okT x → D.atKey (klT x) (.lit (.int .i64 0)) = .lit (.int .i64 (f x))
theorem MapIs.made (w : World) : MapIs (w.alloc (.map #[] 0)) w.heap.size 0 (fun _ => 0) :=
  ⟨.map [], World.ownsMap_made _ _ _ _, isMap_empty, fun x _ => WideAt.atKey_none _ (fun p hp => by cases hp)⟩
theorem MapIs.put {D : DataW Unit} {f : Th → Int} {x : Th} {v : Int} (hx : okT x) (hD : IsMap D) (h : ∀ y, okT y → D.atKey (klT y) (.lit (.int .i64 0)) = .lit (.int .i64 (f y))) :
    IsMap (D.put (klT x) (.lit (.int .i64 v))) ∧ ∀ y, okT y → (D.put (klT x) (.lit (.int .i64 v))).atKey (klT y) (.lit (.int .i64 0)) = .lit (.int .i64 (upd f x v y)) := by
  refine ⟨hD.put _ _, fun y hy => ?_⟩
  by_cases e : y = x
  · subst e
    rw [atKey_put_same hD (show WideAt.IsKeyLit (klT y) from trivial)]
    simp [upd]
  · rw [atKey_put_other (fun e2 => e (klT_inj hy hx e2)), h y hy]
    simp [upd, e]
end Go.Proofs.YtoegmdnfbemppaaGreatDoor
