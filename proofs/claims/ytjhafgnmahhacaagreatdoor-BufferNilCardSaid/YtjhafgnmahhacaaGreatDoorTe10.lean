/- Layer 8: maps keyed by things. Layer 8: the program's given: things' values in a map. -/
import Derived.Test.YtjhafgnmahhacaaGreatDoorTe08
import Derived.Maps.OwnOps
import Derived.DeepKeys4
import Derived.MapViews
import Derived.Maps.Views
namespace Go.Proofs.YtjhafgnmahhacaaGreatDoor
open Go.RowKit
open Go.Maps
theorem laidOutB_prog8 : laidOutB Tryz.prog = true := by kernel_rfl
theorem row_thing : (25 : TypeId) < Tryz.prog.types.size := of_decide_eq_true (by kernel_rfl)
theorem wide_thing : (match Tryz.prog.underlying 25 with | some (.array _ _) | some (.struct _) => true | _ => false) = true := by rw [Tryz.underlying25]
set_option maxHeartbeats 2000000 in
set_option maxRecDepth 100000 in
theorem law_thing : Keyed Tryz.prog 25 := Keyed.of_law (deep_law_laid laidOutB_prog8 (m := 2) (by omega) row_thing (by kernel_rfl) wide_thing)
theorem keyType_thing : Tryz.prog.keyType 25 = true := by kernel_rfl
theorem cells_thing : Tryz.prog.cellsOf 25 = 3 := by kernel_rfl
theorem zero_int (w : World) : (zeroValue 3).run Tryz.prog w = .ok (.int .i64 0) w := by kernel_rfl
theorem formed_thing {a b c : Value} : (Value.agg #[a, b, c]).formed Tryz.prog 25 = true := by simp [Value.formed, Tryz.underlying25, cells_thing]
theorem cells_int : Tryz.prog.cellsOf 3 = 1 := by kernel_rfl
theorem cells_string : Tryz.prog.cellsOf 9 = 1 := by kernel_rfl
theorem lits_thing (d : Nat) (t r : Int) (l : List UInt8) (h1 : (Lit.int .i64 t).wf = true) (h2 : (Lit.int .i64 r).wf = true) (hl : l.length ≤ 9223372036854775807) :
    Tryz.prog.keyLits (d + 2) 25 [.int .i64 t, .int .i64 r, .string ⟨l.toArray⟩] = some [.int .i64 t, .int .i64 r, .string l] := by
  have hs : (⟨l.toArray⟩ : ByteArray).size ≤ maxLen := by rw [str_size]; unfold maxLen; omega
  simp [Program.keyLits, Tryz.underlying25, Tryz.underlying3, Tryz.underlying9, cells_thing, cells_int, cells_string, h1, h2, hs]
theorem key_thing (t r : Int) (l : List UInt8) (h1 : (Lit.int .i64 t).wf = true) (h2 : (Lit.int .i64 r).wf = true) (hl : l.length ≤ 9223372036854775807) :
    keyOf Tryz.prog 25 (thVal t r l) = some (.string (keyBytes [.int .i64 t, .int .i64 r, .string l])) := by
  have h : ∀ d, Tryz.prog.keyLits (d + 2) 25 [.int .i64 t, .int .i64 r, .string ⟨l.toArray⟩] = _ := fun d => lits_thing d t r l h1 h2 hl
  have hc : (thVal t r l).cells.toList = [.int .i64 t, .int .i64 r, .string ⟨l.toArray⟩] := rfl
  unfold keyOf
  simp only [Tryz.underlying25, keyType_thing, formed_thing]
  simp [hc, h]
def klT (x : Th) : Lit := .string (keyBytes [.int .i64 x.1, .int .i64 x.2.1, .string x.2.2])
end Go.Proofs.YtjhafgnmahhacaaGreatDoor
