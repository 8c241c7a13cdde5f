/- Layer 8: slices.Compact at things of which no two neighbours are the same. -/
import Derived.Laws.StructEq
import Derived.Test.YtmlnibjnacfanaaGreatDoorEb
namespace Go.Proofs.YtmlnibjnacfanaaGreatDoor
open Go.RowKit

theorem struct_thing : Tryz.prog.underlying 23 = some (.struct (Tryz.prog.fieldsOf 23)) := by kernel_rfl
theorem guard_thing : Tryz.prog.eqGuardType Tryz.prog.depth 23 = false := by kernel_rfl
theorem eql_thing (x y : Th) (w : World) : (binOp .eql 23 (thVal x.1 x.2.1 x.2.2) (thVal y.1 y.2.1 y.2.2)).run Tryz.prog w = .ok (.bool (decide (x = y))) w := by
  have hp : Tryz.prog.stoodInHeld 23 = false := by kernel_rfl
  have u3 := Tryz.underlying3
  have a3 := Tryz.isAgg3
  have z3 := Tryz.sizeOf3
  have u9 := Tryz.underlying9
  have a9 := Tryz.isAgg9
  have z9 := Tryz.sizeOf9
  obtain ⟨t, r, l⟩ := x
  obtain ⟨t', r', l'⟩ := y
  rw [run_eql_struct, show (10000 : Nat) = 9999 + 1 from rfl, run_equalIn_agg w 9999 23 _ _ struct_thing hp]
  simp only [Program.fieldsOf, Tryz.underlying23]
  go_simp
  by_cases h1 : t = t' <;> by_cases h2 : r = r' <;> by_cases h3 : l = l' <;> simp [h1, h2, h3]
section
variable {w : World}
set_option maxHeartbeats 2000000 in
set_option maxRecDepth 100000 in
theorem compactP_same (g cap : Nat) (T : List Th) (hlen : T.length ≤ 1000000) (hnd : ∀ i x y, T[i]? = some x → T[i + 1]? = some y → x ≠ y)
    (hc : ∀ i x, T[i]? = some x → w.cell? ⟨g, i * 3, none⟩ = some (.int .i64 x.1) ∧ w.cell? ⟨g, i * 3 + 1, none⟩ = some (.int .i64 x.2.1) ∧ w.cell? ⟨g, i * 3 + 2, none⟩ = some (.string ⟨x.2.2.toArray⟩)) :
    Calls Tryz.prog 90 #[.slice (some ⟨g, 0, none⟩) T.length cap] w fun e w' => e = .returned (.slice (some ⟨g, 0, none⟩) T.length cap) ∧ Below w.heap.size w w' := by
  have HND := Lib.hid hnd
  have HC := Lib.hid hc
  clear hnd hc
  by_cases h2 : T.length < 2
  · go_enter Tryz.func90, Tryz.ntmps90
    go_wp2_with fail
    go_ret
    exact ⟨rfl, Below.refl _ _⟩
  · have hd2 : decide (T.length < 2) = false := by simpa using h2
    go_enter Tryz.func90, Tryz.ntmps90
    go_wp2_with fail
    go_loopw [3] (fun i wr => ∃ j : Nat, 1 ≤ j ∧ j ≤ T.length ∧ i = .int .i64 j ∧ Below w.heap.size w wr) (fun i _ => T.length - (intOf i).toNat)
    case atStart => exact ⟨1, Nat.le_refl _, by omega, rfl, Below.refl _ _⟩
    case round =>
      obtain ⟨j, hj1, hj, rfl, hb⟩ := hrel
      have HB := Lib.hid hb
      clear hb
      by_cases hlt : j < T.length
      · have e1 := List.getElem?_eq_getElem hlt
        have e0 := List.getElem?_eq_getElem (show j - 1 < T.length by omega)
        obtain ⟨y, hy⟩ : ∃ y, T[j] = y := ⟨_, rfl⟩
        obtain ⟨x, hx⟩ : ∃ x, T[j - 1] = x := ⟨_, rfl⟩
        rw [hy] at e1
        rw [hx] at e0
        have hne := Lib.hid (HND.out _ _ _ e0 (by rw [show j - 1 + 1 = j by omega]; exact e1))
        obtain ⟨b0, b1, b2⟩ := HC.out _ _ e0
        obtain ⟨c0, c1, c2⟩ := HC.out _ _ e1
        have b0r := cell_go b0 HB.out
        have b1r := cell_go b1 HB.out
        have b2r := cell_go b2 HB.out
        have c0r := cell_go c0 HB.out
        have c1r := cell_go c1 HB.out
        have c2r := cell_go c2 HB.out
        have i0 : (1 : Int) ≤ (j : Int) := by omega
        have i1 : ((j : Int) - 1).toNat = j - 1 := by omega
        have i2 : (0 : Int) ≤ (j : Int) - 1 := by omega
        have i3 : (j : Int) - 1 < (T.length : Int) := by omega
        have i4 : IntKind.i64.wrap ((j : Int) - 1) = (j : Int) - 1 := IntWalk.i64_in _ (by omega)
        have hl1 : (j : Int) < (T.length : Int) := by omega
        clear e0 e1 hx hy b0 b1 b2 c0 c1 c2
        have heq : ∀ w, (binOp .eql 23 (thVal y.1 y.2.1 y.2.2) (thVal x.1 x.2.1 x.2.2)).run Tryz.prog w = .ok (.bool false) w := fun w => by rw [eql_thing, decide_eq_false (fun e => hne.out e.symm)]
        have hgd := fun (w : World) (op : BinOp) (x y : Operand) (xs ys : Array Value) => run_eqGuard_agg (P := Tryz.prog) w op 23 x y xs ys guard_thing
        go_wp2_with fail
        go_quiet (fail)
        go_wp2_with fail
        go_roundw
        case rel => exact ⟨j + 1, by omega, by omega, by go_num, below_drewN HB.out _⟩
        case measure => simp [intOf]; omega
      · go_wp2_with fail
        go_ret
        exact ⟨rfl, HB.out⟩
end
end Go.Proofs.YtmlnibjnacfanaaGreatDoor
