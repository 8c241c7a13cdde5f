/- Layer 8: openers for a slice of things and a slice of numbers, with what an append needs. -/
import Derived.Test.YtmlnibjnacfanaaGreatDoorRd
import Derived.Test.YtmlnibjnacfanaaGreatDoorJu
namespace Go.Proofs.YtmlnibjnacfanaaGreatDoor
open Go.ChangeShapes Go.WideShapes Go.ChangeAt Go.ChangeMaps Go.RowKit
section
variable {H : Type} {enc : TypeId × Value → H} {w : World} {base : Nat} {spare : Nat → Bool} {held : Bool}
set_option maxRecDepth 100000 in
theorem thing_cells {fuel : Nat} {cs : List Value} {x : DataW H × List MemPlace} (h : DataW.trod enc Tryz.prog w base spare held fuel 23 cs = some x) :
    ∃ t : Th, cs = [.int .i64 t.1, .int .i64 t.2.1, .string ⟨t.2.2.toArray⟩] ∧ t.2.2.length ≤ 9223372036854775807 := by
  obtain ⟨ys, m, rfl, rfl, hl', hlen', hg⟩ := DataW.trod_struct Tryz.underlying23 h
  rw [cTh] at hl'
  match cs, hl' with
  | [c0, c1, c2], _ =>
    match ys, hlen' with
    | [y0, y1, y2], _ =>
      have g0 := hg 0 _ rfl
      have g1 := hg 1 _ rfl
      have g2 := hg 2 _ rfl
      simp only [List.getElem_toArray, List.getElem_cons_zero, List.getElem_cons_succ, cIn, cSt, List.drop_zero, List.drop_succ_cons, List.take_succ_cons, List.take_zero, List.getElem?_cons_zero, List.getElem?_cons_succ] at g0 g1 g2
      obtain ⟨m0, d0, _, _⟩ := DataW.trod_int Tryz.underlying3 g0
      obtain ⟨m1, d1, _, _⟩ := DataW.trod_int Tryz.underlying3 g1
      obtain ⟨m2, d2, _, w2⟩ := DataW.trod_string Tryz.underlying9 g2
      simp only [List.cons.injEq, and_true] at d0 d1 d2
      subst d0 d1 d2
      unfold maxLen at w2
      exact ⟨(m0, m1, m2.data.toList), by simp, w2⟩
set_option maxRecDepth 100000 in
theorem open_things_v {r : Reach} {b0 : Nat} {v : Value} {d : DataW H} {p : List MemPlace} (hv : Value.okWide Tryz.prog w r b0 42 v) (h : DataW.Trod enc Tryz.prog w base spare held 42 v d p) (hw : ∀ n ∈ d.weights Tryz.prog 42, n ≤ reachBytes) :
    ∃ T : List Th, ThsV w v T := by
  obtain ⟨a0, len0, cap0, rfl⟩ := okWide_slice Tryz.underlying42 hv
  obtain ⟨fuel, hf⟩ := h
  rcases open_sl 3 32 Tryz.underlying42 cTh bTh hf hw with e | ⟨a, len, cap, n, e, h1, h2, h3, h4⟩
  · rw [e]
    exact ⟨[], none, 0, rfl, fun i x hx => by simp at hx, fun _ => rfl, by simp, by omega, by simp, fun x hx => by simp at hx⟩
  · have h5 : ∀ i, i < len → ∃ t : Th, a = ⟨a.block, a.off, none⟩ ∧ w.cell? (a.add (i * 3)) = some (.int .i64 t.1) ∧ w.cell? ((a.add (i * 3)).add 1) = some (.int .i64 t.2.1) ∧ w.cell? ((a.add (i * 3)).add 2) = some (.string ⟨t.2.2.toArray⟩) ∧ t.2.2.length ≤ 9223372036854775807 := by
      have h6 : ∀ i, i < len → ∃ t : Th, w.cell? (a.add (i * 3)) = some (.int .i64 t.1) ∧ w.cell? ((a.add (i * 3)).add 1) = some (.int .i64 t.2.1) ∧ w.cell? ((a.add (i * 3)).add 2) = some (.string ⟨t.2.2.toArray⟩) ∧ t.2.2.length ≤ 9223372036854775807 := by
        intro i hi
        obtain ⟨cs, y, h7, h8, _⟩ := h4 i hi
        obtain ⟨t, rfl, ht⟩ := thing_cells h8
        have k0 := cells_at h7 0 (by omega)
        have k1 := cells_at h7 1 (by omega)
        have k2 := cells_at h7 2 (by omega)
        rw [add_zero'] at k0
        exact ⟨t, k0, k1, k2, ht⟩
      intro i hi
      obtain ⟨t, hz⟩ := h6 i hi
      obtain ⟨t0, hz0, _⟩ := h6 0 (by omega)
      rw [Nat.zero_mul] at hz0
      exact ⟨t, addr_none hz0, hz⟩
    obtain ⟨T, hl, hp⟩ := list_of len h5
    subst hl
    rw [e]
    refine ⟨T, some a, cap, rfl, fun i x hx => ?_, (fun h => by cases h), h1, h2, h3, fun x hx => ?_⟩
    · obtain ⟨ha, c0, c1, c2, _⟩ := hp i x hx
      refine ⟨a.block, a.off, by rw [← ha], ?_, ?_, ?_⟩
      · rw [ha, add_none] at c0; exact c0
      · rw [ha, add_none, add_none] at c1; exact c1
      · rw [ha, add_none, add_none] at c2; exact c2
    · obtain ⟨i, hi⟩ := List.getElem?_of_mem hx
      exact (hp i x hi).2.2.2.2
set_option maxRecDepth 100000 in
theorem open_ints_w {r : Reach} {b0 : Nat} {v : Value} {d : DataW H} {p : List MemPlace} (hv : Value.okWide Tryz.prog w r b0 40 v) (h : DataW.Trod enc Tryz.prog w base spare held 40 v d p) (hw : ∀ n ∈ d.weights Tryz.prog 40, n ≤ reachBytes) :
    ∃ st : List Int, IntsV w v st := by
  obtain ⟨a0, len0, cap0, rfl⟩ := okWide_slice Tryz.underlying40 hv
  obtain ⟨fuel, hf⟩ := h
  by_cases hn : a0 = none
  · subst hn
    rcases open_sl 1 8 Tryz.underlying40 cIn bIn hf hw with e | ⟨a, len, cap, n, e, h1, h2, h3, h4⟩
    · rw [e]
      exact ⟨[], none, 0, rfl, fun i v h => by simp at h, fun _ => rfl, by simp, by omega, by simp⟩
    · cases e
  · obtain ⟨A, cap, st, e, h1, h2, h3, h4⟩ := open_ints_t hf hw
    simp only [Value.slice.injEq] at e
    obtain ⟨rfl, rfl, rfl⟩ := e
    exact ⟨st, a0, cap0, rfl, h1, fun h => absurd h hn, h2, h3, h4⟩
end
end Go.Proofs.YtmlnibjnacfanaaGreatDoor
