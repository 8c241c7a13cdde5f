/- An argument of the type Other, opened. -/
import Derived.Test.YtlpcahkchmlghaaDoorOpen
namespace Go.Proofs.YtlpcahkchmlghaaDoor
open Go.ChangeShapes Go.WideShapes Go.RowKit
section
variable {H : Type} {enc : TypeId × Value → H} {w : World} {base : Nat} {spare : Nat → Bool} {held : Bool}
theorem cOther : Tryd.prog.cellsOf 58 = 3 := by kernel_rfl
theorem cValO : Tryd.prog.cellsOf 55 = 2 := by kernel_rfl
theorem cIntO : Tryd.prog.cellsOf 3 = 1 := by kernel_rfl
theorem cStrO : Tryd.prog.cellsOf 9 = 1 := by kernel_rfl
set_option maxRecDepth 100000 in
theorem open_other {r : Reach} {b0 : Nat} {v : Value} {d : DataW H} {p : List MemPlace} (hv : Value.okWide Tryd.prog w r b0 58 v) (h : DataW.Trod enc Tryd.prog w base spare held 58 v d p) :
    ∃ (reg : Int) (L : List UInt8) (n : Int), v = .agg #[.int .i64 reg, .string ⟨L.toArray⟩, .int .i64 n] ∧ L.length ≤ 9223372036854775807 := by
  obtain ⟨cs, rfl, hsz⟩ := okWide_struct Tryd.underlying58 hv
  obtain ⟨l⟩ := cs
  match l, hsz.trans cOther with
  | [c0, c1, c2], _ =>
    obtain ⟨fuel, hf⟩ := h
    obtain ⟨xs, n, _, hx, _, hlen, hg⟩ := DataW.trod_struct Tryd.underlying58 hf
    match xs, hlen with
    | [y0, y1], _ =>
      have g0 : DataW.trod enc Tryd.prog w base spare held n 3 [c0] = some y0 := by simpa [Value.cells, cIntO] using hg 0 _ rfl
      have g1 : DataW.trod enc Tryd.prog w base spare held n 55 [c1, c2] = some y1 := by simpa [Value.cells, cValO] using hg 1 _ rfl
      obtain ⟨z0, e0, _, _⟩ := DataW.trod_int Tryd.underlying3 g0
      obtain ⟨xs1, n1, _, hx1, _, hlen1, hg1⟩ := DataW.trod_struct Tryd.underlying55 g1
      match xs1, hlen1 with
      | [u0, u1], _ =>
        have k0 : DataW.trod enc Tryd.prog w base spare held n1 9 [c1] = some u0 := by simpa [cStrO] using hg1 0 _ rfl
        have k1 : DataW.trod enc Tryd.prog w base spare held n1 3 [c2] = some u1 := by simpa [cIntO] using hg1 1 _ rfl
        obtain ⟨s, e1, _, ws⟩ := DataW.trod_string Tryd.underlying9 k0
        obtain ⟨z1, e2, _, _⟩ := DataW.trod_int Tryd.underlying3 k1
        simp only [List.cons.injEq, and_true] at e0 e1 e2
        subst e0 e1 e2
        exact ⟨z0, s.data.toList, z1, by rw [str_eta], by have : s.data.toList.length = s.size := rfl; unfold maxLen at ws; omega⟩
end
end Go.Proofs.YtlpcahkchmlghaaDoor
