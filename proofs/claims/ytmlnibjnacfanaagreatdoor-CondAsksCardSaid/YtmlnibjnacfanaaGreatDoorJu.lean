/- Layer 8: a slice of things appended to an empty one; what CondAlls keeps. -/
import Derived.Test.YtmlnibjnacfanaaGreatDoorJm
import Derived.Test.YtmlnibjnacfanaaGreatDoorLt
import Derived.Test.YtmlnibjnacfanaaGreatDoorSq
import Derived.Test.YtmlnibjnacfanaaGreatDoorGa
import Derived.Test.YtmlnibjnacfanaaGreatDoorEp
namespace Go.Proofs.YtmlnibjnacfanaaGreatDoor
open Go.RowKit

/-- A slice of things that came in. -/
def ThsV (w : World) (v : Value) (T : List Th) : Prop := ∃ A cap, v = .slice A T.length cap ∧ ThsB w A T ∧ (A = none → cap = 0) ∧ T.length ≤ cap ∧ cap ≤ 9223372036854775807 ∧ T.length * 32 ≤ 140737488351232 ∧ ∀ x ∈ T, x.2.2.length ≤ 9223372036854775807
theorem ThsV.below {w w' : World} {v : Value} {T : List Th} (h : ThsV w v T) (hb : Below w.heap.size w w') : ThsV w' v T := by
  obtain ⟨A, cap, e, h1, h2⟩ := h
  exact ⟨A, cap, e, h1.below hb, h2⟩
theorem ths_src {w : World} {a : Addr} {T : List Th} (h : ThsB w (some a) T) (j : Nat) (u : Value) (hu : (thCells T)[j]? = some u) : w.cell? (a.add j) = some u := by
  have hj : j < T.length * 3 := by
    obtain ⟨h1, _⟩ := List.getElem?_eq_some_iff.1 hu
    rwa [thCells_len] at h1
  have h3 : j / 3 < T.length := by omega
  obtain ⟨x, hx⟩ : ∃ x, T[j / 3]? = some x := ⟨_, List.getElem?_eq_getElem h3⟩
  obtain ⟨b, o, e, c0, c1, c2⟩ := h _ _ hx
  simp only [Option.some.injEq] at e
  subst e
  rw [add_none']
  obtain ⟨d0, d1, d2⟩ := thCells_at' T _ x hx
  have hm : j % 3 = 0 ∨ j % 3 = 1 ∨ j % 3 = 2 := by omega
  rcases hm with m | m | m
  · rw [show j / 3 * 3 = j by omega] at c0 d0
    rw [d0] at hu
    rw [c0, hu]
  · rw [show o + j / 3 * 3 + 1 = o + j by omega] at c1
    rw [show j / 3 * 3 + 1 = j by omega] at d1
    rw [d1] at hu
    rw [c1, hu]
  · rw [show o + j / 3 * 3 + 2 = o + j by omega] at c2
    rw [show j / 3 * 3 + 2 = j by omega] at d2
    rw [d2] at hu
    rw [c2, hu]
theorem thCells_one (T : List Th) : ∀ u ∈ thCells T, u.oneCell' = true := by
  induction T with
  | nil => intro u hu; simp [thCells] at hu
  | cons x T ih =>
    intro u hu
    simp only [thCells, List.mem_append] at hu
    rcases hu with hu | hu
    · exact thCs_one x u hu
    · exact ih u hu
/-- A slice of things put behind an empty one of the call's own. -/
theorem app_ths {ops : Array Oper} {rest : List Oper} {o : Oper} {a : Act} {Q : Exit → Act → World → Prop} (V : World) (hg : o.guard = none) (s x : Operand) (hop : o.op = Op.call { callee := Callee.builtin Builtin.append, args := #[s, x], argTypes := #[42, 42] })
    (B : Nat) (T : List Th) (sv xv : Value) (hs : a.eval s = sv) (hx : a.eval x = xv) (hown : V.ownsRow B 23 3 sv 0 []) (hT : ThsV V xv T) (hB : B ≤ V.heap.size)
    (hK : ∀ v' w', w'.ownsRow B 23 3 v' T.length (thCells T) → V.grownBy w' sv.ownBlock → wpList Tryz.prog ops Q rest (a.put o.dst v') w') : wpList Tryz.prog ops Q (o :: rest) a V := by
  obtain ⟨i0, hi, hz0, hz1, hz2⟩ := info_parts infoThing
  obtain ⟨A, cap, rfl, h1, h2, h3, h4, h5, h6⟩ := hT
  rcases A with _ | ad
  · have hc := h2 rfl
    subst hc
    have hn : T.length = 0 := by omega
    have hT0 : T = [] := List.eq_nil_of_length_eq_zero hn
    subst hT0
    exact wpList_append_own_none hg s x _ hop B 23 i0 3 Tryz.underlying42 hi sv 0 [] hs hown hx (hK sv V (by simpa [thCells] using hown) ⟨rfl, rfl, rfl, Nat.le_refl _, fun _ _ _ => rfl⟩)
  · refine wpList_append_own V hg s x _ hop B 23 i0 _ 3 32 Tryz.underlying42 hi hz0 hz1 hz2 rfl (by decide) sv 0 [] hs hown ad T.length cap (thCells T) hx (thCells_len T) (ths_src h1) (thCells_one T) (by unfold maxLen; omega) (by omega) hB fun v' w' ho hgr _ => ?_
    rw [Nat.zero_add, List.nil_append] at ho
    exact hK v' w' ho hgr
end Go.Proofs.YtmlnibjnacfanaaGreatDoor
