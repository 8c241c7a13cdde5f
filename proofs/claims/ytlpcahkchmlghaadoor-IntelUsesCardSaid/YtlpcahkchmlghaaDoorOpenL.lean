/- A thread that comes in, opened. -/
import Derived.Test.YtlpcahkchmlghaaDoorOpen
import Derived.Test.YtlpcahkchmlghaaDoorKl
import Derived.SizedLaws
namespace Go.Proofs.YtlpcahkchmlghaaDoor
open Go.Joins Go.ChangeShapes Go.WideShapes Go.RowKit Go.Deep

theorem list_of {X : Type} {Q : Nat → X → Prop} : ∀ n, (∀ i, i < n → ∃ x, Q i x) → ∃ l : List X, l.length = n ∧ ∀ i (h : i < l.length), Q i l[i]
  | 0, _ => ⟨[], rfl, fun i h => by simp at h⟩
  | n + 1, h => by
    obtain ⟨l, h1, h2⟩ := list_of n (fun i hi => h i (by omega))
    obtain ⟨x, hx⟩ := h n (by omega)
    refine ⟨l ++ [x], by simp [h1], fun i hi => ?_⟩
    by_cases e : i < l.length
    · rw [List.getElem_append_left e]; exact h2 i e
    · simp only [List.length_append, List.length_singleton] at hi
      obtain rfl : i = n := by omega
      rw [List.getElem_append_right (by omega)]
      simpa [h1] using hx
theorem weights_each_mem {H : Type} {P : Program} : ∀ {ts : List TypeId} {ds : List (DataW H)} {j : Nat} {t : TypeId} {d : DataW H}, ts[j]? = some t → ds[j]? = some d → ∀ n ∈ d.weights P t, n ∈ DataW.weightsEach P ts ds
  | t :: ts, d :: ds, 0, _, _, h1, h2, n, hn => by
    simp at h1 h2; subst h1 h2
    rw [DataW.weightsEach]; exact List.mem_append_left _ hn
  | t :: ts, d :: ds, j + 1, _, _, h1, h2, n, hn => by
    rw [DataW.weightsEach]; exact List.mem_append_right _ (weights_each_mem (j := j) (by simpa using h1) (by simpa using h2) n hn)
section
variable {H : Type} {enc : TypeId × Value → H} {w : World} {base : Nat} {spare : Nat → Bool} {held : Bool}
theorem cVal : Tryd.prog.cellsOf 55 = 2 := by kernel_rfl
theorem bVal : Tryd.prog.bytesOf 55 = 24 := by kernel_rfl
theorem cLocal : Tryd.prog.cellsOf 47 = 2 := by kernel_rfl
theorem addr_none {a : Addr} {u : Value} (h : w.cell? (a.add 0) = some u) : a = ⟨a.block, a.off, none⟩ := by
  obtain ⟨b, o, s⟩ := a
  cases s with
  | none => rfl
  | some s =>
    exfalso
    have e : (⟨b, o, some s⟩ : Addr).add 0 = ⟨b, o, some s⟩ := rfl
    rw [e] at h
    unfold World.cell? at h
    split at h <;> simp at h
theorem add_none (b o j : Nat) : (⟨b, o, none⟩ : Addr).add j = ⟨b, o + j, none⟩ := by
  unfold Addr.add
  split
  · rename_i h; subst h; rfl
  · rfl
set_option maxRecDepth 100000 in
/-- Registers that came in. -/
theorem open_regs {fuel : Nat} {c : Value} {x : DataW H × List MemPlace} (hsp : ∀ b, spare b = true) (h : DataW.trod enc Tryd.prog w base spare held fuel 45 [c] = some x) (hw : ∀ n ∈ x.1.weights Tryd.prog 45, n ≤ reachBytes) :
    ∃ vs, ArgAt w c vs := by
  rcases Go.Deep.open_slice Tryd.underlying45 h with ⟨hc, _⟩ | ⟨a, len, cap, m, n, D, Pl, hcs, hb, hl, hm, hmm, hx, hi⟩
  · simp only [List.cons.injEq, and_true] at hc
    exact ⟨[], fun j hj => by simp at hj, .inl ⟨hc, rfl⟩⟩
  · simp only [List.cons.injEq, and_true] at hcs
    subst hcs
    rw [hsp, if_pos rfl] at hmm
    subst hmm
    have hwt : m * 24 ≤ 140737488351232 := by
      have := hw ((((List.range len).map D).length + ((List.range (m - len)).map fun j => D (len + j)).length) * Tryd.prog.bytesOf 55) (by rw [hx]; simp [DataW.weights, Tryd.underlying45])
      rw [bVal] at this
      simp only [List.length_map, List.length_range, reachBytes] at this
      omega
    have helt : ∀ i, i < len → ∃ y : List UInt8 × Int, w.cell? (a.add (i * 2)) = some (.string ⟨y.1.toArray⟩) ∧ w.cell? (a.add (i * 2 + 1)) = some (.int .i64 y.2) ∧ y.1.length ≤ 9223372036854775807 := by
      rcases open_slice_fields Tryd.underlying45 Tryd.underlying55 (by kernel_rfl) cVal h with h0 | ⟨a', len', cap', m', hcs', _, hl', _, hm', hi'⟩
      · simp at h0
      · simp only [List.cons.injEq, Value.slice.injEq, Option.some.injEq, and_true] at hcs'
        obtain ⟨rfl, rfl, rfl⟩ := hcs'
        rw [hsp, if_pos rfl] at hm'
        subst hm'
        intro i hil
        obtain ⟨n', ys, _, hf⟩ := hi' i (by omega)
        obtain ⟨v0, y0, c0, f0⟩ := hf 0 _ rfl
        obtain ⟨v1, y1, c1, f1⟩ := hf 1 _ rfl
        obtain ⟨s, e1, _, w1⟩ := DataW.trod_string Tryd.underlying9 f0
        obtain ⟨z, e2, _, _⟩ := DataW.trod_int Tryd.underlying3 f1
        simp only [List.cons.injEq, and_true] at e1 e2
        subst e1 e2
        unfold maxLen at w1
        exact ⟨(s.data.toList, z), by rw [str_eta]; exact c0, c1, by rw [str_len]; exact w1⟩
    obtain ⟨vs, hv1, hv2⟩ := list_of len helt
    refine ⟨vs, fun j hj => (hv2 j hj).2.2, .inr ⟨a, m, by rw [hv1], by omega, hwt, fun hp => ?_⟩⟩
    have ha := addr_none (hv2 0 hp).1
    have hbl := World.block_lt_of_cell? w _ (hv2 0 hp).1
    rw [add_blk] at hbl
    refine ⟨a.block, a.off, ha, hbl, fun j hj => ?_⟩
    have h1 := (hv2 j hj).1
    have h2 := (hv2 j hj).2.1
    rw [ha, add_none] at h1 h2
    exact ⟨h1, by rw [Nat.add_assoc]; exact h2⟩
set_option maxRecDepth 100000 in
theorem open_local {r : Reach} {b0 : Nat} {v : Value} {d : DataW H} {p : List MemPlace} (hsp : ∀ b, spare b = true) (hv : Value.okWide Tryd.prog w r b0 47 v) (h : DataW.Trod enc Tryd.prog w base spare held 47 v d p) (hw : ∀ n ∈ d.weights Tryd.prog 47, n ≤ reachBytes) :
    ∃ (u : Value) (at_ : Int) (vs : List (List UInt8 × Int)), v = locV u at_ ∧ ArgAt w u vs := by
  obtain ⟨v0, v1, y0, y1, n, rfl, hd, _, h0, h1⟩ := open_agg2 Tryd.underlying47 (by kernel_rfl) cLocal hv h
  obtain ⟨z, e1, _, _⟩ := DataW.trod_int Tryd.underlying3 h1
  simp only [List.cons.injEq, and_true] at e1
  subst e1
  obtain ⟨vs, ha⟩ := open_regs hsp h0 (fun k hk => hw k (by
    rw [hd]
    simp only [DataW.weights, Tryd.underlying47]
    exact weights_each_mem (j := 0) rfl rfl k hk))
  exact ⟨v0, z, vs, rfl, ha⟩
end
end Go.Proofs.YtlpcahkchmlghaaDoor
