/- Layer 8: a condition that comes in, opened. Slices that come in, opened: ints, slices of ints, things. -/
import Derived.Test.YtmlnibjnacfanaaGreatDoorPost
import Derived.Deep.Slices
import Derived.Deep.Fields
import Derived.SizedLaws
import Derived.Test.YtmlnibjnacfanaaGreatDoorCe
import Derived.Test.YtmlnibjnacfanaaGreatDoorRb
import Derived.Test.YtmlnibjnacfanaaGreatDoorJb
import Derived.Test.YtmlnibjnacfanaaGreatDoorHf
namespace Go.Proofs.YtmlnibjnacfanaaGreatDoor
open Go.RowKit
open Go.ChangeShapes Go.WideShapes Go.ChangeAt

section
variable {H : Type} {enc : TypeId × Value → H} {w : World} {base : Nat} {spare : Nat → Bool} {held : Bool}
theorem weights_each_mem {P : Program} : ∀ {ts : List TypeId} {ds : List (DataW H)} {j : Nat} {t : TypeId} {d : DataW H}, ts[j]? = some t → ds[j]? = some d → ∀ n ∈ d.weights P t, n ∈ DataW.weightsEach P ts ds
  | t :: ts, d :: ds, 0, _, _, h1, h2, n, hn => by
    simp at h1 h2; subst h1 h2
    rw [DataW.weightsEach]; exact List.mem_append_left _ hn
  | t :: ts, d :: ds, j + 1, _, _, h1, h2, n, hn => by
    rw [DataW.weightsEach]; exact List.mem_append_right _ (weights_each_mem (j := j) (by simpa using h1) (by simpa using h2) n hn)
theorem weights_all_mem {P : Program} {e : TypeId} : ∀ {ds : List (DataW H)} {d : DataW H}, d ∈ ds → ∀ n ∈ d.weights P e, n ∈ DataW.weightsAll P e ds
  | x :: ds, d, hd, n, hn => by
    rw [DataW.weightsAll]
    rcases List.mem_cons.1 hd with rfl | hd
    · exact List.mem_append_left _ hn
    · exact List.mem_append_right _ (weights_all_mem hd n hn)
theorem addr_none {a : Addr} {u : Value} (h : w.cell? (a.add 0) = some u) : a = ⟨a.block, a.off, none⟩ := by
  obtain ⟨b, o, s⟩ := a
  cases s with
  | none => rfl
  | some s =>
    exfalso
    have e : (⟨b, o, some s⟩ : Addr).add 0 = ⟨b, o, some s⟩ := rfl
    rw [e] at h
    unfold World.cell? at h
    split at h <;> simp at h
theorem add_none (b o j : Nat) : (⟨b, o, none⟩ : Addr).add j = ⟨b, o + j, none⟩ := by
  unfold Addr.add
  split
  · rename_i h; subst h; rfl
  · rfl
theorem cells_at {a : Addr} {n : Nat} {cs : List Value} (h : w.cells? base a n = some cs) (i : Nat) (hi : i < n) : w.cell? (a.add i) = cs[i]? := by
  unfold World.cells? at h
  split at h
  · obtain ⟨b, hb, hf⟩ := Lib.mapM_at h i i (by simp [hi])
    rw [hb]; exact hf
  · cases h
theorem cTh : Tryz.prog.cellsOf 23 = 3 := by kernel_rfl
theorem cNd : Tryz.prog.cellsOf 26 = 6 := by kernel_rfl
theorem cIn : Tryz.prog.cellsOf 3 = 1 := by kernel_rfl
theorem cSt : Tryz.prog.cellsOf 9 = 1 := by kernel_rfl
theorem cSl : Tryz.prog.cellsOf 24 = 1 := by kernel_rfl
set_option maxHeartbeats 2000000 in
set_option maxRecDepth 100000 in
theorem node_cells {fuel : Nat} {cs : List Value} {x : DataW H × List MemPlace} (h : DataW.trod enc Tryz.prog w base spare held fuel 26 cs = some x) (hw : ∀ n ∈ x.1.weights Tryz.prog 26, n ≤ reachBytes) :
    ∃ (k t r v : Int) (l : List UInt8) (kv : Value) (n : Nat) (y : DataW H × List MemPlace), cs = [.int .i64 k, .int .i64 t, .int .i64 r, .string ⟨l.toArray⟩, .int .i64 v, kv] ∧ l.length ≤ 9223372036854775807 ∧ n < fuel ∧
      DataW.trod enc Tryz.prog w base spare held n 24 [kv] = some y ∧ ∀ m ∈ y.1.weights Tryz.prog 24, m ≤ reachBytes := by
  obtain ⟨xs, n, rfl, rfl, hl, hlen, hf⟩ := DataW.trod_struct Tryz.underlying26 h
  rw [cNd] at hl
  match cs, hl with
  | [c0, c1, c2, c3, c4, c5], _ =>
    match xs, hlen with
    | [x0, x1, x2, x3], _ =>
      have f0 := hf 0 _ rfl
      have f1 := hf 1 _ rfl
      have f2 := hf 2 _ rfl
      have f3 := hf 3 _ rfl
      simp only [List.getElem_toArray, List.getElem_cons_zero, List.getElem_cons_succ, cIn, cTh, cSl, List.drop_zero, List.drop_succ_cons, List.take_succ_cons, List.take_zero, List.getElem?_cons_zero, List.getElem?_cons_succ] at f0 f1 f2 f3
      obtain ⟨n0, e0, _, _⟩ := DataW.trod_int Tryz.underlying3 f0
      obtain ⟨n2, e2, _, _⟩ := DataW.trod_int Tryz.underlying3 f2
      obtain ⟨ys, m, rfl, rfl, hl', hlen', hg⟩ := DataW.trod_struct Tryz.underlying23 f1
      match ys, hlen' with
      | [y0, y1, y2], _ =>
        have g0 := hg 0 _ rfl
        have g1 := hg 1 _ rfl
        have g2 := hg 2 _ rfl
        simp only [List.getElem_toArray, List.getElem_cons_zero, List.getElem_cons_succ, cIn, cSt, List.drop_zero, List.drop_succ_cons, List.take_succ_cons, List.take_zero, List.getElem?_cons_zero, List.getElem?_cons_succ] at g0 g1 g2
        obtain ⟨m0, d0, _, _⟩ := DataW.trod_int Tryz.underlying3 g0
        obtain ⟨m1, d1, _, _⟩ := DataW.trod_int Tryz.underlying3 g1
        obtain ⟨m2, d2, _, w2⟩ := DataW.trod_string Tryz.underlying9 g2
        simp only [List.cons.injEq, and_true] at e0 e2 d0 d1 d2
        subst e0 e2 d0 d1 d2
        unfold maxLen at w2
        refine ⟨n0, m0, m1, n2, m2.data.toList, c5, m + 1, x3, by simp, w2, by omega, f3, fun q hq => hw q ?_⟩
        dsimp only [List.map_cons, List.map_nil]
        rw [DataW.weights, Tryz.underlying26]
        exact weights_each_mem (j := 3) rfl rfl q hq
theorem add_zero' (a : Addr) : a.add 0 = a := rfl
theorem bNd : Tryz.prog.bytesOf 26 = 72 := by kernel_rfl
/-- One node's cells and kids, in a row. -/
def NdAt (w : World) (b o : Nat) : Prop := ∃ (k t r v : Int) (l : List UInt8) (kv : Value) (f : Fr), w.cell? ⟨b, o, none⟩ = some (.int .i64 k) ∧ w.cell? ⟨b, o + 1, none⟩ = some (.int .i64 t) ∧ w.cell? ⟨b, o + 2, none⟩ = some (.int .i64 r) ∧ w.cell? ⟨b, o + 3, none⟩ = some (.string ⟨l.toArray⟩) ∧
  w.cell? ⟨b, o + 4, none⟩ = some (.int .i64 v) ∧ w.cell? ⟨b, o + 5, none⟩ = some kv ∧ l.length ≤ 9223372036854775807 ∧ SlAt w w.heap.size kv f
theorem rows_at {b o len : Nat} (h : ∀ i, i < len → NdAt w b (o + i * 6)) : ∀ d, d ≤ len → ∃ f : Fr, f.len = d ∧ RowAt w w.heap.size b (o + (len - d) * 6) f
  | 0, _ => ⟨.nil, rfl, trivial⟩
  | d + 1, hd => by
    obtain ⟨rest, hr, hrow⟩ := rows_at h d (by omega)
    obtain ⟨k, t, r, v, l, kv, f, c0, c1, c2, c3, c4, c5, hl, A, cap, rfl, s1, s2, s3⟩ := h (len - (d + 1)) (by omega)
    refine ⟨.cons k t r l v f rest, by simp [Fr.len, hr], c0, c1, c2, c3, c4, hl, ⟨A, cap, c5, s1, s2, s3⟩, ?_⟩
    rw [show o + (len - (d + 1)) * 6 + 6 = o + (len - d) * 6 by omega]
    exact hrow
set_option maxHeartbeats 2000000 in
set_option maxRecDepth 100000 in
theorem open_fr : ∀ (N fuel : Nat), fuel < N → ∀ (c : Value) (x : DataW H × List MemPlace), DataW.trod enc Tryz.prog w base spare held fuel 24 [c] = some x → (∀ n ∈ x.1.weights Tryz.prog 24, n ≤ reachBytes) → ∃ f : Fr, SlAt w w.heap.size c f
  | 0, _, h, _, _, _, _ => by omega
  | N + 1, fuel, hN, c, x, h, hw => by
    rcases DataW.trod_slice Tryz.underlying24 h with ⟨hc, _⟩ | ⟨a, len, cap, elems, rest, n, rfl, hc, rfl, hb, hl, hm, hlen, hel, _, _⟩
    · simp only [List.cons.injEq, and_true] at hc
      subst hc
      exact ⟨.nil, SlAt.nil _ _ _ _ (by omega)⟩
    · simp only [List.cons.injEq, and_true] at hc
      subst hc
      dsimp only at hw
      rw [DataW.weights, Tryz.underlying24] at hw
      dsimp only at hw
      have hwt : len * 72 ≤ 140737488351232 := by
        have := hw _ List.mem_cons_self
        rw [bNd] at this
        simp only [List.length_map, hlen, reachBytes] at this
        omega
      unfold maxLen at hm
      rw [cNd] at hel
      have hA : 0 < len → a = ⟨a.block, a.off, none⟩ := by
        intro hp
        have h1 := hel 0 hp
        rw [List.getElem?_eq_getElem (by omega)] at h1
        obtain ⟨cs', h2, h3⟩ := Option.bind_eq_some_iff.1 h1
        obtain ⟨k, t, r, v, l, kv, m, y, rfl, _⟩ := node_cells h3 (fun q hq => hw q (List.mem_cons_of_mem _ (List.mem_append_left _ (weights_all_mem (List.mem_map.2 ⟨_, List.getElem_mem (by omega), rfl⟩) q hq))))
        have g0 := cells_at h2 0 (by omega)
        rw [Nat.zero_mul, add_zero'] at g0
        exact addr_none g0
      have hnd : ∀ i, i < len → a = ⟨a.block, a.off, none⟩ ∧ NdAt w a.block (a.off + i * 6) := by
        intro i hi
        have h1 := hel i hi
        rw [List.getElem?_eq_getElem (by omega)] at h1
        obtain ⟨cs', h2, h3⟩ := Option.bind_eq_some_iff.1 h1
        obtain ⟨k, t, r, v, l, kv, m, y, rfl, hl', hmn, hy, hwy⟩ := node_cells h3 (fun q hq => hw q (List.mem_cons_of_mem _ (List.mem_append_left _ (weights_all_mem (List.mem_map.2 ⟨_, List.getElem_mem (by omega), rfl⟩) q hq))))
        obtain ⟨f, hf⟩ := open_fr N m (by omega) kv y hy hwy
        have hc0 := cells_at h2
        have ha := hA (by omega)
        refine ⟨ha, k, t, r, v, l, kv, f, ?_, ?_, ?_, ?_, ?_, ?_, hl', hf⟩
        all_goals
          rw [ha] at hc0
          simp only [add_none] at hc0
        · exact hc0 0 (by omega)
        · exact hc0 1 (by omega)
        · exact hc0 2 (by omega)
        · exact hc0 3 (by omega)
        · exact hc0 4 (by omega)
        · exact hc0 5 (by omega)
      obtain ⟨f, hf, hrow⟩ := rows_at (fun i hi => (hnd i hi).2) len (Nat.le_refl _)
      refine ⟨f, some a, cap, by rw [hf], by omega, ⟨by rw [hf]; exact hwt, by omega⟩, fun hp => ?_⟩
      obtain ⟨ha, k, t, r, v, l, kv, f', c0, _⟩ := hnd 0 (by omega)
      refine ⟨a.block, a.off, by rw [← ha], World.block_lt_of_cell? w ⟨a.block, a.off + 0 * 6, none⟩ c0, ?_⟩
      simpa using hrow
theorem cCd : Tryz.prog.cellsOf 28 = 7 := by kernel_rfl
set_option maxHeartbeats 2000000 in
set_option maxRecDepth 100000 in
/-- A condition that came in. -/
theorem open_cond {r : Reach} {b0 : Nat} {v : Value} {d : DataW H} {p : List MemPlace} (hv : Value.okWide Tryz.prog w r b0 28 v) (h : DataW.Trod enc Tryz.prog w base spare held 28 v d p) (hw : ∀ n ∈ d.weights Tryz.prog 28, n ≤ reachBytes) :
    ∃ (q k t r v' : Int) (l : List UInt8) (kv : Value) (f : Fr), v = condV q k t r l v' kv ∧ l.length ≤ 9223372036854775807 ∧ SlAt w w.heap.size kv f := by
  obtain ⟨cs, rfl, hsz⟩ := okWide_struct Tryz.underlying28 hv
  obtain ⟨l⟩ := cs
  obtain ⟨fuel, hf⟩ := h
  match l, hsz.trans cCd with
  | [c0, c1, c2, c3, c4, c5, c6], _ =>
    obtain ⟨xs, n, rfl, hx, hl, hlen, hg⟩ := DataW.trod_struct Tryz.underlying28 hf
    match xs, hlen with
    | [x0, x1], _ =>
      have f0 := hg 0 _ rfl
      have f1 := hg 1 _ rfl
      simp only [List.getElem_toArray, List.getElem_cons_zero, List.getElem_cons_succ, cIn, cNd, Value.cells, List.drop_zero, List.drop_succ_cons, List.take_succ_cons, List.take_zero, List.getElem?_cons_zero, List.getElem?_cons_succ] at f0 f1
      obtain ⟨n0, e0, _, _⟩ := DataW.trod_int Tryz.underlying3 f0
      simp only [List.map_cons, List.map_nil, Prod.mk.injEq] at hx
      obtain ⟨rfl, _⟩ := hx
      obtain ⟨k, t, r, v, l, kv, m, y, e1, hl', hmn, hy, hwy⟩ := node_cells f1 (fun q hq => hw q (by
        rw [DataW.weights, Tryz.underlying28]
        exact weights_each_mem (j := 1) rfl rfl q hq))
      obtain ⟨f, hf'⟩ := open_fr (m + 1) m (by omega) kv y hy hwy
      simp only [List.cons.injEq, and_true] at e0 e1
      obtain ⟨rfl, rfl, rfl, rfl, rfl, rfl⟩ := e1
      subst e0
      exact ⟨n0, k, t, r, v, l, _, f, rfl, hl', hf'⟩
end

theorem list_of {α : Type} {P : Nat → α → Prop} : ∀ n, (∀ i, i < n → ∃ z, P i z) → ∃ l : List α, l.length = n ∧ ∀ i z, l[i]? = some z → P i z
  | 0, _ => ⟨[], rfl, fun i z h => by simp at h⟩
  | n + 1, h => by
    obtain ⟨l, hl, hp⟩ := list_of n (fun i hi => h i (by omega))
    obtain ⟨z, hz⟩ := h n (by omega)
    refine ⟨l ++ [z], by simp [hl], fun i u hu => ?_⟩
    by_cases hi : i < n
    · rw [List.getElem?_append_left (by omega)] at hu
      exact hp i u hu
    · have hlt := (List.getElem?_eq_some_iff.1 hu).1
      simp [hl] at hlt
      obtain rfl : i = n := by omega
      rw [List.getElem?_append_right (by omega), hl, Nat.sub_self] at hu
      simp only [List.getElem?_cons_zero, Option.some.injEq] at hu
      subst hu
      exact hz
section
variable {H : Type} {enc : TypeId × Value → H} {P : Program} {w : World} {base : Nat} {spare : Nat → Bool} {held : Bool}
/-- A slice of elements of nc cells, opened. -/
theorem open_sl {t e : TypeId} {fuel : Nat} {c : Value} {x : DataW H × List MemPlace} (nc bytes : Nat) (ht : P.underlying t = some (.slice e)) (hnc : P.cellsOf e = nc) (hbb : P.bytesOf e = bytes)
    (h : DataW.trod enc P w base spare held fuel t [c] = some x) (hw : ∀ n ∈ x.1.weights P t, n ≤ reachBytes) :
    c = .slice none 0 0 ∨ ∃ (a : Addr) (len cap n : Nat), c = .slice (some a) len cap ∧ len ≤ cap ∧ cap ≤ 9223372036854775807 ∧ len * bytes ≤ 140737488351232 ∧
      ∀ i, i < len → ∃ cs y, w.cells? base (a.add (i * nc)) nc = some cs ∧ DataW.trod enc P w base spare held n e cs = some y ∧ ∀ m ∈ y.1.weights P e, m ≤ reachBytes := by
  rcases DataW.trod_slice ht h with ⟨hc, _⟩ | ⟨a, len, cap, elems, rest, n, _, hc, rfl, hb, hl, hm, hlen, hel, _, _⟩
  · simp only [List.cons.injEq, and_true] at hc
    exact .inl hc
  · simp only [List.cons.injEq, and_true] at hc
    subst hc
    dsimp only at hw
    rw [DataW.weights, ht] at hw
    dsimp only at hw
    refine .inr ⟨a, len, cap, n, rfl, hl, by unfold maxLen at hm; exact hm, ?_, fun i hi => ?_⟩
    · have := hw _ List.mem_cons_self
      rw [hbb] at this
      simp only [List.length_map, hlen, reachBytes] at this
      refine Nat.le_trans ?_ (Nat.le_trans this (by decide))
      first | exact Nat.le_refl _ | exact Nat.mul_le_mul_right _ (by omega)
    · have h1 := hel i hi
      rw [List.getElem?_eq_getElem (by omega), hnc] at h1
      obtain ⟨cs', h2, h3⟩ := Option.bind_eq_some_iff.1 h1
      exact ⟨cs', _, h2, h3, fun q hq => hw q (List.mem_cons_of_mem _ (List.mem_append_left _ (weights_all_mem (List.mem_map.2 ⟨_, List.getElem_mem (by omega), rfl⟩) q hq)))⟩
end
section
variable {H : Type} {enc : TypeId × Value → H} {w : World} {base : Nat} {spare : Nat → Bool} {held : Bool}
theorem bIn : Tryz.prog.bytesOf 3 = 8 := by kernel_rfl
theorem bSl : Tryz.prog.bytesOf 40 = 24 := by kernel_rfl
theorem cSi : Tryz.prog.cellsOf 40 = 1 := by kernel_rfl
theorem bTh : Tryz.prog.bytesOf 23 = 32 := by kernel_rfl
set_option maxRecDepth 100000 in
theorem open_ints_t {fuel : Nat} {c : Value} {x : DataW H × List MemPlace} (h : DataW.trod enc Tryz.prog w base spare held fuel 40 [c] = some x) (hw : ∀ n ∈ x.1.weights Tryz.prog 40, n ≤ reachBytes) :
    ∃ (A : Option Addr) (cap : Nat) (st : List Int), c = .slice A st.length cap ∧ IntsAt w A st ∧ st.length ≤ cap ∧ cap ≤ 9223372036854775807 ∧ st.length * 8 ≤ 140737488351232 := by
  rcases open_sl 1 8 Tryz.underlying40 cIn bIn h hw with rfl | ⟨a, len, cap, n, rfl, h1, h2, h3, h4⟩
  · exact ⟨none, 0, [], rfl, fun i v h => by simp at h, by simp, by omega, by simp⟩
  · have h5 : ∀ i, i < len → ∃ z : Int, a = ⟨a.block, a.off, none⟩ ∧ w.cell? (a.add i) = some (.int .i64 z) := by
      have h6 : ∀ i, i < len → ∃ z : Int, w.cell? (a.add i) = some (.int .i64 z) := by
        intro i hi
        obtain ⟨cs, y, h7, h8, _⟩ := h4 i hi
        obtain ⟨z, rfl, _, _⟩ := DataW.trod_int Tryz.underlying3 h8
        have := cells_at h7 0 (by omega)
        rw [add_zero', Nat.mul_one] at this
        exact ⟨z, this⟩
      intro i hi
      obtain ⟨z, hz⟩ := h6 i hi
      obtain ⟨z0, hz0⟩ := h6 0 (by omega)
      exact ⟨z, addr_none hz0, hz⟩
    obtain ⟨st, hl, hp⟩ := list_of len h5
    subst hl
    refine ⟨some a, cap, st, rfl, fun i v hv => ?_, h1, h2, h3⟩
    obtain ⟨ha, hc⟩ := hp i v hv
    refine ⟨a.block, a.off, by rw [← ha], ?_⟩
    rw [ha, add_none] at hc
    exact hc
set_option maxRecDepth 100000 in
theorem open_ints_v {r : Reach} {b0 : Nat} {v : Value} {d : DataW H} {p : List MemPlace} (hv : Value.okWide Tryz.prog w r b0 40 v) (h : DataW.Trod enc Tryz.prog w base spare held 40 v d p) (hw : ∀ n ∈ d.weights Tryz.prog 40, n ≤ reachBytes) :
    ∃ (A : Option Addr) (cap : Nat) (st : List Int), v = .slice A st.length cap ∧ IntsAt w A st ∧ st.length ≤ cap ∧ cap ≤ 9223372036854775807 ∧ st.length * 8 ≤ 140737488351232 := by
  obtain ⟨a, len, cap, rfl⟩ := okWide_slice Tryz.underlying40 hv
  obtain ⟨fuel, hf⟩ := h
  exact open_ints_t hf hw
set_option maxRecDepth 100000 in
theorem open_sts_v {r : Reach} {b0 : Nat} {v : Value} {d : DataW H} {p : List MemPlace} (hv : Value.okWide Tryz.prog w r b0 60 v) (h : DataW.Trod enc Tryz.prog w base spare held 60 v d p) (hw : ∀ n ∈ d.weights Tryz.prog 60, n ≤ reachBytes) :
    ∃ (A : Option Addr) (cap : Nat) (sts : List (List Int)), v = .slice A sts.length cap ∧ StsAt w A sts ∧ sts.length ≤ cap ∧ cap ≤ 9223372036854775807 ∧ sts.length * 24 ≤ 140737488351232 := by
  obtain ⟨a0, len0, cap0, rfl⟩ := okWide_slice Tryz.underlying60 hv
  obtain ⟨fuel, hf⟩ := h
  rcases open_sl 1 24 Tryz.underlying60 cSi bSl hf hw with e | ⟨a, len, cap, n, e, h1, h2, h3, h4⟩
  · exact ⟨none, 0, [], e, fun i v h => by simp at h, by simp, by omega, by simp⟩
  · have h5 : ∀ i, i < len → ∃ st : List Int, a = ⟨a.block, a.off, none⟩ ∧ ∃ A2 c2, w.cell? (a.add i) = some (.slice A2 st.length c2) ∧ IntsAt w A2 st ∧ st.length ≤ 9223372036854775806 := by
      have h6 : ∀ i, i < len → ∃ (st : List Int) (A2 : Option Addr) (c2 : Nat), w.cell? (a.add i) = some (.slice A2 st.length c2) ∧ IntsAt w A2 st ∧ st.length ≤ 9223372036854775806 := by
        intro i hi
        obtain ⟨cs, y, h7, h8, h9⟩ := h4 i hi
        have hc := cells_at h7 0 (by omega)
        rw [add_zero', Nat.mul_one] at hc
        have hcs : ∃ u, cs = [u] := by
          rcases DataW.trod_slice Tryz.underlying40 h8 with ⟨e, _⟩ | ⟨_, _, _, _, _, _, _, e, _⟩
          · exact ⟨_, e⟩
          · exact ⟨_, e⟩
        obtain ⟨u, rfl⟩ := hcs
        obtain ⟨A2, c2, st, rfl, hi2, _, _, hb⟩ := open_ints_t h8 h9
        exact ⟨st, A2, c2, hc, hi2, by omega⟩
      intro i hi
      obtain ⟨st, A2, c2, hz⟩ := h6 i hi
      obtain ⟨st0, A20, c20, hz0, _⟩ := h6 0 (by omega)
      exact ⟨st, addr_none hz0, A2, c2, hz⟩
    obtain ⟨sts, hl, hp⟩ := list_of len h5
    subst hl
    rw [e]
    refine ⟨some a, cap, sts, rfl, fun i v hv => ?_, h1, h2, h3⟩
    obtain ⟨ha, A2, c2, hc, hi2, hb⟩ := hp i v hv
    refine ⟨a.block, a.off, A2, c2, by rw [← ha], ?_, hi2, hb⟩
    rw [ha, add_none] at hc
    exact hc
set_option maxRecDepth 100000 in
theorem open_nodes_v {r : Reach} {b0 : Nat} {v : Value} {d : DataW H} {p : List MemPlace} (hv : Value.okWide Tryz.prog w r b0 24 v) (h : DataW.Trod enc Tryz.prog w base spare held 24 v d p) (hw : ∀ n ∈ d.weights Tryz.prog 24, n ≤ reachBytes) :
    ∃ f : Fr, SlAt w w.heap.size v f := by
  obtain ⟨a, len, cap, rfl⟩ := okWide_slice Tryz.underlying24 hv
  obtain ⟨fuel, hf⟩ := h
  exact open_fr (fuel + 1) fuel (by omega) _ _ hf hw
end
end Go.Proofs.YtmlnibjnacfanaaGreatDoor
