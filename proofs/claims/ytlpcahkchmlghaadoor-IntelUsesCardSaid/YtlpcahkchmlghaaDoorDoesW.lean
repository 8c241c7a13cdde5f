/- IntelDoes: the walk. -/
import Derived.Test.YtlpcahkchmlghaaDoorKm
import Derived.Test.YtlpcahkchmlghaaDoorIv
namespace Go.Proofs.YtlpcahkchmlghaaDoor
open Go.RowKit

def BoxI (x : World) (N : Nat) (op d a b imm : Int) (loc label : ByteArray) (fence : Int) : Prop :=
  x.cell? ⟨N, 0, none⟩ = some (.int .i64 op) ∧ x.cell? ⟨N, 1, none⟩ = some (.int .i64 d) ∧ x.cell? ⟨N, 2, none⟩ = some (.int .i64 a) ∧ x.cell? ⟨N, 3, none⟩ = some (.int .i64 b) ∧
    x.cell? ⟨N, 4, none⟩ = some (.int .i64 imm) ∧ x.cell? ⟨N, 5, none⟩ = some (.string loc) ∧ x.cell? ⟨N, 6, none⟩ = some (.string label) ∧ x.cell? ⟨N, 7, none⟩ = some (.int .i64 fence)
theorem BoxI.go {x x' : World} {N : Nat} {op d a b imm : Int} {loc label : ByteArray} {fence : Int} (h : BoxI x N op d a b imm loc label fence) (hb : Below x.heap.size x x') : BoxI x' N op d a b imm loc label fence :=
  ⟨cell_go h.1 hb, cell_go h.2.1 hb, cell_go h.2.2.1 hb, cell_go h.2.2.2.1 hb, cell_go h.2.2.2.2.1 hb, cell_go h.2.2.2.2.2.1 hb, cell_go h.2.2.2.2.2.2.1 hb, cell_go h.2.2.2.2.2.2.2 hb⟩
theorem BoxI.new (w : World) (op d a b imm : Int) (loc label : ByteArray) (fence : Int) (t : TypeId) : BoxI (w.alloc (.cells #[.int .i64 op, .int .i64 d, .int .i64 a, .int .i64 b, .int .i64 imm, .string loc, .string label, .int .i64 fence] t (0, 0))) w.heap.size op d a b imm loc label fence := by
  refine ⟨?_, ?_, ?_, ?_, ?_, ?_, ?_, ?_⟩ <;> (rw [cell_new]; rfl)
theorem own_slice {x : World} {base : Nat} {v : Value} {vs : List (List UInt8 × Int)} (h : RegsOwn x base v vs) : ∃ A c, v = .slice A vs.length c ∧ c ≤ 9223372036854775807 ∧ vs.length ≤ c := by
  obtain ⟨_, ⟨h2, h3⟩ | ⟨g, cap, cur, hv, _, _, h4, h5, _⟩⟩ := h
  · exact ⟨none, 0, by rw [h2, h3], by omega, by omega⟩
  · exact ⟨_, cap, hv, by unfold maxLen at h5; exact h5, h4⟩
theorem own_block {x : World} {base : Nat} {A : Option Addr} {n c : Nat} {vs : List (List UInt8 × Int)} (h : RegsOwn x base (.slice A n c) vs) : ∀ p, A = some p → base ≤ p.block ∧ p.block < x.heap.size := by
  rintro p rfl
  obtain ⟨_, ⟨h2, _⟩ | ⟨g, cap, cur, hv, hb, hh, _⟩⟩ := h
  · cases h2
  · injection hv with h1
    injection h1 with h1
    subst h1
    refine ⟨hb, ?_⟩
    rcases Nat.lt_or_ge g x.heap.size with h | h
    · exact h
    · rw [Array.getElem?_eq_none h] at hh; cases hh
theorem set_any {x : World} {base g cap n : Nat} {vs : List (List UInt8 × Int)} (h : RegsOwn x base (.slice (some ⟨g, 0, none⟩) n cap) vs) (k : Nat) (m : Int) :
    RegsOwn ((x.setCell ⟨g, k * 2, none⟩ (.string ⟨#[]⟩)).setCell ⟨g, k * 2 + 1, none⟩ (.int .i64 m)) base (.slice (some ⟨g, 0, none⟩) n cap) (vs.set k ([], m)) := by
  have hl : vs.length = n := by
    obtain ⟨_, ⟨h1, _⟩ | ⟨_, _, _, h1, _⟩⟩ := h
    · cases h1
    · injection h1 with _ h2; exact h2.symm
  subst hl
  have h1 : x.ownsRow base 55 2 (.slice (some ⟨g, 0, none⟩) vs.length cap) vs.length (valsCells vs) := h
  have h2 := (World.ownsRow.stored ((World.ownsRow.stored h1 (k * 2) (.string ⟨#[]⟩)).1) (k * 2 + 1) (.int .i64 m)).1
  have h3 := valsCells_set vs k ([], m)
  unfold RegsOwn
  rw [List.length_set, ← h3]
  exact h2
theorem regs_cells {x : World} {base g cap n : Nat} {vs : List (List UInt8 × Int)} (h : RegsOwn x base (.slice (some ⟨g, 0, none⟩) n cap) vs) (k : Nat) (hk : k < vs.length) :
    x.cell? ⟨g, k * 2, none⟩ = some (.string ⟨vs[k].1.toArray⟩) ∧ x.cell? ⟨g, k * 2 + 1, none⟩ = some (.int .i64 vs[k].2) ∧ x.frozen? ⟨g, k * 2, none⟩ = false ∧ x.frozen? ⟨g, k * 2 + 1, none⟩ = false := by
  have hl : vs.length = n := by
    obtain ⟨_, ⟨h1, _⟩ | ⟨_, _, _, h1, _⟩⟩ := h
    · cases h1
    · injection h1 with _ h2; exact h2.symm
  subst hl
  have h1 : x.ownsRow base 55 2 (.slice (some ⟨g, 0, none⟩) vs.length cap) vs.length (valsCells vs) := h
  refine ⟨?_, ?_, World.ownsRow.frozenAt h1 _, World.ownsRow.frozenAt h1 _⟩
  · rw [World.ownsRow.cellAt h1 _ (by omega), (valsCells_at vs k hk).1]
  · rw [World.ownsRow.cellAt h1 _ (by omega), (valsCells_at vs k hk).2]
set_option maxRecDepth 100000 in
set_option maxHeartbeats 4000000 in
theorem walkDoes (op d a b imm : Int) (loc label : ByteArray) (fence : Int) (v : Value) (at_ : Int) (vs : List (List UInt8 × Int)) (hs : loc.size ≤ 9223372036854775807) (hL : ∀ j (h : j < vs.length), vs[j].1.length ≤ 9223372036854775807)
    (w : World) (hv : ArgAt w v vs) (hE : Env w) :
    Calls Tryd.prog 8 #[insV op d a b imm loc label fence, locV v at_] w fun e w' => e = .returned (.bool true) ∧ Below w.heap.size w w' := by
  obtain ⟨er, vs', at', k, L, x, y, z, hL', hP, hR⟩ := do_same op d a b imm loc label fence hs at_ vs hL
  have HP := Lib.hid hP
  have HR := Lib.hid hR
  have HL := Lib.hid hL
  have HL' := Lib.hid hL'
  clear hP hR hL hL'
  have hv2 := (hv.mono (alloc_b w (.cells #[.int .i64 op, .int .i64 d, .int .i64 a, .int .i64 b, .int .i64 imm, .string loc, .string label, .int .i64 fence] 23 (0, 0)))).mono (alloc_b _ (.cells #[v, .int .i64 at_] 47 (0, 0)))
  have hI2 := (BoxI.new w op d a b imm loc label fence 23).go (alloc_b _ (.cells #[v, .int .i64 at_] 47 (0, 0)))
  have t02 := cell_new (w.alloc (.cells #[.int .i64 op, .int .i64 d, .int .i64 a, .int .i64 b, .int .i64 imm, .string loc, .string label, .int .i64 fence] 23 (0, 0))) #[v, .int .i64 at_] 47 (0, 0) 0
  have t12 := cell_new (w.alloc (.cells #[.int .i64 op, .int .i64 d, .int .i64 a, .int .i64 b, .int .i64 imm, .string loc, .string label, .int .i64 fence] 23 (0, 0))) #[v, .int .i64 at_] 47 (0, 0) 1
  rw [World.size_alloc] at t02 t12
  have hB2 := below_alloc (alloc_b w (.cells #[.int .i64 op, .int .i64 d, .int .i64 a, .int .i64 b, .int .i64 imm, .string loc, .string label, .int .i64 fence] 23 (0, 0))) (.cells #[v, .int .i64 at_] 47 (0, 0))
  have Hv2 := Lib.hid hv2
  have HI2 := Lib.hid hI2
  have HT0 := Lib.hid t02
  have HT1 := Lib.hid t12
  have HB2 := Lib.hid hB2
  have HV0 := Lib.hid hv
  clear hv2 hI2 t02 t12 hB2 hv
  go_enter Tryd.func8, Tryd.ntmps8
  go_wp2_with fail
  refine (copied_c v at_ vs _ Hv2.out).mono ?_
  rintro e w1 ⟨v1, rfl, hown1, hb1⟩
  obtain ⟨A1, c1, rfl, p1, q1⟩ := own_slice hown1
  have hB1 := Lib.hid (below_trans HB2.out hb1)
  have hI1 := Lib.hid (HI2.out.go hb1)
  have t01 := Lib.hid (cell_go HT0.out hb1)
  have t11 := Lib.hid (cell_go HT1.out hb1)
  have hv1 := Lib.hid (Hv2.out.mono hb1)
  have hg1 := Lib.hid (own_block hown1)
  have hown1 := Lib.hid hown1
  have zt1 : w.heap.size + 1 < w1.heap.size := by have := hb1.size; simp at this; omega
  clear hb1 Hv2 HI2 HT0 HT1 HB2
  obtain ⟨i0, i1, i2, i3, i4, i5, i6, i7⟩ := hI1.out.go (alloc_b w1 (.cells #[.slice A1 vs.length c1, .int .i64 at_] 47 (0, 0)))
  go_wp2_with fail
  refine (HP.out _ _ ((hown1.out.mono (alloc_b _ _)).vals HL.out)).mono ?_
  rintro e w2 ⟨v2, rfl, hown2, hb2⟩
  obtain ⟨A2, c2, rfl, p2, q2⟩ := own_slice hown2
  have hb12 := below_trans (alloc_b w1 _) hb2
  have hB2 := Lib.hid (below_trans hB1.out hb12)
  have hI2 := Lib.hid (hI1.out.go hb12)
  have t02 := Lib.hid (cell_go t01.out hb12)
  have t12 := Lib.hid (cell_go t11.out hb12)
  have hv2 := Lib.hid (hv1.out.mono hb12)
  have ho2 := Lib.hid (hown1.out.mono hb12)
  have o02 := Lib.hid (cell_go (cell_new w1 #[.slice A1 vs.length c1, .int .i64 at_] 47 (0, 0) 0) hb2)
  have o12 := Lib.hid (cell_go (cell_new w1 #[.slice A1 vs.length c1, .int .i64 at_] 47 (0, 0) 1) hb2)
  have hg2 := Lib.hid (own_block hown2)
  have hown2 := Lib.hid hown2
  have z12 : w1.heap.size < w2.heap.size := by have := hb2.size; simp at this; omega
  have zt2 : w.heap.size + 1 < w2.heap.size := by omega
  clear hb2 hb12 i0 i1 i2 i3 i4 i5 i6 i7 hI1 t01 t11 hv1 hB1
  obtain ⟨i0, i1, i2, i3, i4, i5, i6, i7⟩ := (hI2.out.go (alloc_b w2 (.cells #[.slice A2 vs'.length c2, .int .i64 at'] 47 (0, 0)))).go (alloc_b _ (.cells #[.int .i64 k, .string ⟨L.toArray⟩, .int .i64 x, .int .i64 y, .int .i64 z] 50 (0, 0)))
  have t0' := cell_al (cell_al t02.out (.cells #[.slice A2 vs'.length c2, .int .i64 at'] 47 (0, 0))) (.cells #[.int .i64 k, .string ⟨L.toArray⟩, .int .i64 x, .int .i64 y, .int .i64 z] 50 (0, 0))
  have t1' := cell_al (cell_al t12.out (.cells #[.slice A2 vs'.length c2, .int .i64 at'] 47 (0, 0))) (.cells #[.int .i64 k, .string ⟨L.toArray⟩, .int .i64 x, .int .i64 y, .int .i64 z] 50 (0, 0))
  go_wp2_with fail
  refine (HR.out v _ (((hv2.out.mono (alloc_b _ _)).mono (alloc_b _ _)).vals)).mono ?_
  rintro e w3 ⟨v3, rfl, hown3, hb3⟩
  obtain ⟨A3, c3, rfl, p3, q3⟩ := own_slice hown3
  have hb23 := below_trans (below_alloc (alloc_b w2 (.cells #[.slice A2 vs'.length c2, .int .i64 at'] 47 (0, 0))) (.cells #[.int .i64 k, .string ⟨L.toArray⟩, .int .i64 x, .int .i64 y, .int .i64 z] 50 (0, 0))) hb3
  have hB3 := Lib.hid (below_trans hB2.out hb23)
  have zx : w2.heap.size + 1 < w3.heap.size := by have := hb3.size; simp at this; omega
  have zx0 : w2.heap.size < w3.heap.size := by omega
  have zo : w1.heap.size < w3.heap.size := by omega
  have zt3 : w.heap.size + 1 < w3.heap.size := by omega
  have T0 := cell_go t02.out hb23
  have T1 := cell_go t12.out hb23
  have O0 := cell_go o02.out hb23
  have O1 := cell_go o12.out hb23
  have X0 := cell_go (cell_al (cell_new w2 #[.slice A2 vs'.length c2, .int .i64 at'] 47 (0, 0) 0) (.cells #[.int .i64 k, .string ⟨L.toArray⟩, .int .i64 x, .int .i64 y, .int .i64 z] 50 (0, 0))) hb3
  have X1 := cell_go (cell_al (cell_new w2 #[.slice A2 vs'.length c2, .int .i64 at'] 47 (0, 0) 1) (.cells #[.int .i64 k, .string ⟨L.toArray⟩, .int .i64 x, .int .i64 y, .int .i64 z] 50 (0, 0))) hb3
  have a0 := cell_go (cell_new (w2.alloc (.cells #[.slice A2 vs'.length c2, .int .i64 at'] 47 (0, 0))) #[.int .i64 k, .string ⟨L.toArray⟩, .int .i64 x, .int .i64 y, .int .i64 z] 50 (0, 0) 0) hb3
  have a1 := cell_go (cell_new (w2.alloc (.cells #[.slice A2 vs'.length c2, .int .i64 at'] 47 (0, 0))) #[.int .i64 k, .string ⟨L.toArray⟩, .int .i64 x, .int .i64 y, .int .i64 z] 50 (0, 0) 1) hb3
  have a2 := cell_go (cell_new (w2.alloc (.cells #[.slice A2 vs'.length c2, .int .i64 at'] 47 (0, 0))) #[.int .i64 k, .string ⟨L.toArray⟩, .int .i64 x, .int .i64 y, .int .i64 z] 50 (0, 0) 2) hb3
  have a3 := cell_go (cell_new (w2.alloc (.cells #[.slice A2 vs'.length c2, .int .i64 at'] 47 (0, 0))) #[.int .i64 k, .string ⟨L.toArray⟩, .int .i64 x, .int .i64 y, .int .i64 z] 50 (0, 0) 3) hb3
  have a4 := cell_go (cell_new (w2.alloc (.cells #[.slice A2 vs'.length c2, .int .i64 at'] 47 (0, 0))) #[.int .i64 k, .string ⟨L.toArray⟩, .int .i64 x, .int .i64 y, .int .i64 z] 50 (0, 0) 4) hb3
  rw [World.size_alloc] at a0 a1 a2 a3 a4
  have HO3 := Lib.hid (ho2.out.mono hb23)
  have HX3 := Lib.hid (hown2.out.mono hb23)
  have HV3 := Lib.hid (hv2.out.mono hb23)
  have HY3 := Lib.hid hown3
  clear hb3 hb23 i0 i1 i2 i3 i4 i5 i6 i7 t0' t1' hI2 t02 t12 o02 o12 hB2 hv2 hown3
  go_wp2_with fail
  refine (sameLocalR _ _ at' vs' _ (((HX3.out.mono (alloc_b _ _)).mono (alloc_b _ _)).vals HL'.out) (((HY3.out.mono (alloc_b _ _)).mono (alloc_b _ _)).vals HL'.out)).mono ?_
  rintro e w4 ⟨rfl, hb4⟩
  have hb34 := below_trans (below_alloc (alloc_b w3 (.cells #[.slice A3 vs'.length c3, .int .i64 at'] 47 (0, 0))) (.cells #[.int .i64 k, .string ⟨L.toArray⟩, .int .i64 x, .int .i64 y, .int .i64 z] 50 (0, 0))) hb4
  have hB4 := Lib.hid (below_trans hB3.out hb34)
  have HO4 := Lib.hid (HO3.out.mono hb34)
  have HX4 := Lib.hid (HX3.out.mono hb34)
  have HV4 := Lib.hid (HV3.out.mono hb34)
  have b0 := cell_go (cell_new (w3.alloc (.cells #[.slice A3 vs'.length c3, .int .i64 at'] 47 (0, 0))) #[.int .i64 k, .string ⟨L.toArray⟩, .int .i64 x, .int .i64 y, .int .i64 z] 50 (0, 0) 0) hb4
  have b1 := cell_go (cell_new (w3.alloc (.cells #[.slice A3 vs'.length c3, .int .i64 at'] 47 (0, 0))) #[.int .i64 k, .string ⟨L.toArray⟩, .int .i64 x, .int .i64 y, .int .i64 z] 50 (0, 0) 1) hb4
  have b2 := cell_go (cell_new (w3.alloc (.cells #[.slice A3 vs'.length c3, .int .i64 at'] 47 (0, 0))) #[.int .i64 k, .string ⟨L.toArray⟩, .int .i64 x, .int .i64 y, .int .i64 z] 50 (0, 0) 2) hb4
  have b3 := cell_go (cell_new (w3.alloc (.cells #[.slice A3 vs'.length c3, .int .i64 at'] 47 (0, 0))) #[.int .i64 k, .string ⟨L.toArray⟩, .int .i64 x, .int .i64 y, .int .i64 z] 50 (0, 0) 3) hb4
  have b4 := cell_go (cell_new (w3.alloc (.cells #[.slice A3 vs'.length c3, .int .i64 at'] 47 (0, 0))) #[.int .i64 k, .string ⟨L.toArray⟩, .int .i64 x, .int .i64 y, .int .i64 z] 50 (0, 0) 4) hb4
  rw [World.size_alloc] at b0 b1 b2 b3 b4
  have a0 := cell_go a0 hb34
  have a1 := cell_go a1 hb34
  have a2 := cell_go a2 hb34
  have a3 := cell_go a3 hb34
  have a4 := cell_go a4 hb34
  have T0 := cell_go T0 hb34
  have T1 := cell_go T1 hb34
  have O0 := cell_go O0 hb34
  have O1 := cell_go O1 hb34
  have X0 := cell_go X0 hb34
  have X1 := cell_go X1 hb34
  have zb : w3.heap.size + 1 < w4.heap.size := by have := hb4.size; simp at this; omega
  clear hb4 hb34 HO3 HX3 HV3 HY3 hB3
  go_wp2_with fail
  refine (sameLocalR _ _ at_ vs _ (HO4.out.vals HL.out) (HV4.out.vals)).mono ?_
  rintro e w5 ⟨rfl, hb5⟩
  have hB5 := Lib.hid (below_trans hB4.out hb5)
  have HO5 := Lib.hid (HO4.out.mono hb5)
  have HX5 := Lib.hid (HX4.out.mono hb5)
  have HV5 := Lib.hid (HV4.out.mono hb5)
  have T0 := cell_go T0 hb5
  have T1 := cell_go T1 hb5
  have O0 := cell_go O0 hb5
  have O1 := cell_go O1 hb5
  have X0 := cell_go X0 hb5
  have z5 : w4.heap.size ≤ w5.heap.size := hb5.size
  clear hb5 a0 a1 a2 a3 a4 b0 b1 b2 b3 b4 X1 HO4 HX4 HV4 hB4
  go_wp2_with fail
  go_loopw [12] (fun i wr => ∃ (kk : Nat) (us : List (List UInt8 × Int)), kk ≤ vs'.length ∧ i = .int .i64 kk ∧ us.length = vs'.length ∧ RegsOwn wr (w1.heap.size + 1) (.slice A2 vs'.length c2) us ∧ RegsOwn wr (w.heap.size + 2) (.slice A1 vs.length c1) vs ∧ Below w.heap.size w wr ∧
      wr.cell? ⟨w.heap.size + 1, 0, none⟩ = some v ∧ wr.cell? ⟨w.heap.size + 1, 1, none⟩ = some (.int .i64 at_) ∧ wr.cell? ⟨w1.heap.size, 0, none⟩ = some (.slice A1 vs.length c1) ∧ wr.cell? ⟨w1.heap.size, 1, none⟩ = some (.int .i64 at_) ∧ wr.cell? ⟨w2.heap.size, 0, none⟩ = some (.slice A2 vs'.length c2)) (fun i _ => vs'.length - (intOf i).toNat)
  case atStart => exact ⟨0, vs', Nat.zero_le _, rfl, rfl, by simpa using HX5.out, by simpa using HO5.out, hB5.out, T0, T1, O0, O1, X0⟩
  case round =>
    clear T0 T1 O0 O1 X0 HX5 HO5 HV5 hB5
    obtain ⟨kk, us, hk, rfl, hul, hx, ho, hb, T0, T1, O0, O1, X0⟩ := hrel
    have HU := Lib.hid hul
    have HXr := Lib.hid hx
    have HOr := Lib.hid ho
    have HBr := Lib.hid hb
    by_cases hlt : kk < vs'.length
    · obtain ⟨g, cap, hsl, hgb, hgs, _, _⟩ := hx.form (by omega)
      injection hsl with e1 _ _
      subst e1
      have hku : kk < us.length := by omega
      obtain ⟨q1, q2, f1, f2⟩ := regs_cells hx kk hku
      obtain ⟨xx, hxx⟩ : ∃ xx, us[kk]'hku = xx := ⟨_, rfl⟩
      rw [hxx] at q1 q2
      obtain ⟨n1, n2⟩ := hg2.out _ rfl
      have n3 : g ≠ w1.heap.size := by simp only at n1; rw [World.size_alloc] at n1; omega
      have n4 : g ≠ w2.heap.size := by simp only at n2; omega
      have n5 : g ≠ w.heap.size + 1 := by simp only at n1; rw [World.size_alloc] at n1; omega
      have n6 : w.heap.size ≤ g := by simp only at n1; rw [World.size_alloc] at n1; omega
      have n7 : Value.ownBlock (.slice A1 vs.length c1) ≠ some g := by
        cases A1 with
        | none => simp [Value.ownBlock]
        | some p =>
          have := (hg1.out p rfl).2
          simp only at n1; rw [World.size_alloc] at n1
          simp only [Value.ownBlock, ne_eq, Option.some.injEq]; omega
      have h9 : vs'.length ≤ cap := by omega
      clear hxx hku hul hx ho hb n1 n2
      have N7 := Lib.hid n7
      clear n7
      go_wp2
      go_roundw
      case rel => exact ⟨kk + 1, us.set kk ([], -77), by omega, by go_num, by rw [List.length_set]; exact HU.out, set_any HXr.out kk (-77), (HOr.out.setOther N7.out _).setOther N7.out _, (HBr.out.setCell n6 _).setCell n6 _,
        cell_set (cell_set T0 n5 _) n5 _, cell_set (cell_set T1 n5 _) n5 _, cell_set (cell_set O0 n3 _) n3 _, cell_set (cell_set O1 n3 _) n3 _, cell_set (cell_set X0 n4 _) n4 _⟩
      case measure => simp [intOf]; omega
    · clear hx ho hb hul
      go_wp2_with fail
      refine (sameLocalR _ _ at_ vs _ (HOr.out.vals HL.out) ((HV0.out.mono HBr.out).vals)).mono ?_
      rintro e w6 ⟨rfl, hb6⟩
      have hB6 := below_trans HBr.out hb6
      go_wp2_with fail
      refine (awake_c _ (hE.mono hB6)).mono ?_
      rintro e w7 ⟨rfl, hb7⟩
      go_wp2_with fail
      go_ret
      exact ⟨rfl, below_trans hB6 hb7⟩
end Go.Proofs.YtlpcahkchmlghaaDoor
