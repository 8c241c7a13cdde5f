/- Layer 8: the program's Parse. -/
import Derived.Recover
import Derived.Defers
import Derived.Laws.Pointers
import Derived.Test.YtmlnibjnacfanaaGreatDoorDn
namespace Go.Proofs.YtmlnibjnacfanaaGreatDoor
open Go.RowKit

theorem toks_txt : ∀ (f p : Nat) (l : List UInt8), ∀ t ∈ tokF f p l, t.1 ≠ [] ∧ t.1.length ≤ l.length
  | 0, _, _, t, h => by simp [tokF] at h
  | _ + 1, _, [], t, h => by simp [tokF] at h
  | f + 1, p, c :: r, t, h => by
    have hp := longL_pos (c :: r)
    simp only [tokF] at h
    split at h
    · have := toks_txt f _ r t h
      exact ⟨this.1, by simp; omega⟩
    · rcases List.mem_cons.1 h with rfl | h
      · refine ⟨?_, by simp; omega⟩
        obtain ⟨m, hm⟩ : ∃ m, longL (c :: r) = m + 1 := ⟨longL (c :: r) - 1, by omega⟩
        rw [hm]; simp
      · have := toks_txt f _ _ t h
        exact ⟨this.1, by have h2 := this.2; simp at h2 ⊢; omega⟩
/-- The three variables that hold Parse's results. -/
structure Res3 (w : World) (b : Nat) (c : Array Value) (e : Value) (p : Value) : Prop where
  c : Blk w b 28 c
  e : Blk w (b + 1) 29 #[e]
  p : Blk w (b + 2) 3 #[p]
abbrev condCs (q : Int) (n : Nd) (kv : Value) : Array Value := #[.int .i64 q, .int .i64 n.k, .int .i64 n.t, .int .i64 n.r, .string ⟨n.l.toArray⟩, .int .i64 n.v, kv]
abbrev zeroCond : Array Value := #[.int .i64 0, .int .i64 0, .int .i64 0, .int .i64 0, .string ⟨#[]⟩, .int .i64 0, .slice none 0 0]
theorem Res3.put {w : World} {b : Nat} {c0 c1 c2 c3 c4 c5 c6 e p : Value} (h : Res3 w b #[c0, c1, c2, c3, c4, c5, c6] e p) (v0 v1 v2 v3 v4 v5 v6 e' p' : Value) :
    Res3 (((((((((w.setCell ⟨b, 0, none⟩ v0).setCell ⟨b, 1, none⟩ v1).setCell ⟨b, 2, none⟩ v2).setCell ⟨b, 3, none⟩ v3).setCell ⟨b, 4, none⟩ v4).setCell ⟨b, 5, none⟩ v5).setCell ⟨b, 6, none⟩ v6).setCell ⟨b + 1, 0, none⟩ e').setCell ⟨b + 2, 0, none⟩ p') b #[v0, v1, v2, v3, v4, v5, v6] e' p' := by
  refine ⟨?_, ?_, ?_⟩
  · have k := h.c
    have k0 : Blk _ b 28 #[v0, c1, c2, c3, c4, c5, c6] := k.set_ 0 v0
    have k1 : Blk _ b 28 #[v0, v1, c2, c3, c4, c5, c6] := k0.set_ 1 v1
    have k2 : Blk _ b 28 #[v0, v1, v2, c3, c4, c5, c6] := k1.set_ 2 v2
    have k3 : Blk _ b 28 #[v0, v1, v2, v3, c4, c5, c6] := k2.set_ 3 v3
    have k4 : Blk _ b 28 #[v0, v1, v2, v3, v4, c5, c6] := k3.set_ 4 v4
    have k5 : Blk _ b 28 #[v0, v1, v2, v3, v4, v5, c6] := k4.set_ 5 v5
    have k6 : Blk _ b 28 #[v0, v1, v2, v3, v4, v5, v6] := k5.set_ 6 v6
    exact (k6.far (p := ⟨b + 1, 0, none⟩) (by dsimp only; omega) e').far (p := ⟨b + 2, 0, none⟩) (by dsimp only; omega) p'
  · have k := (((((((h.e.far (p := ⟨b, 0, none⟩) (by dsimp only; omega) v0).far (p := ⟨b, 1, none⟩) (by dsimp only; omega) v1).far (p := ⟨b, 2, none⟩) (by dsimp only; omega) v2).far (p := ⟨b, 3, none⟩) (by dsimp only; omega) v3).far (p := ⟨b, 4, none⟩) (by dsimp only; omega) v4).far (p := ⟨b, 5, none⟩) (by dsimp only; omega) v5).far (p := ⟨b, 6, none⟩) (by dsimp only; omega) v6)
    have k1 : Blk _ (b + 1) 29 #[e'] := k.set_ 0 e'
    exact k1.far (p := ⟨b + 2, 0, none⟩) (by dsimp only; omega) p'
  · have k := (((((((h.p.far (p := ⟨b, 0, none⟩) (by dsimp only; omega) v0).far (p := ⟨b, 1, none⟩) (by dsimp only; omega) v1).far (p := ⟨b, 2, none⟩) (by dsimp only; omega) v2).far (p := ⟨b, 3, none⟩) (by dsimp only; omega) v3).far (p := ⟨b, 4, none⟩) (by dsimp only; omega) v4).far (p := ⟨b, 5, none⟩) (by dsimp only; omega) v5).far (p := ⟨b, 6, none⟩) (by dsimp only; omega) v6).far (p := ⟨b + 1, 0, none⟩) (by dsimp only; omega) e'
    have k1 : Blk _ (b + 2) 3 #[p'] := k.set_ 0 p'
    exact k1
theorem below_put {B : Nat} {w0 w : World} {b : Nat} (h : Below B w0 w) (hb : B ≤ b) (v0 v1 v2 v3 v4 v5 v6 e' p' : Value) : Below B w0 (((((((((w.setCell ⟨b, 0, none⟩ v0).setCell ⟨b, 1, none⟩ v1).setCell ⟨b, 2, none⟩ v2).setCell ⟨b, 3, none⟩ v3).setCell ⟨b, 4, none⟩ v4).setCell ⟨b, 5, none⟩ v5).setCell ⟨b, 6, none⟩ v6).setCell ⟨b + 1, 0, none⟩ e').setCell ⟨b + 2, 0, none⟩ p') := by
  repeat (first | (with_reducible exact h) | (with_reducible refine Below.setCell ?_ ?_ _; rotate_left; (show _ ≤ _; dsimp only; omega)))
theorem Res3.putC {w : World} {b : Nat} {c0 c1 c2 c3 c4 c5 c6 e p : Value} (h : Res3 w b #[c0, c1, c2, c3, c4, c5, c6] e p) (v0 v1 v2 v3 v4 v5 v6 : Value) :
    Res3 (((((((w.setCell ⟨b, 0, none⟩ v0).setCell ⟨b, 1, none⟩ v1).setCell ⟨b, 2, none⟩ v2).setCell ⟨b, 3, none⟩ v3).setCell ⟨b, 4, none⟩ v4).setCell ⟨b, 5, none⟩ v5).setCell ⟨b, 6, none⟩ v6) b #[v0, v1, v2, v3, v4, v5, v6] e p := by
  refine ⟨?_, ?_, ?_⟩
  · have k := h.c
    have k0 : Blk _ b 28 #[v0, c1, c2, c3, c4, c5, c6] := k.set_ 0 v0
    have k1 : Blk _ b 28 #[v0, v1, c2, c3, c4, c5, c6] := k0.set_ 1 v1
    have k2 : Blk _ b 28 #[v0, v1, v2, c3, c4, c5, c6] := k1.set_ 2 v2
    have k3 : Blk _ b 28 #[v0, v1, v2, v3, c4, c5, c6] := k2.set_ 3 v3
    have k4 : Blk _ b 28 #[v0, v1, v2, v3, v4, c5, c6] := k3.set_ 4 v4
    have k5 : Blk _ b 28 #[v0, v1, v2, v3, v4, v5, c6] := k4.set_ 5 v5
    have k6 : Blk _ b 28 #[v0, v1, v2, v3, v4, v5, v6] := k5.set_ 6 v6
    exact k6
  · exact (((((((h.e.far (p := ⟨b, 0, none⟩) (by dsimp only; omega) v0).far (p := ⟨b, 1, none⟩) (by dsimp only; omega) v1).far (p := ⟨b, 2, none⟩) (by dsimp only; omega) v2).far (p := ⟨b, 3, none⟩) (by dsimp only; omega) v3).far (p := ⟨b, 4, none⟩) (by dsimp only; omega) v4).far (p := ⟨b, 5, none⟩) (by dsimp only; omega) v5).far (p := ⟨b, 6, none⟩) (by dsimp only; omega) v6)
  · exact (((((((h.p.far (p := ⟨b, 0, none⟩) (by dsimp only; omega) v0).far (p := ⟨b, 1, none⟩) (by dsimp only; omega) v1).far (p := ⟨b, 2, none⟩) (by dsimp only; omega) v2).far (p := ⟨b, 3, none⟩) (by dsimp only; omega) v3).far (p := ⟨b, 4, none⟩) (by dsimp only; omega) v4).far (p := ⟨b, 5, none⟩) (by dsimp only; omega) v5).far (p := ⟨b, 6, none⟩) (by dsimp only; omega) v6)
theorem below_putC {B : Nat} {w0 w : World} {b : Nat} (h : Below B w0 w) (hb : B ≤ b) (v0 v1 v2 v3 v4 v5 v6 : Value) : Below B w0 (((((((w.setCell ⟨b, 0, none⟩ v0).setCell ⟨b, 1, none⟩ v1).setCell ⟨b, 2, none⟩ v2).setCell ⟨b, 3, none⟩ v3).setCell ⟨b, 4, none⟩ v4).setCell ⟨b, 5, none⟩ v5).setCell ⟨b, 6, none⟩ v6) := by
  repeat (first | (with_reducible exact h) | (with_reducible refine Below.setCell ?_ ?_ _; rotate_left; (show _ ≤ _; dsimp only; omega)))
theorem heap_putC {w : World} {b i : Nat} (hi : i ≠ b) (v0 v1 v2 v3 v4 v5 v6 : Value) : (((((((w.setCell ⟨b, 0, none⟩ v0).setCell ⟨b, 1, none⟩ v1).setCell ⟨b, 2, none⟩ v2).setCell ⟨b, 3, none⟩ v3).setCell ⟨b, 4, none⟩ v4).setCell ⟨b, 5, none⟩ v5).setCell ⟨b, 6, none⟩ v6).heap[i]? = w.heap[i]? := by
  have hn : ∀ (x : World) (o : Nat) (u : Value), (x.setCell ⟨b, o, none⟩ u).heap[i]? = x.heap[i]? := fun x o u => Below.heap_setCell x _ u i hi
  rw [hn, hn, hn, hn, hn, hn, hn]
theorem heap_put {w : World} {b i : Nat} (h0 : i ≠ b) (h1 : i ≠ b + 1) (h2 : i ≠ b + 2) (v0 v1 v2 v3 v4 v5 v6 e p : Value) : (((((((((w.setCell ⟨b, 0, none⟩ v0).setCell ⟨b, 1, none⟩ v1).setCell ⟨b, 2, none⟩ v2).setCell ⟨b, 3, none⟩ v3).setCell ⟨b, 4, none⟩ v4).setCell ⟨b, 5, none⟩ v5).setCell ⟨b, 6, none⟩ v6).setCell ⟨b + 1, 0, none⟩ e).setCell ⟨b + 2, 0, none⟩ p).heap[i]? = w.heap[i]? := by
  rw [Below.heap_setCell _ _ _ _ h2, Below.heap_setCell _ _ _ _ h1, heap_putC h0]
theorem Res3.drew {w : World} {b : Nat} {c : Array Value} {e p : Value} (h : Res3 w b c e p) : Res3 w.drew b c e p := ⟨h.c, h.e, h.p⟩
theorem run_assert_stop (v : Value) (w : World) : (Instr.typeAssert (.iface 83 v) 20 83 false).run Tryz.prog w = .ok v w := by
  simp [Instr.typeAssert, go_sem]
set_option maxHeartbeats 2000000 in
set_option maxRecDepth 100000 in
theorem catchP_panic (b : Nat) (c0 c1 c2 c3 : Int) (c4 : ByteArray) (c5 : Int) (c6 : Value) (p : Nat) (w : World) (h : Res3 w b #[.int .i64 c0, .int .i64 c1, .int .i64 c2, .int .i64 c3, .string c4, .int .i64 c5, c6] (.int .i64 0) (.int .i64 0)) :
    CallsD Tryz.prog 43 #[.pointer (some ⟨b, 0, none⟩), .pointer (some ⟨b + 1, 0, none⟩), .pointer (some ⟨b + 2, 0, none⟩)] (.panicking (stopC p)) w fun e u' w' =>
      e = .returned (.tuple #[]) ∧ u' = .panicking [{ v := stopV p, recovered := true }] ∧ Res3 w' b zeroCond (.int .i64 80) (.int .i64 p) ∧ Below b w w' := by
  refine callsD_of_wpS Tryz.func43 rfl fun c₀ cs hu => ?_
  apply wpS_seq
  apply wpS_region
  simp [wpOpsS, go_sem, recoverD, hu, Tryz.ntmps43, Exit.thenS, stopC, stopV]
  refine wpS_of_wp ?_
  change Code.wp _ _ _ ⟨#[.pointer (some ⟨b, 0, none⟩), .pointer (some ⟨b + 1, 0, none⟩), .pointer (some ⟨b + 2, 0, none⟩), .iface 83 (.agg #[.int .i64 p]), .iface 83 (.agg #[.int .i64 p]), undef, undef, undef, undef, undef, undef], []⟩ w
  have HH := Lib.hid h
  have a0 := h.c.cell 0; have a1 := h.c.cell 1; have a2 := h.c.cell 2; have a3 := h.c.cell 3; have a4 := h.c.cell 4; have a5 := h.c.cell 5; have a6 := h.c.cell 6; have ae := h.e.cell 0; have ap := h.p.cell 0; have f0 := h.c.frozen 0; have f1 := h.c.frozen 1; have f2 := h.c.frozen 2; have f3 := h.c.frozen 3; have f4 := h.c.frozen 4; have f5 := h.c.frozen 5; have f6 := h.c.frozen 6; have fe := h.e.frozen 0; have fp := h.p.frozen 0
  clear h
  have hta := run_assert_stop
  have hfd : ∀ w : World, (Instr.field 83 (.agg #[.int .i64 p]) 0).run Tryz.prog w = .ok (.int .i64 p) w := fun _ => by kernel_rfl
  go_wp2
  go_region
  refine ⟨rfl, _, rfl, .tuple #[], by simp [results, Tryz.results43, go_sem], rfl, rfl, Res3.drew (HH.out.put _ _ _ _ _ _ _ _ _), (below_put (Below.refl _ _) (Nat.le_refl _) _ _ _ _ _ _ _ _ _).drew⟩
set_option maxHeartbeats 2000000 in
set_option maxRecDepth 100000 in
theorem catchP_idle (q0 q1 q2 : Value) (w : World) :
    CallsD Tryz.prog 43 #[q0, q1, q2] .returning w fun e u' w' => e = .returned (.tuple #[]) ∧ u' = .returning ∧ w' = w := by
  refine callsD_of_wpS Tryz.func43 rfl fun c₀ cs hu => ?_
  apply wpS_seq
  apply wpS_region
  simp [wpOpsS, go_sem, recoverD, hu, Tryz.ntmps43, Exit.thenS]
  refine wpS_of_wp ?_
  change Code.wp _ _ _ ⟨#[q0, q1, q2, .nilIface, .nilIface, undef, undef, undef, undef, undef, undef], []⟩ w
  go_wp2
  exact ⟨rfl, .returning, by cases c₀; simp_all, .tuple #[], by simp [results, Tryz.results43], rfl, rfl, rfl⟩
theorem results_zero3 (fn : Func) (h : fn.results = #[.cell 4 28, .cell 5 29, .cell 6 3]) (b : Nat) (w : World) (q : Int) (n : Nd) (kv e p : Value) (tmps : Array Value) (h4 : tmps[4]? = some (.pointer (some ⟨b, 0, none⟩))) (h5 : tmps[5]? = some (.pointer (some ⟨b + 1, 0, none⟩))) (h6 : tmps[6]? = some (.pointer (some ⟨b + 2, 0, none⟩))) (hr : Res3 w b (condCs q n kv) e p) :
    (results fn tmps).run Tryz.prog w = .ok (.tuple #[condV q n.k n.t n.r n.l n.v kv, e, p]) w := by
  have a0 : w.cell? ⟨b, 0, none⟩ = some (.int .i64 q) := hr.c.cell 0
  have a1 : w.cell? ⟨b, 1, none⟩ = some (.int .i64 n.k) := hr.c.cell 1
  have a2 : w.cell? ⟨b, 2, none⟩ = some (.int .i64 n.t) := hr.c.cell 2
  have a3 : w.cell? ⟨b, 3, none⟩ = some (.int .i64 n.r) := hr.c.cell 3
  have a4 : w.cell? ⟨b, 4, none⟩ = some (.string ⟨n.l.toArray⟩) := hr.c.cell 4
  have a5 : w.cell? ⟨b, 5, none⟩ = some (.int .i64 n.v) := hr.c.cell 5
  have a6 : w.cell? ⟨b, 6, none⟩ = some kv := hr.c.cell 6
  have ae : w.cell? ⟨b + 1, 0, none⟩ = some e := hr.e.cell 0
  have ap : w.cell? ⟨b + 2, 0, none⟩ = some p := hr.p.cell 0
  simp [results, h, h4, h5, h6, go_sem, a0, a1, a2, a3, a4, a5, a6, ae, ap]
end Go.Proofs.YtmlnibjnacfanaaGreatDoor
