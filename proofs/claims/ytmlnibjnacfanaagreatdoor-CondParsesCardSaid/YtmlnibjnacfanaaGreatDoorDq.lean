/- Layer 8: the program's Parse, walked. -/
import Derived.Test.YtmlnibjnacfanaaGreatDoorDm1
import Derived.Test.YtmlnibjnacfanaaGreatDoorDm2
import Derived.Test.YtmlnibjnacfanaaGreatDoorDm3
import Derived.Test.YtmlnibjnacfanaaGreatDoorDo
namespace Go.Proofs.YtmlnibjnacfanaaGreatDoor
open Go.RowKit

theorem condP {w : World} {g : Nat} {a : Int} {s : ByteArray} {A : Option Addr} {cap : Nat} {all : List Tok} {k N : Nat} (h : Rd w g a s A cap all k) (hE : Env w) (hg : 6 ≤ g) (hN : all.length ≤ N) :
    Calls Tryz.prog 45 #[.pointer (some ⟨g, 0, none⟩)] w (Pst g a s A cap all k w (CV w) (pCond s.size a (N + 1) (all.drop k))) := by
  by_cases h1 : hd (all.drop k) = [102, 111, 114, 97, 108, 108]
  · exact condP_all h hE hg hN h1
  by_cases h2 : hd (all.drop k) = [126]
  · exact condP_never h hE hg hN h2
  · exact condP_exists h hE hg hN h2 h1
/-- What Parse ends in: what the plain parser says; the kids lie in memory made since w. -/
def PPost (a : Int) (l : List UInt8) (w : World) (e : Ending) (w' : World) : Prop :=
  ∃ kv, e = .returned (.tuple #[condV (parseC a l).1.1 (parseC a l).1.2.k (parseC a l).1.2.t (parseC a l).1.2.r (parseC a l).1.2.l (parseC a l).1.2.v kv, .int .i64 (parseC a l).2.1, .int .i64 (parseC a l).2.2]) ∧
    (parseC a l).1.2.l.length ≤ 262144 ∧ KidC w' (fun b => w.heap.size ≤ b ∧ b < w'.heap.size) kv (parseC a l).1.2.kids ∧ Below w.heap.size w w'
theorem PPost.mk {a : Int} {l : List UInt8} {w w' : World} {q : Int} {n : Nd} {er : Int} {p : Nat} {kv : Value} (hr : parseC a l = ((q, n), er, p)) (hl : n.l.length ≤ 262144) (hk : KidC w' (fun b => w.heap.size ≤ b ∧ b < w'.heap.size) kv n.kids) (hb : Below w.heap.size w w') :
    PPost a l w (.returned (.tuple #[condV q n.k n.t n.r n.l n.v kv, .int .i64 er, .int .i64 p])) w' := by
  unfold PPost
  rw [hr]
  exact ⟨kv, rfl, hl, hk, hb⟩
theorem three_new (w : World) (e p : Value) : Res3 (((w.alloc (.cells zeroCond 28 (0, 0))).alloc (.cells #[e] 29 (0, 0))).alloc (.cells #[p] 3 (0, 0))) w.heap.size zeroCond e p :=
  ⟨((Blk.new w 28 zeroCond).alloc _).alloc _, by have := (Blk.new (w.alloc (.cells zeroCond 28 (0, 0))) 29 #[e]).alloc (.cells #[p] 3 (0, 0)); simpa using this, by have := Blk.new ((w.alloc (.cells zeroCond 28 (0, 0))).alloc (.cells #[e] 29 (0, 0))) 3 #[p]; simpa using this⟩
theorem three_below (w : World) (o1 o2 o3 : Obj) : Below w.heap.size w (((w.alloc o1).alloc o2).alloc o3) := below_alloc (below_alloc (alloc_b w _) _) _
theorem Res3.keep {w w' : World} {b : Nat} {c : Array Value} {e p : Value} (h : Res3 w b c e p) (hk : ∀ i, i = b ∨ i = b + 1 ∨ i = b + 2 → w'.heap[i]? = w.heap[i]?) : Res3 w' b c e p :=
  ⟨(hk b (.inl rfl)).trans h.c, (hk (b + 1) (.inr (.inl rfl))).trans h.e, (hk (b + 2) (.inr (.inr rfl))).trans h.p⟩
theorem Res3.below {w w' : World} {b : Nat} {c : Array Value} {e p : Value} (h : Res3 w b c e p) (hb : Below w.heap.size w w') : Res3 w' b c e p := by
  have h1 := h.p.lt
  exact h.keep fun i hi => hb.block i (by omega)
theorem Res3.only {w w' : World} {b g : Nat} {c : Array Value} {e p : Value} (h : Res3 w b c e p) (hb : Only g w w') (hg : b + 2 < g) : Res3 w' b c e p := by
  have h1 := h.p.lt
  exact h.keep fun i hi => hb.block i (by omega) (fun e => by injection e; omega)
theorem parse_end {w' : World} {b : Nat} {q : Int} {n : Nd} {kv e p : Value} {tmps : Array Value} {R : Ending → World → Prop} (hr : Res3 w' b (condCs q n kv) e p) (h4 : tmps[4]? = some (.pointer (some ⟨b, 0, none⟩))) (h5 : tmps[5]? = some (.pointer (some ⟨b + 1, 0, none⟩))) (h6 : tmps[6]? = some (.pointer (some ⟨b + 2, 0, none⟩)))
    (hR : R (.returned (.tuple #[condV q n.k n.t n.r n.l n.v kv, e, p])) w') : Leaves Tryz.prog Tryz.f17 tmps R [] .returning w' :=
  ⟨_, results_zero3 _ Tryz.results17 b w' q n kv e p tmps h4 h5 h6 hr, hR⟩
section
variable {a : Int} {s : ByteArray} {w : World}
set_option maxHeartbeats 2000000 in
set_option maxRecDepth 100000 in
theorem parseP_arch (ha : archB a = false) : Calls Tryz.prog 17 #[.int .i64 a, .string s] w (PPost a s.data.toList w) := by
  have hR : parseC a s.data.toList = ((0, noNd), 5, 0) := by simp [parseC, ha]
  have HA := Lib.hid ha
  have HR := Lib.hid hR
  have hmf : ∀ (fn : Fn) (first cap : Array Value) (w : World), (Instr.makeFunc fn first cap).run Tryz.prog w = .ok (.func fn first cap) w := fun _ _ _ _ => rfl
  clear ha hR
  go_enter_defers Tryz.func17, Tryz.ntmps17
  go_wp2_with (go_at_call 35; refine (archP _ _).mono ?_; rw [HA.out]; rintro e w' ⟨rfl, rfl⟩)
  exact parse_end (q := 0) (n := noNd) (three_new w (.int .i64 5) (.int .i64 0)) rfl rfl rfl (PPost.mk (p := 0) HR.out (by simp [noNd]) (KidC.nil _ _) (three_below w _ _ _))
set_option maxHeartbeats 2000000 in
set_option maxRecDepth 100000 in
theorem parseP_long (ha : archB a = true) (hs : 262144 < s.size) (hs2 : s.size ≤ 9223372036854775807) : Calls Tryz.prog 17 #[.int .i64 a, .string s] w (PPost a s.data.toList w) := by
  have hR : parseC a s.data.toList = ((0, noNd), 2, 0) := by
    have : 262144 < s.data.toList.length := hs
    simp only [parseC, ha, Bool.true_eq_false, if_false, if_pos this]
  have HA := Lib.hid ha
  have HR := Lib.hid hR
  have hmf : ∀ (fn : Fn) (first cap : Array Value) (w : World), (Instr.makeFunc fn first cap).run Tryz.prog w = .ok (.func fn first cap) w := fun _ _ _ _ => rfl
  clear ha hR
  go_enter_defers Tryz.func17, Tryz.ntmps17
  go_wp2_with (go_at_call 35; refine (archP _ _).mono ?_; rw [HA.out]; rintro e w' ⟨rfl, rfl⟩)
  exact parse_end (q := 0) (n := noNd) (three_new w (.int .i64 2) (.int .i64 0)) rfl rfl rfl (PPost.mk (p := 0) HR.out (by simp [noNd]) (KidC.nil _ _) (three_below w _ _ _))
theorem rd_of_toks {x : World} {B : Nat} {v : Value} (hs : s.size ≤ 262144) (h : x.ownsRow B 121 2 v (toks 0 s.data.toList).length (tokCells (toks 0 s.data.toList))) :
    ∃ A cap, v = .slice A (toks 0 s.data.toList).length cap ∧ Rd (x.alloc (.cells #[.int .i64 a, .string s, v, .int .i64 0] 88 (0, 0))) x.heap.size a s A cap (toks 0 s.data.toList) 0 := by
  have hlen : s.data.toList.length = s.size := rfl
  have htl := toks_len 0 s.data.toList
  have htx : ∀ t ∈ toks 0 s.data.toList, t.1 ≠ [] ∧ t.1.length ≤ 262144 := fun t ht => by
    have := toks_txt _ _ _ t ht
    exact ⟨this.1, by omega⟩
  have hsh : ∃ A cap, v = .slice A (toks 0 s.data.toList).length cap := by
    rcases h.2 with ⟨rfl, h0⟩ | ⟨g, cap, cur, rfl, _⟩
    · exact ⟨none, 0, by rw [h0]⟩
    · exact ⟨_, _, rfl⟩
  obtain ⟨A, cap, rfl⟩ := hsh
  refine ⟨A, cap, rfl, Blk.new x _ _, fun i t ht => ?_, by omega, hs, Nat.zero_le _, htx⟩
  have hi := (List.getElem?_eq_some_iff.1 ht).1
  obtain ⟨c0, c1⟩ := tokCells_at _ _ _ ht
  rcases h.2 with ⟨_, h0⟩ | ⟨g, cap', cur, he, _, hg, _⟩
  · omega
  · simp only [Value.slice.injEq] at he
    obtain ⟨rfl, _, rfl⟩ := he
    have hgl : g < x.heap.size := (h.lt g rfl).2
    exact ⟨g, rfl, by omega, cell_al ((h.cellAt (i * 2) (by omega)).trans c0) _, cell_al ((h.cellAt (i * 2 + 1) (by omega)).trans c1) _⟩
theorem parseC_bad {p : Nat} (ha : archB a = true) (hs : s.size ≤ 262144) (h : pCond s.size a (s.size + 1) (toks 0 s.data.toList) = .bad p) : parseC a s.data.toList = ((0, noNd), 80, p) := by
  have hlen : s.data.toList.length = s.size := rfl
  have h1 : ¬ 262144 < s.data.toList.length := by omega
  rw [parseC, if_neg (by simp [ha]), if_neg h1, hlen, h]
theorem parseC_ok {q : Int} {n : Nd} {L : List Tok} (ha : archB a = true) (hs : s.size ≤ 262144) (h : pCond s.size a (s.size + 1) (toks 0 s.data.toList) = .ok (q, n) L) :
    parseC a s.data.toList = if checkC a q n.k n.t n.r n.l n.v n.kids = 0 then ((q, n), 0, 0) else ((0, noNd), checkC a q n.k n.t n.r n.l n.v n.kids, 0) := by
  have hlen : s.data.toList.length = s.size := rfl
  have h1 : ¬ 262144 < s.data.toList.length := by omega
  rw [parseC, if_neg (by simp [ha]), if_neg h1, hlen, h]
set_option maxHeartbeats 2000000 in
set_option maxRecDepth 100000 in
theorem parseP_go (ha : archB a = true) (hs : s.size ≤ 262144) (hE : Env w) : Calls Tryz.prog 17 #[.int .i64 a, .string s] w (PPost a s.data.toList w) := by
  obtain ⟨r, hr⟩ : ∃ r, pCond s.size a (s.size + 1) (toks 0 s.data.toList) = r := ⟨_, rfl⟩
  have hlen : s.data.toList.length = s.size := rfl
  have HA := Lib.hid ha
  have HC := Lib.hid hr
  have htl := toks_len 0 s.data.toList
  have H3 := Lib.hid (three_new w (.int .i64 0) (.int .i64 0))
  have HB := Lib.hid (three_below w (.cells zeroCond 28 (0, 0)) (.cells #[.int .i64 0] 29 (0, 0)) (.cells #[.int .i64 0] 3 (0, 0)))
  have hmf : ∀ (fn : Fn) (first cap : Array Value) (w : World), (Instr.makeFunc fn first cap).run Tryz.prog w = .ok (.func fn first cap) w := fun _ _ _ _ => rfl
  have HEv := Lib.hid hE
  clear ha hr hE
  cases r with
  | bad p =>
    have HR := Lib.hid (parseC_bad HA.out hs HC.out)
    go_enter_defers Tryz.func17, Tryz.ntmps17
    go_wp2_with (first | (go_at_call 35; refine (archP _ _).mono ?_; rw [HA.out]; rintro e w' ⟨rfl, rfl⟩) | (go_at_call 44; refine (tokensP s _ hs).mono ?_; rintro e w2 ⟨v, rfl, hown, hb2⟩; have H3 := Lib.hid (H3.out.below hb2); have HB := Lib.hid (below_trans HB.out hb2); obtain ⟨A, cap, rfl, hrd⟩ := rd_of_toks (a := a) hs hown; have HD := Lib.hid hrd; clear hown hb2 hrd))
    have hz2 : w.heap.size + 2 < w2.heap.size := H3.out.p.lt
    have hE2 : Env (w2.alloc (.cells #[.int .i64 a, .string s, .slice A (toks 0 s.data.toList).length cap, .int .i64 0] 88 (0, 0))) := HEv.out.mono (below_alloc HB.out _)
    have h6 : 6 ≤ w2.heap.size := by have := HEv.out.size; omega
    have HE2 := Lib.hid hE2
    clear hE2
    go_wp2_with (go_at_call 45; refine (condP HD.out HE2.out h6 (N := s.size) (by omega)).mono ?_; rw [List.drop_zero, HC.out]; rintro e w4 ⟨rfl, ho⟩)
    have H4 := ((H3.out.below (alloc_b w2 _)).only ho (by omega))
    have hB4 : Below w.heap.size w w4 := Only.below (below_alloc HB.out _) (by omega) ho
    refine leaves_cons (f := 43) (args := #[.pointer (some ⟨w.heap.size, 0, none⟩), .pointer (some ⟨w.heap.size + 1, 0, none⟩), .pointer (some ⟨w.heap.size + 2, 0, none⟩)]) (by simp) (by simp [go_sem]) ?_
    refine (catchP_panic w.heap.size 0 0 0 0 ⟨#[]⟩ 0 (.slice none 0 0) p w4 H4).mono ?_
    rintro e u' w5 ⟨rfl, rfl, hr5, hb5⟩
    exact parse_end (q := 0) (n := noNd) hr5 rfl rfl rfl (PPost.mk HR.out (by simp [noNd]) (KidC.nil _ _) (hB4.trans hb5))
  | ok x L =>
    obtain ⟨q, n⟩ := x
    have HR := Lib.hid (parseC_ok HA.out hs HC.out)
    obtain ⟨er, her⟩ : ∃ er, checkC a q n.k n.t n.r n.l n.v n.kids = er := ⟨_, rfl⟩
    have HER := Lib.hid her
    clear her
    go_enter_defers Tryz.func17, Tryz.ntmps17
    go_wp2_with (first | (go_at_call 35; refine (archP _ _).mono ?_; rw [HA.out]; rintro e w' ⟨rfl, rfl⟩) | (go_at_call 44; refine (tokensP s _ hs).mono ?_; rintro e w2 ⟨v, rfl, hown, hb2⟩; have H3 := Lib.hid (H3.out.below hb2); have HB := Lib.hid (below_trans HB.out hb2); obtain ⟨A, cap, rfl, hrd⟩ := rd_of_toks (a := a) hs hown; have HD := Lib.hid hrd; clear hown hb2 hrd))
    have hz2 : w.heap.size + 2 < w2.heap.size := H3.out.p.lt
    have hE2 : Env (w2.alloc (.cells #[.int .i64 a, .string s, .slice A (toks 0 s.data.toList).length cap, .int .i64 0] 88 (0, 0))) := HEv.out.mono (below_alloc HB.out _)
    have h6 : 6 ≤ w2.heap.size := by have := HEv.out.size; omega
    have HE2 := Lib.hid hE2
    clear hE2
    go_wp2_with (go_at_call 45; refine (condP HD.out HE2.out h6 (N := s.size) (by omega)).mono ?_; rw [List.drop_zero, HC.out]; rintro e w4 ⟨v4, k4, rfl, ⟨hnl, kv, rfl, hkc⟩, hrd4, hL4, hk4, ho⟩; obtain ⟨Ak, ck, rfl⟩ := hkc.shape; have HKC := Lib.hid hkc; have HNL := Lib.hid hnl; have H4 := Lib.hid ((H3.out.below (alloc_b w2 _)).only ho (by omega)); have HB4 := Lib.hid (Only.below (below_alloc HB.out _) (by omega) ho : Below w.heap.size w w4); have a0 : (w4).cell? ⟨w.heap.size, 0, none⟩ = some (.int .i64 0) := H4.out.c.cell 0; have f0 : (w4).frozen? ⟨w.heap.size, 0, none⟩ = false := H4.out.c.frozen 0; have a1 : (w4).cell? ⟨w.heap.size, 1, none⟩ = some (.int .i64 0) := H4.out.c.cell 1; have f1 : (w4).frozen? ⟨w.heap.size, 1, none⟩ = false := H4.out.c.frozen 1; have a2 : (w4).cell? ⟨w.heap.size, 2, none⟩ = some (.int .i64 0) := H4.out.c.cell 2; have f2 : (w4).frozen? ⟨w.heap.size, 2, none⟩ = false := H4.out.c.frozen 2; have a3 : (w4).cell? ⟨w.heap.size, 3, none⟩ = some (.int .i64 0) := H4.out.c.cell 3; have f3 : (w4).frozen? ⟨w.heap.size, 3, none⟩ = false := H4.out.c.frozen 3; have a4 : (w4).cell? ⟨w.heap.size, 4, none⟩ = some (.string ⟨#[]⟩) := H4.out.c.cell 4; have f4 : (w4).frozen? ⟨w.heap.size, 4, none⟩ = false := H4.out.c.frozen 4; have a5 : (w4).cell? ⟨w.heap.size, 5, none⟩ = some (.int .i64 0) := H4.out.c.cell 5; have f5 : (w4).frozen? ⟨w.heap.size, 5, none⟩ = false := H4.out.c.frozen 5; have a6 : (w4).cell? ⟨w.heap.size, 6, none⟩ = some (.slice none 0 0) := H4.out.c.cell 6; have f6 : (w4).frozen? ⟨w.heap.size, 6, none⟩ = false := H4.out.c.frozen 6; have ae : (w4).cell? ⟨w.heap.size + 1, 0, none⟩ = some (.int .i64 0) := H4.out.e.cell 0; have ap : (w4).cell? ⟨w.heap.size + 1 + 1, 0, none⟩ = some (.int .i64 0) := H4.out.p.cell 0; have fe : (w4).frozen? ⟨w.heap.size + 1, 0, none⟩ = false := H4.out.e.frozen 0; have fp : (w4).frozen? ⟨w.heap.size + 1 + 1, 0, none⟩ = false := H4.out.p.frozen 0; clear hkc hrd4 hL4 hk4 hnl)
    have H5 := Lib.hid (H4.out.putC (.int .i64 q) (.int .i64 n.k) (.int .i64 n.t) (.int .i64 n.r) (.string ⟨n.l.toArray⟩) (.int .i64 n.v) (.slice Ak n.kids.len ck))
    have HB5 := Lib.hid (below_putC HB4.out (Nat.le_refl _) (.int .i64 q) (.int .i64 n.k) (.int .i64 n.t) (.int .i64 n.r) (.string ⟨n.l.toArray⟩) (.int .i64 n.v) (.slice Ak n.kids.len ck))
    have hk5 := HKC.out.keep fun i hi => heap_putC (w := w4) (b := w.heap.size) (i := i) (by have := hi.1; simp at this; omega) (.int .i64 q) (.int .i64 n.k) (.int .i64 n.t) (.int .i64 n.r) (.string ⟨n.l.toArray⟩) (.int .i64 n.v) (.slice Ak n.kids.len ck)
    have hk5' := KidC.mono (S' := fun i => w.heap.size + 2 < i ∧ i < w4.heap.size) hk5 (fun i hi => by
      have h1 := hi.1
      have h2 := hi.2
      simp at h1
      exact ⟨by omega, h2⟩)
    have HK5 := Lib.hid hk5'
    clear hk5 hk5'
    have hsz : (((((((w4.setCell ⟨w.heap.size, 0, none⟩ (.int .i64 q)).setCell ⟨w.heap.size, 1, none⟩ (.int .i64 n.k)).setCell ⟨w.heap.size, 2, none⟩ (.int .i64 n.t)).setCell ⟨w.heap.size, 3, none⟩ (.int .i64 n.r)).setCell ⟨w.heap.size, 4, none⟩ (.string ⟨n.l.toArray⟩)).setCell ⟨w.heap.size, 5, none⟩ (.int .i64 n.v)).setCell ⟨w.heap.size, 6, none⟩ (.slice Ak n.kids.len ck)).heap.size = w4.heap.size := by simp only [size_set]
    have HSZ := Lib.hid hsz
    clear a0 a1 a2 a3 a4 a5 a6 f0 f1 f2 f3 f4 f5 f6 ae ap fe fp hsz
    have HSL := Lib.hid (HK5.out.sl (hi := w4.heap.size) (fun i hi => hi.2))
    rw [← HSZ.out] at HSL
    have HL := Lib.hid (show n.l.length ≤ 9223372036854775807 by have := HNL.out; omega)
    go_wp2_with fail
    refine (checkP a q n.k n.t n.r n.l n.v _ n.kids _ HL.out HSL.out).mono ?_
    rw [HER.out]
    rintro e w6 ⟨rfl, hb6⟩
    have H6 := Lib.hid (H5.out.below hb6)
    have HB6 := Lib.hid (below_trans HB5.out hb6)
    have HK6 := Lib.hid (HK5.out.keep (w' := w6) fun i hi => hb6.block i (by rw [HSZ.out]; exact hi.2))
    have hz6 : w4.heap.size ≤ w6.heap.size := by rw [← HSZ.out]; exact hb6.size
    clear hb6
    have a0 : (w6).cell? ⟨w.heap.size, 0, none⟩ = some (.int .i64 q) := H6.out.c.cell 0; have f0 : (w6).frozen? ⟨w.heap.size, 0, none⟩ = false := H6.out.c.frozen 0; have a1 : (w6).cell? ⟨w.heap.size, 1, none⟩ = some (.int .i64 n.k) := H6.out.c.cell 1; have f1 : (w6).frozen? ⟨w.heap.size, 1, none⟩ = false := H6.out.c.frozen 1; have a2 : (w6).cell? ⟨w.heap.size, 2, none⟩ = some (.int .i64 n.t) := H6.out.c.cell 2; have f2 : (w6).frozen? ⟨w.heap.size, 2, none⟩ = false := H6.out.c.frozen 2; have a3 : (w6).cell? ⟨w.heap.size, 3, none⟩ = some (.int .i64 n.r) := H6.out.c.cell 3; have f3 : (w6).frozen? ⟨w.heap.size, 3, none⟩ = false := H6.out.c.frozen 3; have a4 : (w6).cell? ⟨w.heap.size, 4, none⟩ = some (.string ⟨n.l.toArray⟩) := H6.out.c.cell 4; have f4 : (w6).frozen? ⟨w.heap.size, 4, none⟩ = false := H6.out.c.frozen 4; have a5 : (w6).cell? ⟨w.heap.size, 5, none⟩ = some (.int .i64 n.v) := H6.out.c.cell 5; have f5 : (w6).frozen? ⟨w.heap.size, 5, none⟩ = false := H6.out.c.frozen 5; have a6 : (w6).cell? ⟨w.heap.size, 6, none⟩ = some (.slice Ak n.kids.len ck) := H6.out.c.cell 6; have f6 : (w6).frozen? ⟨w.heap.size, 6, none⟩ = false := H6.out.c.frozen 6; have ae : (w6).cell? ⟨w.heap.size + 1, 0, none⟩ = some (.int .i64 0) := H6.out.e.cell 0; have ap : (w6).cell? ⟨w.heap.size + 1 + 1, 0, none⟩ = some (.int .i64 0) := H6.out.p.cell 0; have fe : (w6).frozen? ⟨w.heap.size + 1, 0, none⟩ = false := H6.out.e.frozen 0; have fp : (w6).frozen? ⟨w.heap.size + 1 + 1, 0, none⟩ = false := H6.out.p.frozen 0
    by_cases he : er = 0
    · subst he
      have HR0 := Lib.hid (HR.out.trans (if_pos HER.out))
      go_wp2_with fail
      refine leaves_cons (f := 43) (args := #[.pointer (some ⟨w.heap.size, 0, none⟩), .pointer (some ⟨w.heap.size + 1, 0, none⟩), .pointer (some ⟨w.heap.size + 2, 0, none⟩)]) (by simp) (by simp [go_sem]) ?_
      refine (catchP_idle _ _ _ _).mono ?_
      rintro e u' w7 ⟨rfl, rfl, rfl⟩
      have K6 := HK6.out.keep (w' := World.setCell (World.setCell (World.setCell (World.setCell (World.setCell (World.setCell (World.setCell (World.setCell (World.setCell w6 ⟨w.heap.size, 0, none⟩ (.int .i64 q)) ⟨w.heap.size, 1, none⟩ (.int .i64 n.k)) ⟨w.heap.size, 2, none⟩ (.int .i64 n.t)) ⟨w.heap.size, 3, none⟩ (.int .i64 n.r)) ⟨w.heap.size, 4, none⟩ (.string ⟨n.l.toArray⟩)) ⟨w.heap.size, 5, none⟩ (.int .i64 n.v)) ⟨w.heap.size, 6, none⟩ (.slice Ak n.kids.len ck)) ⟨w.heap.size + 1, 0, none⟩ (.int .i64 0)) ⟨w.heap.size + 2, 0, none⟩ (.int .i64 0)) fun i hi => heap_put (by omega) (by omega) (by omega) _ _ _ _ _ _ _ _ _
      refine parse_end (q := q) (n := n) (H6.out.put _ _ _ _ _ _ _ _ _) rfl rfl rfl (PPost.mk (p := 0) HR0.out HNL.out (K6.mono fun i hi => ?_) (below_put HB6.out (Nat.le_refl _) _ _ _ _ _ _ _ _ _))
      have h1 := hi.1
      have h2 := hi.2
      simp only [size_set]
      exact ⟨by omega, by omega⟩
    · have he1 : (er != 0) = true := by simpa using he
      have HR0 := Lib.hid (HR.out.trans ((if_neg (by rw [HER.out]; exact he)).trans (by rw [HER.out])))
      clear he
      go_wp2_with fail
      refine leaves_cons (f := 43) (args := #[.pointer (some ⟨w.heap.size, 0, none⟩), .pointer (some ⟨w.heap.size + 1, 0, none⟩), .pointer (some ⟨w.heap.size + 2, 0, none⟩)]) (by simp) (by simp [go_sem]) ?_
      refine (catchP_idle _ _ _ _).mono ?_
      rintro e u' w7 ⟨rfl, rfl, rfl⟩
      exact parse_end (q := 0) (n := noNd) (H6.out.put _ _ _ _ _ _ _ _ _) rfl rfl rfl (PPost.mk (p := 0) HR0.out (by simp [noNd]) (KidC.nil _ _) (below_put HB6.out (Nat.le_refl _) _ _ _ _ _ _ _ _ _))
/-- The program's Parse answers what the plain parser does. -/
theorem parseP (hs : s.size ≤ 9223372036854775807) (hE : Env w) : Calls Tryz.prog 17 #[.int .i64 a, .string s] w (PPost a s.data.toList w) := by
  cases ha : archB a with
  | false => exact parseP_arch ha
  | true =>
    by_cases h : 262144 < s.size
    · exact parseP_long ha h hs
    · exact parseP_go ha (by omega) hE
end
end Go.Proofs.YtmlnibjnacfanaaGreatDoor
