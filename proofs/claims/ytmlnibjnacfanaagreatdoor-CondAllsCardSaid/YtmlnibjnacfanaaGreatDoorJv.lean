/- Layer 8: the walk of CondAlls. -/
import Derived.Test.YtmlnibjnacfanaaGreatDoorJu
namespace Go.Proofs.YtmlnibjnacfanaaGreatDoor
open Go.RowKit

/-- What lies in memory once all three conditions are made. -/
structure AllsSt (w : World) (v0 : Value) (T : List Th) (Av : Option Addr) (vs : List Int) (g5 c5 B6 : Nat) (v6 : Value) (S1 S2 S3 : Nat → Prop) (q1 : Int) (n1 : Nd) (kv1 kv2 kv3 : Value) (ba bb bw : Nat) : Prop where
  ths : ThsV w v0 T
  vals : IntsAt w Av vs
  lent : LentAt w g5 c5 vs
  twin : w.ownsRow B6 23 3 v6 T.length (thCells T)
  k1 : KidC w S1 kv1 n1.kids
  k2 : KidC w S2 kv2 n1.kids
  k3 : KidC w S3 kv3 n1.kids
  xa : Blk w ba 28 #[.int .i64 q1, .int .i64 n1.k, .int .i64 n1.t, .int .i64 n1.r, .string ⟨n1.l.toArray⟩, .int .i64 n1.v, kv1]
  xb : Blk w bb 28 #[.int .i64 q1, .int .i64 n1.k, .int .i64 n1.t, .int .i64 n1.r, .string ⟨n1.l.toArray⟩, .int .i64 n1.v, kv2]
  xw : Blk w bw 28 #[.int .i64 q1, .int .i64 n1.k, .int .i64 n1.t, .int .i64 n1.r, .string ⟨n1.l.toArray⟩, .int .i64 n1.v, kv3]
  env : Env w
  s1 : ∀ b, S1 b → b < w.heap.size
  s2 : ∀ b, S2 b → b < w.heap.size
  s3 : ∀ b, S3 b → b < w.heap.size
theorem AllsSt.go {w w' : World} {v0 : Value} {T : List Th} {Av : Option Addr} {vs : List Int} {g5 c5 B6 : Nat} {v6 : Value} {S1 S2 S3 : Nat → Prop} {q1 : Int} {n1 : Nd} {kv1 kv2 kv3 : Value} {ba bb bw : Nat}
    (h : AllsSt w v0 T Av vs g5 c5 B6 v6 S1 S2 S3 q1 n1 kv1 kv2 kv3 ba bb bw) (hb : Below w.heap.size w w') : AllsSt w' v0 T Av vs g5 c5 B6 v6 S1 S2 S3 q1 n1 kv1 kv2 kv3 ba bb bw :=
  ⟨h.ths.below hb, h.vals.below hb, h.lent.below hb, own_below h.twin hb, h.k1.keep (fun b hS => hb.block b (h.s1 b hS)), h.k2.keep (fun b hS => hb.block b (h.s2 b hS)), h.k3.keep (fun b hS => hb.block b (h.s3 b hS)),
    h.xa.go hb, h.xb.go hb, h.xw.go hb, h.env.mono hb, fun b hS => Nat.lt_of_lt_of_le (h.s1 b hS) hb.size, fun b hS => Nat.lt_of_lt_of_le (h.s2 b hS) hb.size, fun b hS => Nat.lt_of_lt_of_le (h.s3 b hS) hb.size⟩
/-- What stays behind Spoil. -/
structure AllsEnd (w : World) (S2 S3 : Nat → Prop) (q1 : Int) (n1 : Nd) (kv2 kv3 : Value) (bb bw : Nat) : Prop where
  k2 : KidC w S2 kv2 n1.kids
  k3 : KidC w S3 kv3 n1.kids
  xb : Blk w bb 28 #[.int .i64 q1, .int .i64 n1.k, .int .i64 n1.t, .int .i64 n1.r, .string ⟨n1.l.toArray⟩, .int .i64 n1.v, kv2]
  xw : Blk w bw 28 #[.int .i64 q1, .int .i64 n1.k, .int .i64 n1.t, .int .i64 n1.r, .string ⟨n1.l.toArray⟩, .int .i64 n1.v, kv3]
  s2 : ∀ b, S2 b → b < w.heap.size
  s3 : ∀ b, S3 b → b < w.heap.size
theorem AllsEnd.of {w : World} {v0 : Value} {T : List Th} {Av : Option Addr} {vs : List Int} {g5 c5 B6 : Nat} {v6 : Value} {S1 S2 S3 : Nat → Prop} {q1 : Int} {n1 : Nd} {kv1 kv2 kv3 : Value} {ba bb bw : Nat}
    (h : AllsSt w v0 T Av vs g5 c5 B6 v6 S1 S2 S3 q1 n1 kv1 kv2 kv3 ba bb bw) : AllsEnd w S2 S3 q1 n1 kv2 kv3 bb bw := ⟨h.k2, h.k3, h.xb, h.xw, h.s2, h.s3⟩
theorem AllsEnd.keep {w w' : World} {S2 S3 : Nat → Prop} {q1 : Int} {n1 : Nd} {kv2 kv3 : Value} {bb bw : Nat} (h : AllsEnd w S2 S3 q1 n1 kv2 kv3 bb bw) (hk : ∀ b, (S2 b ∨ S3 b ∨ b = bb ∨ b = bw) → w'.heap[b]? = w.heap[b]?) (hz : w.heap.size ≤ w'.heap.size) :
    AllsEnd w' S2 S3 q1 n1 kv2 kv3 bb bw :=
  ⟨h.k2.keep (fun b hS => hk b (.inl hS)), h.k3.keep (fun b hS => hk b (.inr (.inl hS))), (hk bb (.inr (.inr (.inl rfl)))).trans h.xb, (hk bw (.inr (.inr (.inr rfl)))).trans h.xw, fun b hS => Nat.lt_of_lt_of_le (h.s2 b hS) hz, fun b hS => Nat.lt_of_lt_of_le (h.s3 b hS) hz⟩
/-- A block of things. -/
def TBlk (w : World) (b m : Nat) : Prop := ∃ cur, Blk w b 23 cur ∧ cur.size = m * 3
theorem TBlk.lt {w : World} {b m : Nat} (h : TBlk w b m) : b < w.heap.size := by
  obtain ⟨cur, h, _⟩ := h
  exact h.lt
theorem TBlk.same {w w' : World} {b m : Nat} (h : TBlk w b m) (he : w'.heap[b]? = w.heap[b]?) : TBlk w' b m := by
  obtain ⟨cur, h, hs⟩ := h
  exact ⟨cur, he.trans h, hs⟩
theorem TBlk.cell {w : World} {b m : Nat} (h : TBlk w b m) {i : Nat} (hi : i < m * 3) : (w.cell? ⟨b, i, none⟩).isSome = true ∧ w.frozen? ⟨b, i, none⟩ = false := by
  obtain ⟨cur, h, hs⟩ := h
  refine ⟨?_, h.frozen i⟩
  rw [h.cell i, Array.getElem?_eq_getElem (by omega)]; rfl
theorem TBlk.set3 {w : World} {b m : Nat} (h : TBlk w b m) (i j k : Nat) (u v x : Value) : TBlk (((w.setCell ⟨b, i, none⟩ u).setCell ⟨b, j, none⟩ v).setCell ⟨b, k, none⟩ x) b m := by
  obtain ⟨cur, h, hs⟩ := h
  exact ⟨_, ((h.set_ i u).set_ j v).set_ k x, by simpa using hs⟩
theorem tblk_of {w : World} {B n c g : Nat} {cs : List Value} (h : w.ownsRow B 23 3 (.slice (some ⟨g, 0, none⟩) n c) n cs) : TBlk w g c := by
  rcases h.2 with ⟨e, _⟩ | ⟨g', cap', cur, e, _, h1, _, _, h2, _⟩
  · cases e
  · simp only [Value.slice.injEq, Option.some.injEq, Addr.mk.injEq, and_true, true_and] at e
    obtain ⟨rfl, rfl⟩ := e
    exact ⟨cur, h1, h2⟩
theorem own_ths6 {w : World} {B n c : Nat} {A : Option Addr} {T : List Th} (h : w.ownsRow B 23 3 (.slice A n c) T.length (thCells T)) : ThsB w A T := by
  obtain ⟨A', cap, e, h⟩ := own_thsB h
  simp only [Value.slice.injEq] at e
  obtain ⟨rfl, _, rfl⟩ := e
  exact h
theorem ths_v {w : World} {A : Option Addr} {n c : Nat} {T : List Th} (h : ThsV w (.slice A n c) T) : ThsB w A T := by
  obtain ⟨A', cap, e, h, _⟩ := h
  simp only [Value.slice.injEq] at e
  obtain ⟨rfl, _, rfl⟩ := e
  exact h
set_option maxHeartbeats 8000000 in
set_option maxRecDepth 100000 in
theorem walkAlls (v0 v1 : Value) (T : List Th) (vs : List Int) (w : World) (hT : ThsV w v0 T) (hV : IntsV w v1 vs) (hE : Env w) :
    Calls Tryz.prog 8 #[v0, v1] w fun e w' => e = .returned (.bool true) ∧ Below w.heap.size w w' := by
  obtain ⟨A0, ca0, rfl, hT1, hT2, hT3, hT4, hT5, hT6⟩ := hT
  have hT : ThsV w (.slice A0 T.length ca0) T := ⟨A0, ca0, rfl, hT1, hT2, hT3, hT4, hT5, hT6⟩
  have hV' := hV
  obtain ⟨Av, cav, rfl, hV1, hV2, hV3, hV4, hV5⟩ := hV'
  have HT0 := Lib.hid hT
  have HV0 := Lib.hid hV
  have HVI := Lib.hid hV1
  have HTB := Lib.hid hT1
  have HX := Lib.hid hT6
  have HE0 := Lib.hid hE
  have hTl : T.length ≤ 9223372036854775807 := by omega
  have hvl : vs.length ≤ 9223372036854775807 := by omega
  have hTl6 : T.length ≤ 9223372036854775806 := by omega
  have hvl5 : vs.length ≤ 17592186043904 := by omega
  obtain ⟨E, hEc⟩ : ∃ E, (allC T vs).2 = E := ⟨_, rfl⟩
  obtain ⟨q1, hq1⟩ : ∃ x, (allC T vs).1.1 = x := ⟨_, rfl⟩
  obtain ⟨n1, hn1⟩ : ∃ x, (allC T vs).1.2 = x := ⟨_, rfl⟩
  have HR := Lib.hid (show allC T vs = ((q1, n1), E) by rw [← hEc, ← hq1, ← hn1])
  clear hT hT1 hT2 hT6 hV hV1 hV2 hE hEc hq1 hn1
  go_enter Tryz.func8, Tryz.ntmps8
  go_wp2_with (first
    | (go_at_call 25; (with_reducible refine (lentR _ vs _ HV0.out).mono ?_); rintro e w1 ⟨g5, c5, rfl, hg5, hL, hb1⟩; have HL := Lib.hid hL; have HB1 := Lib.hid hb1; have hz1 := hb1.size; clear hL hb1)
    | (at_builtin; refine app_ths (w1.alloc (.cells #[] 23 (0, 0))) rfl _ _ rfl w1.heap.size T _ _ rfl rfl (own_empty w1 _ _) ((HT0.out.below HB1.out).below (alloc_b _ _)) (by simp) ?_; intro v6 w2 hown6 hgr6; obtain ⟨A6, c6, rfl⟩ := own_shp hown6; have HO6 := Lib.hid hown6; have HB2 := Lib.hid (show Below w1.heap.size w1 w2 from (alloc_b w1 _).grown hgr6 (by simp) (fun j hj => by cases hj; exact Nat.le_refl _)); have hz2 := HB2.out.size; clear hown6 hgr6)
    | fail)
  have ht6 : ThsB w2 A6 T := by
    obtain ⟨A, cap, e, h⟩ := own_thsB HO6.out
    simp only [Value.slice.injEq, true_and] at e
    obtain ⟨rfl, rfl⟩ := e
    exact h
  have HT6 := Lib.hid ht6
  have HL6 := Lib.hid (HL.out.below HB2.out)
  have HLT6 := Lib.hid (fun b (hb : (Value.slice A6 T.length c6).ownBlock = some b) => HO6.out.lt b hb)
  clear ht6
  refine (allCP T vs A6 (some ⟨g5, 0, none⟩) c6 c5 HT6.out HL6.out.ints hTl hvl HX.out).mono ?_
  rw [HR.out]
  rintro e w3 ⟨kv1, rfl, hnl, hk1, hb3⟩
  obtain ⟨A1, cp1, rfl⟩ := hk1.shape
  have HNL := Lib.hid hnl
  have HK1 := Lib.hid hk1
  have HB3 := Lib.hid hb3
  have hz3 := hb3.size
  have hw4 := Lib.hid (below_trans hb3 (alloc_b w3 (.cells #[.int .i64 q1, .int .i64 n1.k, .int .i64 n1.t, .int .i64 n1.r, .string ⟨n1.l.toArray⟩, .int .i64 n1.v, .slice A1 n1.kids.len cp1] 28 (0, 0))))
  clear hnl hk1 hb3
  go_wp2_with fail
  refine (allCP T vs A6 (some ⟨g5, 0, none⟩) c6 c5 (HT6.out.below hw4.out) (HL6.out.below hw4.out).ints hTl hvl HX.out).mono ?_
  rw [HR.out]
  rintro e w4 ⟨kv2, rfl, _, hk2, hb4⟩
  obtain ⟨A2, cp2, rfl⟩ := hk2.shape
  have HK2 := Lib.hid hk2
  have HB4 := Lib.hid hb4
  have hz4 : w3.heap.size + 1 ≤ w4.heap.size := by have := hb4.size; simpa using this
  have hbt : Below w.heap.size w (w4.alloc (.cells #[.int .i64 q1, .int .i64 n1.k, .int .i64 n1.t, .int .i64 n1.r, .string ⟨n1.l.toArray⟩, .int .i64 n1.v, .slice A2 n1.kids.len cp2] 28 (0, 0))) := below_alloc (below_trans HB1.out (below_trans HB2.out (below_trans hw4.out hb4))) _
  have HBT := Lib.hid hbt
  clear hk2 hb4 hbt
  go_wp2_with fail
  refine (allCR T vs A0 Av ca0 cav (HTB.out.below HBT.out) (HVI.out.below HBT.out) hTl hvl HX.out).mono ?_
  rw [HR.out]
  rintro e w5 ⟨kv3, rfl, _, hk3, hb5⟩
  obtain ⟨A3, cp3, rfl⟩ := hk3.shape
  have hz5 : w4.heap.size + 1 ≤ w5.heap.size := by have := hb5.size; simpa using this
  have hbx := below_trans HBT.out (below_alloc hb5 (.cells #[.int .i64 q1, .int .i64 n1.k, .int .i64 n1.t, .int .i64 n1.r, .string ⟨n1.l.toArray⟩, .int .i64 n1.v, .slice A3 n1.kids.len cp3] 28 (0, 0)))
  have hq3 : Below w3.heap.size w3 (w5.alloc (.cells #[.int .i64 q1, .int .i64 n1.k, .int .i64 n1.t, .int .i64 n1.r, .string ⟨n1.l.toArray⟩, .int .i64 n1.v, .slice A3 n1.kids.len cp3] 28 (0, 0))) := below_trans (alloc_b w3 (.cells #[.int .i64 q1, .int .i64 n1.k, .int .i64 n1.t, .int .i64 n1.r, .string ⟨n1.l.toArray⟩, .int .i64 n1.v, .slice A1 n1.kids.len cp1] 28 (0, 0))) (below_trans HB4.out (below_trans (alloc_b w4 (.cells #[.int .i64 q1, .int .i64 n1.k, .int .i64 n1.t, .int .i64 n1.r, .string ⟨n1.l.toArray⟩, .int .i64 n1.v, .slice A2 n1.kids.len cp2] 28 (0, 0))) (below_alloc hb5 (.cells #[.int .i64 q1, .int .i64 n1.k, .int .i64 n1.t, .int .i64 n1.r, .string ⟨n1.l.toArray⟩, .int .i64 n1.v, .slice A3 n1.kids.len cp3] 28 (0, 0)))))
  have hq4 : Below w4.heap.size w4 (w5.alloc (.cells #[.int .i64 q1, .int .i64 n1.k, .int .i64 n1.t, .int .i64 n1.r, .string ⟨n1.l.toArray⟩, .int .i64 n1.v, .slice A3 n1.kids.len cp3] 28 (0, 0))) := below_trans (alloc_b w4 (.cells #[.int .i64 q1, .int .i64 n1.k, .int .i64 n1.t, .int .i64 n1.r, .string ⟨n1.l.toArray⟩, .int .i64 n1.v, .slice A2 n1.kids.len cp2] 28 (0, 0))) (below_alloc hb5 (.cells #[.int .i64 q1, .int .i64 n1.k, .int .i64 n1.t, .int .i64 n1.r, .string ⟨n1.l.toArray⟩, .int .i64 n1.v, .slice A3 n1.kids.len cp3] 28 (0, 0)))
  have hqs : (w5.alloc (.cells #[.int .i64 q1, .int .i64 n1.k, .int .i64 n1.t, .int .i64 n1.r, .string ⟨n1.l.toArray⟩, .int .i64 n1.v, .slice A3 n1.kids.len cp3] 28 (0, 0))).heap.size = w5.heap.size + 1 := by simp
  have HQ := Lib.hid (show AllsSt (w5.alloc (.cells #[.int .i64 q1, .int .i64 n1.k, .int .i64 n1.t, .int .i64 n1.r, .string ⟨n1.l.toArray⟩, .int .i64 n1.v, .slice A3 n1.kids.len cp3] 28 (0, 0))) (.slice A0 T.length ca0) T Av vs g5 c5 w1.heap.size (.slice A6 T.length c6) (fun b => w2.heap.size ≤ b ∧ b < w3.heap.size) (fun b => w3.heap.size + 1 ≤ b ∧ b < w4.heap.size) (fun b => w4.heap.size + 1 ≤ b ∧ b < w5.heap.size) q1 n1 (.slice A1 n1.kids.len cp1) (.slice A2 n1.kids.len cp2) (.slice A3 n1.kids.len cp3) w3.heap.size w4.heap.size w5.heap.size from
    { ths := HT0.out.below hbx
      vals := HVI.out.below hbx
      lent := HL6.out.below (below_trans HB3.out hq3)
      twin := own_below HO6.out (below_trans HB3.out hq3)
      k1 := HK1.out.keep (fun b hS => hq3.block b hS.2)
      k2 := (HK2.out.mono (fun b hS => ⟨by have := hS.1; simpa using this, hS.2⟩)).keep (fun b hS => hq4.block b hS.2)
      k3 := (hk3.mono (fun b hS => ⟨by have := hS.1; simpa using this, hS.2⟩)).keep (fun b hS => Below.heap_alloc w5 _ b hS.2)
      xa := (Blk.new w3 _ _).go (below_trans HB4.out hq4)
      xb := (Blk.new w4 _ _).go (below_alloc hb5 _)
      xw := Blk.new w5 _ _
      env := HE0.out.mono hbx
      s1 := fun b hS => by have := hS.2; omega
      s2 := fun b hS => by have := hS.2; omega
      s3 := fun b hS => by have := hS.2; omega })
  have HT := Lib.hid hbx
  have hzT : w.heap.size ≤ w2.heap.size := by have := HB1.out.size; omega
  clear hk3 hb5 hbx hq3 hq4 hqs
  have a0 := HQ.out.xa.cell 0
  have a1 := HQ.out.xa.cell 1
  have a2 := HQ.out.xa.cell 2
  have a3 := HQ.out.xa.cell 3
  have a4 := HQ.out.xa.cell 4
  have a5 := HQ.out.xa.cell 5
  have a6 := HQ.out.xa.cell 6
  have b0 := HQ.out.xb.cell 0
  have b1 := HQ.out.xb.cell 1
  have b2 := HQ.out.xb.cell 2
  have b3 := HQ.out.xb.cell 3
  have b4 := HQ.out.xb.cell 4
  have b5 := HQ.out.xb.cell 5
  have b6 := HQ.out.xb.cell 6
  have d0 := HQ.out.xw.cell 0
  have d1 := HQ.out.xw.cell 1
  have d2 := HQ.out.xw.cell 2
  have d3 := HQ.out.xw.cell 3
  have d4 := HQ.out.xw.cell 4
  have d5 := HQ.out.xw.cell 5
  have d6 := HQ.out.xw.cell 6
  go_wp2_with (first
    | (go_at_call 19; (with_reducible refine (alikeR q1 n1.k n1.t n1.r n1.l n1.v n1.kids _ (.slice A1 n1.kids.len cp1) (.slice A3 n1.kids.len cp3) (HQ.out.k1.sl HQ.out.s1) (HQ.out.k3.sl HQ.out.s3)).mono ?_); rintro e wx ⟨rfl, hbx⟩; have HQ := Lib.hid (HQ.out.go hbx); have HT := Lib.hid (below_trans HT.out hbx); clear hbx; clear a0 a1 a2 a3 a4 a5 a6 b0 b1 b2 b3 b4 b5 b6 d0 d1 d2 d3 d4 d5 d6; have a0 := HQ.out.xa.cell 0; have a1 := HQ.out.xa.cell 1; have a2 := HQ.out.xa.cell 2; have a3 := HQ.out.xa.cell 3; have a4 := HQ.out.xa.cell 4; have a5 := HQ.out.xa.cell 5; have a6 := HQ.out.xa.cell 6; have b0 := HQ.out.xb.cell 0; have b1 := HQ.out.xb.cell 1; have b2 := HQ.out.xb.cell 2; have b3 := HQ.out.xb.cell 3; have b4 := HQ.out.xb.cell 4; have b5 := HQ.out.xb.cell 5; have b6 := HQ.out.xb.cell 6; have d0 := HQ.out.xw.cell 0; have d1 := HQ.out.xw.cell 1; have d2 := HQ.out.xw.cell 2; have d3 := HQ.out.xw.cell 3; have d4 := HQ.out.xw.cell 4; have d5 := HQ.out.xw.cell 5; have d6 := HQ.out.xw.cell 6)
    | (go_at_call 19; (with_reducible refine (alikeR q1 n1.k n1.t n1.r n1.l n1.v n1.kids _ (.slice A2 n1.kids.len cp2) (.slice A3 n1.kids.len cp3) (HQ.out.k2.sl HQ.out.s2) (HQ.out.k3.sl HQ.out.s3)).mono ?_); rintro e wx ⟨rfl, hbx⟩; have HQ := Lib.hid (HQ.out.go hbx); have HT := Lib.hid (below_trans HT.out hbx); clear hbx; clear a0 a1 a2 a3 a4 a5 a6 b0 b1 b2 b3 b4 b5 b6 d0 d1 d2 d3 d4 d5 d6; have a0 := HQ.out.xa.cell 0; have a1 := HQ.out.xa.cell 1; have a2 := HQ.out.xa.cell 2; have a3 := HQ.out.xa.cell 3; have a4 := HQ.out.xa.cell 4; have a5 := HQ.out.xa.cell 5; have a6 := HQ.out.xa.cell 6; have b0 := HQ.out.xb.cell 0; have b1 := HQ.out.xb.cell 1; have b2 := HQ.out.xb.cell 2; have b3 := HQ.out.xb.cell 3; have b4 := HQ.out.xb.cell 4; have b5 := HQ.out.xb.cell 5; have b6 := HQ.out.xb.cell 6; have d0 := HQ.out.xw.cell 0; have d1 := HQ.out.xw.cell 1; have d2 := HQ.out.xw.cell 2; have d3 := HQ.out.xw.cell 3; have d4 := HQ.out.xw.cell 4; have d5 := HQ.out.xw.cell 5; have d6 := HQ.out.xw.cell 6)
    | (go_at_call 29; (with_reducible refine (keptR vs g5 c5 Av cav _ hvl5 HQ.out.lent HQ.out.vals).mono ?_); rintro e wx ⟨rfl, hbx⟩; have HQ := Lib.hid (HQ.out.go hbx); have HT := Lib.hid (below_trans HT.out hbx); clear hbx; clear a0 a1 a2 a3 a4 a5 a6 b0 b1 b2 b3 b4 b5 b6 d0 d1 d2 d3 d4 d5 d6; have a0 := HQ.out.xa.cell 0; have a1 := HQ.out.xa.cell 1; have a2 := HQ.out.xa.cell 2; have a3 := HQ.out.xa.cell 3; have a4 := HQ.out.xa.cell 4; have a5 := HQ.out.xa.cell 5; have a6 := HQ.out.xa.cell 6; have b0 := HQ.out.xb.cell 0; have b1 := HQ.out.xb.cell 1; have b2 := HQ.out.xb.cell 2; have b3 := HQ.out.xb.cell 3; have b4 := HQ.out.xb.cell 4; have b5 := HQ.out.xb.cell 5; have b6 := HQ.out.xb.cell 6; have d0 := HQ.out.xw.cell 0; have d1 := HQ.out.xw.cell 1; have d2 := HQ.out.xw.cell 2; have d3 := HQ.out.xw.cell 3; have d4 := HQ.out.xw.cell 4; have d5 := HQ.out.xw.cell 5; have d6 := HQ.out.xw.cell 6)
    | (go_at_call 28; refine (sameThR T A6 A0 c6 ca0 _ hTl6 (own_ths6 HQ.out.twin) (ths_v HQ.out.ths)).mono ?_; rintro e wx ⟨rfl, hbx⟩; have HQ := Lib.hid (HQ.out.go hbx); have HT := Lib.hid (below_trans HT.out hbx); clear hbx; clear a0 a1 a2 a3 a4 a5 a6 b0 b1 b2 b3 b4 b5 b6 d0 d1 d2 d3 d4 d5 d6; have a0 := HQ.out.xa.cell 0; have a1 := HQ.out.xa.cell 1; have a2 := HQ.out.xa.cell 2; have a3 := HQ.out.xa.cell 3; have a4 := HQ.out.xa.cell 4; have a5 := HQ.out.xa.cell 5; have a6 := HQ.out.xa.cell 6; have b0 := HQ.out.xb.cell 0; have b1 := HQ.out.xb.cell 1; have b2 := HQ.out.xb.cell 2; have b3 := HQ.out.xb.cell 3; have b4 := HQ.out.xb.cell 4; have b5 := HQ.out.xb.cell 5; have b6 := HQ.out.xb.cell 6; have d0 := HQ.out.xw.cell 0; have d1 := HQ.out.xw.cell 1; have d2 := HQ.out.xw.cell 2; have d3 := HQ.out.xw.cell 3; have d4 := HQ.out.xw.cell 4; have d5 := HQ.out.xw.cell 5; have d6 := HQ.out.xw.cell 6))
  have HPT := Lib.hid HQ.out.k1.part
  refine (spoilR n1.kids wx (fun b => w2.heap.size ≤ b ∧ b < w3.heap.size) n1.k n1.t n1.r n1.v ⟨n1.l.toArray⟩ (.slice A1 n1.kids.len cp1) HPT.out HQ.out.s1).mono ?_
  rintro e w7 ⟨rfl, hbl⟩
  have hs2 := HQ.out.xw.lt
  have hs7 := hbl.size
  have HN := Lib.hid ((AllsEnd.of HQ.out).keep (w' := w7) (fun b hb => by
    refine hbl.out b ?_ (fun hS => ?_)
    · rcases hb with h | h | h | h
      · exact HQ.out.s2 b h
      · exact HQ.out.s3 b h
      · omega
      · omega
    · have h2 := hS.2
      rcases hb with h | h | h | h
      · have := h.1; omega
      · have := h.1; omega
      · omega
      · omega) hs7)
  have HTK := Lib.hid (fun (g : Nat) (hg : A6 = some ⟨g, 0, none⟩) => (show TBlk w7 g c6 by
    subst hg
    have hl6 := HLT6.out g rfl
    have ht := tblk_of HQ.out.twin
    exact ht.same (hbl.out g ht.lt (fun hS => by have := hS.1; omega))))
  have HBL := Lib.hid (below_trans HT.out (show Below wx.heap.size wx wx from Below.refl _ _) |>.trans (hbl.below (B := w.heap.size) (fun i hS => by have := hS.1; omega) HT.out.size))
  have HS6 := Lib.hid (fun (h : 0 < T.length) => (show ∃ g, A6 = some ⟨g, 0, none⟩ by
    rcases HQ.out.twin.2 with ⟨_, h0⟩ | ⟨g, cap', cur, e, _⟩
    · omega
    · simp only [Value.slice.injEq, true_and] at e
      exact ⟨g, e.1⟩))
  have HC6 := Lib.hid (show T.length ≤ c6 by
    rcases HQ.out.twin.2 with ⟨_, h0⟩ | ⟨g, cap', cur, e, _, _, h1, _⟩
    · omega
    · simp only [Value.slice.injEq, true_and] at e
      obtain ⟨_, rfl⟩ := e
      exact h1)
  clear a0 a1 a2 a3 a4 a5 a6 b0 b1 b2 b3 b4 b5 b6 d0 d1 d2 d3 d4 d5 d6
  clear hbl
  go_wp2_with fail
  go_loopw [13] (fun i wr => ∃ j : Nat, j ≤ T.length ∧ i = .int .i64 j ∧ w7.grownBy wr (Value.slice A6 T.length c6).ownBlock ∧ ∀ g, A6 = some ⟨g, 0, none⟩ → TBlk wr g c6) (fun i _ => T.length - (intOf i).toNat)
  case atStart => exact ⟨0, Nat.zero_le _, rfl, ⟨rfl, rfl, rfl, Nat.le_refl _, fun _ _ _ => rfl⟩, HTK.out⟩
  case round =>
    obtain ⟨j, hj, rfl, hgr, htb⟩ := hrel
    have HG := Lib.hid hgr
    have HTB2 := Lib.hid htb
    clear hgr htb
    by_cases hlt : j < T.length
    · obtain ⟨g, rfl⟩ := HS6.out (by omega)
      have htb := HTB2.out g rfl
      have hc6 := HC6.out
      obtain ⟨x0, hx0⟩ := Option.isSome_iff_exists.1 (htb.cell (i := j * 3) (by omega)).1
      obtain ⟨x1, hx1⟩ := Option.isSome_iff_exists.1 (htb.cell (i := j * 3 + 1) (by omega)).1
      obtain ⟨x2, hx2⟩ := Option.isSome_iff_exists.1 (htb.cell (i := j * 3 + 2) (by omega)).1
      have f0 := (htb.cell (i := j * 3) (by omega)).2
      have f1 := (htb.cell (i := j * 3 + 1) (by omega)).2
      have f2 := (htb.cell (i := j * 3 + 2) (by omega)).2
      have i1 : (j : Int) < (T.length : Int) := by omega
      clear htb
      go_wp2_with fail
      go_roundw
      case rel =>
        have hg1 : w7.grownBy wr (some g) := HG.out
        have hg2 := only_setCell hg1 (p := ⟨g, j * 3, none⟩) (.inl rfl) (.int .i64 (-9))
        have hg3 := only_setCell hg2 (p := ⟨g, j * 3 + 1, none⟩) (.inl rfl) (.int .i64 0)
        have hg4 := only_setCell hg3 (p := ⟨g, j * 3 + 2, none⟩) (.inl rfl) (.string ⟨#[]⟩)
        have ht4 := (HTB2.out g rfl).set3 (j * 3) (j * 3 + 1) (j * 3 + 2) (.int .i64 (-9)) (.int .i64 0) (.string ⟨#[]⟩)
        refine ⟨j + 1, by omega, by go_num, hg4, ?_⟩
        intro g2 hq2
        simp only [Option.some.injEq, Addr.mk.injEq, and_true] at hq2
        subst hq2
        exact ht4
      case measure => simp [intOf]; omega
    · have hrow : ∀ b, (Value.slice A6 T.length c6).ownBlock = some b → b < w2.heap.size := fun b hb => (HLT6.out b hb).2
      have HNR := Lib.hid (HN.out.keep (w' := wr) (fun b hb => by
        refine HG.out.block b ?_ (fun e => ?_)
        · rcases hb with h | h | h | h
          · exact HN.out.s2 b h
          · exact HN.out.s3 b h
          · rw [h]; exact HN.out.xb.lt
          · rw [h]; exact HN.out.xw.lt
        · have := hrow b e.symm
          rcases hb with h | h | h | h
          · have := h.1; omega
          · have := h.1; omega
          · omega
          · omega) HG.out.size)
      have HWR := Lib.hid (HBL.out.grown HG.out HBL.out.size (fun b hb => by have := (HLT6.out b hb).1; have := HB1.out.size; omega))
      have HER := Lib.hid (HE0.out.mono HWR.out)
      have b0 := HNR.out.xb.cell 0
      have b1 := HNR.out.xb.cell 1
      have b2 := HNR.out.xb.cell 2
      have b3 := HNR.out.xb.cell 3
      have b4 := HNR.out.xb.cell 4
      have b5 := HNR.out.xb.cell 5
      have b6 := HNR.out.xb.cell 6
      have d0 := HNR.out.xw.cell 0
      have d1 := HNR.out.xw.cell 1
      have d2 := HNR.out.xw.cell 2
      have d3 := HNR.out.xw.cell 3
      have d4 := HNR.out.xw.cell 4
      have d5 := HNR.out.xw.cell 5
      have d6 := HNR.out.xw.cell 6
      go_wp2_with (first
        | (go_at_call 19; refine (alikeR q1 n1.k n1.t n1.r n1.l n1.v n1.kids _ (.slice A2 n1.kids.len cp2) (.slice A3 n1.kids.len cp3) (HNR.out.k2.sl HNR.out.s2) (HNR.out.k3.sl HNR.out.s3)).mono ?_; rintro e wy ⟨rfl, hby⟩; have HYY := Lib.hid hby; have HEY := Lib.hid (HER.out.mono hby); clear hby)
        | (go_at_call 16; refine (awakeP HEY.out).mono ?_; rintro e wz ⟨rfl, hbz⟩))
      go_ret
      exact ⟨rfl, below_trans HWR.out (below_trans HYY.out hbz)⟩
end Go.Proofs.YtmlnibjnacfanaaGreatDoor
