/- Layer 22: the test of store buffering, in memory. -/
import Derived.Test.YtjhafgnmahhacaaGreatDoorTe48

namespace Go.Proofs.YtjhafgnmahhacaaGreatDoor
open Go.RowKit
section
theorem blk6 (w : World) (t0 t1 t2 t3 t4 t5 : TypeId) (c0 c1 c2 c3 c4 c5 : Array Value) {W : World} (hW : W = (((((w.alloc (.cells c0 t0 (0, 0))).alloc (.cells c1 t1 (0, 0))).alloc (.cells c2 t2 (0, 0))).alloc (.cells c3 t3 (0, 0))).alloc (.cells c4 t4 (0, 0))).alloc (.cells c5 t5 (0, 0))) :
    Blk W (w.heap.size + 1) t1 c1 ∧ Blk W (w.heap.size + 1 + 1 + 1) t3 c3 ∧ Blk W (w.heap.size + 1 + 1 + 1 + 1) t4 c4 ∧ Blk W (w.heap.size + 1 + 1 + 1 + 1 + 1) t5 c5 ∧ Below w.heap.size w W := by
  subst hW
  have e1 : (w.alloc (.cells c0 t0 (0, 0))).heap.size = w.heap.size + 1 := by simp
  have e3 : (((w.alloc (.cells c0 t0 (0, 0))).alloc (.cells c1 t1 (0, 0))).alloc (.cells c2 t2 (0, 0))).heap.size = w.heap.size + 1 + 1 + 1 := by simp
  have e4 : ((((w.alloc (.cells c0 t0 (0, 0))).alloc (.cells c1 t1 (0, 0))).alloc (.cells c2 t2 (0, 0))).alloc (.cells c3 t3 (0, 0))).heap.size = w.heap.size + 1 + 1 + 1 + 1 := by simp
  have e5 : (((((w.alloc (.cells c0 t0 (0, 0))).alloc (.cells c1 t1 (0, 0))).alloc (.cells c2 t2 (0, 0))).alloc (.cells c3 t3 (0, 0))).alloc (.cells c4 t4 (0, 0))).heap.size = w.heap.size + 1 + 1 + 1 + 1 + 1 := by simp
  refine ⟨?_, ?_, ?_, ?_, ?_⟩
  · rw [← e1]; exact ((((Blk.new _ t1 c1).alloc _).alloc _).alloc _).alloc _
  · rw [← e3]; exact ((Blk.new _ t3 c3).alloc _).alloc _
  · rw [← e4]; exact (Blk.new _ t4 c4).alloc _
  · rw [← e5]; exact Blk.new _ t5 c5
  · exact below_alloc (below_alloc (below_alloc (below_alloc (below_alloc (below_alloc (Below.refl _ _) _) _) _) _) _) _
/-- A row of two instructions, of one location each. -/
theorem ins2 {w : World} {b : Nat} {l1 l2 : List UInt8} (h : Blk w b 70 #[.int .i64 1, .int .i64 0, .int .i64 0, .int .i64 0, .int .i64 1, .string ⟨l1.toArray⟩, .string ⟨#[]⟩, .int .i64 0, .int .i64 3, .int .i64 0, .int .i64 0, .int .i64 0, .int .i64 0, .string ⟨l2.toArray⟩, .string ⟨#[]⟩, .int .i64 0]) (h1 : l1.length ≤ 100) (h2 : l2.length ≤ 100) :
    InsAt w (some ⟨b, 0, none⟩) [⟨1, 0, 0, 0, 1, l1, [], 0⟩, ⟨3, 0, 0, 0, 0, l2, [], 0⟩] := by
  intro j x hx
  match j, hx with
  | 0, hx =>
    simp at hx
    subst hx
    exact ⟨_, 0, rfl, (h.cell 0).trans rfl, (h.cell 1).trans rfl, (h.cell 2).trans rfl, (h.cell 3).trans rfl, (h.cell 4).trans rfl, (h.cell 5).trans rfl, (h.cell 6).trans rfl, (h.cell 7).trans rfl, by simp only; omega, Nat.zero_le _⟩
  | 1, hx =>
    simp at hx
    subst hx
    exact ⟨_, 0, rfl, (h.cell 8).trans rfl, (h.cell 9).trans rfl, (h.cell 10).trans rfl, (h.cell 11).trans rfl, (h.cell 12).trans rfl, (h.cell 13).trans rfl, (h.cell 14).trans rfl, (h.cell 15).trans rfl, by simp only; omega, Nat.zero_le _⟩
  | j + 2, hx => simp at hx
section
set_option maxHeartbeats 4000000
set_option maxRecDepth 100000
theorem sbP (w : World) : Calls Tryz.prog 106 #[] w fun e w' => ∃ Ac kv, e = .returned (testV sbT (.slice none 0 0) (.slice Ac 2 2) kv) ∧ TstAt w' sbT none Ac kv ∧ Below w.heap.size w w' := by
  go_enter Tryz.func106, Tryz.ntmps106
  go_wp2_with fail
  refine bodyPost_ret (v := testV sbT (.slice none 0 0) (.slice (some ⟨w.heap.size + 1 + 1 + 1 + 1 + 1, 0, none⟩) 2 2) (.slice (some ⟨w.heap.size + 1, 0, none⟩) 2 2)) (by simp [results, Tryz.results106, go_sem, sbT]) rfl ?_
  obtain ⟨W, hW⟩ : ∃ W, W = (((((w.alloc (.cells #[.int .i64 1, .string ⟨#[83, 66]⟩, .string ⟨#[]⟩, .slice none 0 0, .slice (some ⟨w.heap.size + 1 + 1 + 1 + 1 + 1, 0, none⟩) 2 2, .int .i64 1, .int .i64 4, .int .i64 0, .int .i64 0, .string ⟨#[]⟩, .int .i64 0, .slice (some ⟨w.heap.size + 1, 0, none⟩) 2 2] 32 (0, 0))).alloc
    (.cells #[.int .i64 2, .int .i64 0, .int .i64 0, .string ⟨#[]⟩, .int .i64 0, .slice none 0 0, .int .i64 2, .int .i64 1, .int .i64 0, .string ⟨#[]⟩, .int .i64 0, .slice none 0 0] 28 (0, 0))).alloc
    (.cells #[.int .i64 4, .int .i64 0, .int .i64 0, .string ⟨#[]⟩, .int .i64 0, .slice (some ⟨w.heap.size + 1, 0, none⟩) 2 2] 28 (0, 0))).alloc
    (.cells #[.int .i64 1, .int .i64 0, .int .i64 0, .int .i64 0, .int .i64 1, .string ⟨#[120]⟩, .string ⟨#[]⟩, .int .i64 0, .int .i64 3, .int .i64 0, .int .i64 0, .int .i64 0, .int .i64 0, .string ⟨#[121]⟩, .string ⟨#[]⟩, .int .i64 0] 70 (0, 0))).alloc
    (.cells #[.int .i64 1, .int .i64 0, .int .i64 0, .int .i64 0, .int .i64 1, .string ⟨#[121]⟩, .string ⟨#[]⟩, .int .i64 0, .int .i64 3, .int .i64 0, .int .i64 0, .int .i64 0, .int .i64 0, .string ⟨#[120]⟩, .string ⟨#[]⟩, .int .i64 0] 70 (0, 0))).alloc
    (.cells #[.slice (some ⟨w.heap.size + 1 + 1 + 1, 0, none⟩) 2 2, .slice (some ⟨w.heap.size + 1 + 1 + 1 + 1, 0, none⟩) 2 2] 62 (0, 0)) := ⟨_, rfl⟩
  obtain ⟨h1, h3, h4, h5, hb⟩ := blk6 w _ _ _ _ _ _ _ _ _ _ _ _ hW
  show ∃ Ac kv, _ ∧ TstAt _ sbT none Ac kv ∧ Below _ _ _
  rw [← hW]
  have hlt : w.heap.size + 1 < W.heap.size := h1.lt
  refine ⟨_, _, rfl, ⟨?_, ?_, ⟨_, 2, rfl, by decide, by decide, fun _ => ⟨_, 0, rfl, hlt, ?_⟩⟩, by decide, by decide, by decide, by decide, by decide⟩, hb⟩
  · intro i x hx; simp [sbT] at hx
  · intro i c hc
    match i, hc with
    | 0, hc =>
      simp [sbT] at hc
      subst hc
      exact ⟨_, 0, _, 2, rfl, h5.cell 0, ins2 (l1 := [120]) (l2 := [121]) h3 (by decide) (by decide), by decide, by decide⟩
    | 1, hc =>
      simp [sbT] at hc
      subst hc
      exact ⟨_, 0, _, 2, rfl, h5.cell 1, ins2 (l1 := [121]) (l2 := [120]) h4 (by decide) (by decide), by decide, by decide⟩
    | i + 2, hc => simp [sbT] at hc
  · exact ⟨h1.cell 0, h1.cell 1, h1.cell 2, h1.cell 3, h1.cell 4, by decide, ⟨none, 0, h1.cell 5, by decide, by decide, fun h => absurd h (by decide)⟩, h1.cell 6, h1.cell 7, h1.cell 8, h1.cell 9, h1.cell 10, by decide, ⟨none, 0, h1.cell 11, by decide, by decide, fun h => absurd h (by decide)⟩, trivial⟩
end
end
section
set_option maxHeartbeats 4000000
set_option maxRecDepth 100000
theorem sameIntsR (A1 A2 : Option Addr) (c1 c2 : Nat) (l : List Int) (w : World) (h1 : encI.At w A1 l) (h2 : encI.At w A2 l) (hl : l.length ≤ 1000000) :
    Calls Tryz.prog 36 #[.slice A1 l.length c1, .slice A2 l.length c2] w fun e w' => e = .returned (.bool true) ∧ Below w.heap.size w w' := by
  have H1 := Lib.hid h1
  have H2 := Lib.hid h2
  obtain ⟨n, hn⟩ : ∃ n, l.length = n := ⟨_, rfl⟩
  rw [hn] at hl ⊢
  have HN := Lib.hid hn
  clear h1 h2 hn
  go_enter Tryz.func36, Tryz.ntmps36
  go_wp2_with fail
  go_loopw [5] (fun i wr => ∃ k : Nat, k ≤ n ∧ i = .int .i64 k ∧ Below w.heap.size w wr) (fun i _ => n - (intOf i).toNat)
  case atStart => exact ⟨0, Nat.zero_le _, rfl, by repeat (first | exact Below.refl _ _ | refine Below.drew ?_)⟩
  case round =>
    obtain ⟨k, hk, rfl, hbw⟩ := hrel
    have HW := Lib.hid hbw
    by_cases hkn : k < n
    · have hx := List.getElem?_eq_getElem (show k < l.length by rw [HN.out]; exact hkn)
      obtain ⟨x, hxe⟩ : ∃ x, l[k]'(by rw [HN.out]; exact hkn) = x := ⟨_, rfl⟩
      rw [hxe] at hx
      obtain ⟨b1, o1, rfl, hc1⟩ := (H1.out.below hbw) k x hx
      obtain ⟨b2, o2, rfl, hc2⟩ := (H2.out.below hbw) k x hx
      have d1 : wr.cell? ⟨b1, o1 + k * 1, none⟩ = some (.int .i64 x) := hc1 0 _ rfl
      have d2 : wr.cell? ⟨b2, o2 + k * 1, none⟩ = some (.int .i64 x) := hc2 0 _ rfl
      rw [Nat.mul_one] at d1 d2
      have z1 : (0 : Int) ≤ (k : Int) := by omega
      have z2 : (k : Int) < (n : Int) := by omega
      clear hbw hx hxe hc1 hc2
      go_wp2_with fail
      refine wz (fun y : World => y.cell? ⟨b1, o1 + k, none⟩ = some (.int .i64 x) ∧ y.cell? ⟨b2, o2 + k, none⟩ = some (.int .i64 x)) [3, 7] ⟨d1, d2⟩ (fun hHeld => ?_)
      refine wq 0 ?_
      refine wq 1 ?_
      refine wq 2 ?_
      refine wq 4 ?_
      refine wq 5 ?_
      refine wq 6 ?_
      refine wt 3 (by assumption) ?_
      refine wt 7 (by assumption) ?_
      refine wl 8 ?_
      clear hHeld
      go_wp2_with fail
      go_roundw
      case rel => exact ⟨k + 1, by omega, by go_num, by repeat (first | exact HW.out | refine Below.drew ?_)⟩
      case measure => simp [intOf]; omega
    · have g1 : ¬ (k : Int) < (n : Int) := by omega
      clear hbw
      go_wp2
      go_ret
      exact ⟨rfl, HW.out⟩
theorem intsAt (w : World) (l : List Int) : encI.At (w.alloc (.cells (encI.flat l).toArray 3 (0, 0))) (some ⟨w.heap.size, 0, none⟩) l := by
  have h := Blk.new w 3 (encI.flat l).toArray
  intro i x hx
  refine ⟨_, 0, rfl, fun j u hj => ?_⟩
  have hj0 : j = 0 := by have := (List.getElem?_eq_some_iff.1 hj).1; simp at this; omega
  subst hj0
  rw [h.cell]
  have := encI.flat_at hx (j := 0) (by decide)
  simp only [Nat.zero_add, Nat.add_zero, List.getElem?_toArray] at this ⊢
  rw [this]; exact hj
theorem sb_runs (w : World) (Ac A : Option Addr) (kv : Value) (hT : TstAt w sbT none Ac kv) (hS : encI.At w A [0, 0, 1, 1]) :
    Calls Tryz.prog 33 #[testV sbT (.slice none 0 0) (.slice Ac 2 2) kv, .slice A 4 4] w fun e w' => ∃ A1 c1 A2 c2, e = .returned (.tuple #[.agg #[.slice A1 2 c1, .slice A2 6 c2], .int .i64 0]) ∧ encI.At w' A1 [0, 0] ∧ Below w.heap.size w w' := by
  refine (runMP sbT none Ac A 0 2 4 kv [0, 0, 1, 1] w hT sbA sb_tr hS (by decide) 6 sb_run).mono ?_
  rintro e w' ⟨v1, v2, rfl, h1, h2, hb⟩
  rw [sb_init, sb_state] at h1
  rw [sb_init] at h2
  obtain ⟨A1, c1, rfl, ha, _, _⟩ := Enc.Own.at_ h1
  obtain ⟨A2, c2, rfl, _, _, _⟩ := Enc.Own.at_ h2
  exact ⟨A1, c1, A2, c2, by rw [sb_moves]; rfl, ha, hb⟩
theorem sb_new (w : World) (Ac : Option Addr) (kv : Value) (hT : TstAt w sbT none Ac kv) :
    Calls Tryz.prog 37 #[testV sbT (.slice none 0 0) (.slice Ac 2 2) kv] w fun e w' => ∃ g V, e = .returned (.tuple #[.pointer (some ⟨g, 0, none⟩), .int .i64 0]) ∧ BufAt w' w.heap.size g sbM V ∧ Below w.heap.size w w' := by
  refine (newP sbT none Ac 0 2 kv w hT sbA sb_tr).mono ?_
  rintro e w' ⟨g, V, rfl, hM, hb⟩
  rw [sb_init] at hM
  exact ⟨g, V, rfl, hM, hb⟩
theorem sb_do {w : World} {B g : Nat} {V : BMv} (h : BufAt w B g sbM V) (hB : B ≤ w.heap.size) :
    Calls Tryz.prog 25 #[.pointer (some ⟨g, 0, none⟩), .int .i64 0] w fun e w' => ∃ V', e = .returned (.tuple #[.agg #[.int .i64 1, .int .i64 0], .int .i64 0]) ∧ BufAt w' B g sbN V' ∧ Below B w w' := by
  refine (doSome h sb_mok0 0 hB (1, 0) sb_first).mono ?_
  rintro e w' ⟨V', rfl, h1, h2⟩
  exact ⟨V', rfl, h1, h2.chg.below (fun b hb => h.low hb) hB⟩
theorem sb_buf {w : World} {B g : Nat} {V : BMv} (h : BufAt w B g sbN V) :
    Calls Tryz.prog 28 #[.pointer (some ⟨g, 0, none⟩), .int .i64 0] w fun e w' => ∃ gb cp, e = .returned (.slice (some ⟨gb, 0, none⟩) 1 cp) ∧ w'.cell? ⟨gb, 0, none⟩ = some (.int .i64 0) ∧ w'.cell? ⟨gb, 1, none⟩ = some (.int .i64 1) ∧ Below w.heap.size w w' := by
  obtain ⟨t, c, ht, hc, hq⟩ := sb_td0
  refine (bufferP h (k := 0) ht hc (by rw [hq]; simp) (by rw [hq]; decide)).mono ?_
  rintro e w' ⟨gb, cp, rfl, hown, hb⟩
  rw [hq] at hown
  obtain ⟨b, c3, e3, hrow⟩ := own_first hown (i := 0) rfl
  simp only [Value.slice.injEq, Option.some.injEq, Addr.mk.injEq] at e3
  obtain ⟨⟨rfl, _⟩, _, _⟩ := e3
  exact ⟨gb, cp, by rw [hq]; rfl, hrow 0 _ rfl, hrow 1 _ rfl, hb⟩
theorem sb_mvs {w : World} {B g : Nat} {V : BMv} (h : BufAt w B g sbN V) :
    Calls Tryz.prog 26 #[.pointer (some ⟨g, 0, none⟩)] w fun e w' => ∃ A cp, e = .returned (.slice A 3 cp) ∧ Below w.heap.size w w' := by
  refine (movesP h sb_mok1.n0 sb_mok1.n1 sb_mok1.cl sb_mok1.at_).mono ?_
  rintro e w' ⟨v, rfl, hown, hb⟩
  obtain ⟨A, cp, rfl⟩ := own_shp hown
  exact ⟨A, cp, by rw [sb_moves1], hb⟩
theorem awakeB (w : World) : Calls Tryz.prog 32 #[] w fun e w' => e = .returned (.bool true) ∧ Below w.heap.size w w' := by
  go_enter Tryz.func32, Tryz.ntmps32
  go_wp2_with fail
  refine (sbP w).mono ?_
  rintro e w1 ⟨Ac, kv, rfl, hT, hb1⟩
  have HB1 := Lib.hid hb1
  have HT := Lib.hid hT
  clear hT hb1
  have HX := Lib.hid (alloc_b w1 (.cells #[.int .i64 0, .int .i64 0, .int .i64 1, .int .i64 1] 3 (0, 0)))
  have HRun := Lib.hid (sb_runs _ Ac _ kv (HT.out.below HX.out) (intsAt w1 [0, 0, 1, 1]))
  generalize testV sbT (.slice none 0 0) (.slice Ac 2 2) kv = tv at *
  go_wp2_with fail
  refine HRun.out.mono ?_
  rintro e w2 ⟨A1, c1, A2, c2, rfl, hA1, hb2⟩
  have HB2 := Lib.hid (below_trans (below_trans HB1.out HX.out) hb2)
  have HA1 := Lib.hid hA1
  have HO := Lib.hid (Blk.new w2 93 #[.slice A1 2 c1, .slice A2 6 c2])
  have HX2 := Lib.hid (alloc_b w2 (.cells #[.slice A1 2 c1, .slice A2 6 c2] 93 (0, 0)))
  clear hA1 hb2 HRun HX HT HB1
  go_wp2_with fail
  refine (sbP _).mono ?_
  rintro e w3 ⟨Ac3, kv3, rfl, hT, hb3⟩
  have HB3 := Lib.hid (below_trans (below_trans HB2.out HX2.out) hb3)
  have HA3 := Lib.hid ((HA1.out.below HX2.out).below hb3)
  have HO3 := Lib.hid (HO.out.go hb3)
  have HN := Lib.hid (sb_new w3 Ac3 kv3 hT)
  clear hT hb3 HA1 HO HB2 HX2
  generalize testV sbT (.slice none 0 0) (.slice Ac3 2 2) kv3 = tv at *
  go_wp2_with fail
  refine HN.out.mono ?_
  rintro e w4 ⟨g, V, rfl, hM, hb4⟩
  have HD := Lib.hid (sb_do hM hb4.size)
  have HB4 := Lib.hid hb4
  clear hM hb4 HN
  go_wp2_with fail
  refine HD.out.mono ?_
  rintro e w5 ⟨V5, rfl, hM5, hb5⟩
  have hb35 := HB4.out.trans hb5
  have HB5 := Lib.hid (below_trans HB3.out hb35)
  have HA5 := Lib.hid (HA3.out.below hb35)
  have HO5 := Lib.hid (HO3.out.go hb35)
  have HX5 := Lib.hid (alloc_b w5 (.cells #[.int .i64 1, .int .i64 0] 79 (0, 0)))
  have HV5 := Lib.hid (Blk.new w5 79 #[.int .i64 1, .int .i64 0])
  have HM5 := Lib.hid (hM5.below HX5.out)
  have HBu := Lib.hid (sb_buf HM5.out)
  clear hM5 hb5 hb35 HD HB4 HB3 HA3 HO3
  go_wp2_with fail
  refine HBu.out.mono ?_
  rintro e w6 ⟨gb, cp, rfl, hq0, hq1, hb6⟩
  have HB6 := Lib.hid (below_trans (below_trans HB5.out HX5.out) hb6)
  have HA6 := Lib.hid ((HA5.out.below HX5.out).below hb6)
  have HO6 := Lib.hid ((HO5.out.go HX5.out).go hb6)
  have HV6 := Lib.hid (HV5.out.go hb6)
  have HM6 := Lib.hid (HM5.out.below hb6)
  have HX6 := Lib.hid (alloc_b w6 (.cells #[.int .i64 0, .int .i64 0] 3 (0, 0)))
  have HS := Lib.hid (sameIntsR A1 _ c1 2 [0, 0] _ (HA6.out.below HX6.out) (intsAt w6 [0, 0]) (by decide))
  have q0 := cell_go hq0 HX6.out
  have q1 := cell_go hq1 HX6.out
  have o0 := HO6.out.cl 0
  have o1 := (HO6.out.go HX6.out).cl 1
  have v0 := (HV6.out.go HX6.out).cl 0
  have v1 := (HV6.out.go HX6.out).cl 1
  clear hq0 hq1 hb6 HBu HB5 HA5 HO5 HX5 HV5 HM5
  go_wp2_with fail
  refine HS.out.mono ?_
  rintro e w7 ⟨rfl, hb7⟩
  have HB7 := Lib.hid (below_trans (below_trans HB6.out HX6.out) hb7)
  have HMv := Lib.hid (sb_mvs ((HM6.out.below HX6.out).below hb7))
  have q0 := cell_go q0 hb7
  have q1 := cell_go q1 hb7
  have o1 := cell_go o1 hb7
  have v0 := cell_go v0 hb7
  have v1 := cell_go v1 hb7
  clear hb7 HS HB6 HA6 HO6 HV6 HM6 HX6
  go_wp2_with fail
  refine HMv.out.mono ?_
  rintro e w8 ⟨A8, c8, rfl, hb8⟩
  have HB8 := Lib.hid (below_trans HB7.out hb8)
  clear hb8
  go_wp2_with fail
  go_ret
  exact ⟨rfl, HB8.out⟩
end
end Go.Proofs.YtjhafgnmahhacaaGreatDoor
