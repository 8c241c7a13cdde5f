/- Layer 15: the program's sets: with, or, list. -/
import Derived.Test.YtjhafgnmahhacaaGreatDoorTe14

namespace Go.Proofs.YtjhafgnmahhacaaGreatDoor
open Go.RowKit
section
abbrev setV (a : Nat) : Value := .agg #[.int .u64 (a : Int), .int .u64 0, .int .u64 0, .int .u64 0]
def bitsL (a k : Nat) : List Int := ((List.range k).filter fun i => a.testBit i).map fun (i : Nat) => (i : Int)
theorem bitsL_succ (a k : Nat) : bitsL a (k + 1) = if a.testBit k then bitsL a k ++ [(k : Int)] else bitsL a k := by
  unfold bitsL
  rw [List.range_succ, List.filter_append]
  cases h : a.testBit k <;> simp [h]
theorem bitsL_len (a k : Nat) : (bitsL a k).length ≤ k := by
  unfold bitsL
  rw [List.length_map]
  exact Nat.le_trans (List.length_filter_le _ _) (by simp)
theorem bitsL_big {a : Nat} (h : a < 18446744073709551616) : ∀ k, 64 ≤ k → bitsL a k = bitsL a 64 := by
  intro k hk
  induction k with
  | zero => omega
  | succ k ih =>
    by_cases e : 64 ≤ k
    · rw [bitsL_succ, Nat.testBit_lt_two_pow (Nat.lt_of_lt_of_le (show a < 2 ^ 64 by simpa using h) (Nat.pow_le_pow_right (by omega) e))]
      exact ih e
    · rw [show k + 1 = 64 by omega]
theorem own_lowerI {w : World} {B B2 : Nat} {t : TypeId} {z n : Nat} {v : Value} {cs : List Value} (h : w.ownsRow B t z v n cs) (hB : B2 ≤ B) : w.ownsRow B2 t z v n cs := by
  refine ⟨h.1, ?_⟩
  rcases h.2 with e | ⟨g, cap, cur, e, h1, h2⟩
  · exact Or.inl e
  · exact Or.inr ⟨g, cap, cur, e, Nat.le_trans hB h1, h2⟩
section
set_option maxHeartbeats 4000000
set_option maxRecDepth 100000
theorem withP (a i : Nat) (w : World) (ha : a < 18446744073709551616) (hi : i < 64) : Calls Tryz.prog 208 #[setV a, .int .i64 (i : Int)] w fun e w' => e = .returned (setV (a ||| 2 ^ i)) ∧ Below w.heap.size w w' := by
  have h1 : ((i : Int) / 64) = 0 := by omega
  have h2 : ((i : Int) % 64) = (i : Int) := by omega
  have hs2 : IntKind.u64.wrap ((2 : Int) ^ i) = ((2 ^ i : Nat) : Int) := by have := shl_one hi; rwa [Int.one_mul] at this
  have hp : 2 ^ i < 18446744073709551616 := by
    have : 2 ^ i < 2 ^ 64 := Nat.pow_lt_pow_right (by omega) hi
    simpa using this
  have ho := bits_or64 ha hp
  have ho2 : bits .or .u64 (a : Int) ((2 : Int) ^ i) = ((a ||| 2 ^ i : Nat) : Int) := by rw [← ho]; simp
  go_enter Tryz.func208, Tryz.ntmps208
  go_wp2_with fail
  refine bodyPost_ret (v := setV (a ||| 2 ^ i)) (by simp [results, Tryz.results208, go_sem]) rfl ?_
  refine ⟨rfl, ?_⟩
  repeat (first | exact Below.refl _ _ | with_reducible refine Below.setCell ?_ (by simp <;> omega) _ | with_reducible refine below_alloc ?_ _)
theorem listP (a : Nat) (w : World) (ha : a < 18446744073709551616) : Calls Tryz.prog 270 #[setV a] w fun e w' => ∃ v, e = .returned v ∧ encI.Own 3 w.heap.size w' v (bitsL a 64) ∧ Below w.heap.size w w' := by
  have HB0 := Lib.hid (alloc_b w (.cells #[.int .u64 (a : Int), .int .u64 0, .int .u64 0, .int .u64 0] 141 (0, 0)))
  have HBX := Lib.hid (Blk.new w 141 #[.int .u64 (a : Int), .int .u64 0, .int .u64 0, .int .u64 0])
  have HBIG := Lib.hid (bitsL_big ha 256 (by omega))
  go_enter Tryz.func270, Tryz.ntmps270
  go_wp2_with fail
  generalize hw1 : w.alloc (.cells #[.int .u64 (a : Int), .int .u64 0, .int .u64 0, .int .u64 0] 141 (0, 0)) = w1 at HB0 HBX ⊢
  have hsz : w.heap.size < w1.heap.size := HBX.out.lt
  clear hw1
  go_loopw [5, 3] (fun i vv wr => ∃ k : Nat, k ≤ 256 ∧ i = .int .i64 k ∧ encI.Own 3 w1.heap.size wr vv (bitsL a k) ∧ Below w1.heap.size w1 wr) (fun i _ _ => 256 - (intOf i).toNat)
  case atStart => exact ⟨0, Nat.zero_le _, rfl, Enc.Own.nil _ _ _, Below.refl _ _⟩
  case round =>
    obtain ⟨k, hk, rfl, hv, hb⟩ := hrel
    obtain ⟨Av, cv, rfl⟩ := hv.shp
    have HV := Lib.hid hv
    have HBR := Lib.hid hb
    have HLL := Lib.hid (bitsL_len a k)
    have HBK := Lib.hid (HBX.out.go hb)
    have k0 := HBK.out.cell 0
    have k1 := HBK.out.cell 1
    have k2 := HBK.out.cell 2
    have k3 := HBK.out.cell 3
    have hzr := hb.size
    clear hv hb
    by_cases hlt : k < 256
    · have hkl : (k : Int) < 256 := by omega
      by_cases h64 : k < 64
      · have h1 : ((k : Int) / 64) = 0 := by omega
        have h2 : ((k : Int) % 64) = (k : Int) := by omega
        have hq : ((a : Int) / (2 : Int) ^ k) = ((a / 2 ^ k : Nat) : Int) := by simp
        have hlt2 : a / 2 ^ k < 18446744073709551616 := Nat.lt_of_le_of_lt (Nat.div_le_self _ _) ha
        have hb := bits_and1 hlt2
        rw [← hq] at hb
        have hbm := bit_mod a k
        cases hbt : a.testBit k with
        | true =>
          have hb1 : bits .and .u64 ((a : Int) / (2 : Int) ^ k) 1 = 1 := by rw [hb]; rw [hbt] at hbm; simp at hbm; simp [hbm]
          have HS := Lib.hid (show bitsL a (k + 1) = bitsL a k ++ [(k : Int)] by rw [bitsL_succ, hbt]; rfl)
          clear hq hb hbm hbt
          go_wp2_with (at_builtin; refine Enc.app elemI _ rfl (.tmp 18) (.tmp 20) rfl (k : Int) w1.heap.size (bitsL a k) _ rfl rfl HV.out (by have := HLL.out; omega) (by have := HLL.out; omega) (by omega) ?_; intro v' w3 hown3 hg3; have HO3 := Lib.hid hown3; have HB3 := Lib.hid hg3.below; clear hown3 hg3)
          go_roundw
          case rel => exact ⟨k + 1, by omega, by go_num, by rw [HS.out]; exact HO3.out, HBR.out.trans HB3.out⟩
          case measure => simp [intOf]; omega
        | false =>
          have hb1 : bits .and .u64 ((a : Int) / (2 : Int) ^ k) 1 = 0 := by rw [hb]; rw [hbt] at hbm; simp at hbm; simp [hbm]
          have HS := Lib.hid (show bitsL a (k + 1) = bitsL a k by rw [bitsL_succ, hbt]; rfl)
          clear hq hb hbm hbt
          go_wp2_with fail
          go_roundw
          case rel => exact ⟨k + 1, by omega, by go_num, by rw [HS.out]; exact HV.out, HBR.out⟩
          case measure => simp [intOf]; omega
      · have HS := Lib.hid (show bitsL a (k + 1) = bitsL a k by rw [bitsL_big ha (k + 1) (by omega), bitsL_big ha k (by omega)])
        have hz : bits .and .u64 0 1 = 0 := by decide
        have hj : (k : Int) / 64 = 1 ∨ (k : Int) / 64 = 2 ∨ (k : Int) / 64 = 3 := by omega
        rcases hj with hj | hj | hj
        all_goals
          go_wp2_with fail
          go_roundw
          case rel => exact ⟨k + 1, by omega, by go_num, by rw [HS.out]; exact HV.out, HBR.out⟩
          case measure => simp [intOf]; omega
    · have hkn : k = 256 := by omega
      subst hkn
      go_wp2_with fail
      go_ret
      refine ⟨_, rfl, ?_, below_trans HB0.out HBR.out⟩
      have := HV.out
      rw [HBIG.out] at this
      rw [HBIG.out]
      exact own_lowerI this (by omega)
def orC (a b k : Nat) : Array Value := #[.int .u64 ((if k = 0 then a else (a ||| b) : Nat) : Int), .int .u64 0, .int .u64 0, .int .u64 0]
theorem orP (a b : Nat) (w : World) (ha : a < 18446744073709551616) (hb : b < 18446744073709551616) : Calls Tryz.prog 210 #[setV a, setV b] w fun e w' => e = .returned (setV (a ||| b)) ∧ Below w.heap.size w w' := by
  have ho := bits_or64 ha hb
  have hz : bits .or .u64 0 0 = 0 := by decide
  go_enter Tryz.func210, Tryz.ntmps210
  go_wp2_with fail
  have HA := Lib.hid (((Blk.new w 141 #[.int .u64 (a : Int), .int .u64 0, .int .u64 0, .int .u64 0]).alloc (.cells #[.int .u64 (b : Int), .int .u64 0, .int .u64 0, .int .u64 0] 141 (0, 0))).alloc (.cells #[.int .u64 0, .int .u64 0, .int .u64 0, .int .u64 0] 141 (0, 0)))
  have HB := Lib.hid ((Blk.new (w.alloc (.cells #[.int .u64 (a : Int), .int .u64 0, .int .u64 0, .int .u64 0] 141 (0, 0))) 141 #[.int .u64 (b : Int), .int .u64 0, .int .u64 0, .int .u64 0]).alloc (.cells #[.int .u64 0, .int .u64 0, .int .u64 0, .int .u64 0] 141 (0, 0)))
  have HC := Lib.hid (Blk.new ((w.alloc (.cells #[.int .u64 (a : Int), .int .u64 0, .int .u64 0, .int .u64 0] 141 (0, 0))).alloc (.cells #[.int .u64 (b : Int), .int .u64 0, .int .u64 0, .int .u64 0] 141 (0, 0))) 141 #[.int .u64 0, .int .u64 0, .int .u64 0, .int .u64 0])
  have HW := Lib.hid (below_alloc (below_alloc (alloc_b w (.cells #[.int .u64 (a : Int), .int .u64 0, .int .u64 0, .int .u64 0] 141 (0, 0))) (.cells #[.int .u64 (b : Int), .int .u64 0, .int .u64 0, .int .u64 0] 141 (0, 0))) (.cells #[.int .u64 0, .int .u64 0, .int .u64 0, .int .u64 0] 141 (0, 0)))
  go_loopw [6] (fun i wr => ∃ k : Nat, k ≤ 4 ∧ i = .int .i64 k ∧ Blk wr w.heap.size 141 (orC a b k) ∧ Blk wr (w.heap.size + 1) 141 #[.int .u64 (b : Int), .int .u64 0, .int .u64 0, .int .u64 0] ∧ Blk wr (w.heap.size + 2) 141 #[.int .u64 0, .int .u64 0, .int .u64 0, .int .u64 0] ∧ Below w.heap.size w wr) (fun i _ => 4 - (intOf i).toNat)
  case atStart => exact ⟨0, by omega, rfl, HA.out, by simpa using HB.out, by simpa using HC.out, HW.out⟩
  case round =>
    obtain ⟨k, hk, rfl, h1, h2, h3, h4⟩ := hrel
    have H1 := Lib.hid h1
    have H2 := Lib.hid h2
    have H3 := Lib.hid h3
    have H4 := Lib.hid h4
    clear h1 h2 h3 h4 HA HB HC HW
    by_cases hlt : k < 4
    · have hkl : (k : Int) < 4 := by omega
      have hc : k = 0 ∨ k = 1 ∨ k = 2 ∨ k = 3 := by omega
      rcases hc with rfl | rfl | rfl | rfl
      · have c1 : wr.cell? ⟨w.heap.size, 0, none⟩ = some (.int .u64 (a : Int)) := H1.out.cell 0
        have c2 : wr.cell? ⟨w.heap.size + 1, 0, none⟩ = some (.int .u64 (b : Int)) := H2.out.cell 0
        have f1 := H1.out.frozen 0
        go_wp2_with fail
        go_region
        all_goals
          go_wp2_with fail
          go_roundw
          case rel => exact ⟨1, by omega, by go_num, by have := (H1.out.set_ 0 (.int .u64 ((a ||| b : Nat) : Int))).drew; simpa [orC] using this, (H2.out.far (by simp) _).drew, (H3.out.far (by simp) _).drew, (H4.out.setCell (by simp) _).drew⟩
          case measure => simp [intOf]
      · have c1 : wr.cell? ⟨w.heap.size, 1, none⟩ = some (.int .u64 0) := H1.out.cell 1
        have c2 : wr.cell? ⟨w.heap.size + 1, 1, none⟩ = some (.int .u64 0) := H2.out.cell 1
        have f1 := H1.out.frozen 1
        go_wp2_with fail
        go_region
        all_goals
          go_wp2_with fail
          go_roundw
          case rel => exact ⟨2, by omega, by go_num, by have := (H1.out.set_ 1 (.int .u64 0)).drew; simpa [orC] using this, (H2.out.far (by simp) _).drew, (H3.out.far (by simp) _).drew, (H4.out.setCell (by simp) _).drew⟩
          case measure => simp [intOf]
      · have c1 : wr.cell? ⟨w.heap.size, 2, none⟩ = some (.int .u64 0) := H1.out.cell 2
        have c2 : wr.cell? ⟨w.heap.size + 1, 2, none⟩ = some (.int .u64 0) := H2.out.cell 2
        have f1 := H1.out.frozen 2
        go_wp2_with fail
        go_region
        all_goals
          go_wp2_with fail
          go_roundw
          case rel => exact ⟨3, by omega, by go_num, by have := (H1.out.set_ 2 (.int .u64 0)).drew; simpa [orC] using this, (H2.out.far (by simp) _).drew, (H3.out.far (by simp) _).drew, (H4.out.setCell (by simp) _).drew⟩
          case measure => simp [intOf]
      · have c1 : wr.cell? ⟨w.heap.size, 3, none⟩ = some (.int .u64 0) := H1.out.cell 3
        have c2 : wr.cell? ⟨w.heap.size + 1, 3, none⟩ = some (.int .u64 0) := H2.out.cell 3
        have f1 := H1.out.frozen 3
        go_wp2_with fail
        go_region
        all_goals
          go_wp2_with fail
          go_roundw
          case rel => exact ⟨4, by omega, by go_num, by have := (H1.out.set_ 3 (.int .u64 0)).drew; simpa [orC] using this, (H2.out.far (by simp) _).drew, (H3.out.far (by simp) _).drew, (H4.out.setCell (by simp) _).drew⟩
          case measure => simp [intOf]
    · have hk4 : k = 4 := by omega
      subst hk4
      have c0 : wr.cell? ⟨w.heap.size, 0, none⟩ = some (.int .u64 ((a ||| b : Nat) : Int)) := H1.out.cell 0
      have c1 : wr.cell? ⟨w.heap.size, 1, none⟩ = some (.int .u64 0) := H1.out.cell 1
      have c2 : wr.cell? ⟨w.heap.size, 2, none⟩ = some (.int .u64 0) := H1.out.cell 2
      have c3 : wr.cell? ⟨w.heap.size, 3, none⟩ = some (.int .u64 0) := H1.out.cell 3
      have d0 : wr.cell? ⟨w.heap.size + 1 + 1, 0, none⟩ = some (.int .u64 0) := H3.out.cell 0
      have d1 : wr.cell? ⟨w.heap.size + 1 + 1, 1, none⟩ = some (.int .u64 0) := H3.out.cell 1
      have d2 : wr.cell? ⟨w.heap.size + 1 + 1, 2, none⟩ = some (.int .u64 0) := H3.out.cell 2
      have d3 : wr.cell? ⟨w.heap.size + 1 + 1, 3, none⟩ = some (.int .u64 0) := H3.out.cell 3
      have e0 : wr.frozen? ⟨w.heap.size + 1 + 1, 0, none⟩ = false := H3.out.frozen 0
      have e1 : wr.frozen? ⟨w.heap.size + 1 + 1, 1, none⟩ = false := H3.out.frozen 1
      have e2 : wr.frozen? ⟨w.heap.size + 1 + 1, 2, none⟩ = false := H3.out.frozen 2
      have e3 : wr.frozen? ⟨w.heap.size + 1 + 1, 3, none⟩ = false := H3.out.frozen 3
      go_wp2_with fail
      refine bodyPost_ret (v := setV (a ||| b)) (by simp [results, Tryz.results210, go_sem, d0, d1, d2, d3]) rfl ⟨rfl, ?_⟩
      exact (((H4.out.setCell (by simp; omega) _).setCell (by simp; omega) _).setCell (by simp; omega) _).setCell (by simp; omega) _
end
end
section
abbrev encP : Enc (Int × Int) := ⟨2, fun p => [.int .i64 p.1, .int .i64 p.2], fun _ => rfl, by omega, fun _ u h => by simp at h; rcases h with rfl | rfl <;> rfl⟩
theorem elemP : encP.Elem 106 37 16 := ⟨Tryz.underlying37, .agg #[.int .i64 0, .int .i64 0], by kernel_rfl, rfl⟩
def pairsL (a i : Nat) (k : Nat) : List (Int × Int) := (bitsL a k).map fun r => (r, (i : Int))
theorem atI {w : World} {A : Option Addr} {l : List Int} (h : encI.At w A l) {i : Nat} {x : Int} (hx : l[i]? = some x) : ∃ b o, A = some ⟨b, o, none⟩ ∧ w.cell? ⟨b, o + i, none⟩ = some (.int .i64 x) := by
  obtain ⟨b, o, e, hc⟩ := h i x hx
  refine ⟨b, o, e, ?_⟩
  have := hc 0 _ rfl
  rwa [show o + i * encI.size + 0 = o + i by show o + i * 1 + 0 = o + i; omega] at this
theorem pair_at (w : World) (p : Int × Int) : encP.At (w.alloc (.cells #[.int .i64 p.1, .int .i64 p.2] 106 (0, 0))) (some ⟨w.heap.size, 0, none⟩) [p] := by
  have hB := Blk.new w 106 #[.int .i64 p.1, .int .i64 p.2]
  intro i x hx
  refine ⟨w.heap.size, 0, rfl, fun j u hj => ?_⟩
  match i, hx with
  | 0, hx =>
    simp at hx; subst hx
    rw [show 0 + 0 * encP.size + j = j by omega, hB.cell]
    rw [← hj]; simp
theorem own_apartS {w w1 : World} {B B2 B3 : Nat} {t t2 : TypeId} {z n z2 n2 : Nat} {v v2 v3 : Value} {cs cs2 : List Value} (h : w.ownsRow B t z v n cs) (h2 : w.ownsRow B2 t2 z2 v2 n2 cs2) (hne : t ≠ t2) (hg : GrewS w w1 B3 v2 v3) : w1.ownsRow B t z v n cs := by
  refine own_hold h (fun b hb => ?_)
  rcases h.2 with ⟨e, _⟩ | ⟨g, cap, cur, e, _, hh, _⟩
  · subst e; cases hb
  · subst e
    have hgb : g = b := by simpa [Value.ownBlock] using hb
    subst hgb
    refine hg.keep g (Array.getElem?_eq_some_iff.1 hh).1 (fun e2 => ?_)
    rcases h2.2 with ⟨e3, _⟩ | ⟨g3, cap3, cur3, e3, _, hh3, _⟩
    · subst e3; cases e2
    · subst e3
      have hg3 : g3 = g := by simpa [Value.ownBlock] using e2
      subst hg3
      rw [hh] at hh3
      simp only [Option.some.injEq, Obj.cells.injEq] at hh3
      exact hne hh3.2.1
section
set_option maxHeartbeats 4000000
set_option maxRecDepth 100000
theorem pairsP (v : Value) (l : List (Int × Int)) (a i B : Nat) (w : World) (ha : a < 18446744073709551616) (hl : l.length ≤ 1000000) (hB : B ≤ w.heap.size) (h : encP.Own 106 B w v l) :
    Calls Tryz.prog 207 #[v, setV a, .int .i64 (i : Int)] w fun e w' => ∃ v', e = .returned v' ∧ encP.Own 106 B w' v' (l ++ pairsL a i 64) ∧ GrewS w w' B v v' := by
  obtain ⟨Av, cv, rfl⟩ := h.shp
  have HV := Lib.hid h
  clear h
  go_enter Tryz.func207, Tryz.ntmps207
  go_wp2_with (go_at_call 270; refine (listP a _ ha).mono ?_; rintro e w2 ⟨u, rfl, hown, hb⟩; obtain ⟨Au, cu, rfl⟩ := hown.shp; have HU := Lib.hid hown; have HB2 := Lib.hid hb; clear hown hb)
  have HB4 := Lib.hid (below_trans (alloc_b w (.cells #[.int .u64 (a : Int), .int .u64 0, .int .u64 0, .int .u64 0] 141 (0, 0))) HB2.out)
  have hlu := bitsL_len a 64
  have HV2 := Lib.hid (HV.out.below HB4.out)
  have HG2 := Lib.hid (GrewS.of_below (v := .slice Av l.length cv) HB4.out hB)
  have HU2 := Lib.hid (own_lowerI HU.out (show B ≤ _ by simp; omega))
  obtain ⟨L, hL⟩ : ∃ L, bitsL a 64 = L := ⟨_, rfl⟩
  have HP := Lib.hid (show pairsL a i 64 = L.map fun r => (r, (i : Int)) by unfold pairsL; rw [hL])
  rw [hL] at HU2 hlu ⊢
  obtain ⟨vz, hvz⟩ : ∃ vz, Value.slice Av l.length cv = vz := ⟨_, rfl⟩
  rw [hvz] at HV2 HG2
  clear HU HB2 HB4 HV hL
  go_loopw [12, 0] (fun ii vv wr => ∃ (k : Nat) (v' : Value), k ≤ L.length ∧ ii = .int .i64 k ∧ vv = v' ∧ encP.Own 106 B wr v' (l ++ (L.take k).map fun r => (r, (i : Int))) ∧ encI.Own 3 B wr (.slice Au L.length cu) L ∧ GrewS w wr B vz v') (fun ii _ _ => L.length - (intOf ii).toNat)
  case atStart => exact ⟨0, vz, Nat.zero_le _, rfl, hvz, by simpa using HV2.out, HU2.out, HG2.out⟩
  case round =>
    obtain ⟨k, v', hk, rfl, rfl, hv, hu, hg⟩ := hrel
    obtain ⟨q, hq⟩ : ∃ q, (l ++ (L.take k).map fun r => (r, (i : Int))) = q := ⟨_, rfl⟩
    have HQ := Lib.hid hq
    rw [hq] at hv
    have hql : q.length ≤ 1000064 := by rw [← hq]; simp; omega
    clear hq
    obtain ⟨A3, c3, rfl⟩ := hv.shp
    have HV := Lib.hid hv
    have HU := Lib.hid hu
    have HG := Lib.hid hg
    have hzr := hg.below.size
    clear hv hu hg HV2 HG2 HU2
    by_cases hlt : k < L.length
    · have ex := List.getElem?_eq_getElem hlt
      obtain ⟨x, hx⟩ : ∃ x, L[k] = x := ⟨_, rfl⟩
      rw [hx] at ex
      obtain ⟨A5, c5, e5, h5, _, _⟩ := HU.out.at_
      simp only [Value.slice.injEq, true_and] at e5
      obtain ⟨rfl, rfl⟩ := e5
      obtain ⟨b, o, rfl, c0⟩ := atI h5 ex
      have hkl : (k : Int) < (L.length : Int) := by omega
      have HS := Lib.hid (show q ++ [(x, (i : Int))] = l ++ (L.take (k + 1)).map fun r => (r, (i : Int)) by
        obtain ⟨h1, h2⟩ := List.getElem?_eq_some_iff.1 ex
        rw [← HQ.out, List.take_succ_eq_append_getElem h1, h2]; simp)
      have HPA := Lib.hid (pair_at wr (x, (i : Int)))
      have HB1 := Lib.hid (alloc_b wr (.cells #[.int .i64 x, .int .i64 (i : Int)] 106 (0, 0)))
      clear hx ex h5
      go_wp2_with (at_builtin; refine Enc.appW elemP _ rfl (.tmp 16) (.tmp 20) rfl [(x, (i : Int))] B q _ wr.heap.size 0 1 rfl rfl HPA.out (HV.out.below HB1.out) (by simp; omega) (by simp; omega) (by simp; omega) ?_; intro v' w3 hown3 hg3; have HO3 := Lib.hid hown3; have HG3 := Lib.hid hg3; clear hown3 hg3)
      go_roundw
      case rel => exact ⟨k + 1, _, by omega, by go_num, rfl, by rw [← HS.out]; exact HO3.out, own_apartS (own_below HU.out HB1.out) (HV.out.below HB1.out) (by decide) HG3.out, HG.out.trans ((GrewS.of_below HB1.out (by omega)).trans HG3.out)⟩
      case measure => simp [intOf]; omega
    · go_wp2_with fail
      go_ret
      refine ⟨_, rfl, ?_, by rw [hvz]; exact HG.out⟩
      rw [HP.out]
      have := HQ.out
      rw [List.take_of_length_le (by omega)] at this
      rw [this]
      exact HV.out
end
end
end Go.Proofs.YtjhafgnmahhacaaGreatDoor
namespace Go.Proofs.YtjhafgnmahhacaaGreatDoor
open Go.RowKit
open Go.Sort (Holds putRow mapBlock putCells grow onCells)
theorem flatS (l : List Nm) : encS.flat l = l.map encStr := by
  induction l with
  | nil => rfl
  | cons x r ih => rw [Enc.flat_cons, ih]; rfl
theorem holdsS {B g n cap : Nat} {w : World} {l : List Nm} (h : encS.Own 9 B w (.slice (some ⟨g, 0, none⟩) n cap) l) (hn : n = l.length) : Holds encStr w g 0 l.toArray ∧ ∃ cur, w.heap[g]? = some (.cells cur 9 (0, 0)) ∧ l.length ≤ cap ∧ cap ≤ maxLen ∧ cur.size = cap ∧ B ≤ g ∧ cur.toList.take l.length = l.map encStr := by
  subst hn
  have h' := h
  rcases h.2 with ⟨e, h0⟩ | ⟨g', cap', cur, e, h1, h2, h3, h4, h5, h6⟩
  · simp at e
  · simp only [Value.slice.injEq, Option.some.injEq, Addr.mk.injEq, and_true, true_and] at e
    obtain ⟨rfl, rfl⟩ := e
    have h6' : cur.toList.take l.length = l.map encStr := by
      rw [← flatS, ← h6]; congr 1
      show l.length = l.length * 1; omega
    refine ⟨fun j hj => ⟨?_, (show Blk w g 9 cur from h2).frozen _⟩, cur, h2, h3, h4, by rw [h5]; show cap * 1 = cap; omega, h1, h6'⟩
    simp only [List.size_toArray] at hj
    rw [Nat.zero_add, h'.cellAt j (by show j < l.length * 1; omega), flatS, List.getElem?_map, List.getElem?_eq_getElem hj, getElem!_pos l.toArray j (by simpa using hj)]
    simp
theorem putCells_take (d : List Nm) (cur : Array Value) (h : d.length ≤ cur.size) : (putCells encStr 0 d.toArray cur).toList.take d.length = d.map encStr := by
  apply List.ext_getElem?
  intro i
  rw [List.getElem?_take]
  by_cases hi : i < d.length
  · rw [if_pos hi, List.getElem?_map, List.getElem?_eq_getElem hi]
    unfold putCells
    rw [Array.getElem?_toList, Array.getElem?_mapIdx]
    rw [Array.getElem?_eq_getElem (show i < cur.size by omega)]
    simp [hi]
  · rw [if_neg hi, List.getElem?_map, List.getElem?_eq_none (by omega)]
    rfl
theorem put_heap {w : World} {g q : Nat} {cur : Array Value} {os : Array Obj} {d : Array Nm} (h : w.heap[g]? = some (.cells cur 9 (0, 0))) : (grow (putRow encStr (Sort.ahead w q) g 0 d) os).heap[g]? = some (.cells (putCells encStr 0 d cur) 9 (0, 0)) := by
  have hlt := (Array.getElem?_eq_some_iff.1 h).1
  have h2 : (putRow encStr (Sort.ahead w q) g 0 d).heap[g]? = some (.cells (putCells encStr 0 d cur) 9 (0, 0)) := by
    simp only [putRow, mapBlock, Array.getElem?_modify]
    rw [if_pos trivial]
    show (w.heap[g]?).map _ = _
    rw [h]; rfl
  rw [Sort.heap_grow_old _ _ (by simp [putRow, mapBlock, Sort.ahead]; exact hlt)]
  exact h2
theorem put_below {w : World} {g q B : Nat} {os : Array Obj} {d : Array Nm} (hB : B ≤ g) (hg : g < w.heap.size) : Below B w (grow (putRow encStr (Sort.ahead w q) g 0 d) os) :=
  ⟨rfl, rfl, rfl, by show w.heap.size ≤ ((w.heap.modify g _) ++ os).size; simp, fun i hi => by
    rw [Sort.heap_grow_old _ _ (by simp [putRow, mapBlock, Sort.ahead]; omega)]
    simp only [putRow, mapBlock, Array.getElem?_modify]
    rw [if_neg (by omega)]; rfl⟩
theorem put_size (d : Array Nm) (cur : Array Value) : (putCells encStr 0 d cur).size = cur.size := by simp [putCells]
theorem sortS (v : Value) (l : List Nm) (B : Nat) (w : World) (h : encS.Own 9 B w v l) (hl : l.length ≤ 1000000) : Calls Tryz.prog 198 #[v] w fun e w' => e = .returned (.tuple #[]) ∧ encS.Own 9 B w' v (sortN l) ∧ Below B w w' := by
  have hsl : (sortN l).length = l.length := (sortN_perm l).length_eq
  obtain ⟨A, cap, rfl⟩ := h.shp
  rcases h.2 with ⟨e, h0⟩ | ⟨g, cap', cur0, e, _⟩
  · have hl0 : l = [] := List.length_eq_zero_iff.1 h0
    subst hl0
    refine (Tryz.slices_Sort_string_none A cap w).mono fun e w' ⟨h1, h2⟩ => ⟨h1, ?_, ?_⟩
    · subst h2; have : sortN ([] : List Nm) = [] := List.length_eq_zero_iff.1 hsl
      rw [this]; exact h
    · rw [h2]; exact Below.refl _ _
  · simp only [Value.slice.injEq, true_and] at e
    obtain ⟨rfl, rfl⟩ := e
    obtain ⟨hH, cur, hg, h3, h4, h5, h6, h7⟩ := holdsS h rfl
    have hlt := (Array.getElem?_eq_some_iff.1 hg).1
    refine (Tryz.slices_Sort_string g 0 cap l w hH hlt (by omega)).mono fun e w' ⟨h1, n, os, h2⟩ => ⟨h1, ?_, ?_⟩
    · subst h2
      show World.ownsRow _ B 9 1 _ (sortN l).length (encS.flat (sortN l))
      refine ⟨by rw [Enc.flat_len], Or.inr ⟨g, cap, _, by rw [hsl], h6, put_heap hg, by rw [hsl]; exact h3, h4, by rw [put_size, h5]; omega, ?_⟩⟩
      rw [Nat.mul_one, flatS]
      exact putCells_take (sortN l) cur (by rw [hsl]; omega)
    · subst h2; exact put_below h6 hlt
theorem compact_lenN (l : List Nm) : (Lib.compact l).length ≤ l.length := by
  have := compact_le l.toArray l.length
  exact this
theorem compS (v : Value) (l : List Nm) (B : Nat) (w : World) (h : encS.Own 9 B w v l) (hl : l.length ≤ 1000000) : Calls Tryz.prog 199 #[v] w fun e w' => ∃ v', e = .returned v' ∧ encS.Own 9 B w' v' (Lib.compact l) ∧ Below B w w' := by
  have hcl := compact_lenN l
  obtain ⟨A, cap, rfl⟩ := h.shp
  rcases h.2 with ⟨e, h0⟩ | ⟨g, cap', cur0, e, _⟩
  · have hl0 : l = [] := List.length_eq_zero_iff.1 h0
    subst hl0
    refine (Tryz.slices_Compact_string_empty A cap w).mono fun e w' ⟨h1, h2⟩ => ⟨_, h1, ?_, ?_⟩
    · subst h2; exact h
    · rw [h2]; exact Below.refl _ _
  · simp only [Value.slice.injEq, true_and] at e
    obtain ⟨rfl, rfl⟩ := e
    obtain ⟨hH, cur, hg, h3, h4, h5, h6, h7⟩ := holdsS h rfl
    have hlt := (Array.getElem?_eq_some_iff.1 hg).1
    refine (Tryz.slices_Compact_string g 0 cap l w hH (by omega) h3).mono fun e w' ⟨h1, q, h2⟩ => ⟨_, h1, ?_, ?_⟩
    · have h2' : w' = grow (putRow encStr (Sort.ahead w q) g 0 (Lib.compact l ++ List.replicate (l.length - (Lib.compact l).length) []).toArray) #[] := by rw [h2]; simp
      subst h2'
      show World.ownsRow _ B 9 1 _ (Lib.compact l).length (encS.flat (Lib.compact l))
      refine ⟨by rw [Enc.flat_len], Or.inr ⟨g, cap, _, rfl, h6, put_heap hg, by omega, h4, by rw [put_size, h5]; omega, ?_⟩⟩
      rw [Nat.mul_one, flatS]
      have hp := putCells_take (Lib.compact l ++ List.replicate (l.length - (Lib.compact l).length) []) cur (by simp; omega)
      have := congrArg (List.take (Lib.compact l).length) hp
      rw [List.take_take, List.map_append, List.take_append_of_le_length (by simp)] at this
      rw [Nat.min_eq_left (by simp)] at this
      rw [this, List.take_of_length_le (by simp)]
    · have h2' : w' = grow (putRow encStr (Sort.ahead w q) g 0 (Lib.compact l ++ List.replicate (l.length - (Lib.compact l).length) []).toArray) #[] := by rw [h2]; simp
      rw [h2']; exact put_below h6 hlt
end Go.Proofs.YtjhafgnmahhacaaGreatDoor
namespace Go.Proofs.YtjhafgnmahhacaaGreatDoor
open Go.RowKit
theorem cellS {w : World} {A : Option Addr} {l : List Nm} (h : encS.At w A l) {i : Nat} {x : Nm} (hx : l[i]? = some x) : ∃ b o, A = some ⟨b, o, none⟩ ∧ w.cell? ⟨b, o + i, none⟩ = some (.string ⟨x.toArray⟩) := by
  obtain ⟨b, o, e, hc⟩ := h i x hx
  refine ⟨b, o, e, ?_⟩
  have := hc 0 _ rfl
  rwa [show o + i * encS.size + 0 = o + i by show o + i * 1 + 0 = o + i; omega] at this
end Go.Proofs.YtjhafgnmahhacaaGreatDoor
