/- Layer 22: what may be done next: the program's Moves. -/
import Derived.Test.YtjhafgnmahhacaaGreatDoorTe40

namespace Go.Proofs.YtjhafgnmahhacaaGreatDoor
open Go.RowKit
section
/-- What a thread may do next. -/
def mvK (c : List Ins) (t : BTd) (k : Nat) : List (Int × Int) := (if decide (t.at_ < c.length) && !waitL c t then [(1, (k : Int))] else []) ++ (if t.q.isEmpty then [] else [(2, (k : Int))])
def mvAt (m : BMc) (k : Nat) : List (Int × Int) := match m.code[k]?, m.tds[k]? with
  | some c, some t => mvK c t k
  | _, _ => []
def movesTo (m : BMc) (n : Nat) : List (Int × Int) := (List.range n).flatMap (mvAt m)
/-- What may be done next. -/
def movesL (m : BMc) : List (Int × Int) := movesTo m m.tds.length
theorem movesTo_succ {m : BMc} {k : Nat} {c : List Ins} {t : BTd} (hc : m.code[k]? = some c) (ht : m.tds[k]? = some t) : movesTo m (k + 1) = movesTo m k ++ mvK c t k := by
  unfold movesTo
  rw [List.range_succ, List.flatMap_append]
  simp [mvAt, hc, ht]
theorem oneAt {α : Type} (E : Enc α) (w : World) (t : TypeId) (x : α) : E.At (w.alloc (.cells (E.enc x).toArray t (0, 0))) (some ⟨w.heap.size, 0, none⟩) [x] := by
  intro i y hy
  have hi := (List.getElem?_eq_some_iff.1 hy).1
  simp only [List.length_singleton] at hi
  obtain rfl : i = 0 := by omega
  cases hy
  refine ⟨w.heap.size, 0, rfl, fun j u hj => ?_⟩
  simp only [Nat.zero_mul, Nat.zero_add]
  rw [cell_new]
  simpa using hj
theorem mvK_len (c : List Ins) (t : BTd) (k : Nat) : (mvK c t k).length ≤ 2 := by
  unfold mvK
  rw [List.length_append]
  split <;> split <;> simp
theorem movesTo_len (m : BMc) : ∀ k, (movesTo m k).length ≤ 2 * k
  | 0 => by simp [movesTo]
  | k + 1 => by
    have h := movesTo_len m k
    unfold movesTo at h ⊢
    rw [List.range_succ, List.flatMap_append, List.length_append]
    have h2 : (List.flatMap (mvAt m) [k]).length ≤ 2 := by
      simp only [List.flatMap_cons, List.flatMap_nil, List.append_nil]
      unfold mvAt
      split
      · exact mvK_len _ _ _
      · simp
    omega
/-- A row of moves of the call's own. -/
def MvPost (l : List (Int × Int)) (w : World) (e : Ending) (w' : World) : Prop := ∃ v, e = .returned v ∧ encM.Own 79 w.heap.size w' v l ∧ Below w.heap.size w w'
section
set_option maxHeartbeats 4000000
set_option maxRecDepth 100000
variable {w : World} {B g : Nat} {m : BMc} {V : BMv}
theorem movesP (h : BufAt w B g m V) (hn : 0 < m.tds.length) (hn2 : m.tds.length ≤ 256) (hcl : m.code.length = m.tds.length) (hat : ∀ (k : Nat) (t : BTd), m.tds[k]? = some t → 0 ≤ t.at_) :
    Calls Tryz.prog 26 #[.pointer (some ⟨g, 0, none⟩)] w (MvPost (movesL m) w) := by
  have HB := Lib.hid h
  have HI := Lib.hid (fun (W : World) (hW : Below w.heap.size w W) => isP (h.below hW) hn)
  have HAt := Lib.hid hat
  have hgw := h.blk.lt
  obtain ⟨n, hne⟩ : ∃ n, m.tds.length = n := ⟨_, rfl⟩
  have HL : Hid (movesL m = movesTo m n) := Lib.hid (by rw [← hne]; rfl)
  have HNE := Lib.hid hne
  rw [hne] at hn2
  obtain ⟨Ap, cp0, ep⟩ := h.ptr.shp
  have k50 : w.cell? ⟨g, 5, none⟩ = some (.slice Ap n cp0) := by
    have := h.blk.cl 5
    rw [show V.pv = .slice Ap V.tb.length cp0 from ep, h.tlen, hne] at this
    exact this
  have HC := Lib.hid hcl
  clear hcl
  clear h hat hne ep
  go_enter Tryz.func26, Tryz.ntmps26
  go_wp2_with (go_at_call 93; refine (HI.out _ (by repeat (first | exact Below.refl _ _ | refine Below.drew ?_ | refine below_alloc ?_ _))).mono ?_; rintro e w1 ⟨rfl, rfl⟩)
  go_loopw [3, 14] (fun out i wr => ∃ (k : Nat) (v : Value), out = v ∧ k ≤ n ∧ i = .int .i64 k ∧ encM.Own 79 w1.heap.size wr v (movesTo m k) ∧ Below w1.heap.size w1 wr) (fun _ i _ => n - (intOf i).toNat)
  case atStart => exact ⟨0, _, rfl, Nat.zero_le _, rfl, Enc.Own.nil _ _ _, Below.refl _ _⟩
  case round =>
    obtain ⟨k, v, rfl, hk, rfl, hown, hbw⟩ := hrel
    have HO := Lib.hid hown
    have HW := Lib.hid hbw
    have hz := hbw.size
    clear hown hbw
    by_cases hkn : k < n
    · have hkm : k < m.tds.length := by rw [HNE.out]; exact hkn
      obtain ⟨t, ht⟩ : ∃ t, m.tds[k]? = some t := ⟨_, List.getElem?_eq_getElem hkm⟩
      obtain ⟨c, hc⟩ : ∃ c, m.code[k]? = some c := ⟨_, List.getElem?_eq_getElem (by rw [HC.out]; exact hkm)⟩
      have HS := Lib.hid (movesTo_succ hc ht)
      obtain ⟨b, pb, cp, qb, cc, A, cr, hb, htd, k5, p0, k1, q0, hrat, hkl⟩ := HB.out.thr ht hc
      rw [k50] at k5
      simp only [Option.some.injEq, Value.slice.injEq] at k5
      obtain ⟨rfl, rfl, rfl⟩ := k5
      have hat := HAt.out k t ht
      obtain ⟨j, hj⟩ : ∃ j : Nat, t.at_ = (j : Int) := ⟨t.at_.toNat, by omega⟩
      have b1 : wr.cell? ⟨b, 1, none⟩ = some (.int .i64 (j : Int)) := by rw [← hj]; exact cell_go (htd.blk.cl 1) HW.out
      have HE := Lib.hid (fun (W : World) (hW : Below w1.heap.size w1 W) => emptyP (htd.below hW))
      have k1 := cell_go k1 HW.out
      have q0 := cell_go q0 HW.out
      have p0 := cell_go p0 HW.out
      have z1 : (0 : Int) ≤ (k : Int) := by omega
      have z2 : (k : Int) < (m.tds.length : Int) := by omega
      have z3 : (k : Int) < (m.code.length : Int) := by rw [HC.out]; omega
      have hbw : b < wr.heap.size := Nat.lt_of_lt_of_le htd.blk.lt hz
      have hgr : g < wr.heap.size := Nat.lt_of_lt_of_le hgw hz
      have g2 : k < m.tds.length := hkm
      have hml := movesTo_len m k
      obtain ⟨Av, nv, cv, rfl⟩ := own_shp3 HO.out
      by_cases hlt : j < c.length
      · have hx := List.getElem?_eq_getElem hlt
        have HWt := Lib.hid (fun (W : World) (hW : Below w1.heap.size w1 W) => waitsP (HB.out.below hW) ht hc hj hx)
        have g1 : decide ((j : Int) < (c.length : Int)) = true := by simpa using hlt
        have hmk : mvK c t k = (if !waitL c t then [(1, (k : Int))] else []) ++ (if t.q.isEmpty then [] else [(2, (k : Int))]) := by unfold mvK; rw [hj]; simp [hlt]
        rw [hmk] at HS
        clear hx ht hc hb htd hrat hj hmk hat
        cases hwt : waitL c t with
        | true =>
          rw [hwt] at HWt HS
          cases hq : t.q.isEmpty with
          | true =>
            rw [hq] at HE HS
            replace HS := Lib.hid (show movesTo m (k + 1) = movesTo m k by have := HS.out; simpa using this)
            clear hq
            go_wp2_with fail
            refine wz (fun y : World => y.cell? ⟨b, 1, none⟩ = some (.int .i64 (j : Int)) ∧ y.cell? ⟨g, 1, none⟩ = some (.slice (some ⟨qb, 0, none⟩) m.code.length cc) ∧ y.cell? ⟨qb, k, none⟩ = some (.slice A c.length cr)) [4, 8, 10, 11, 12] ⟨b1, k1, q0⟩ (fun hHeld => ?_)
            refine wq 0 ?_
            refine wq 1 ?_
            refine wq 2 ?_
            refine wq 3 ?_
            refine wq 5 ?_
            refine wq 6 ?_
            refine wq 7 ?_
            refine wq 9 ?_
            refine wt 4 (by assumption) ?_
            refine wt 8 (by assumption) ?_
            refine wt 10 (by assumption) ?_
            refine wt 11 (by assumption) ?_
            refine wpE_one (i := 12) (by kernel_rfl) rfl (fun K hK => ?_)
            go_simp
            refine hK.out _ _ hHeld ?_
            clear hK K
            refine pu ?_
            refine wq 13 ?_
            refine wq 14 ?_
            refine wq 15 ?_
            refine wl 16 ?_
            go_wp2_with (first | (go_at_call 96; refine (HWt.out _ (by repeat (first | exact Below.refl _ _ | exact HB2.out | exact HW.out | exact HB3.out | refine Below.drew ?_ | refine below_alloc ?_ _))).mono ?_; rintro e w2 ⟨rfl, hb2⟩; have HB2 := Lib.hid (below_trans (W := w1) (by repeat (first | exact Below.refl _ _ | exact HB2.out | exact HW.out | exact HB3.out | refine Below.drew ?_ | refine below_alloc ?_ _)) hb2); have hz2 := HB2.out.size; have HO := Lib.hid (own_below (own_below HO.out (by repeat (first | exact Below.refl _ _ | refine Below.drew ?_ | refine below_alloc ?_ _))) hb2); clear hb2) | (go_at_call 97; refine (HE.out _ (by repeat (first | exact Below.refl _ _ | exact HB2.out | exact HW.out | exact HB3.out | refine Below.drew ?_ | refine below_alloc ?_ _))).mono ?_; rintro e w9 ⟨rfl, rfl⟩))
            go_roundw
            case rel => exact ⟨k + 1, _, rfl, by omega, by go_num, by rw [HS.out]; exact HO.out, by repeat (first | exact Below.refl _ _ | exact HB2.out | exact HW.out | exact HB3.out | refine Below.drew ?_ | refine below_alloc ?_ _)⟩
            case measure => simp [intOf]; omega
          | false =>
            rw [hq] at HE HS
            replace HS := Lib.hid (show movesTo m (k + 1) = movesTo m k ++ [((2 : Int), (k : Int))] by have := HS.out; simpa using this)
            clear hq
            go_wp2_with fail
            refine wz (fun y : World => y.cell? ⟨b, 1, none⟩ = some (.int .i64 (j : Int)) ∧ y.cell? ⟨g, 1, none⟩ = some (.slice (some ⟨qb, 0, none⟩) m.code.length cc) ∧ y.cell? ⟨qb, k, none⟩ = some (.slice A c.length cr)) [4, 8, 10, 11, 12] ⟨b1, k1, q0⟩ (fun hHeld => ?_)
            refine wq 0 ?_
            refine wq 1 ?_
            refine wq 2 ?_
            refine wq 3 ?_
            refine wq 5 ?_
            refine wq 6 ?_
            refine wq 7 ?_
            refine wq 9 ?_
            refine wt 4 (by assumption) ?_
            refine wt 8 (by assumption) ?_
            refine wt 10 (by assumption) ?_
            refine wt 11 (by assumption) ?_
            refine wpE_one (i := 12) (by kernel_rfl) rfl (fun K hK => ?_)
            go_simp
            refine hK.out _ _ hHeld ?_
            clear hK K
            refine pu ?_
            refine wq 13 ?_
            refine wq 14 ?_
            refine wq 15 ?_
            refine wl 16 ?_
            go_wp2_with (first | (go_at_call 96; refine (HWt.out _ (by repeat (first | exact Below.refl _ _ | exact HB2.out | exact HW.out | exact HB3.out | refine Below.drew ?_ | refine below_alloc ?_ _))).mono ?_; rintro e w2 ⟨rfl, hb2⟩; have HB2 := Lib.hid (below_trans (W := w1) (by repeat (first | exact Below.refl _ _ | exact HB2.out | exact HW.out | exact HB3.out | refine Below.drew ?_ | refine below_alloc ?_ _)) hb2); have hz2 := HB2.out.size; have HO := Lib.hid (own_below (own_below HO.out (by repeat (first | exact Below.refl _ _ | refine Below.drew ?_ | refine below_alloc ?_ _))) hb2); clear hb2) | (go_at_call 97; refine (HE.out _ (by repeat (first | exact Below.refl _ _ | exact HB2.out | exact HW.out | exact HB3.out | refine Below.drew ?_ | refine below_alloc ?_ _))).mono ?_; rintro e w9 ⟨rfl, rfl⟩) | (at_builtin; refine Enc.appW elemM _ rfl (.tmp 49) (.tmp 52) rfl [((2 : Int), (k : Int))] w1.heap.size (movesTo m k) (.slice Av nv cv) _ 0 1 rfl rfl (oneAt encM _ _ ((2 : Int), (k : Int))) (own_below HO.out (by repeat (first | exact Below.refl _ _ | refine Below.drew ?_ | refine below_alloc ?_ _))) (by simp; omega) (by simp; omega) (by simp; omega) ?_; intro v3 w3 hown3 hg3; obtain ⟨Av, nv, cv, rfl⟩ := own_shp3 hown3; have HO := Lib.hid hown3; have HB3 := Lib.hid (Below.trans (a := w1) (by repeat (first | exact Below.refl _ _ | exact HB2.out | exact HW.out | exact HB3.out | refine Below.drew ?_ | refine below_alloc ?_ _)) hg3.below); have hz2 := HB3.out.size; clear hown3 hg3))
            go_roundw
            case rel => exact ⟨k + 1, _, rfl, by omega, by go_num, by rw [HS.out]; exact HO.out, by repeat (first | exact Below.refl _ _ | exact HB2.out | exact HW.out | exact HB3.out | refine Below.drew ?_ | refine below_alloc ?_ _)⟩
            case measure => simp [intOf]; omega
        | false =>
          rw [hwt] at HWt HS
          cases hq : t.q.isEmpty with
          | true =>
            rw [hq] at HE HS
            replace HS := Lib.hid (show movesTo m (k + 1) = movesTo m k ++ [((1 : Int), (k : Int))] by have := HS.out; simpa using this)
            clear hq
            go_wp2_with fail
            refine wz (fun y : World => y.cell? ⟨b, 1, none⟩ = some (.int .i64 (j : Int)) ∧ y.cell? ⟨g, 1, none⟩ = some (.slice (some ⟨qb, 0, none⟩) m.code.length cc) ∧ y.cell? ⟨qb, k, none⟩ = some (.slice A c.length cr)) [4, 8, 10, 11, 12] ⟨b1, k1, q0⟩ (fun hHeld => ?_)
            refine wq 0 ?_
            refine wq 1 ?_
            refine wq 2 ?_
            refine wq 3 ?_
            refine wq 5 ?_
            refine wq 6 ?_
            refine wq 7 ?_
            refine wq 9 ?_
            refine wt 4 (by assumption) ?_
            refine wt 8 (by assumption) ?_
            refine wt 10 (by assumption) ?_
            refine wt 11 (by assumption) ?_
            refine wpE_one (i := 12) (by kernel_rfl) rfl (fun K hK => ?_)
            go_simp
            refine hK.out _ _ hHeld ?_
            clear hK K
            refine pu ?_
            refine wq 13 ?_
            refine wq 14 ?_
            refine wq 15 ?_
            refine wl 16 ?_
            go_wp2_with (first | (go_at_call 96; refine (HWt.out _ (by repeat (first | exact Below.refl _ _ | exact HB2.out | exact HW.out | exact HB3.out | refine Below.drew ?_ | refine below_alloc ?_ _))).mono ?_; rintro e w2 ⟨rfl, hb2⟩; have HB2 := Lib.hid (below_trans (W := w1) (by repeat (first | exact Below.refl _ _ | exact HB2.out | exact HW.out | exact HB3.out | refine Below.drew ?_ | refine below_alloc ?_ _)) hb2); have hz2 := HB2.out.size; have HO := Lib.hid (own_below (own_below HO.out (by repeat (first | exact Below.refl _ _ | refine Below.drew ?_ | refine below_alloc ?_ _))) hb2); clear hb2) | (go_at_call 97; refine (HE.out _ (by repeat (first | exact Below.refl _ _ | exact HB2.out | exact HW.out | exact HB3.out | refine Below.drew ?_ | refine below_alloc ?_ _))).mono ?_; rintro e w9 ⟨rfl, rfl⟩) | (at_builtin; refine Enc.appW elemM _ rfl (.tmp 39) (.tmp 42) rfl [((1 : Int), (k : Int))] w1.heap.size (movesTo m k) (.slice Av nv cv) _ 0 1 rfl rfl (oneAt encM _ _ ((1 : Int), (k : Int))) (own_below HO.out (by repeat (first | exact Below.refl _ _ | refine Below.drew ?_ | refine below_alloc ?_ _))) (by simp; omega) (by simp; omega) (by simp; omega) ?_; intro v3 w3 hown3 hg3; obtain ⟨Av, nv, cv, rfl⟩ := own_shp3 hown3; have HO := Lib.hid hown3; have HB3 := Lib.hid (Below.trans (a := w1) (by repeat (first | exact Below.refl _ _ | exact HB2.out | exact HW.out | exact HB3.out | refine Below.drew ?_ | refine below_alloc ?_ _)) hg3.below); have hz2 := HB3.out.size; clear hown3 hg3))
            go_roundw
            case rel => exact ⟨k + 1, _, rfl, by omega, by go_num, by rw [HS.out]; exact HO.out, by repeat (first | exact Below.refl _ _ | exact HB2.out | exact HW.out | exact HB3.out | refine Below.drew ?_ | refine below_alloc ?_ _)⟩
            case measure => simp [intOf]; omega
          | false =>
            rw [hq] at HE HS
            replace HS := Lib.hid (show movesTo m (k + 1) = (movesTo m k ++ [((1 : Int), (k : Int))]) ++ [((2 : Int), (k : Int))] by have := HS.out; simpa using this)
            clear hq
            go_wp2_with fail
            refine wz (fun y : World => y.cell? ⟨b, 1, none⟩ = some (.int .i64 (j : Int)) ∧ y.cell? ⟨g, 1, none⟩ = some (.slice (some ⟨qb, 0, none⟩) m.code.length cc) ∧ y.cell? ⟨qb, k, none⟩ = some (.slice A c.length cr)) [4, 8, 10, 11, 12] ⟨b1, k1, q0⟩ (fun hHeld => ?_)
            refine wq 0 ?_
            refine wq 1 ?_
            refine wq 2 ?_
            refine wq 3 ?_
            refine wq 5 ?_
            refine wq 6 ?_
            refine wq 7 ?_
            refine wq 9 ?_
            refine wt 4 (by assumption) ?_
            refine wt 8 (by assumption) ?_
            refine wt 10 (by assumption) ?_
            refine wt 11 (by assumption) ?_
            refine wpE_one (i := 12) (by kernel_rfl) rfl (fun K hK => ?_)
            go_simp
            refine hK.out _ _ hHeld ?_
            clear hK K
            refine pu ?_
            refine wq 13 ?_
            refine wq 14 ?_
            refine wq 15 ?_
            refine wl 16 ?_
            go_wp2_with (first | (go_at_call 96; refine (HWt.out _ (by repeat (first | exact Below.refl _ _ | exact HB2.out | exact HW.out | exact HB3.out | refine Below.drew ?_ | refine below_alloc ?_ _))).mono ?_; rintro e w2 ⟨rfl, hb2⟩; have HB2 := Lib.hid (below_trans (W := w1) (by repeat (first | exact Below.refl _ _ | exact HB2.out | exact HW.out | exact HB3.out | refine Below.drew ?_ | refine below_alloc ?_ _)) hb2); have hz2 := HB2.out.size; have HO := Lib.hid (own_below (own_below HO.out (by repeat (first | exact Below.refl _ _ | refine Below.drew ?_ | refine below_alloc ?_ _))) hb2); clear hb2) | (go_at_call 97; refine (HE.out _ (by repeat (first | exact Below.refl _ _ | exact HB2.out | exact HW.out | exact HB3.out | refine Below.drew ?_ | refine below_alloc ?_ _))).mono ?_; rintro e w9 ⟨rfl, rfl⟩) | (at_builtin; refine Enc.appW elemM _ rfl (.tmp 39) (.tmp 42) rfl [((1 : Int), (k : Int))] w1.heap.size (movesTo m k) (.slice Av nv cv) _ 0 1 rfl rfl (oneAt encM _ _ ((1 : Int), (k : Int))) (own_below HO.out (by repeat (first | exact Below.refl _ _ | refine Below.drew ?_ | refine below_alloc ?_ _))) (by simp; omega) (by simp; omega) (by simp; omega) ?_; intro v3 w3 hown3 hg3; obtain ⟨Av, nv, cv, rfl⟩ := own_shp3 hown3; have HO := Lib.hid hown3; have HB3 := Lib.hid (Below.trans (a := w1) (by repeat (first | exact Below.refl _ _ | exact HB2.out | exact HW.out | exact HB3.out | refine Below.drew ?_ | refine below_alloc ?_ _)) hg3.below); have hz2 := HB3.out.size; clear hown3 hg3) | (at_builtin; refine Enc.appW elemM _ rfl (.tmp 49) (.tmp 52) rfl [((2 : Int), (k : Int))] w1.heap.size (movesTo m k ++ [((1 : Int), (k : Int))]) (.slice Av nv cv) _ 0 1 rfl rfl (oneAt encM _ _ ((2 : Int), (k : Int))) (own_below HO.out (by repeat (first | exact Below.refl _ _ | refine Below.drew ?_ | refine below_alloc ?_ _))) (by simp; omega) (by simp; omega) (by simp; omega) ?_; intro v3 w3 hown3 hg3; obtain ⟨Av, nv, cv, rfl⟩ := own_shp3 hown3; have HO := Lib.hid hown3; have HB3 := Lib.hid (Below.trans (a := w1) (by repeat (first | exact Below.refl _ _ | exact HB2.out | exact HW.out | exact HB3.out | refine Below.drew ?_ | refine below_alloc ?_ _)) hg3.below); have hz2 := HB3.out.size; clear hown3 hg3))
            go_roundw
            case rel => exact ⟨k + 1, _, rfl, by omega, by go_num, by rw [HS.out]; exact HO.out, by repeat (first | exact Below.refl _ _ | exact HB2.out | exact HW.out | exact HB3.out | refine Below.drew ?_ | refine below_alloc ?_ _)⟩
            case measure => simp [intOf]; omega
      · have hmk : mvK c t k = (if t.q.isEmpty then [] else [(2, (k : Int))]) := by unfold mvK; rw [hj]; simp [hlt]
        rw [hmk] at HS
        have g1 : decide ((j : Int) < (c.length : Int)) = false := by simpa using hlt
        clear ht hc hb htd hrat hj hmk hat
        cases hq : t.q.isEmpty with
        | true =>
          rw [hq] at HE HS
          replace HS := Lib.hid (show movesTo m (k + 1) = movesTo m k by have := HS.out; simpa using this)
          clear hq
          go_wp2_with fail
          refine wz (fun y : World => y.cell? ⟨b, 1, none⟩ = some (.int .i64 (j : Int)) ∧ y.cell? ⟨g, 1, none⟩ = some (.slice (some ⟨qb, 0, none⟩) m.code.length cc) ∧ y.cell? ⟨qb, k, none⟩ = some (.slice A c.length cr)) [4, 8, 10, 11, 12] ⟨b1, k1, q0⟩ (fun hHeld => ?_)
          refine wq 0 ?_
          refine wq 1 ?_
          refine wq 2 ?_
          refine wq 3 ?_
          refine wq 5 ?_
          refine wq 6 ?_
          refine wq 7 ?_
          refine wq 9 ?_
          refine wt 4 (by assumption) ?_
          refine wt 8 (by assumption) ?_
          refine wt 10 (by assumption) ?_
          refine wt 11 (by assumption) ?_
          refine wpE_one (i := 12) (by kernel_rfl) rfl (fun K hK => ?_)
          go_simp
          refine hK.out _ _ hHeld ?_
          clear hK K
          refine pu ?_
          refine wq 13 ?_
          refine wq 14 ?_
          refine ws 15 ?_
          refine wl 16 ?_
          go_wp2_with (first | (go_at_call 97; refine (HE.out _ (by repeat (first | exact Below.refl _ _ | exact HB2.out | exact HW.out | exact HB3.out | refine Below.drew ?_ | refine below_alloc ?_ _))).mono ?_; rintro e w9 ⟨rfl, rfl⟩))
          go_roundw
          case rel => exact ⟨k + 1, _, rfl, by omega, by go_num, by rw [HS.out]; exact HO.out, by repeat (first | exact Below.refl _ _ | exact HB2.out | exact HW.out | exact HB3.out | refine Below.drew ?_ | refine below_alloc ?_ _)⟩
          case measure => simp [intOf]; omega
        | false =>
          rw [hq] at HE HS
          replace HS := Lib.hid (show movesTo m (k + 1) = movesTo m k ++ [((2 : Int), (k : Int))] by have := HS.out; simpa using this)
          clear hq
          go_wp2_with fail
          refine wz (fun y : World => y.cell? ⟨b, 1, none⟩ = some (.int .i64 (j : Int)) ∧ y.cell? ⟨g, 1, none⟩ = some (.slice (some ⟨qb, 0, none⟩) m.code.length cc) ∧ y.cell? ⟨qb, k, none⟩ = some (.slice A c.length cr)) [4, 8, 10, 11, 12] ⟨b1, k1, q0⟩ (fun hHeld => ?_)
          refine wq 0 ?_
          refine wq 1 ?_
          refine wq 2 ?_
          refine wq 3 ?_
          refine wq 5 ?_
          refine wq 6 ?_
          refine wq 7 ?_
          refine wq 9 ?_
          refine wt 4 (by assumption) ?_
          refine wt 8 (by assumption) ?_
          refine wt 10 (by assumption) ?_
          refine wt 11 (by assumption) ?_
          refine wpE_one (i := 12) (by kernel_rfl) rfl (fun K hK => ?_)
          go_simp
          refine hK.out _ _ hHeld ?_
          clear hK K
          refine pu ?_
          refine wq 13 ?_
          refine wq 14 ?_
          refine ws 15 ?_
          refine wl 16 ?_
          go_wp2_with (first | (go_at_call 97; refine (HE.out _ (by repeat (first | exact Below.refl _ _ | exact HB2.out | exact HW.out | exact HB3.out | refine Below.drew ?_ | refine below_alloc ?_ _))).mono ?_; rintro e w9 ⟨rfl, rfl⟩) | (at_builtin; refine Enc.appW elemM _ rfl (.tmp 49) (.tmp 52) rfl [((2 : Int), (k : Int))] w1.heap.size (movesTo m k) (.slice Av nv cv) _ 0 1 rfl rfl (oneAt encM _ _ ((2 : Int), (k : Int))) (own_below HO.out (by repeat (first | exact Below.refl _ _ | refine Below.drew ?_ | refine below_alloc ?_ _))) (by simp; omega) (by simp; omega) (by simp; omega) ?_; intro v3 w3 hown3 hg3; obtain ⟨Av, nv, cv, rfl⟩ := own_shp3 hown3; have HO := Lib.hid hown3; have HB3 := Lib.hid (Below.trans (a := w1) (by repeat (first | exact Below.refl _ _ | exact HB2.out | exact HW.out | exact HB3.out | refine Below.drew ?_ | refine below_alloc ?_ _)) hg3.below); have hz2 := HB3.out.size; clear hown3 hg3))
          go_roundw
          case rel => exact ⟨k + 1, _, rfl, by omega, by go_num, by rw [HS.out]; exact HO.out, by repeat (first | exact Below.refl _ _ | exact HB2.out | exact HW.out | exact HB3.out | refine Below.drew ?_ | refine below_alloc ?_ _)⟩
          case measure => simp [intOf]; omega
    · have hkn2 : k = n := by omega
      have HE := Lib.hid (show movesL m = movesTo m k by rw [HL.out, hkn2])
      have g1 : ¬ k < n := hkn
      clear hkn2 hkn
      go_wp2
      go_ret
      rw [HE.out]
      exact ⟨_, rfl, HO.out, HW.out⟩
end
end
end Go.Proofs.YtjhafgnmahhacaaGreatDoor
