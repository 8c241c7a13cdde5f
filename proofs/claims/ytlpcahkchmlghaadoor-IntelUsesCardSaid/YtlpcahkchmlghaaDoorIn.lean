/- The reference's moved, the other ways. -/
import Derived.Test.YtlpcahkchmlghaaDoorIm
namespace Go.Proofs.YtlpcahkchmlghaaDoor
open Go.RowKit

section
variable (b o cap : Nat) (w : World) (hE : Env w) (hb0 : b < w.heap.size)
set_option maxRecDepth 100000 in
set_option maxHeartbeats 1000000 in
include hE hb0 in
theorem mrB0 (hcap : 5 ≤ cap) (x0 x1 x2 x3 x4 : List UInt8) (_l0 : x0.length ≤ 262144) (_l1 : x1.length ≤ 262144) (_l2 : x2.length ≤ 262144) (_l3 : x3.length ≤ 262144) (_l4 : x4.length ≤ 262144) (_q0 : w.cell? ⟨b, o, none⟩ = some (.string ⟨x0.toArray⟩)) (q1 : w.cell? ⟨b, o + 1, none⟩ = some (.string ⟨x1.toArray⟩)) (_q2 : w.cell? ⟨b, o + 2, none⟩ = some (.string ⟨x2.toArray⟩)) (q3 : w.cell? ⟨b, o + 3, none⟩ = some (.string ⟨x3.toArray⟩)) (_q4 : w.cell? ⟨b, o + 4, none⟩ = some (.string ⟨x4.toArray⟩)) (e3 : (x3 == [44]) = false) (e1 : (x1 == [44]) = false) :
    Calls Tryd.prog 37 #[.slice (some ⟨b, o, none⟩) 5 cap] w fun e w' => e = .returned (mrV (mvR5 x0 x1 x2 x3 x4)) ∧ Below w.heap.size w w' := by
  have _h := hE
  have c3 : 3 ≤ cap := by omega
  have c2 : ¬ cap = 2 := by omega
  have c2' : ¬ 2 = cap := by omega
  have ci : (3 : Int) ≤ (cap : Int) := by omega
  have hz : b < w.heap.size + 1 := by omega
  have HM := Lib.hid (show mvR5 x0 x1 x2 x3 x4 = ((0, 0, 0, 0, []), false) by simp [mvR5, e3, e1])
  have tokA : True := trivial
  clear c2'
  go_enter Tryd.func37, Tryd.ntmps37
  go_wp2_with (first
    | fail)
  refine bodyPost_ret (v := mrV ((0, 0, 0, 0, []), false)) ?_ rfl ⟨?_, ?_⟩
  · simp [results, Tryd.results37, go_sem, mrV]
  · rw [HM.out]
  · repeat (first | (with_reducible refine Below.setCell ?_ ?_ _; rotate_left 1; exact Nat.le_refl _) | (with_reducible refine below_alloc ?_ _) | (with_reducible exact (Below.refl _ _)))
set_option maxRecDepth 100000 in
set_option maxHeartbeats 1000000 in
include hE hb0 in
theorem mrB1yt (hcap : 5 ≤ cap) (x0 x1 x2 x3 x4 : List UInt8) (_l0 : x0.length ≤ 262144) (_l1 : x1.length ≤ 262144) (_l2 : x2.length ≤ 262144) (l3 : x3.length ≤ 262144) (_l4 : x4.length ≤ 262144) (q0 : w.cell? ⟨b, o, none⟩ = some (.string ⟨x0.toArray⟩)) (q1 : w.cell? ⟨b, o + 1, none⟩ = some (.string ⟨x1.toArray⟩)) (q2 : w.cell? ⟨b, o + 2, none⟩ = some (.string ⟨x2.toArray⟩)) (q3 : w.cell? ⟨b, o + 3, none⟩ = some (.string ⟨x3.toArray⟩)) (q4 : w.cell? ⟨b, o + 4, none⟩ = some (.string ⟨x4.toArray⟩)) (e3 : (x3 == [44]) = false) (e1 : (x1 == [44]) = true) (hp : placeB x2 x3 x4 = true) (k : Nat) (hr : regOf x0 = some k) :
    Calls Tryd.prog 37 #[.slice (some ⟨b, o, none⟩) 5 cap] w fun e w' => e = .returned (mrV (mvR5 x0 x1 x2 x3 x4)) ∧ Below w.heap.size w w' := by
  have _h := hE
  have c3 : 3 ≤ cap := by omega
  have c2 : ¬ cap = 2 := by omega
  have c2' : ¬ 2 = cap := by omega
  have ci : (3 : Int) ≤ (cap : Int) := by omega
  have hz : b < w.heap.size + 1 := by omega
  have HM := Lib.hid (show mvR5 x0 x1 x2 x3 x4 = ((3, (k : Int), 0, 0, x3), true) by simp [mvR5, e3, e1, hp, hr])
  have HP := Lib.hid hp
  have HR := Lib.hid hr
  have tokA : True := trivial
  clear hp hr
  go_enter Tryd.func37, Tryd.ntmps37
  go_wp2_with (first
    | (go_at_call 20; have _t := tokA; refine (regOfR_y HR.out _).mono ?_; clear tokA; rintro e w1 ⟨rfl, hb1⟩; have hB1 := below_trans (alloc_below w _) hb1; have hE1 := hE.mono hB1; obtain ⟨hc1, hf1⟩ := bcell hb1; have hz1 : w.heap.size < w1.heap.size := Nat.lt_of_lt_of_le (by simp) hb1.size; have r0 := cell_go q0 hB1; have r1 := cell_go q1 hB1; have r2 := cell_go q2 hB1; have r3 := cell_go q3 hB1; have r4 := cell_go q4 hB1; skip)
    | (go_at_call 64; refine (place_as HP.out _ _ _ _ l3 r2 r3 r4).mono ?_; rintro e w2 ⟨rfl, hb2⟩; have hB2 := below_trans hB1 hb2; have hE2 := hE1.mono hb2; obtain ⟨hc2, hf2⟩ := bcell hb2; have hz2 : w.heap.size < w2.heap.size := Nat.lt_of_lt_of_le hz1 hb2.size; skip))
  refine bodyPost_ret (v := mrV ((3, (k : Int), 0, 0, x3), true)) ?_ rfl ⟨?_, ?_⟩
  · simp [results, Tryd.results37, go_sem, mrV, hc1, hz1, hc2]
  · rw [HM.out]
  · repeat (first | (with_reducible refine Below.setCell ?_ ?_ _; rotate_left 1; exact Nat.le_refl _) | (with_reducible refine below_alloc ?_ _) | (with_reducible exact hB2))
set_option maxRecDepth 100000 in
set_option maxHeartbeats 1000000 in
include hE hb0 in
theorem mrB1yf (hcap : 5 ≤ cap) (x0 x1 x2 x3 x4 : List UInt8) (_l0 : x0.length ≤ 262144) (_l1 : x1.length ≤ 262144) (_l2 : x2.length ≤ 262144) (l3 : x3.length ≤ 262144) (_l4 : x4.length ≤ 262144) (q0 : w.cell? ⟨b, o, none⟩ = some (.string ⟨x0.toArray⟩)) (q1 : w.cell? ⟨b, o + 1, none⟩ = some (.string ⟨x1.toArray⟩)) (q2 : w.cell? ⟨b, o + 2, none⟩ = some (.string ⟨x2.toArray⟩)) (q3 : w.cell? ⟨b, o + 3, none⟩ = some (.string ⟨x3.toArray⟩)) (q4 : w.cell? ⟨b, o + 4, none⟩ = some (.string ⟨x4.toArray⟩)) (e3 : (x3 == [44]) = false) (e1 : (x1 == [44]) = true) (hp : placeB x2 x3 x4 = false) (k : Nat) (hr : regOf x0 = some k) :
    Calls Tryd.prog 37 #[.slice (some ⟨b, o, none⟩) 5 cap] w fun e w' => e = .returned (mrV (mvR5 x0 x1 x2 x3 x4)) ∧ Below w.heap.size w w' := by
  have _h := hE
  have c3 : 3 ≤ cap := by omega
  have c2 : ¬ cap = 2 := by omega
  have c2' : ¬ 2 = cap := by omega
  have ci : (3 : Int) ≤ (cap : Int) := by omega
  have hz : b < w.heap.size + 1 := by omega
  have HM := Lib.hid (show mvR5 x0 x1 x2 x3 x4 = ((3, (k : Int), 0, 0, x3), false) by simp [mvR5, e3, e1, hp, hr])
  have HP := Lib.hid hp
  have HR := Lib.hid hr
  have tokA : True := trivial
  clear hp hr
  go_enter Tryd.func37, Tryd.ntmps37
  go_wp2_with (first
    | (go_at_call 20; have _t := tokA; refine (regOfR_y HR.out _).mono ?_; clear tokA; rintro e w1 ⟨rfl, hb1⟩; have hB1 := below_trans (alloc_below w _) hb1; have hE1 := hE.mono hB1; obtain ⟨hc1, hf1⟩ := bcell hb1; have hz1 : w.heap.size < w1.heap.size := Nat.lt_of_lt_of_le (by simp) hb1.size; have r0 := cell_go q0 hB1; have r1 := cell_go q1 hB1; have r2 := cell_go q2 hB1; have r3 := cell_go q3 hB1; have r4 := cell_go q4 hB1; skip)
    | (go_at_call 64; refine (place_as HP.out _ _ _ _ l3 r2 r3 r4).mono ?_; rintro e w2 ⟨rfl, hb2⟩; have hB2 := below_trans hB1 hb2; have hE2 := hE1.mono hb2; obtain ⟨hc2, hf2⟩ := bcell hb2; have hz2 : w.heap.size < w2.heap.size := Nat.lt_of_lt_of_le hz1 hb2.size; skip))
  refine bodyPost_ret (v := mrV ((3, (k : Int), 0, 0, x3), false)) ?_ rfl ⟨?_, ?_⟩
  · simp [results, Tryd.results37, go_sem, mrV, hc1, hz1, hc2]
  · rw [HM.out]
  · repeat (first | (with_reducible refine Below.setCell ?_ ?_ _; rotate_left 1; exact Nat.le_refl _) | (with_reducible refine below_alloc ?_ _) | (with_reducible exact hB2))
set_option maxRecDepth 100000 in
set_option maxHeartbeats 1000000 in
include hE hb0 in
theorem mrB1nt (hcap : 5 ≤ cap) (x0 x1 x2 x3 x4 : List UInt8) (_l0 : x0.length ≤ 262144) (_l1 : x1.length ≤ 262144) (_l2 : x2.length ≤ 262144) (l3 : x3.length ≤ 262144) (_l4 : x4.length ≤ 262144) (q0 : w.cell? ⟨b, o, none⟩ = some (.string ⟨x0.toArray⟩)) (q1 : w.cell? ⟨b, o + 1, none⟩ = some (.string ⟨x1.toArray⟩)) (q2 : w.cell? ⟨b, o + 2, none⟩ = some (.string ⟨x2.toArray⟩)) (q3 : w.cell? ⟨b, o + 3, none⟩ = some (.string ⟨x3.toArray⟩)) (q4 : w.cell? ⟨b, o + 4, none⟩ = some (.string ⟨x4.toArray⟩)) (e3 : (x3 == [44]) = false) (e1 : (x1 == [44]) = true) (hp : placeB x2 x3 x4 = true) (hr : regOf x0 = none) :
    Calls Tryd.prog 37 #[.slice (some ⟨b, o, none⟩) 5 cap] w fun e w' => e = .returned (mrV (mvR5 x0 x1 x2 x3 x4)) ∧ Below w.heap.size w w' := by
  have _h := hE
  have c3 : 3 ≤ cap := by omega
  have c2 : ¬ cap = 2 := by omega
  have c2' : ¬ 2 = cap := by omega
  have ci : (3 : Int) ≤ (cap : Int) := by omega
  have hz : b < w.heap.size + 1 := by omega
  have HM := Lib.hid (show mvR5 x0 x1 x2 x3 x4 = ((3, 0, 0, 0, x3), false) by simp [mvR5, e3, e1, hr])
  have HP := Lib.hid hp
  have HR := Lib.hid hr
  have tokA : True := trivial
  clear hp hr
  go_enter Tryd.func37, Tryd.ntmps37
  go_wp2_with (first
    | (go_at_call 20; have _t := tokA; refine (regOfR_n HR.out _).mono ?_; clear tokA; rintro e w1 ⟨rfl, hb1⟩; have hB1 := below_trans (alloc_below w _) hb1; have hE1 := hE.mono hB1; obtain ⟨hc1, hf1⟩ := bcell hb1; have hz1 : w.heap.size < w1.heap.size := Nat.lt_of_lt_of_le (by simp) hb1.size; have r0 := cell_go q0 hB1; have r1 := cell_go q1 hB1; have r2 := cell_go q2 hB1; have r3 := cell_go q3 hB1; have r4 := cell_go q4 hB1; skip)
    | (go_at_call 64; refine (place_as HP.out _ _ _ _ l3 r2 r3 r4).mono ?_; rintro e w2 ⟨rfl, hb2⟩; have hB2 := below_trans hB1 hb2; have hE2 := hE1.mono hb2; obtain ⟨hc2, hf2⟩ := bcell hb2; have hz2 : w.heap.size < w2.heap.size := Nat.lt_of_lt_of_le hz1 hb2.size; skip))
  refine bodyPost_ret (v := mrV ((3, 0, 0, 0, x3), false)) ?_ rfl ⟨?_, ?_⟩
  · simp [results, Tryd.results37, go_sem, mrV, hc1, hz1, hc2]
  · rw [HM.out]
  · repeat (first | (with_reducible refine Below.setCell ?_ ?_ _; rotate_left 1; exact Nat.le_refl _) | (with_reducible refine below_alloc ?_ _) | (with_reducible exact hB2))
set_option maxRecDepth 100000 in
set_option maxHeartbeats 1000000 in
include hE hb0 in
theorem mrB1nf (hcap : 5 ≤ cap) (x0 x1 x2 x3 x4 : List UInt8) (_l0 : x0.length ≤ 262144) (_l1 : x1.length ≤ 262144) (_l2 : x2.length ≤ 262144) (l3 : x3.length ≤ 262144) (_l4 : x4.length ≤ 262144) (q0 : w.cell? ⟨b, o, none⟩ = some (.string ⟨x0.toArray⟩)) (q1 : w.cell? ⟨b, o + 1, none⟩ = some (.string ⟨x1.toArray⟩)) (q2 : w.cell? ⟨b, o + 2, none⟩ = some (.string ⟨x2.toArray⟩)) (q3 : w.cell? ⟨b, o + 3, none⟩ = some (.string ⟨x3.toArray⟩)) (q4 : w.cell? ⟨b, o + 4, none⟩ = some (.string ⟨x4.toArray⟩)) (e3 : (x3 == [44]) = false) (e1 : (x1 == [44]) = true) (hp : placeB x2 x3 x4 = false) (hr : regOf x0 = none) :
    Calls Tryd.prog 37 #[.slice (some ⟨b, o, none⟩) 5 cap] w fun e w' => e = .returned (mrV (mvR5 x0 x1 x2 x3 x4)) ∧ Below w.heap.size w w' := by
  have _h := hE
  have c3 : 3 ≤ cap := by omega
  have c2 : ¬ cap = 2 := by omega
  have c2' : ¬ 2 = cap := by omega
  have ci : (3 : Int) ≤ (cap : Int) := by omega
  have hz : b < w.heap.size + 1 := by omega
  have HM := Lib.hid (show mvR5 x0 x1 x2 x3 x4 = ((3, 0, 0, 0, x3), false) by simp [mvR5, e3, e1, hr])
  have HP := Lib.hid hp
  have HR := Lib.hid hr
  have tokA : True := trivial
  clear hp hr
  go_enter Tryd.func37, Tryd.ntmps37
  go_wp2_with (first
    | (go_at_call 20; have _t := tokA; refine (regOfR_n HR.out _).mono ?_; clear tokA; rintro e w1 ⟨rfl, hb1⟩; have hB1 := below_trans (alloc_below w _) hb1; have hE1 := hE.mono hB1; obtain ⟨hc1, hf1⟩ := bcell hb1; have hz1 : w.heap.size < w1.heap.size := Nat.lt_of_lt_of_le (by simp) hb1.size; have r0 := cell_go q0 hB1; have r1 := cell_go q1 hB1; have r2 := cell_go q2 hB1; have r3 := cell_go q3 hB1; have r4 := cell_go q4 hB1; skip)
    | (go_at_call 64; refine (place_as HP.out _ _ _ _ l3 r2 r3 r4).mono ?_; rintro e w2 ⟨rfl, hb2⟩; have hB2 := below_trans hB1 hb2; have hE2 := hE1.mono hb2; obtain ⟨hc2, hf2⟩ := bcell hb2; have hz2 : w.heap.size < w2.heap.size := Nat.lt_of_lt_of_le hz1 hb2.size; skip))
  refine bodyPost_ret (v := mrV ((3, 0, 0, 0, x3), false)) ?_ rfl ⟨?_, ?_⟩
  · simp [results, Tryd.results37, go_sem, mrV, hc1, hz1, hc2]
  · rw [HM.out]
  · repeat (first | (with_reducible refine Below.setCell ?_ ?_ _; rotate_left 1; exact Nat.le_refl _) | (with_reducible refine below_alloc ?_ _) | (with_reducible exact hB2))
set_option maxRecDepth 100000 in
set_option maxHeartbeats 1000000 in
include hE hb0 in
theorem mrN0 (n : Nat) (hn3 : 3 ≤ n) (hn5 : n ≠ 5) (hcap : n ≤ cap) (hncap : cap ≤ 9223372036854775807) (x0 x1 x2 : List UInt8) (_l0 : x0.length ≤ 262144) (_l1 : x1.length ≤ 262144) (_l2 : x2.length ≤ 262144) (_q0 : w.cell? ⟨b, o, none⟩ = some (.string ⟨x0.toArray⟩)) (q1 : w.cell? ⟨b, o + 1, none⟩ = some (.string ⟨x1.toArray⟩)) (_q2 : w.cell? ⟨b, o + 2, none⟩ = some (.string ⟨x2.toArray⟩)) (e1 : (x1 == [44]) = false) :
    Calls Tryd.prog 37 #[.slice (some ⟨b, o, none⟩) n cap] w fun e w' => e = .returned (mrV (mvRn n x0 x1 x2)) ∧ Below w.heap.size w w' := by
  have _h := hE
  have c3 : 3 ≤ cap := by omega
  have c2 : ¬ cap = 2 := by omega
  have c2' : ¬ 2 = cap := by omega
  have ci : (3 : Int) ≤ (cap : Int) := by omega
  have hz : b < w.heap.size + 1 := by omega
  have hni : ((n : Int) == 5) = false := by rw [beq_eq_false_iff_ne]; omega
  have hn3i : decide ((n : Int) < 3) = false := by simp; omega
  have hn3j : (3 : Int) ≤ (n : Int) := by omega
  have HM := Lib.hid (show mvRn n x0 x1 x2 = ((0, 0, 0, 0, []), false) by simp [mvRn, e1])
  have tokA : True := trivial
  clear c2'
  go_enter Tryd.func37, Tryd.ntmps37
  go_wp2_with (first
    | fail)
  refine bodyPost_ret (v := mrV ((0, 0, 0, 0, []), false)) ?_ rfl ⟨?_, ?_⟩
  · simp [results, Tryd.results37, go_sem, mrV]
  · rw [HM.out]
  · repeat (first | (with_reducible refine Below.setCell ?_ ?_ _; rotate_left 1; exact Nat.le_refl _) | (with_reducible refine below_alloc ?_ _) | (with_reducible exact (Below.refl _ _)))
set_option maxRecDepth 100000 in
set_option maxHeartbeats 1000000 in
include hE hb0 in
theorem mrN1ytt (n : Nat) (hn3 : 3 ≤ n) (hn5 : n ≠ 5) (hcap : n ≤ cap) (hncap : cap ≤ 9223372036854775807) (x0 x1 x2 : List UInt8) (_l0 : x0.length ≤ 262144) (_l1 : x1.length ≤ 262144) (l2 : x2.length ≤ 262144) (q0 : w.cell? ⟨b, o, none⟩ = some (.string ⟨x0.toArray⟩)) (q1 : w.cell? ⟨b, o + 1, none⟩ = some (.string ⟨x1.toArray⟩)) (q2 : w.cell? ⟨b, o + 2, none⟩ = some (.string ⟨x2.toArray⟩)) (e1 : (x1 == [44]) = true) (hn : (n == 3) = true) (g : Int) (hg : givenP x2 = (g, true)) (k : Nat) (hr : regOf x0 = some k) :
    Calls Tryd.prog 37 #[.slice (some ⟨b, o, none⟩) n cap] w fun e w' => e = .returned (mrV (mvRn n x0 x1 x2)) ∧ Below w.heap.size w w' := by
  have _h := hE
  have c3 : 3 ≤ cap := by omega
  have c2 : ¬ cap = 2 := by omega
  have c2' : ¬ 2 = cap := by omega
  have ci : (3 : Int) ≤ (cap : Int) := by omega
  have hz : b < w.heap.size + 1 := by omega
  have hni : ((n : Int) == 5) = false := by rw [beq_eq_false_iff_ne]; omega
  have hn3i : decide ((n : Int) < 3) = false := by simp; omega
  have hn3j : (3 : Int) ≤ (n : Int) := by omega
  have HM := Lib.hid (show mvRn n x0 x1 x2 = ((4, (k : Int), 0, g, []), true) by simp [mvRn, e1, hn, hg, hr])
  have hnI : ((n : Int) == 3) = true := by rw [← hn, Bool.eq_iff_iff]; simp; omega
  have HG := Lib.hid hg
  have HR := Lib.hid hr
  have tokA : True := trivial
  clear hg hr hn
  go_enter Tryd.func37, Tryd.ntmps37
  go_wp2_with (first
    | (go_at_call 20; have _t := tokA; refine (regOfR_y HR.out _).mono ?_; clear tokA; rintro e w1 ⟨rfl, hb1⟩; have hB1 := below_trans (alloc_below w _) hb1; have hE1 := hE.mono hB1; obtain ⟨hc1, hf1⟩ := bcell hb1; have hz1 : w.heap.size < w1.heap.size := Nat.lt_of_lt_of_le (by simp) hb1.size; have r0 := cell_go q0 hB1; have r1 := cell_go q1 hB1; have r2 := cell_go q2 hB1; skip)
    | (go_at_call 65; refine (given_as HG.out l2 _ hE1).mono ?_; rintro e w2 ⟨rfl, hb2⟩; have hB2 := below_trans hB1 hb2; have hE2 := hE1.mono hb2; obtain ⟨hc2, hf2⟩ := bcell hb2; have hz2 : w.heap.size < w2.heap.size := Nat.lt_of_lt_of_le hz1 hb2.size; skip))
  refine bodyPost_ret (v := mrV ((4, (k : Int), 0, g, []), true)) ?_ rfl ⟨?_, ?_⟩
  · simp [results, Tryd.results37, go_sem, mrV, hc1, hz1, hc2]
  · rw [HM.out]
  · repeat (first | (with_reducible refine Below.setCell ?_ ?_ _; rotate_left 1; exact Nat.le_refl _) | (with_reducible refine below_alloc ?_ _) | (with_reducible exact hB2))
set_option maxRecDepth 100000 in
set_option maxHeartbeats 1000000 in
include hE hb0 in
theorem mrN1ytf (n : Nat) (hn3 : 3 ≤ n) (hn5 : n ≠ 5) (hcap : n ≤ cap) (hncap : cap ≤ 9223372036854775807) (x0 x1 x2 : List UInt8) (_l0 : x0.length ≤ 262144) (_l1 : x1.length ≤ 262144) (l2 : x2.length ≤ 262144) (q0 : w.cell? ⟨b, o, none⟩ = some (.string ⟨x0.toArray⟩)) (q1 : w.cell? ⟨b, o + 1, none⟩ = some (.string ⟨x1.toArray⟩)) (q2 : w.cell? ⟨b, o + 2, none⟩ = some (.string ⟨x2.toArray⟩)) (e1 : (x1 == [44]) = true) (hn : (n == 3) = true) (g : Int) (hg : givenP x2 = (g, false)) (k : Nat) (hr : regOf x0 = some k) :
    Calls Tryd.prog 37 #[.slice (some ⟨b, o, none⟩) n cap] w fun e w' => e = .returned (mrV (mvRn n x0 x1 x2)) ∧ Below w.heap.size w w' := by
  have _h := hE
  have c3 : 3 ≤ cap := by omega
  have c2 : ¬ cap = 2 := by omega
  have c2' : ¬ 2 = cap := by omega
  have ci : (3 : Int) ≤ (cap : Int) := by omega
  have hz : b < w.heap.size + 1 := by omega
  have hni : ((n : Int) == 5) = false := by rw [beq_eq_false_iff_ne]; omega
  have hn3i : decide ((n : Int) < 3) = false := by simp; omega
  have hn3j : (3 : Int) ≤ (n : Int) := by omega
  have HM := Lib.hid (show mvRn n x0 x1 x2 = ((4, (k : Int), 0, g, []), false) by simp [mvRn, e1, hn, hg, hr])
  have hnI : ((n : Int) == 3) = true := by rw [← hn, Bool.eq_iff_iff]; simp; omega
  have HG := Lib.hid hg
  have HR := Lib.hid hr
  have tokA : True := trivial
  clear hg hr hn
  go_enter Tryd.func37, Tryd.ntmps37
  go_wp2_with (first
    | (go_at_call 20; have _t := tokA; refine (regOfR_y HR.out _).mono ?_; clear tokA; rintro e w1 ⟨rfl, hb1⟩; have hB1 := below_trans (alloc_below w _) hb1; have hE1 := hE.mono hB1; obtain ⟨hc1, hf1⟩ := bcell hb1; have hz1 : w.heap.size < w1.heap.size := Nat.lt_of_lt_of_le (by simp) hb1.size; have r0 := cell_go q0 hB1; have r1 := cell_go q1 hB1; have r2 := cell_go q2 hB1; skip)
    | (go_at_call 65; refine (given_as HG.out l2 _ hE1).mono ?_; rintro e w2 ⟨rfl, hb2⟩; have hB2 := below_trans hB1 hb2; have hE2 := hE1.mono hb2; obtain ⟨hc2, hf2⟩ := bcell hb2; have hz2 : w.heap.size < w2.heap.size := Nat.lt_of_lt_of_le hz1 hb2.size; skip))
  refine bodyPost_ret (v := mrV ((4, (k : Int), 0, g, []), false)) ?_ rfl ⟨?_, ?_⟩
  · simp [results, Tryd.results37, go_sem, mrV, hc1, hz1, hc2]
  · rw [HM.out]
  · repeat (first | (with_reducible refine Below.setCell ?_ ?_ _; rotate_left 1; exact Nat.le_refl _) | (with_reducible refine below_alloc ?_ _) | (with_reducible exact hB2))
set_option maxRecDepth 100000 in
set_option maxHeartbeats 1000000 in
include hE hb0 in
theorem mrN1yft (n : Nat) (hn3 : 3 ≤ n) (hn5 : n ≠ 5) (hcap : n ≤ cap) (hncap : cap ≤ 9223372036854775807) (x0 x1 x2 : List UInt8) (_l0 : x0.length ≤ 262144) (_l1 : x1.length ≤ 262144) (l2 : x2.length ≤ 262144) (q0 : w.cell? ⟨b, o, none⟩ = some (.string ⟨x0.toArray⟩)) (q1 : w.cell? ⟨b, o + 1, none⟩ = some (.string ⟨x1.toArray⟩)) (q2 : w.cell? ⟨b, o + 2, none⟩ = some (.string ⟨x2.toArray⟩)) (e1 : (x1 == [44]) = true) (hn : (n == 3) = false) (g : Int) (hg : givenP x2 = (g, true)) (k : Nat) (hr : regOf x0 = some k) :
    Calls Tryd.prog 37 #[.slice (some ⟨b, o, none⟩) n cap] w fun e w' => e = .returned (mrV (mvRn n x0 x1 x2)) ∧ Below w.heap.size w w' := by
  have _h := hE
  have c3 : 3 ≤ cap := by omega
  have c2 : ¬ cap = 2 := by omega
  have c2' : ¬ 2 = cap := by omega
  have ci : (3 : Int) ≤ (cap : Int) := by omega
  have hz : b < w.heap.size + 1 := by omega
  have hni : ((n : Int) == 5) = false := by rw [beq_eq_false_iff_ne]; omega
  have hn3i : decide ((n : Int) < 3) = false := by simp; omega
  have hn3j : (3 : Int) ≤ (n : Int) := by omega
  have HM := Lib.hid (show mvRn n x0 x1 x2 = ((4, (k : Int), 0, g, []), false) by simp [mvRn, e1, hn, hg, hr])
  have hnI : ((n : Int) == 3) = false := by rw [← hn, Bool.eq_iff_iff]; simp; omega
  have HG := Lib.hid hg
  have HR := Lib.hid hr
  have tokA : True := trivial
  clear hg hr hn
  go_enter Tryd.func37, Tryd.ntmps37
  go_wp2_with (first
    | (go_at_call 20; have _t := tokA; refine (regOfR_y HR.out _).mono ?_; clear tokA; rintro e w1 ⟨rfl, hb1⟩; have hB1 := below_trans (alloc_below w _) hb1; have hE1 := hE.mono hB1; obtain ⟨hc1, hf1⟩ := bcell hb1; have hz1 : w.heap.size < w1.heap.size := Nat.lt_of_lt_of_le (by simp) hb1.size; have r0 := cell_go q0 hB1; have r1 := cell_go q1 hB1; have r2 := cell_go q2 hB1; skip)
    | (go_at_call 65; refine (given_as HG.out l2 _ hE1).mono ?_; rintro e w2 ⟨rfl, hb2⟩; have hB2 := below_trans hB1 hb2; have hE2 := hE1.mono hb2; obtain ⟨hc2, hf2⟩ := bcell hb2; have hz2 : w.heap.size < w2.heap.size := Nat.lt_of_lt_of_le hz1 hb2.size; skip))
  refine bodyPost_ret (v := mrV ((4, (k : Int), 0, g, []), false)) ?_ rfl ⟨?_, ?_⟩
  · simp [results, Tryd.results37, go_sem, mrV, hc1, hz1, hc2]
  · rw [HM.out]
  · repeat (first | (with_reducible refine Below.setCell ?_ ?_ _; rotate_left 1; exact Nat.le_refl _) | (with_reducible refine below_alloc ?_ _) | (with_reducible exact hB2))
set_option maxRecDepth 100000 in
set_option maxHeartbeats 1000000 in
include hE hb0 in
theorem mrN1yff (n : Nat) (hn3 : 3 ≤ n) (hn5 : n ≠ 5) (hcap : n ≤ cap) (hncap : cap ≤ 9223372036854775807) (x0 x1 x2 : List UInt8) (_l0 : x0.length ≤ 262144) (_l1 : x1.length ≤ 262144) (l2 : x2.length ≤ 262144) (q0 : w.cell? ⟨b, o, none⟩ = some (.string ⟨x0.toArray⟩)) (q1 : w.cell? ⟨b, o + 1, none⟩ = some (.string ⟨x1.toArray⟩)) (q2 : w.cell? ⟨b, o + 2, none⟩ = some (.string ⟨x2.toArray⟩)) (e1 : (x1 == [44]) = true) (hn : (n == 3) = false) (g : Int) (hg : givenP x2 = (g, false)) (k : Nat) (hr : regOf x0 = some k) :
    Calls Tryd.prog 37 #[.slice (some ⟨b, o, none⟩) n cap] w fun e w' => e = .returned (mrV (mvRn n x0 x1 x2)) ∧ Below w.heap.size w w' := by
  have _h := hE
  have c3 : 3 ≤ cap := by omega
  have c2 : ¬ cap = 2 := by omega
  have c2' : ¬ 2 = cap := by omega
  have ci : (3 : Int) ≤ (cap : Int) := by omega
  have hz : b < w.heap.size + 1 := by omega
  have hni : ((n : Int) == 5) = false := by rw [beq_eq_false_iff_ne]; omega
  have hn3i : decide ((n : Int) < 3) = false := by simp; omega
  have hn3j : (3 : Int) ≤ (n : Int) := by omega
  have HM := Lib.hid (show mvRn n x0 x1 x2 = ((4, (k : Int), 0, g, []), false) by simp [mvRn, e1, hn, hg, hr])
  have hnI : ((n : Int) == 3) = false := by rw [← hn, Bool.eq_iff_iff]; simp; omega
  have HG := Lib.hid hg
  have HR := Lib.hid hr
  have tokA : True := trivial
  clear hg hr hn
  go_enter Tryd.func37, Tryd.ntmps37
  go_wp2_with (first
    | (go_at_call 20; have _t := tokA; refine (regOfR_y HR.out _).mono ?_; clear tokA; rintro e w1 ⟨rfl, hb1⟩; have hB1 := below_trans (alloc_below w _) hb1; have hE1 := hE.mono hB1; obtain ⟨hc1, hf1⟩ := bcell hb1; have hz1 : w.heap.size < w1.heap.size := Nat.lt_of_lt_of_le (by simp) hb1.size; have r0 := cell_go q0 hB1; have r1 := cell_go q1 hB1; have r2 := cell_go q2 hB1; skip)
    | (go_at_call 65; refine (given_as HG.out l2 _ hE1).mono ?_; rintro e w2 ⟨rfl, hb2⟩; have hB2 := below_trans hB1 hb2; have hE2 := hE1.mono hb2; obtain ⟨hc2, hf2⟩ := bcell hb2; have hz2 : w.heap.size < w2.heap.size := Nat.lt_of_lt_of_le hz1 hb2.size; skip))
  refine bodyPost_ret (v := mrV ((4, (k : Int), 0, g, []), false)) ?_ rfl ⟨?_, ?_⟩
  · simp [results, Tryd.results37, go_sem, mrV, hc1, hz1, hc2]
  · rw [HM.out]
  · repeat (first | (with_reducible refine Below.setCell ?_ ?_ _; rotate_left 1; exact Nat.le_refl _) | (with_reducible refine below_alloc ?_ _) | (with_reducible exact hB2))
set_option maxRecDepth 100000 in
set_option maxHeartbeats 1000000 in
include hE hb0 in
theorem mrN1ntt (n : Nat) (hn3 : 3 ≤ n) (hn5 : n ≠ 5) (hcap : n ≤ cap) (hncap : cap ≤ 9223372036854775807) (x0 x1 x2 : List UInt8) (_l0 : x0.length ≤ 262144) (_l1 : x1.length ≤ 262144) (l2 : x2.length ≤ 262144) (q0 : w.cell? ⟨b, o, none⟩ = some (.string ⟨x0.toArray⟩)) (q1 : w.cell? ⟨b, o + 1, none⟩ = some (.string ⟨x1.toArray⟩)) (q2 : w.cell? ⟨b, o + 2, none⟩ = some (.string ⟨x2.toArray⟩)) (e1 : (x1 == [44]) = true) (hn : (n == 3) = true) (g : Int) (hg : givenP x2 = (g, true)) (hr : regOf x0 = none) :
    Calls Tryd.prog 37 #[.slice (some ⟨b, o, none⟩) n cap] w fun e w' => e = .returned (mrV (mvRn n x0 x1 x2)) ∧ Below w.heap.size w w' := by
  have _h := hE
  have c3 : 3 ≤ cap := by omega
  have c2 : ¬ cap = 2 := by omega
  have c2' : ¬ 2 = cap := by omega
  have ci : (3 : Int) ≤ (cap : Int) := by omega
  have hz : b < w.heap.size + 1 := by omega
  have hni : ((n : Int) == 5) = false := by rw [beq_eq_false_iff_ne]; omega
  have hn3i : decide ((n : Int) < 3) = false := by simp; omega
  have hn3j : (3 : Int) ≤ (n : Int) := by omega
  have HM := Lib.hid (show mvRn n x0 x1 x2 = ((4, 0, 0, g, []), false) by simp [mvRn, e1, hg, hr])
  have hnI : ((n : Int) == 3) = true := by rw [← hn, Bool.eq_iff_iff]; simp; omega
  have HG := Lib.hid hg
  have HR := Lib.hid hr
  have tokA : True := trivial
  clear hg hr hn
  go_enter Tryd.func37, Tryd.ntmps37
  go_wp2_with (first
    | (go_at_call 20; have _t := tokA; refine (regOfR_n HR.out _).mono ?_; clear tokA; rintro e w1 ⟨rfl, hb1⟩; have hB1 := below_trans (alloc_below w _) hb1; have hE1 := hE.mono hB1; obtain ⟨hc1, hf1⟩ := bcell hb1; have hz1 : w.heap.size < w1.heap.size := Nat.lt_of_lt_of_le (by simp) hb1.size; have r0 := cell_go q0 hB1; have r1 := cell_go q1 hB1; have r2 := cell_go q2 hB1; skip)
    | (go_at_call 65; refine (given_as HG.out l2 _ hE1).mono ?_; rintro e w2 ⟨rfl, hb2⟩; have hB2 := below_trans hB1 hb2; have hE2 := hE1.mono hb2; obtain ⟨hc2, hf2⟩ := bcell hb2; have hz2 : w.heap.size < w2.heap.size := Nat.lt_of_lt_of_le hz1 hb2.size; skip))
  refine bodyPost_ret (v := mrV ((4, 0, 0, g, []), false)) ?_ rfl ⟨?_, ?_⟩
  · simp [results, Tryd.results37, go_sem, mrV, hc1, hz1, hc2]
  · rw [HM.out]
  · repeat (first | (with_reducible refine Below.setCell ?_ ?_ _; rotate_left 1; exact Nat.le_refl _) | (with_reducible refine below_alloc ?_ _) | (with_reducible exact hB2))
set_option maxRecDepth 100000 in
set_option maxHeartbeats 1000000 in
include hE hb0 in
theorem mrN1ntf (n : Nat) (hn3 : 3 ≤ n) (hn5 : n ≠ 5) (hcap : n ≤ cap) (hncap : cap ≤ 9223372036854775807) (x0 x1 x2 : List UInt8) (_l0 : x0.length ≤ 262144) (_l1 : x1.length ≤ 262144) (l2 : x2.length ≤ 262144) (q0 : w.cell? ⟨b, o, none⟩ = some (.string ⟨x0.toArray⟩)) (q1 : w.cell? ⟨b, o + 1, none⟩ = some (.string ⟨x1.toArray⟩)) (q2 : w.cell? ⟨b, o + 2, none⟩ = some (.string ⟨x2.toArray⟩)) (e1 : (x1 == [44]) = true) (hn : (n == 3) = true) (g : Int) (hg : givenP x2 = (g, false)) (hr : regOf x0 = none) :
    Calls Tryd.prog 37 #[.slice (some ⟨b, o, none⟩) n cap] w fun e w' => e = .returned (mrV (mvRn n x0 x1 x2)) ∧ Below w.heap.size w w' := by
  have _h := hE
  have c3 : 3 ≤ cap := by omega
  have c2 : ¬ cap = 2 := by omega
  have c2' : ¬ 2 = cap := by omega
  have ci : (3 : Int) ≤ (cap : Int) := by omega
  have hz : b < w.heap.size + 1 := by omega
  have hni : ((n : Int) == 5) = false := by rw [beq_eq_false_iff_ne]; omega
  have hn3i : decide ((n : Int) < 3) = false := by simp; omega
  have hn3j : (3 : Int) ≤ (n : Int) := by omega
  have HM := Lib.hid (show mvRn n x0 x1 x2 = ((4, 0, 0, g, []), false) by simp [mvRn, e1, hg, hr])
  have hnI : ((n : Int) == 3) = true := by rw [← hn, Bool.eq_iff_iff]; simp; omega
  have HG := Lib.hid hg
  have HR := Lib.hid hr
  have tokA : True := trivial
  clear hg hr hn
  go_enter Tryd.func37, Tryd.ntmps37
  go_wp2_with (first
    | (go_at_call 20; have _t := tokA; refine (regOfR_n HR.out _).mono ?_; clear tokA; rintro e w1 ⟨rfl, hb1⟩; have hB1 := below_trans (alloc_below w _) hb1; have hE1 := hE.mono hB1; obtain ⟨hc1, hf1⟩ := bcell hb1; have hz1 : w.heap.size < w1.heap.size := Nat.lt_of_lt_of_le (by simp) hb1.size; have r0 := cell_go q0 hB1; have r1 := cell_go q1 hB1; have r2 := cell_go q2 hB1; skip)
    | (go_at_call 65; refine (given_as HG.out l2 _ hE1).mono ?_; rintro e w2 ⟨rfl, hb2⟩; have hB2 := below_trans hB1 hb2; have hE2 := hE1.mono hb2; obtain ⟨hc2, hf2⟩ := bcell hb2; have hz2 : w.heap.size < w2.heap.size := Nat.lt_of_lt_of_le hz1 hb2.size; skip))
  refine bodyPost_ret (v := mrV ((4, 0, 0, g, []), false)) ?_ rfl ⟨?_, ?_⟩
  · simp [results, Tryd.results37, go_sem, mrV, hc1, hz1, hc2]
  · rw [HM.out]
  · repeat (first | (with_reducible refine Below.setCell ?_ ?_ _; rotate_left 1; exact Nat.le_refl _) | (with_reducible refine below_alloc ?_ _) | (with_reducible exact hB2))
set_option maxRecDepth 100000 in
set_option maxHeartbeats 1000000 in
include hE hb0 in
theorem mrN1nft (n : Nat) (hn3 : 3 ≤ n) (hn5 : n ≠ 5) (hcap : n ≤ cap) (hncap : cap ≤ 9223372036854775807) (x0 x1 x2 : List UInt8) (_l0 : x0.length ≤ 262144) (_l1 : x1.length ≤ 262144) (l2 : x2.length ≤ 262144) (q0 : w.cell? ⟨b, o, none⟩ = some (.string ⟨x0.toArray⟩)) (q1 : w.cell? ⟨b, o + 1, none⟩ = some (.string ⟨x1.toArray⟩)) (q2 : w.cell? ⟨b, o + 2, none⟩ = some (.string ⟨x2.toArray⟩)) (e1 : (x1 == [44]) = true) (hn : (n == 3) = false) (g : Int) (hg : givenP x2 = (g, true)) (hr : regOf x0 = none) :
    Calls Tryd.prog 37 #[.slice (some ⟨b, o, none⟩) n cap] w fun e w' => e = .returned (mrV (mvRn n x0 x1 x2)) ∧ Below w.heap.size w w' := by
  have _h := hE
  have c3 : 3 ≤ cap := by omega
  have c2 : ¬ cap = 2 := by omega
  have c2' : ¬ 2 = cap := by omega
  have ci : (3 : Int) ≤ (cap : Int) := by omega
  have hz : b < w.heap.size + 1 := by omega
  have hni : ((n : Int) == 5) = false := by rw [beq_eq_false_iff_ne]; omega
  have hn3i : decide ((n : Int) < 3) = false := by simp; omega
  have hn3j : (3 : Int) ≤ (n : Int) := by omega
  have HM := Lib.hid (show mvRn n x0 x1 x2 = ((4, 0, 0, g, []), false) by simp [mvRn, e1, hg, hr])
  have hnI : ((n : Int) == 3) = false := by rw [← hn, Bool.eq_iff_iff]; simp; omega
  have HG := Lib.hid hg
  have HR := Lib.hid hr
  have tokA : True := trivial
  clear hg hr hn
  go_enter Tryd.func37, Tryd.ntmps37
  go_wp2_with (first
    | (go_at_call 20; have _t := tokA; refine (regOfR_n HR.out _).mono ?_; clear tokA; rintro e w1 ⟨rfl, hb1⟩; have hB1 := below_trans (alloc_below w _) hb1; have hE1 := hE.mono hB1; obtain ⟨hc1, hf1⟩ := bcell hb1; have hz1 : w.heap.size < w1.heap.size := Nat.lt_of_lt_of_le (by simp) hb1.size; have r0 := cell_go q0 hB1; have r1 := cell_go q1 hB1; have r2 := cell_go q2 hB1; skip)
    | (go_at_call 65; refine (given_as HG.out l2 _ hE1).mono ?_; rintro e w2 ⟨rfl, hb2⟩; have hB2 := below_trans hB1 hb2; have hE2 := hE1.mono hb2; obtain ⟨hc2, hf2⟩ := bcell hb2; have hz2 : w.heap.size < w2.heap.size := Nat.lt_of_lt_of_le hz1 hb2.size; skip))
  refine bodyPost_ret (v := mrV ((4, 0, 0, g, []), false)) ?_ rfl ⟨?_, ?_⟩
  · simp [results, Tryd.results37, go_sem, mrV, hc1, hz1, hc2]
  · rw [HM.out]
  · repeat (first | (with_reducible refine Below.setCell ?_ ?_ _; rotate_left 1; exact Nat.le_refl _) | (with_reducible refine below_alloc ?_ _) | (with_reducible exact hB2))
set_option maxRecDepth 100000 in
set_option maxHeartbeats 1000000 in
include hE hb0 in
theorem mrN1nff (n : Nat) (hn3 : 3 ≤ n) (hn5 : n ≠ 5) (hcap : n ≤ cap) (hncap : cap ≤ 9223372036854775807) (x0 x1 x2 : List UInt8) (_l0 : x0.length ≤ 262144) (_l1 : x1.length ≤ 262144) (l2 : x2.length ≤ 262144) (q0 : w.cell? ⟨b, o, none⟩ = some (.string ⟨x0.toArray⟩)) (q1 : w.cell? ⟨b, o + 1, none⟩ = some (.string ⟨x1.toArray⟩)) (q2 : w.cell? ⟨b, o + 2, none⟩ = some (.string ⟨x2.toArray⟩)) (e1 : (x1 == [44]) = true) (hn : (n == 3) = false) (g : Int) (hg : givenP x2 = (g, false)) (hr : regOf x0 = none) :
    Calls Tryd.prog 37 #[.slice (some ⟨b, o, none⟩) n cap] w fun e w' => e = .returned (mrV (mvRn n x0 x1 x2)) ∧ Below w.heap.size w w' := by
  have _h := hE
  have c3 : 3 ≤ cap := by omega
  have c2 : ¬ cap = 2 := by omega
  have c2' : ¬ 2 = cap := by omega
  have ci : (3 : Int) ≤ (cap : Int) := by omega
  have hz : b < w.heap.size + 1 := by omega
  have hni : ((n : Int) == 5) = false := by rw [beq_eq_false_iff_ne]; omega
  have hn3i : decide ((n : Int) < 3) = false := by simp; omega
  have hn3j : (3 : Int) ≤ (n : Int) := by omega
  have HM := Lib.hid (show mvRn n x0 x1 x2 = ((4, 0, 0, g, []), false) by simp [mvRn, e1, hg, hr])
  have hnI : ((n : Int) == 3) = false := by rw [← hn, Bool.eq_iff_iff]; simp; omega
  have HG := Lib.hid hg
  have HR := Lib.hid hr
  have tokA : True := trivial
  clear hg hr hn
  go_enter Tryd.func37, Tryd.ntmps37
  go_wp2_with (first
    | (go_at_call 20; have _t := tokA; refine (regOfR_n HR.out _).mono ?_; clear tokA; rintro e w1 ⟨rfl, hb1⟩; have hB1 := below_trans (alloc_below w _) hb1; have hE1 := hE.mono hB1; obtain ⟨hc1, hf1⟩ := bcell hb1; have hz1 : w.heap.size < w1.heap.size := Nat.lt_of_lt_of_le (by simp) hb1.size; have r0 := cell_go q0 hB1; have r1 := cell_go q1 hB1; have r2 := cell_go q2 hB1; skip)
    | (go_at_call 65; refine (given_as HG.out l2 _ hE1).mono ?_; rintro e w2 ⟨rfl, hb2⟩; have hB2 := below_trans hB1 hb2; have hE2 := hE1.mono hb2; obtain ⟨hc2, hf2⟩ := bcell hb2; have hz2 : w.heap.size < w2.heap.size := Nat.lt_of_lt_of_le hz1 hb2.size; skip))
  refine bodyPost_ret (v := mrV ((4, 0, 0, g, []), false)) ?_ rfl ⟨?_, ?_⟩
  · simp [results, Tryd.results37, go_sem, mrV, hc1, hz1, hc2]
  · rw [HM.out]
  · repeat (first | (with_reducible refine Below.setCell ?_ ?_ _; rotate_left 1; exact Nat.le_refl _) | (with_reducible refine below_alloc ?_ _) | (with_reducible exact hB2))
end
end Go.Proofs.YtlpcahkchmlghaaDoor
