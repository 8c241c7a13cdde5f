/- The reference's moved, where the fourth word is a comma. -/
import Derived.Test.YtlpcahkchmlghaaDoorIl
namespace Go.Proofs.YtlpcahkchmlghaaDoor
open Go.RowKit

def mvR5 (x0 x1 x2 x3 x4 : List UInt8) : (Int × Int × Int × Int × List UInt8) × Bool :=
  if x3 == [44] then
    if (givenP x4).2 then ((1, 0, 0, (givenP x4).1, x1), placeB x0 x1 x2)
    else match regOf x4 with
      | some r => ((2, 0, r, 0, x1), placeB x0 x1 x2)
      | none => ((2, 0, 0, 0, x1), false)
  else if x1 == [44] then
    match regOf x0 with
    | some r => ((3, r, 0, 0, x3), placeB x2 x3 x4)
    | none => ((3, 0, 0, 0, x3), false)
  else ((0, 0, 0, 0, []), false)
def mvRn (n : Nat) (x0 x1 x2 : List UInt8) : (Int × Int × Int × Int × List UInt8) × Bool :=
  if x1 == [44] then
    match regOf x0 with
    | some r => ((4, r, 0, (givenP x2).1, []), n == 3 && (givenP x2).2)
    | none => ((4, 0, 0, (givenP x2).1, []), false)
  else ((0, 0, 0, 0, []), false)
def mrV (m : (Int × Int × Int × Int × List UInt8) × Bool) : Value := .tuple #[insV m.1.1 m.1.2.1 m.1.2.2.1 0 m.1.2.2.2.1 ⟨m.1.2.2.2.2.toArray⟩ ⟨#[]⟩ 0, .bool m.2]

theorem regOfR_y {l : List UInt8} {k : Nat} (h : regOf l = some k) (w : World) : Calls Tryd.prog 20 #[.string ⟨l.toArray⟩] w fun e w' => e = .returned (.tuple #[.int .i64 k, .int .i64 0]) ∧ Below w.heap.size w w' := by
  have := regOfR ⟨l.toArray⟩ w
  unfold regOfV at this
  rw [str_mk, h] at this
  exact this
theorem regOfR_n {l : List UInt8} (h : regOf l = none) (w : World) : Calls Tryd.prog 20 #[.string ⟨l.toArray⟩] w fun e w' => e = .returned (.tuple #[.int .i64 0, .int .i64 90]) ∧ Below w.heap.size w w' := by
  have := regOfR ⟨l.toArray⟩ w
  unfold regOfV at this
  rw [str_mk, h] at this
  exact this
theorem given_as {l : List UInt8} {n : Int} {r : Bool} (hg : givenP l = (n, r)) (hl : l.length ≤ 262144) (w : World) (hE : Env w) : Calls Tryd.prog 65 #[.string ⟨l.toArray⟩] w fun e w' => e = .returned (.tuple #[.int .i64 n, .bool r]) ∧ Below w.heap.size w w' := by
  have := givenR l hl w hE
  rw [hg] at this
  exact this
theorem place_as {x0 x1 x2 : List UInt8} {r : Bool} (hp : placeB x0 x1 x2 = r) (b o cap : Nat) (w : World) (hl : x1.length ≤ 262144)
    (q0 : w.cell? ⟨b, o, none⟩ = some (.string ⟨x0.toArray⟩)) (q1 : w.cell? ⟨b, o + 1, none⟩ = some (.string ⟨x1.toArray⟩)) (q2 : w.cell? ⟨b, o + 2, none⟩ = some (.string ⟨x2.toArray⟩)) :
    Calls Tryd.prog 64 #[.slice (some ⟨b, o, none⟩) 3 cap] w fun e w' => e = .returned (.tuple #[.string ⟨x1.toArray⟩, .bool r]) ∧ Below w.heap.size w w' := hp ▸ placeR x0 x1 x2 b o cap w hl q0 q1 q2
theorem alloc_below (w : World) (o : Obj) : Below w.heap.size w (w.alloc o) := below_alloc (Below.refl _ _) _

section
variable (b o cap : Nat) (w : World) (hE : Env w) (hb0 : b < w.heap.size)
set_option maxRecDepth 100000 in
set_option maxHeartbeats 1000000 in
include hE hb0 in
theorem mrA1t (hcap : 5 ≤ cap) (x0 x1 x2 x3 x4 : List UInt8) (_l0 : x0.length ≤ 262144) (l1 : x1.length ≤ 262144) (_l2 : x2.length ≤ 262144) (_l3 : x3.length ≤ 262144) (l4 : x4.length ≤ 262144) (q0 : w.cell? ⟨b, o, none⟩ = some (.string ⟨x0.toArray⟩)) (q1 : w.cell? ⟨b, o + 1, none⟩ = some (.string ⟨x1.toArray⟩)) (q2 : w.cell? ⟨b, o + 2, none⟩ = some (.string ⟨x2.toArray⟩)) (q3 : w.cell? ⟨b, o + 3, none⟩ = some (.string ⟨x3.toArray⟩)) (q4 : w.cell? ⟨b, o + 4, none⟩ = some (.string ⟨x4.toArray⟩)) (e3 : (x3 == [44]) = true) (hp : placeB x0 x1 x2 = true) (g : Int) (hg : givenP x4 = (g, true)) :
    Calls Tryd.prog 37 #[.slice (some ⟨b, o, none⟩) 5 cap] w fun e w' => e = .returned (mrV (mvR5 x0 x1 x2 x3 x4)) ∧ Below w.heap.size w w' := by
  have _h := hE
  have c3 : 3 ≤ cap := by omega
  have c2 : ¬ cap = 2 := by omega
  have c2' : ¬ 2 = cap := by omega
  have ci : (3 : Int) ≤ (cap : Int) := by omega
  have hz : b < w.heap.size + 1 := by omega
  have HM := Lib.hid (show mvR5 x0 x1 x2 x3 x4 = ((1, 0, 0, g, x1), true) by simp [mvR5, e3, hp, hg])
  have HP := Lib.hid hp
  have HG := Lib.hid hg
  have tokA : True := trivial
  clear hp hg
  go_enter Tryd.func37, Tryd.ntmps37
  go_wp2_with (first
    | (go_at_call 64; have _t := tokA; refine (place_as HP.out _ _ _ _ l1 (cell_go q0 (alloc_below w _)) (cell_go q1 (alloc_below w _)) (cell_go q2 (alloc_below w _))).mono ?_; clear tokA; rintro e w1 ⟨rfl, hb1⟩; have hB1 := below_trans (alloc_below w _) hb1; have hE1 := hE.mono hB1; obtain ⟨hc1, hf1⟩ := bcell hb1; have hz1 : w.heap.size < w1.heap.size := Nat.lt_of_lt_of_le (by simp) hb1.size; have r3 := cell_go q3 hB1; have r4 := cell_go q4 hB1; skip)
    | (go_at_call 65; refine (given_as HG.out l4 _ hE1).mono ?_; rintro e w2 ⟨rfl, hb2⟩; have hB2 := below_trans hB1 hb2; have hE2 := hE1.mono hb2; obtain ⟨hc2, hf2⟩ := bcell hb2; have hz2 : w.heap.size < w2.heap.size := Nat.lt_of_lt_of_le hz1 hb2.size; skip))
  refine bodyPost_ret (v := mrV ((1, 0, 0, g, x1), true)) ?_ rfl ⟨?_, ?_⟩
  · simp [results, Tryd.results37, go_sem, mrV, hc1, hz1, hc2]
  · rw [HM.out]
  · repeat (first | (with_reducible refine Below.setCell ?_ ?_ _; rotate_left 1; exact Nat.le_refl _) | (with_reducible refine below_alloc ?_ _) | (with_reducible exact hB2))
set_option maxRecDepth 100000 in
set_option maxHeartbeats 1000000 in
include hE hb0 in
theorem mrA2ty (hcap : 5 ≤ cap) (x0 x1 x2 x3 x4 : List UInt8) (_l0 : x0.length ≤ 262144) (l1 : x1.length ≤ 262144) (_l2 : x2.length ≤ 262144) (_l3 : x3.length ≤ 262144) (l4 : x4.length ≤ 262144) (q0 : w.cell? ⟨b, o, none⟩ = some (.string ⟨x0.toArray⟩)) (q1 : w.cell? ⟨b, o + 1, none⟩ = some (.string ⟨x1.toArray⟩)) (q2 : w.cell? ⟨b, o + 2, none⟩ = some (.string ⟨x2.toArray⟩)) (q3 : w.cell? ⟨b, o + 3, none⟩ = some (.string ⟨x3.toArray⟩)) (q4 : w.cell? ⟨b, o + 4, none⟩ = some (.string ⟨x4.toArray⟩)) (e3 : (x3 == [44]) = true) (hp : placeB x0 x1 x2 = true) (g : Int) (hg : givenP x4 = (g, false)) (k : Nat) (hr : regOf x4 = some k) :
    Calls Tryd.prog 37 #[.slice (some ⟨b, o, none⟩) 5 cap] w fun e w' => e = .returned (mrV (mvR5 x0 x1 x2 x3 x4)) ∧ Below w.heap.size w w' := by
  have _h := hE
  have c3 : 3 ≤ cap := by omega
  have c2 : ¬ cap = 2 := by omega
  have c2' : ¬ 2 = cap := by omega
  have ci : (3 : Int) ≤ (cap : Int) := by omega
  have hz : b < w.heap.size + 1 := by omega
  have HM := Lib.hid (show mvR5 x0 x1 x2 x3 x4 = ((2, 0, (k : Int), 0, x1), true) by simp [mvR5, e3, hp, hg, hr])
  have HP := Lib.hid hp
  have HG := Lib.hid hg
  have HR := Lib.hid hr
  have tokA : True := trivial
  clear hp hg hr
  go_enter Tryd.func37, Tryd.ntmps37
  go_wp2_with (first
    | (go_at_call 64; have _t := tokA; refine (place_as HP.out _ _ _ _ l1 (cell_go q0 (alloc_below w _)) (cell_go q1 (alloc_below w _)) (cell_go q2 (alloc_below w _))).mono ?_; clear tokA; rintro e w1 ⟨rfl, hb1⟩; have hB1 := below_trans (alloc_below w _) hb1; have hE1 := hE.mono hB1; obtain ⟨hc1, hf1⟩ := bcell hb1; have hz1 : w.heap.size < w1.heap.size := Nat.lt_of_lt_of_le (by simp) hb1.size; have r3 := cell_go q3 hB1; have r4 := cell_go q4 hB1; skip)
    | (go_at_call 65; refine (given_as HG.out l4 _ hE1).mono ?_; rintro e w2 ⟨rfl, hb2⟩; have hB2 := below_trans hB1 hb2; have hE2 := hE1.mono hb2; obtain ⟨hc2, hf2⟩ := bcell hb2; have hz2 : w.heap.size < w2.heap.size := Nat.lt_of_lt_of_le hz1 hb2.size; have s3 := cell_go r3 hb2; have s4 := cell_go r4 hb2; skip)
    | (go_at_call 20; refine (regOfR_y HR.out _).mono ?_; rintro e w3 ⟨rfl, hb3⟩; have hB3 := below_trans hB2 hb3; have hE3 := hE2.mono hb3; obtain ⟨hc3, hf3⟩ := bcell hb3; have hz3 : w.heap.size < w3.heap.size := Nat.lt_of_lt_of_le hz2 hb3.size; skip))
  refine bodyPost_ret (v := mrV ((2, 0, (k : Int), 0, x1), true)) ?_ rfl ⟨?_, ?_⟩
  · simp [results, Tryd.results37, go_sem, mrV, hc1, hz1, hc2, hz2, hc3]
  · rw [HM.out]
  · repeat (first | (with_reducible refine Below.setCell ?_ ?_ _; rotate_left 1; exact Nat.le_refl _) | (with_reducible refine below_alloc ?_ _) | (with_reducible exact hB3))
set_option maxRecDepth 100000 in
set_option maxHeartbeats 1000000 in
include hE hb0 in
theorem mrA2tn (hcap : 5 ≤ cap) (x0 x1 x2 x3 x4 : List UInt8) (_l0 : x0.length ≤ 262144) (l1 : x1.length ≤ 262144) (_l2 : x2.length ≤ 262144) (_l3 : x3.length ≤ 262144) (l4 : x4.length ≤ 262144) (q0 : w.cell? ⟨b, o, none⟩ = some (.string ⟨x0.toArray⟩)) (q1 : w.cell? ⟨b, o + 1, none⟩ = some (.string ⟨x1.toArray⟩)) (q2 : w.cell? ⟨b, o + 2, none⟩ = some (.string ⟨x2.toArray⟩)) (q3 : w.cell? ⟨b, o + 3, none⟩ = some (.string ⟨x3.toArray⟩)) (q4 : w.cell? ⟨b, o + 4, none⟩ = some (.string ⟨x4.toArray⟩)) (e3 : (x3 == [44]) = true) (hp : placeB x0 x1 x2 = true) (g : Int) (hg : givenP x4 = (g, false)) (hr : regOf x4 = none) :
    Calls Tryd.prog 37 #[.slice (some ⟨b, o, none⟩) 5 cap] w fun e w' => e = .returned (mrV (mvR5 x0 x1 x2 x3 x4)) ∧ Below w.heap.size w w' := by
  have _h := hE
  have c3 : 3 ≤ cap := by omega
  have c2 : ¬ cap = 2 := by omega
  have c2' : ¬ 2 = cap := by omega
  have ci : (3 : Int) ≤ (cap : Int) := by omega
  have hz : b < w.heap.size + 1 := by omega
  have HM := Lib.hid (show mvR5 x0 x1 x2 x3 x4 = ((2, 0, 0, 0, x1), false) by simp [mvR5, e3, hg, hr])
  have HP := Lib.hid hp
  have HG := Lib.hid hg
  have HR := Lib.hid hr
  have tokA : True := trivial
  clear hp hg hr
  go_enter Tryd.func37, Tryd.ntmps37
  go_wp2_with (first
    | (go_at_call 64; have _t := tokA; refine (place_as HP.out _ _ _ _ l1 (cell_go q0 (alloc_below w _)) (cell_go q1 (alloc_below w _)) (cell_go q2 (alloc_below w _))).mono ?_; clear tokA; rintro e w1 ⟨rfl, hb1⟩; have hB1 := below_trans (alloc_below w _) hb1; have hE1 := hE.mono hB1; obtain ⟨hc1, hf1⟩ := bcell hb1; have hz1 : w.heap.size < w1.heap.size := Nat.lt_of_lt_of_le (by simp) hb1.size; have r3 := cell_go q3 hB1; have r4 := cell_go q4 hB1; skip)
    | (go_at_call 65; refine (given_as HG.out l4 _ hE1).mono ?_; rintro e w2 ⟨rfl, hb2⟩; have hB2 := below_trans hB1 hb2; have hE2 := hE1.mono hb2; obtain ⟨hc2, hf2⟩ := bcell hb2; have hz2 : w.heap.size < w2.heap.size := Nat.lt_of_lt_of_le hz1 hb2.size; have s3 := cell_go r3 hb2; have s4 := cell_go r4 hb2; skip)
    | (go_at_call 20; refine (regOfR_n HR.out _).mono ?_; rintro e w3 ⟨rfl, hb3⟩; have hB3 := below_trans hB2 hb3; have hE3 := hE2.mono hb3; obtain ⟨hc3, hf3⟩ := bcell hb3; have hz3 : w.heap.size < w3.heap.size := Nat.lt_of_lt_of_le hz2 hb3.size; skip))
  refine bodyPost_ret (v := mrV ((2, 0, 0, 0, x1), false)) ?_ rfl ⟨?_, ?_⟩
  · simp [results, Tryd.results37, go_sem, mrV, hc1, hz1, hc2, hz2, hc3]
  · rw [HM.out]
  · repeat (first | (with_reducible refine Below.setCell ?_ ?_ _; rotate_left 1; exact Nat.le_refl _) | (with_reducible refine below_alloc ?_ _) | (with_reducible exact hB3))
set_option maxRecDepth 100000 in
set_option maxHeartbeats 1000000 in
include hE hb0 in
theorem mrA1f (hcap : 5 ≤ cap) (x0 x1 x2 x3 x4 : List UInt8) (_l0 : x0.length ≤ 262144) (l1 : x1.length ≤ 262144) (_l2 : x2.length ≤ 262144) (_l3 : x3.length ≤ 262144) (l4 : x4.length ≤ 262144) (q0 : w.cell? ⟨b, o, none⟩ = some (.string ⟨x0.toArray⟩)) (q1 : w.cell? ⟨b, o + 1, none⟩ = some (.string ⟨x1.toArray⟩)) (q2 : w.cell? ⟨b, o + 2, none⟩ = some (.string ⟨x2.toArray⟩)) (q3 : w.cell? ⟨b, o + 3, none⟩ = some (.string ⟨x3.toArray⟩)) (q4 : w.cell? ⟨b, o + 4, none⟩ = some (.string ⟨x4.toArray⟩)) (e3 : (x3 == [44]) = true) (hp : placeB x0 x1 x2 = false) (g : Int) (hg : givenP x4 = (g, true)) :
    Calls Tryd.prog 37 #[.slice (some ⟨b, o, none⟩) 5 cap] w fun e w' => e = .returned (mrV (mvR5 x0 x1 x2 x3 x4)) ∧ Below w.heap.size w w' := by
  have _h := hE
  have c3 : 3 ≤ cap := by omega
  have c2 : ¬ cap = 2 := by omega
  have c2' : ¬ 2 = cap := by omega
  have ci : (3 : Int) ≤ (cap : Int) := by omega
  have hz : b < w.heap.size + 1 := by omega
  have HM := Lib.hid (show mvR5 x0 x1 x2 x3 x4 = ((1, 0, 0, g, x1), false) by simp [mvR5, e3, hp, hg])
  have HP := Lib.hid hp
  have HG := Lib.hid hg
  have tokA : True := trivial
  clear hp hg
  go_enter Tryd.func37, Tryd.ntmps37
  go_wp2_with (first
    | (go_at_call 64; have _t := tokA; refine (place_as HP.out _ _ _ _ l1 (cell_go q0 (alloc_below w _)) (cell_go q1 (alloc_below w _)) (cell_go q2 (alloc_below w _))).mono ?_; clear tokA; rintro e w1 ⟨rfl, hb1⟩; have hB1 := below_trans (alloc_below w _) hb1; have hE1 := hE.mono hB1; obtain ⟨hc1, hf1⟩ := bcell hb1; have hz1 : w.heap.size < w1.heap.size := Nat.lt_of_lt_of_le (by simp) hb1.size; have r3 := cell_go q3 hB1; have r4 := cell_go q4 hB1; skip)
    | (go_at_call 65; refine (given_as HG.out l4 _ hE1).mono ?_; rintro e w2 ⟨rfl, hb2⟩; have hB2 := below_trans hB1 hb2; have hE2 := hE1.mono hb2; obtain ⟨hc2, hf2⟩ := bcell hb2; have hz2 : w.heap.size < w2.heap.size := Nat.lt_of_lt_of_le hz1 hb2.size; skip))
  refine bodyPost_ret (v := mrV ((1, 0, 0, g, x1), false)) ?_ rfl ⟨?_, ?_⟩
  · simp [results, Tryd.results37, go_sem, mrV, hc1, hz1, hc2]
  · rw [HM.out]
  · repeat (first | (with_reducible refine Below.setCell ?_ ?_ _; rotate_left 1; exact Nat.le_refl _) | (with_reducible refine below_alloc ?_ _) | (with_reducible exact hB2))
set_option maxRecDepth 100000 in
set_option maxHeartbeats 1000000 in
include hE hb0 in
theorem mrA2fy (hcap : 5 ≤ cap) (x0 x1 x2 x3 x4 : List UInt8) (_l0 : x0.length ≤ 262144) (l1 : x1.length ≤ 262144) (_l2 : x2.length ≤ 262144) (_l3 : x3.length ≤ 262144) (l4 : x4.length ≤ 262144) (q0 : w.cell? ⟨b, o, none⟩ = some (.string ⟨x0.toArray⟩)) (q1 : w.cell? ⟨b, o + 1, none⟩ = some (.string ⟨x1.toArray⟩)) (q2 : w.cell? ⟨b, o + 2, none⟩ = some (.string ⟨x2.toArray⟩)) (q3 : w.cell? ⟨b, o + 3, none⟩ = some (.string ⟨x3.toArray⟩)) (q4 : w.cell? ⟨b, o + 4, none⟩ = some (.string ⟨x4.toArray⟩)) (e3 : (x3 == [44]) = true) (hp : placeB x0 x1 x2 = false) (g : Int) (hg : givenP x4 = (g, false)) (k : Nat) (hr : regOf x4 = some k) :
    Calls Tryd.prog 37 #[.slice (some ⟨b, o, none⟩) 5 cap] w fun e w' => e = .returned (mrV (mvR5 x0 x1 x2 x3 x4)) ∧ Below w.heap.size w w' := by
  have _h := hE
  have c3 : 3 ≤ cap := by omega
  have c2 : ¬ cap = 2 := by omega
  have c2' : ¬ 2 = cap := by omega
  have ci : (3 : Int) ≤ (cap : Int) := by omega
  have hz : b < w.heap.size + 1 := by omega
  have HM := Lib.hid (show mvR5 x0 x1 x2 x3 x4 = ((2, 0, (k : Int), 0, x1), false) by simp [mvR5, e3, hp, hg, hr])
  have HP := Lib.hid hp
  have HG := Lib.hid hg
  have HR := Lib.hid hr
  have tokA : True := trivial
  clear hp hg hr
  go_enter Tryd.func37, Tryd.ntmps37
  go_wp2_with (first
    | (go_at_call 64; have _t := tokA; refine (place_as HP.out _ _ _ _ l1 (cell_go q0 (alloc_below w _)) (cell_go q1 (alloc_below w _)) (cell_go q2 (alloc_below w _))).mono ?_; clear tokA; rintro e w1 ⟨rfl, hb1⟩; have hB1 := below_trans (alloc_below w _) hb1; have hE1 := hE.mono hB1; obtain ⟨hc1, hf1⟩ := bcell hb1; have hz1 : w.heap.size < w1.heap.size := Nat.lt_of_lt_of_le (by simp) hb1.size; have r3 := cell_go q3 hB1; have r4 := cell_go q4 hB1; skip)
    | (go_at_call 65; refine (given_as HG.out l4 _ hE1).mono ?_; rintro e w2 ⟨rfl, hb2⟩; have hB2 := below_trans hB1 hb2; have hE2 := hE1.mono hb2; obtain ⟨hc2, hf2⟩ := bcell hb2; have hz2 : w.heap.size < w2.heap.size := Nat.lt_of_lt_of_le hz1 hb2.size; have s3 := cell_go r3 hb2; have s4 := cell_go r4 hb2; skip)
    | (go_at_call 20; refine (regOfR_y HR.out _).mono ?_; rintro e w3 ⟨rfl, hb3⟩; have hB3 := below_trans hB2 hb3; have hE3 := hE2.mono hb3; obtain ⟨hc3, hf3⟩ := bcell hb3; have hz3 : w.heap.size < w3.heap.size := Nat.lt_of_lt_of_le hz2 hb3.size; skip))
  refine bodyPost_ret (v := mrV ((2, 0, (k : Int), 0, x1), false)) ?_ rfl ⟨?_, ?_⟩
  · simp [results, Tryd.results37, go_sem, mrV, hc1, hz1, hc2, hz2, hc3]
  · rw [HM.out]
  · repeat (first | (with_reducible refine Below.setCell ?_ ?_ _; rotate_left 1; exact Nat.le_refl _) | (with_reducible refine below_alloc ?_ _) | (with_reducible exact hB3))
set_option maxRecDepth 100000 in
set_option maxHeartbeats 1000000 in
include hE hb0 in
theorem mrA2fn (hcap : 5 ≤ cap) (x0 x1 x2 x3 x4 : List UInt8) (_l0 : x0.length ≤ 262144) (l1 : x1.length ≤ 262144) (_l2 : x2.length ≤ 262144) (_l3 : x3.length ≤ 262144) (l4 : x4.length ≤ 262144) (q0 : w.cell? ⟨b, o, none⟩ = some (.string ⟨x0.toArray⟩)) (q1 : w.cell? ⟨b, o + 1, none⟩ = some (.string ⟨x1.toArray⟩)) (q2 : w.cell? ⟨b, o + 2, none⟩ = some (.string ⟨x2.toArray⟩)) (q3 : w.cell? ⟨b, o + 3, none⟩ = some (.string ⟨x3.toArray⟩)) (q4 : w.cell? ⟨b, o + 4, none⟩ = some (.string ⟨x4.toArray⟩)) (e3 : (x3 == [44]) = true) (hp : placeB x0 x1 x2 = false) (g : Int) (hg : givenP x4 = (g, false)) (hr : regOf x4 = none) :
    Calls Tryd.prog 37 #[.slice (some ⟨b, o, none⟩) 5 cap] w fun e w' => e = .returned (mrV (mvR5 x0 x1 x2 x3 x4)) ∧ Below w.heap.size w w' := by
  have _h := hE
  have c3 : 3 ≤ cap := by omega
  have c2 : ¬ cap = 2 := by omega
  have c2' : ¬ 2 = cap := by omega
  have ci : (3 : Int) ≤ (cap : Int) := by omega
  have hz : b < w.heap.size + 1 := by omega
  have HM := Lib.hid (show mvR5 x0 x1 x2 x3 x4 = ((2, 0, 0, 0, x1), false) by simp [mvR5, e3, hg, hr])
  have HP := Lib.hid hp
  have HG := Lib.hid hg
  have HR := Lib.hid hr
  have tokA : True := trivial
  clear hp hg hr
  go_enter Tryd.func37, Tryd.ntmps37
  go_wp2_with (first
    | (go_at_call 64; have _t := tokA; refine (place_as HP.out _ _ _ _ l1 (cell_go q0 (alloc_below w _)) (cell_go q1 (alloc_below w _)) (cell_go q2 (alloc_below w _))).mono ?_; clear tokA; rintro e w1 ⟨rfl, hb1⟩; have hB1 := below_trans (alloc_below w _) hb1; have hE1 := hE.mono hB1; obtain ⟨hc1, hf1⟩ := bcell hb1; have hz1 : w.heap.size < w1.heap.size := Nat.lt_of_lt_of_le (by simp) hb1.size; have r3 := cell_go q3 hB1; have r4 := cell_go q4 hB1; skip)
    | (go_at_call 65; refine (given_as HG.out l4 _ hE1).mono ?_; rintro e w2 ⟨rfl, hb2⟩; have hB2 := below_trans hB1 hb2; have hE2 := hE1.mono hb2; obtain ⟨hc2, hf2⟩ := bcell hb2; have hz2 : w.heap.size < w2.heap.size := Nat.lt_of_lt_of_le hz1 hb2.size; have s3 := cell_go r3 hb2; have s4 := cell_go r4 hb2; skip)
    | (go_at_call 20; refine (regOfR_n HR.out _).mono ?_; rintro e w3 ⟨rfl, hb3⟩; have hB3 := below_trans hB2 hb3; have hE3 := hE2.mono hb3; obtain ⟨hc3, hf3⟩ := bcell hb3; have hz3 : w.heap.size < w3.heap.size := Nat.lt_of_lt_of_le hz2 hb3.size; skip))
  refine bodyPost_ret (v := mrV ((2, 0, 0, 0, x1), false)) ?_ rfl ⟨?_, ?_⟩
  · simp [results, Tryd.results37, go_sem, mrV, hc1, hz1, hc2, hz2, hc3]
  · rw [HM.out]
  · repeat (first | (with_reducible refine Below.setCell ?_ ?_ _; rotate_left 1; exact Nat.le_refl _) | (with_reducible refine below_alloc ?_ _) | (with_reducible exact hB3))
end
end Go.Proofs.YtlpcahkchmlghaaDoor
