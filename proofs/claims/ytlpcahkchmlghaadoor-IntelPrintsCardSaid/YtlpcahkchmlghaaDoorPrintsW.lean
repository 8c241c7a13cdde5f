/- IntelPrints: the walk. -/
import Derived.Test.YtlpcahkchmlghaaDoorKd
import Derived.Deep.RegionHeld3
namespace Go.Proofs.YtlpcahkchmlghaaDoor
open Go.RowKit

section
variable (w : World) (hE : Env w)
include hE
set_option maxRecDepth 100000
set_option maxHeartbeats 2000000
theorem walkPrints_y {op d a imm : Int} {loc : List UInt8} (h : insB op d a 0 imm ⟨loc.toArray⟩ ⟨#[]⟩ 0 = true) :
    Calls Tryd.prog 7 #[insV op d a 0 imm ⟨loc.toArray⟩ ⟨#[]⟩ 0] w fun e w' => e = .returned (.bool true) ∧ Below w.heap.size w w' := by
  have hs := insB_loc h
  have H := Lib.hid h
  clear h
  go_enter Tryd.func7, Tryd.ntmps7
  go_wp2_with fail
  refine (printP_l H.out _ (hE.alloc _)).mono ?_
  rintro e w1 ⟨rfl, hb1⟩
  have hE1 := (hE.alloc _).mono hb1
  have hB1 := below_trans (alloc_below _ _) hb1
  obtain ⟨hc1, hf1⟩ := bcell hb1
  have z1 : w.heap.size < w1.heap.size := Nat.lt_of_lt_of_le (by simp) hb1.size
  go_wp2_with fail
  refine (printR_l H.out _ hE1).mono ?_
  rintro e w2 ⟨rfl, hb2⟩
  have hE2 := hE1.mono hb2
  have hB2 := below_trans hB1 hb2
  obtain ⟨hc2, hf2⟩ := bcell hb2
  have z2 : w.heap.size < w2.heap.size := Nat.lt_of_lt_of_le z1 hb2.size
  go_wp2_with fail
  refine (usesP_l H.out _).mono ?_
  rintro e w3 ⟨v1, rfl, hv1, hb3⟩
  have hE3 := hE2.mono hb3
  have hB3 := below_trans hB2 hb3
  obtain ⟨hc3, hf3⟩ := bcell hb3
  have z3 : w.heap.size < w3.heap.size := Nat.lt_of_lt_of_le z2 hb3.size
  go_wp2_with fail
  refine (usesR_l H.out _).mono ?_
  rintro e w4 ⟨v2, rfl, hv2, hb4⟩
  have hE4 := hE3.mono hb4
  have hB4 := below_trans hB3 hb4
  obtain ⟨hc4, hf4⟩ := bcell hb4
  have z4 : w.heap.size < w4.heap.size := Nat.lt_of_lt_of_le z3 hb4.size
  have hv1 := hv1.mono hb4
  go_wp2_with fail
  go_region_held3 (fun x => Env x ∧ Below w.heap.size w x ∧ IntsAt x v1 (usesL op a) ∧ IntsAt x v2 (usesL op a) ∧ x.cell? ⟨w.heap.size, 0, none⟩ = some (.int .i64 op) ∧ x.cell? ⟨w.heap.size, 1, none⟩ = some (.int .i64 d) ∧ x.cell? ⟨w.heap.size, 2, none⟩ = some (.int .i64 a) ∧ x.cell? ⟨w.heap.size, 3, none⟩ = some (.int .i64 0) ∧ x.cell? ⟨w.heap.size, 4, none⟩ = some (.int .i64 imm) ∧ x.cell? ⟨w.heap.size, 5, none⟩ = some (.string ⟨loc.toArray⟩) ∧ x.cell? ⟨w.heap.size, 6, none⟩ = some (.string ⟨#[]⟩) ∧ x.cell? ⟨w.heap.size, 7, none⟩ = some (.int .i64 0))
    (first
      | (have hh := ‹Env _ ∧ Below _ _ _ ∧ _›; obtain ⟨g1, g2, g3, g4, k0, k1, k2, k3, k4, k5, k6, k7⟩ := hh; exact ⟨g1.mono hb', below_trans g2 hb', g3.mono hb', g4.mono hb', cell_go k0 hb', cell_go k1 hb', cell_go k2 hb', cell_go k3 hb', cell_go k4 hb', cell_go k5 hb', cell_go k6 hb', cell_go k7 hb'⟩)
      | (refine ⟨hE4.drew, hB4.drew, hv1, hv2, by simp [*, go_sem], by simp [*, go_sem], by simp [*, go_sem], by simp [*, go_sem], by simp [*, go_sem], by simp [*, go_sem], by simp [*, go_sem], by simp [*, go_sem]⟩))
    (first
      | (go_at_call 15; refine (checkP_l2 H.out _ (by omega)).mono ?_; rintro e w' ⟨rfl, hb'⟩)
      | (go_at_call 14; refine (checkR_l2 H.out _ (by omega)).mono ?_; rintro e w' ⟨rfl, hb'⟩)
      | (go_at_call 24; have hh := ‹Env _ ∧ Below _ _ _ ∧ _›; refine (alike_same _ _ _ _ hh.2.2.1 hh.2.2.2.1).mono ?_; rintro e w' ⟨rfl, hb'⟩)
      | (go_at_call 12; have hh := ‹Env _ ∧ Below _ _ _ ∧ _›; refine (awake_c _ hh.1).mono ?_; rintro e w' ⟨rfl, hb'⟩))
  all_goals
    go_wp2
    go_ret
    exact ⟨rfl, (‹Env _ ∧ Below _ _ _ ∧ _›).2.1⟩
theorem walkPrints_n {op d a b imm : Int} {loc label : ByteArray} {fence : Int} (hs : loc.size ≤ 9223372036854775807) (h : insB op d a b imm loc label fence = false) :
    Calls Tryd.prog 7 #[insV op d a b imm loc label fence] w fun e w' => e = .returned (.bool true) ∧ Below w.heap.size w w' := by
  have H := Lib.hid h
  clear h
  go_enter Tryd.func7, Tryd.ntmps7
  go_wp2_with fail
  refine (printP_n H.out _ hs).mono ?_
  rintro e w1 ⟨rfl, hb1⟩
  have hE1 := (hE.alloc _).mono hb1
  have hB1 := below_trans (alloc_below _ _) hb1
  obtain ⟨hc1, hf1⟩ := bcell hb1
  have z1 : w.heap.size < w1.heap.size := Nat.lt_of_lt_of_le (by simp) hb1.size
  go_wp2_with fail
  refine (printR_n H.out _ hs).mono ?_
  rintro e w2 ⟨rfl, hb2⟩
  have hE2 := hE1.mono hb2
  have hB2 := below_trans hB1 hb2
  obtain ⟨hc2, hf2⟩ := bcell hb2
  have z2 : w.heap.size < w2.heap.size := Nat.lt_of_lt_of_le z1 hb2.size
  go_wp2_with fail
  refine (usesP_n H.out _ hs).mono ?_
  rintro e w3 ⟨rfl, hb3⟩
  have hE3 := hE2.mono hb3
  have hB3 := below_trans hB2 hb3
  obtain ⟨hc3, hf3⟩ := bcell hb3
  have z3 : w.heap.size < w3.heap.size := Nat.lt_of_lt_of_le z2 hb3.size
  go_wp2_with fail
  refine (usesR_n H.out _ hs).mono ?_
  rintro e w4 ⟨rfl, hb4⟩
  have hE4 := hE3.mono hb4
  have hB4 := below_trans hB3 hb4
  obtain ⟨hc4, hf4⟩ := bcell hb4
  have z4 : w.heap.size < w4.heap.size := Nat.lt_of_lt_of_le z3 hb4.size
  have hz0 : (0 : Nat) ≤ 9223372036854775807 := by omega
  go_wp2_with fail
  go_region_held3 (fun x => Env x ∧ Below w.heap.size w x ∧ x.cell? ⟨w.heap.size, 0, none⟩ = some (.int .i64 op) ∧ x.cell? ⟨w.heap.size, 1, none⟩ = some (.int .i64 d) ∧ x.cell? ⟨w.heap.size, 2, none⟩ = some (.int .i64 a) ∧ x.cell? ⟨w.heap.size, 3, none⟩ = some (.int .i64 b) ∧ x.cell? ⟨w.heap.size, 4, none⟩ = some (.int .i64 imm) ∧ x.cell? ⟨w.heap.size, 5, none⟩ = some (.string loc) ∧ x.cell? ⟨w.heap.size, 6, none⟩ = some (.string label) ∧ x.cell? ⟨w.heap.size, 7, none⟩ = some (.int .i64 fence))
    (first
      | (have hh := ‹Env _ ∧ Below _ _ _ ∧ _›; obtain ⟨g1, g2, k0, k1, k2, k3, k4, k5, k6, k7⟩ := hh; exact ⟨g1.mono hb', below_trans g2 hb', cell_go k0 hb', cell_go k1 hb', cell_go k2 hb', cell_go k3 hb', cell_go k4 hb', cell_go k5 hb', cell_go k6 hb', cell_go k7 hb'⟩)
      | (refine ⟨hE4.drew, hB4.drew, by simp [*, go_sem], by simp [*, go_sem], by simp [*, go_sem], by simp [*, go_sem], by simp [*, go_sem], by simp [*, go_sem], by simp [*, go_sem], by simp [*, go_sem]⟩))
    (first
      | (go_at_call 15; refine (checkP_l2 H.out _ hs).mono ?_; rintro e w' ⟨rfl, hb'⟩)
      | (go_at_call 14; refine (checkR_l2 H.out _ hs).mono ?_; rintro e w' ⟨rfl, hb'⟩)
      | (go_at_call 24; refine (alike_same _ _ [] _ (IntsAt.nil _ _ _ (Nat.zero_le _)) (IntsAt.nil _ _ _ (Nat.zero_le _))).mono ?_; rintro e w' ⟨rfl, hb'⟩)
      | (go_at_call 12; have hh := ‹Env _ ∧ Below _ _ _ ∧ _›; refine (awake_c _ hh.1).mono ?_; rintro e w' ⟨rfl, hb'⟩))
  all_goals
    go_wp2
    go_ret
    exact ⟨rfl, (‹Env _ ∧ Below _ _ _ ∧ _›).2.1⟩
end
theorem walkPrints (op d a b imm : Int) (loc label : ByteArray) (fence : Int) (hl1 : loc.size ≤ 9223372036854775807) (w : World) (hE : Env w) :
    Calls Tryd.prog 7 #[insV op d a b imm loc label fence] w fun e w' => e = .returned (.bool true) ∧ Below w.heap.size w w' := by
  cases h : insB op d a b imm loc label fence with
  | true =>
    obtain ⟨rfl, rfl, rfl⟩ := insB_std h
    rw [← str_eta loc] at h ⊢
    exact walkPrints_y w hE h
  | false => exact walkPrints_n w hE hl1 h
end Go.Proofs.YtlpcahkchmlghaaDoor
