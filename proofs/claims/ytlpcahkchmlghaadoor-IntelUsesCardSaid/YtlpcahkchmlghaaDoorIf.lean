/- The reference's Print where it looks a register's name up: each order of the statement's operations is walked. -/
import Derived.Test.YtlpcahkchmlghaaDoorIe
namespace Go.Proofs.YtlpcahkchmlghaaDoor
open Go.RowKit

set_option maxHeartbeats 8000000 in
theorem printR_2 (k : Nat) (loc : ByteArray) (hn : nameB loc.data.toList = true) (hk : k < 15) (w : World) (hE : Env w) :
    Calls Tryd.prog 21 #[insV 2 0 k 0 0 loc ⟨#[]⟩ 0] w fun e w' => e = .returned (.tuple #[.string ⟨(printB 2 0 k 0 loc.data.toList).toArray⟩, .int .i64 0]) ∧ Below w.heap.size w w' := by
  have H := Lib.hid (show insB 2 0 k 0 0 loc ⟨#[]⟩ 0 = true by simp [insB, hn, regB]; omega)
  have hl := nameB_size hn
  have hkl := regN_le k hk
  have hk0 : (0 : Int) ≤ (k : Int) := by omega
  have hk1 : (k : Int) < 15 := by omega
  have k0 : ¬ (9223372036854775807 < 5 + loc.size) := by omega
  have k1 : ¬ (9223372036854775807 < 5 + loc.size + 2) := by omega
  have k2 : ¬ (9223372036854775807 < 5 + loc.size + 2 + (regN k).length) := by omega
  clear hn
  go_enter Tryd.func21, Tryd.ntmps21
  go_wp2_with (go_at_call 14; refine (checkR_y H.out _ (by omega)).mono ?_; rintro e w' ⟨rfl, hb⟩; obtain ⟨hc, hf⟩ := bcell hb; have hbb := below_trans (below_alloc (Below.refl _ _) _) hb; have hE' := hE.mono hbb; have hz : w.heap.size < w'.heap.size := Nat.lt_of_lt_of_le (by simp) hb.size)
  have q1 : w'.cell? ⟨w.heap.size, 5, none⟩ = some (.string loc) := by go_simp
  have q2 : w'.cell? ⟨w.heap.size, 2, none⟩ = some (.int .i64 (k : Int)) := by go_simp
  clear hc hf
  go_region_with (first | (go_at_call 45; refine (names_at k hk _).mono ?_; rintro e w2 ⟨rfl, hb', hcn⟩; (try simp only [heap_drew] at hcn); have p1 := cell_go (x := w'.drew) q1 hb'; have p2 := cell_go (x := w'.drew) q2 hb'; have hB2 := below_trans hbb.drew hb'; have hE2 := hE'.mono ((Below.refl _ _).drew.trans (hb'.mono (Nat.le_refl _)))))
  all_goals clear q1 q2 hE hE' hb k0 k1 k2 hk0 hk1 hkl
  all_goals
    simp only [List.getElem_toArray, List.getElem_cons_succ, List.getElem_cons_zero, Act.put, List.setIfInBounds_toArray, List.set_cons_zero, List.set_cons_succ]
    go_wp2
    go_ret2
    refine ⟨ret2_ba (by simp [printB]), ?_⟩
    first | exact hB3 | exact hB2
set_option maxHeartbeats 8000000 in
theorem printR_3 (k : Nat) (loc : ByteArray) (hn : nameB loc.data.toList = true) (hk : k < 15) (w : World) (hE : Env w) :
    Calls Tryd.prog 21 #[insV 3 k 0 0 0 loc ⟨#[]⟩ 0] w fun e w' => e = .returned (.tuple #[.string ⟨(printB 3 k 0 0 loc.data.toList).toArray⟩, .int .i64 0]) ∧ Below w.heap.size w w' := by
  have H := Lib.hid (show insB 3 k 0 0 0 loc ⟨#[]⟩ 0 = true by simp [insB, hn, regB]; omega)
  have hl := nameB_size hn
  have hkl := regN_le k hk
  have hk0 : (0 : Int) ≤ (k : Int) := by omega
  have hk1 : (k : Int) < 15 := by omega
  have k0 : ¬ (9223372036854775807 < 4 + (regN k).length) := by omega
  have k1 : ¬ (9223372036854775807 < 4 + (regN k).length + 2) := by omega
  have k2 : ¬ (9223372036854775807 < 4 + (regN k).length + 2 + loc.size) := by omega
  have k3 : ¬ (9223372036854775807 < 4 + (regN k).length + 2 + loc.size + 1) := by omega
  clear hn
  go_enter Tryd.func21, Tryd.ntmps21
  go_wp2_with (go_at_call 14; refine (checkR_y H.out _ (by omega)).mono ?_; rintro e w' ⟨rfl, hb⟩; obtain ⟨hc, hf⟩ := bcell hb; have hbb := below_trans (below_alloc (Below.refl _ _) _) hb; have hE' := hE.mono hbb; have hz : w.heap.size < w'.heap.size := Nat.lt_of_lt_of_le (by simp) hb.size)
  have q1 : w'.cell? ⟨w.heap.size, 1, none⟩ = some (.int .i64 (k : Int)) := by go_simp
  have q2 : w'.cell? ⟨w.heap.size, 5, none⟩ = some (.string loc) := by go_simp
  clear hc hf
  go_region_with (first | (go_at_call 45; refine (names_at k hk _).mono ?_; rintro e w2 ⟨rfl, hb', hcn⟩; (try simp only [heap_drew] at hcn); have p1 := cell_go (x := w'.drew) q1 hb'; have p2 := cell_go (x := w'.drew) q2 hb'; have hB2 := below_trans hbb.drew hb'; have hE2 := hE'.mono ((Below.refl _ _).drew.trans (hb'.mono (Nat.le_refl _)))))
  all_goals clear q1 q2 hE hE' hb k0 k1 k2 hk0 hk1 hkl
  all_goals
    simp only [List.getElem_toArray, List.getElem_cons_succ, List.getElem_cons_zero, Act.put, List.setIfInBounds_toArray, List.set_cons_zero, List.set_cons_succ]
    go_wp2
    go_ret2
    refine ⟨ret2_ba (by simp [printB]), ?_⟩
    first | exact hB3 | exact hB2
set_option maxHeartbeats 8000000 in
theorem printR_4 (k : Nat) (imm : Int) (hk : k < 15) (hi : numB imm = true) (w : World) (hE : Env w) :
    Calls Tryd.prog 21 #[insV 4 k 0 0 imm ⟨#[]⟩ ⟨#[]⟩ 0] w fun e w' => e = .returned (.tuple #[.string ⟨(printB 4 k 0 imm []).toArray⟩, .int .i64 0]) ∧ Below w.heap.size w w' := by
  have H := Lib.hid (show insB 4 k 0 0 imm ⟨#[]⟩ ⟨#[]⟩ 0 = true by simp [insB, hi, regB]; omega)
  have hij := numB_bounds hi
  have hil := Lib.itoa_length_le imm (by omega) (by omega)
  have hkl := regN_le k hk
  have hk0 : (0 : Int) ≤ (k : Int) := by omega
  have hk1 : (k : Int) < 15 := by omega
  have k0 : ¬ (9223372036854775807 < 4 + (regN k).length) := by omega
  have k1 : ¬ (9223372036854775807 < 4 + (regN k).length + 2) := by omega
  have k2 : ¬ (9223372036854775807 < 4 + (regN k).length + 2 + (Lib.itoa imm).length) := by omega
  go_enter Tryd.func21, Tryd.ntmps21
  go_wp2_with (go_at_call 14; refine (checkR_y H.out _ (by decide)).mono ?_; rintro e w' ⟨rfl, hb⟩; obtain ⟨hc, hf⟩ := bcell hb; have hbb := below_trans (below_alloc (Below.refl _ _) _) hb; have hE' := hE.mono hbb; have hz : w.heap.size < w'.heap.size := Nat.lt_of_lt_of_le (by simp) hb.size)
  have q1 : w'.cell? ⟨w.heap.size, 1, none⟩ = some (.int .i64 (k : Int)) := by go_simp
  have q2 : w'.cell? ⟨w.heap.size, 4, none⟩ = some (.int .i64 imm) := by go_simp
  clear hc hf
  go_region_with (first | (go_at_call 45; refine (names_at k hk _).mono ?_; rintro e w2 ⟨rfl, hb', hcn⟩; (try simp only [heap_drew] at hcn); have p1 := cell_go (x := w'.drew) q1 hb'; have p2 := cell_go (x := w'.drew) q2 hb'; have hB2 := below_trans hbb.drew hb'; have hE2 := hE'.mono ((Below.refl _ _).drew.trans (hb'.mono (Nat.le_refl _)))) | (go_at_call 38; refine (itoa_c _ _ hE2 (by omega) (by omega)).mono ?_; rintro e w3 ⟨rfl, hb''⟩; have hB3 := below_trans hB2 hb''; have p3 := cell_go hcn hb''; have p4 := cell_go p2 hb''; have p5 := cell_go p1 hb''))
  all_goals clear q1 q2 hE hE' hb k0 k1 k2 hk0 hk1 hkl
  all_goals
    simp only [List.getElem_toArray, List.getElem_cons_succ, List.getElem_cons_zero, Act.put, List.setIfInBounds_toArray, List.set_cons_zero, List.set_cons_succ]
    go_wp2
    go_ret2
    refine ⟨ret2_ba (by simp [printB]), ?_⟩
    first | exact hB3 | exact hB2
end Go.Proofs.YtlpcahkchmlghaaDoor
