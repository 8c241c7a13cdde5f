/- Contracts of Print, of the program and of the reference. -/
import Derived.Test.YtlpcahkchmlghaaDoorIb
import Derived.Deep.RegionHeld3
import Derived.Lib.ItoaLen
import Derived.Deep.RegionWith
namespace Go.Proofs.YtlpcahkchmlghaaDoor
open Go.RowKit

theorem checkP_y {op d a b imm : Int} {loc label : ByteArray} {fence : Int} (h : insB op d a b imm loc label fence = true) (w : World) (hs : loc.size ≤ 9223372036854775807) :
    Calls Tryd.prog 15 #[insV op d a b imm loc label fence] w fun e w' => e = .returned (.int .i64 0) ∧ Below w.heap.size w w' := by
  have := checkP d a b imm loc label fence w hs op
  rw [h] at this; exact this
theorem checkP_n {op d a b imm : Int} {loc label : ByteArray} {fence : Int} (h : insB op d a b imm loc label fence = false) (w : World) (hs : loc.size ≤ 9223372036854775807) :
    Calls Tryd.prog 15 #[insV op d a b imm loc label fence] w fun e w' => e = .returned (.int .i64 91) ∧ Below w.heap.size w w' := by
  have := checkP d a b imm loc label fence w hs op
  rw [h] at this; exact this
theorem checkR_y {op d a b imm : Int} {loc label : ByteArray} {fence : Int} (h : insB op d a b imm loc label fence = true) (w : World) (hs : loc.size ≤ 9223372036854775807) :
    Calls Tryd.prog 14 #[insV op d a b imm loc label fence] w fun e w' => e = .returned (.int .i64 0) ∧ Below w.heap.size w w' := by
  have := checkR d a b imm loc label fence w hs op
  rw [h] at this; exact this
theorem checkR_n {op d a b imm : Int} {loc label : ByteArray} {fence : Int} (h : insB op d a b imm loc label fence = false) (w : World) (hs : loc.size ≤ 9223372036854775807) :
    Calls Tryd.prog 14 #[insV op d a b imm loc label fence] w fun e w' => e = .returned (.int .i64 91) ∧ Below w.heap.size w w' := by
  have := checkR d a b imm loc label fence w hs op
  rw [h] at this; exact this

def printB (op d a imm : Int) (loc : List UInt8) : List UInt8 :=
  if op = 1 then [77, 79, 86, 32, 91] ++ loc ++ [93, 44, 36] ++ Lib.itoa imm
  else if op = 2 then [77, 79, 86, 32, 91] ++ loc ++ [93, 44] ++ regN a.toNat
  else if op = 3 then [77, 79, 86, 32] ++ regN d.toNat ++ [44, 91] ++ loc ++ [93]
  else if op = 4 then [77, 79, 86, 32] ++ regN d.toNat ++ [44, 36] ++ Lib.itoa imm
  else [77, 70, 69, 78, 67, 69]

set_option maxHeartbeats 400000 in
theorem printP_n {op d a b imm : Int} {loc label : ByteArray} {fence : Int} (h : insB op d a b imm loc label fence = false) (w : World) (hs : loc.size ≤ 9223372036854775807) :
    Calls Tryd.prog 13 #[insV op d a b imm loc label fence] w fun e w' => e = .returned (.tuple #[.string ⟨#[]⟩, .int .i64 91]) ∧ Below w.heap.size w w' := by
  have H := Lib.hid h
  clear h
  go_enter Tryd.func13, Tryd.ntmps13
  go_wp2_with (go_at_call 15; refine (checkP_n H.out _ hs).mono ?_; rintro e w' ⟨rfl, hb⟩)
  go_ret2
  exact ⟨rfl, below_trans (below_alloc (Below.refl _ _) _) hb⟩

theorem nameB_le {l : List UInt8} (h : nameB l = true) : l.length ≤ 32 := by
  cases l with
  | nil => simp
  | cons c r => simp [nameB] at h; simp; omega
theorem nameB_size {s : ByteArray} (h : nameB s.data.toList = true) : s.size ≤ 32 := nameB_le h
theorem insB_1 {d a b imm : Int} {loc label : ByteArray} {fence : Int} (h : insB 1 d a b imm loc label fence = true) : nameB loc.data.toList = true ∧ numB imm = true ∧ d = 0 ∧ a = 0 ∧ b = 0 ∧ label.toList = [] ∧ fence = 0 := by
  simp [insB] at h; simp [h]
theorem insB_2 {d a b imm : Int} {loc label : ByteArray} {fence : Int} (h : insB 2 d a b imm loc label fence = true) : nameB loc.data.toList = true ∧ regB a = true ∧ d = 0 ∧ imm = 0 ∧ b = 0 ∧ label.toList = [] ∧ fence = 0 := by
  simp [insB] at h; simp [h]
theorem insB_3 {d a b imm : Int} {loc label : ByteArray} {fence : Int} (h : insB 3 d a b imm loc label fence = true) : nameB loc.data.toList = true ∧ regB d = true ∧ a = 0 ∧ imm = 0 ∧ b = 0 ∧ label.toList = [] ∧ fence = 0 := by
  simp [insB] at h; simp [h]
theorem insB_4 {d a b imm : Int} {loc label : ByteArray} {fence : Int} (h : insB 4 d a b imm loc label fence = true) : loc.toList = [] ∧ regB d = true ∧ numB imm = true ∧ a = 0 ∧ b = 0 ∧ label.toList = [] ∧ fence = 0 := by
  simp [insB] at h; simp [h]
theorem insB_5 {d a b imm : Int} {loc label : ByteArray} {fence : Int} (h : insB 5 d a b imm loc label fence = true) : loc.toList = [] ∧ d = 0 ∧ a = 0 ∧ imm = 0 ∧ b = 0 ∧ label.toList = [] ∧ fence = 0 := by
  simp [insB] at h; simp [h]
theorem insB_op {op d a b imm : Int} {loc label : ByteArray} {fence : Int} (h : insB op d a b imm loc label fence = true) : op = 1 ∨ op = 2 ∨ op = 3 ∨ op = 4 ∨ op = 5 := by
  by_cases h1 : op = 1
  · exact .inl h1
  by_cases h2 : op = 2
  · exact .inr (.inl h2)
  by_cases h3 : op = 3
  · exact .inr (.inr (.inl h3))
  by_cases h4 : op = 4
  · exact .inr (.inr (.inr (.inl h4)))
  by_cases h5 : op = 5
  · exact .inr (.inr (.inr (.inr h5)))
  · simp [insB, h1, h2, h3, h4, h5] at h
theorem numB_bounds {n : Int} (h : numB n = true) : -2147483648 ≤ n ∧ n ≤ 2147483647 := by simpa [numB] using h
theorem regB_bounds {n : Int} (h : regB n = true) : 0 ≤ n ∧ n < 15 := by simpa [regB] using h
theorem regB_nat {n : Int} (h : regB n = true) : ∃ k : Nat, k < 15 ∧ n = (k : Int) := ⟨n.toNat, by have := regB_bounds h; omega, by have := regB_bounds h; omega⟩
theorem regN_le : ∀ k, k < 15 → (regN k).length ≤ 4 := by
  have : ∀ k : Fin 15, (regN k.val).length ≤ 4 := by decide +kernel
  exact fun k hk => this ⟨k, hk⟩

theorem heap_drew (w : World) : w.drew.heap = w.heap := rfl
theorem names_at (k : Nat) (hk : k < 15) (w : World) : Calls Tryd.prog 45 #[] w fun e w' => e = .returned (.slice (some ⟨w.heap.size, 0, none⟩) 15 15) ∧ Below w.heap.size w w' ∧ w'.cell? ⟨w.heap.size, k, none⟩ = some (.string ⟨(regN k).toArray⟩) :=
  (names_c w).mono fun _ _ ⟨h, hw⟩ => ⟨h, by rw [hw]; exact below_alloc (Below.refl _ _) _, by rw [hw, cell_new]; exact regArr_at ⟨k, hk⟩⟩
set_option maxHeartbeats 400000 in
theorem printP_1 (imm : Int) (loc : ByteArray) (hn : nameB loc.data.toList = true) (hi : numB imm = true) (w : World) (hE : Env w) :
    Calls Tryd.prog 13 #[insV 1 0 0 0 imm loc ⟨#[]⟩ 0] w fun e w' => e = .returned (.tuple #[.string ⟨(printB 1 0 0 imm loc.data.toList).toArray⟩, .int .i64 0]) ∧ Below w.heap.size w w' := by
  have H := Lib.hid (show insB 1 0 0 0 imm loc ⟨#[]⟩ 0 = true by simp [insB, hn, hi])
  have hl := nameB_size hn
  have hij := numB_bounds hi
  have hil := Lib.itoa_length_le imm (by omega) (by omega)
  have k0 : ¬ (9223372036854775807 < 5 + loc.size) := by omega
  have k1 : ¬ (9223372036854775807 < 5 + loc.size + 3) := by omega
  have k2 : ¬ (9223372036854775807 < 5 + loc.size + 3 + (Lib.itoa imm).length) := by omega
  clear hn
  go_enter Tryd.func13, Tryd.ntmps13
  go_wp2_with (go_at_call 15; refine (checkP_y H.out _ (by omega)).mono ?_; rintro e w' ⟨rfl, hb⟩; obtain ⟨hc, hf⟩ := bcell hb; have hbb := below_trans (below_alloc (Below.refl _ _) _) hb; have hE' := hE.mono hbb)
  go_region_held3 (fun x => Env x ∧ Below w.heap.size w x ∧ x.cell? ⟨w.heap.size, 5, none⟩ = some (.string loc) ∧ x.cell? ⟨w.heap.size, 4, none⟩ = some (.int .i64 imm))
    (first
      | (have hh := ‹Env _ ∧ Below _ _ _ ∧ _›; exact ⟨hh.1.mono hb', below_trans hh.2.1 hb', cell_go hh.2.2.1 hb', cell_go hh.2.2.2 hb'⟩)
      | (refine ⟨Env.mono hE' ((Below.refl _ _).drew), hbb.drew, by simp [*, go_sem], by simp [*, go_sem]⟩))
    (first | (go_at_call 38; refine (itoa_c _ _ ?_ (by omega) (by omega)).mono ?_; (exact (‹Env _ ∧ _›).1); rintro e w' ⟨rfl, hb'⟩))
  all_goals
    go_wp2
    go_ret2
    refine ⟨ret2_ba (by simp [printB]), ?_⟩
    exact (‹Env _ ∧ Below _ _ _ ∧ _›).2.1
set_option maxHeartbeats 400000 in
theorem printP_2 (k : Nat) (loc : ByteArray) (hn : nameB loc.data.toList = true) (hk : k < 15) (w : World) (hE : Env w) :
    Calls Tryd.prog 13 #[insV 2 0 k 0 0 loc ⟨#[]⟩ 0] w fun e w' => e = .returned (.tuple #[.string ⟨(printB 2 0 k 0 loc.data.toList).toArray⟩, .int .i64 0]) ∧ Below w.heap.size w w' := by
  have H := Lib.hid (show insB 2 0 k 0 0 loc ⟨#[]⟩ 0 = true by simp [insB, hn, regB]; omega)
  have hl := nameB_size hn
  have hkl := regN_le k hk
  have hk0 : (0 : Int) ≤ (k : Int) := by omega
  have hk1 : (k : Int) < 15 := by omega
  have k0 : ¬ (9223372036854775807 < 5 + loc.size) := by omega
  have k1 : ¬ (9223372036854775807 < 5 + loc.size + 2) := by omega
  have k2 : ¬ (9223372036854775807 < 5 + loc.size + 2 + (regN k).length) := by omega
  clear hn
  have hreg := hE.reg k hk
  go_enter Tryd.func13, Tryd.ntmps13
  go_wp2_with (go_at_call 15; refine (checkP_y H.out _ (by omega)).mono ?_; rintro e w' ⟨rfl, hb⟩; obtain ⟨hc, hf⟩ := bcell hb; have hbb := below_trans (below_alloc (Below.refl _ _) _) hb; have hE' := hE.mono hbb)
  go_region_held3 (fun x => Env x ∧ Below w.heap.size w x ∧ x.cell? ⟨w.heap.size, 5, none⟩ = some (.string loc) ∧ x.cell? ⟨w.heap.size, 2, none⟩ = some (.int .i64 (k : Int)) ∧ x.cell? ⟨0, k, none⟩ = some (.string ⟨(regN k).toArray⟩))
    (first
      | (have hh := ‹Env _ ∧ Below _ _ _ ∧ _›; exact ⟨hh.1.mono hb', below_trans hh.2.1 hb', cell_go hh.2.2.1 hb', cell_go hh.2.2.2.1 hb', cell_go hh.2.2.2.2 hb'⟩)
      | (refine ⟨Env.mono hE' ((Below.refl _ _).drew), hbb.drew, by simp [*, go_sem], by simp [*, go_sem], (Env.mono hE' ((Below.refl _ _).drew)).reg k hk⟩))
    (fail)
  all_goals
    go_wp2
    go_ret2
    refine ⟨ret2_ba (by simp [printB]), ?_⟩
    exact (‹Env _ ∧ Below _ _ _ ∧ _›).2.1
set_option maxHeartbeats 400000 in
theorem printP_3 (k : Nat) (loc : ByteArray) (hn : nameB loc.data.toList = true) (hk : k < 15) (w : World) (hE : Env w) :
    Calls Tryd.prog 13 #[insV 3 k 0 0 0 loc ⟨#[]⟩ 0] w fun e w' => e = .returned (.tuple #[.string ⟨(printB 3 k 0 0 loc.data.toList).toArray⟩, .int .i64 0]) ∧ Below w.heap.size w w' := by
  have H := Lib.hid (show insB 3 k 0 0 0 loc ⟨#[]⟩ 0 = true by simp [insB, hn, regB]; omega)
  have hl := nameB_size hn
  have hkl := regN_le k hk
  have hk0 : (0 : Int) ≤ (k : Int) := by omega
  have hk1 : (k : Int) < 15 := by omega
  have k0 : ¬ (9223372036854775807 < 4 + (regN k).length) := by omega
  have k1 : ¬ (9223372036854775807 < 4 + (regN k).length + 2) := by omega
  have k2 : ¬ (9223372036854775807 < 4 + (regN k).length + 2 + loc.size) := by omega
  have k3 : ¬ (9223372036854775807 < 4 + (regN k).length + 2 + loc.size + 1) := by omega
  clear hn
  have hreg := hE.reg k hk
  go_enter Tryd.func13, Tryd.ntmps13
  go_wp2_with (go_at_call 15; refine (checkP_y H.out _ (by omega)).mono ?_; rintro e w' ⟨rfl, hb⟩; obtain ⟨hc, hf⟩ := bcell hb; have hbb := below_trans (below_alloc (Below.refl _ _) _) hb; have hE' := hE.mono hbb)
  go_region_held3 (fun x => Env x ∧ Below w.heap.size w x ∧ x.cell? ⟨w.heap.size, 1, none⟩ = some (.int .i64 (k : Int)) ∧ x.cell? ⟨w.heap.size, 5, none⟩ = some (.string loc) ∧ x.cell? ⟨0, k, none⟩ = some (.string ⟨(regN k).toArray⟩))
    (first
      | (have hh := ‹Env _ ∧ Below _ _ _ ∧ _›; exact ⟨hh.1.mono hb', below_trans hh.2.1 hb', cell_go hh.2.2.1 hb', cell_go hh.2.2.2.1 hb', cell_go hh.2.2.2.2 hb'⟩)
      | (refine ⟨Env.mono hE' ((Below.refl _ _).drew), hbb.drew, by simp [*, go_sem], by simp [*, go_sem], (Env.mono hE' ((Below.refl _ _).drew)).reg k hk⟩))
    (fail)
  all_goals
    go_wp2
    go_ret2
    refine ⟨ret2_ba (by simp [printB]), ?_⟩
    exact (‹Env _ ∧ Below _ _ _ ∧ _›).2.1
set_option maxHeartbeats 400000 in
theorem printP_4 (k : Nat) (imm : Int) (hk : k < 15) (hi : numB imm = true) (w : World) (hE : Env w) :
    Calls Tryd.prog 13 #[insV 4 k 0 0 imm ⟨#[]⟩ ⟨#[]⟩ 0] w fun e w' => e = .returned (.tuple #[.string ⟨(printB 4 k 0 imm []).toArray⟩, .int .i64 0]) ∧ Below w.heap.size w w' := by
  have H := Lib.hid (show insB 4 k 0 0 imm ⟨#[]⟩ ⟨#[]⟩ 0 = true by simp [insB, hi, regB]; omega)
  have hij := numB_bounds hi
  have hil := Lib.itoa_length_le imm (by omega) (by omega)
  have hkl := regN_le k hk
  have hk0 : (0 : Int) ≤ (k : Int) := by omega
  have hk1 : (k : Int) < 15 := by omega
  have k0 : ¬ (9223372036854775807 < 4 + (regN k).length) := by omega
  have k1 : ¬ (9223372036854775807 < 4 + (regN k).length + 2) := by omega
  have k2 : ¬ (9223372036854775807 < 4 + (regN k).length + 2 + (Lib.itoa imm).length) := by omega
  have hreg := hE.reg k hk
  go_enter Tryd.func13, Tryd.ntmps13
  go_wp2_with (go_at_call 15; refine (checkP_y H.out _ (by decide)).mono ?_; rintro e w' ⟨rfl, hb⟩; obtain ⟨hc, hf⟩ := bcell hb; have hbb := below_trans (below_alloc (Below.refl _ _) _) hb; have hE' := hE.mono hbb)
  go_region_held3 (fun x => Env x ∧ Below w.heap.size w x ∧ x.cell? ⟨w.heap.size, 1, none⟩ = some (.int .i64 (k : Int)) ∧ x.cell? ⟨w.heap.size, 4, none⟩ = some (.int .i64 imm) ∧ x.cell? ⟨0, k, none⟩ = some (.string ⟨(regN k).toArray⟩))
    (first
      | (have hh := ‹Env _ ∧ Below _ _ _ ∧ _›; exact ⟨hh.1.mono hb', below_trans hh.2.1 hb', cell_go hh.2.2.1 hb', cell_go hh.2.2.2.1 hb', cell_go hh.2.2.2.2 hb'⟩)
      | (refine ⟨Env.mono hE' ((Below.refl _ _).drew), hbb.drew, by simp [*, go_sem], by simp [*, go_sem], (Env.mono hE' ((Below.refl _ _).drew)).reg k hk⟩))
    (first | (go_at_call 38; refine (itoa_c _ _ ?_ (by omega) (by omega)).mono ?_; (exact (‹Env _ ∧ _›).1); rintro e w' ⟨rfl, hb'⟩))
  all_goals
    go_wp2
    go_ret2
    refine ⟨ret2_ba (by simp [printB]), ?_⟩
    exact (‹Env _ ∧ Below _ _ _ ∧ _›).2.1
set_option maxHeartbeats 400000 in
theorem printP_5  (w : World) (hE : Env w) :
    Calls Tryd.prog 13 #[insV 5 0 0 0 0 ⟨#[]⟩ ⟨#[]⟩ 0] w fun e w' => e = .returned (.tuple #[.string ⟨(printB 5 0 0 0 []).toArray⟩, .int .i64 0]) ∧ Below w.heap.size w w' := by
  have H := Lib.hid (show insB 5 0 0 0 0 ⟨#[]⟩ ⟨#[]⟩ 0 = true by simp [insB])
  go_enter Tryd.func13, Tryd.ntmps13
  go_wp2_with (go_at_call 15; refine (checkP_y H.out _ (by decide)).mono ?_; rintro e w' ⟨rfl, hb⟩; obtain ⟨hc, hf⟩ := bcell hb; have hbb := below_trans (below_alloc (Below.refl _ _) _) hb; have hE' := hE.mono hbb)
  go_ret2
  exact ⟨rfl, hbb⟩
set_option maxHeartbeats 400000 in
theorem printR_1 (imm : Int) (loc : ByteArray) (hn : nameB loc.data.toList = true) (hi : numB imm = true) (w : World) (hE : Env w) :
    Calls Tryd.prog 21 #[insV 1 0 0 0 imm loc ⟨#[]⟩ 0] w fun e w' => e = .returned (.tuple #[.string ⟨(printB 1 0 0 imm loc.data.toList).toArray⟩, .int .i64 0]) ∧ Below w.heap.size w w' := by
  have H := Lib.hid (show insB 1 0 0 0 imm loc ⟨#[]⟩ 0 = true by simp [insB, hn, hi])
  have hl := nameB_size hn
  have hij := numB_bounds hi
  have hil := Lib.itoa_length_le imm (by omega) (by omega)
  have k0 : ¬ (9223372036854775807 < 5 + loc.size) := by omega
  have k1 : ¬ (9223372036854775807 < 5 + loc.size + 3) := by omega
  have k2 : ¬ (9223372036854775807 < 5 + loc.size + 3 + (Lib.itoa imm).length) := by omega
  clear hn
  go_enter Tryd.func21, Tryd.ntmps21
  go_wp2_with (go_at_call 14; refine (checkR_y H.out _ (by omega)).mono ?_; rintro e w' ⟨rfl, hb⟩; obtain ⟨hc, hf⟩ := bcell hb; have hbb := below_trans (below_alloc (Below.refl _ _) _) hb; have hE' := hE.mono hbb)
  go_region_held3 (fun x => Env x ∧ Below w.heap.size w x ∧ x.cell? ⟨w.heap.size, 5, none⟩ = some (.string loc) ∧ x.cell? ⟨w.heap.size, 4, none⟩ = some (.int .i64 imm))
    (first
      | (have hh := ‹Env _ ∧ Below _ _ _ ∧ _›; exact ⟨hh.1.mono hb', below_trans hh.2.1 hb', cell_go hh.2.2.1 hb', cell_go hh.2.2.2 hb'⟩)
      | (refine ⟨Env.mono hE' ((Below.refl _ _).drew), hbb.drew, by simp [*, go_sem], by simp [*, go_sem]⟩))
    (first | (go_at_call 38; refine (itoa_c _ _ ?_ (by omega) (by omega)).mono ?_; (exact (‹Env _ ∧ _›).1); rintro e w' ⟨rfl, hb'⟩))
  all_goals
    go_wp2
    go_ret2
    refine ⟨ret2_ba (by simp [printB]), ?_⟩
    exact (‹Env _ ∧ Below _ _ _ ∧ _›).2.1
set_option maxHeartbeats 400000 in
theorem printR_5  (w : World) (hE : Env w) :
    Calls Tryd.prog 21 #[insV 5 0 0 0 0 ⟨#[]⟩ ⟨#[]⟩ 0] w fun e w' => e = .returned (.tuple #[.string ⟨(printB 5 0 0 0 []).toArray⟩, .int .i64 0]) ∧ Below w.heap.size w w' := by
  have H := Lib.hid (show insB 5 0 0 0 0 ⟨#[]⟩ ⟨#[]⟩ 0 = true by simp [insB])
  go_enter Tryd.func21, Tryd.ntmps21
  go_wp2_with (go_at_call 14; refine (checkR_y H.out _ (by decide)).mono ?_; rintro e w' ⟨rfl, hb⟩; obtain ⟨hc, hf⟩ := bcell hb; have hbb := below_trans (below_alloc (Below.refl _ _) _) hb; have hE' := hE.mono hbb)
  go_ret2
  exact ⟨rfl, hbb⟩
end Go.Proofs.YtlpcahkchmlghaaDoor
