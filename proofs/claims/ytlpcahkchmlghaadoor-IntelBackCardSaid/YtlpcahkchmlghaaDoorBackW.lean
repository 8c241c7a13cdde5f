/- IntelBack: the walk. -/
import Derived.Test.YtlpcahkchmlghaaDoorKb
namespace Go.Proofs.YtlpcahkchmlghaaDoor
open Go.RowKit

section
variable {l : List UInt8} (hl : l.length ≤ 9223372036854775807) (w : World) (hE : Env w)
include hl hE
set_option maxRecDepth 100000
set_option maxHeartbeats 1000000
theorem walkBack_ys {op d a imm : Int} {loc : List UInt8} (h : insB op d a 0 imm ⟨loc.toArray⟩ ⟨#[]⟩ 0 = true) {op2 d2 a2 imm2 : Int} {loc2 : List UInt8} (hp : parseP l = some (op2, d2, a2, imm2, loc2)) :
    Calls Tryd.prog 4 #[insV op d a 0 imm ⟨loc.toArray⟩ ⟨#[]⟩ 0, .string ⟨l.toArray⟩] w fun e w' => e = .returned (.bool true) ∧ Below w.heap.size w w' := by
  have h2 := parse_insB hp
  have hs2 := insB_loc h2
  have H := Lib.hid h
  have H2 := Lib.hid h2
  have HP := Lib.hid hp
  clear h h2 hp
  go_enter Tryd.func4, Tryd.ntmps4
  go_wp2_with fail
  refine (printP_l H.out _ (hE.alloc _)).mono ?_
  rintro e w1 ⟨rfl, hb1⟩
  have hE1 := (hE.alloc _).mono hb1
  have hB1 := below_trans (alloc_below _ _) hb1
  obtain ⟨hc1, hf1⟩ := bcell hb1
  have z1 : w.heap.size < w1.heap.size := Nat.lt_of_lt_of_le (by simp) hb1.size
  go_wp2_with fail
  refine (back_l H.out _ hE1).mono ?_
  rintro e w2 ⟨rfl, hb2⟩
  have hE2 := hE1.mono hb2
  have hB2 := below_trans hB1 hb2
  obtain ⟨hc2, hf2⟩ := bcell hb2
  have z2 : w.heap.size < w2.heap.size := Nat.lt_of_lt_of_le z1 hb2.size
  go_wp2_with fail
  refine (parseP_s HP.out hl _ (hE2.alloc _)).mono ?_
  rintro e w3 ⟨rfl, hb3⟩
  have hE3 := (hE2.alloc _).mono hb3
  have hB3 := below_trans (below_trans hB2 (alloc_below _ _)) hb3
  obtain ⟨hc3, hf3⟩ := bcell hb3
  have y3 : w2.heap.size < w3.heap.size := Nat.lt_of_lt_of_le (by simp) hb3.size
  go_wp2_with fail
  refine (printP_l H2.out _ (hE3.alloc _)).mono ?_
  rintro e w4 ⟨rfl, hb4⟩
  have hE4 := (hE3.alloc _).mono hb4
  have hB4 := below_trans (below_trans hB3 (alloc_below _ _)) hb4
  obtain ⟨hc4, hf4⟩ := bcell hb4
  have x4 : w3.heap.size < w4.heap.size := Nat.lt_of_lt_of_le (by simp) hb4.size
  go_wp2_with fail
  refine (back_l H2.out _ hE4).mono ?_
  rintro e w5 ⟨rfl, hb5⟩
  have hE5 := hE4.mono hb5
  have hB5 := below_trans hB4 hb5
  obtain ⟨hc5, hf5⟩ := bcell hb5
  have x5 : w3.heap.size < w5.heap.size := Nat.lt_of_lt_of_le x4 hb5.size
  go_wp2_with fail
  refine (checkP_l2 H2.out _ (by omega)).mono ?_
  rintro e w6 ⟨rfl, hb6⟩
  have hE6 := (hE5.alloc _).mono hb6
  have hB6 := below_trans (below_trans hB5 (alloc_below _ _)) hb6
  go_wp2_with fail
  refine (awake_c _ hE6).mono ?_
  rintro e w7 ⟨rfl, hb7⟩
  go_wp2_with fail
  go_ret
  exact ⟨rfl, below_trans hB6 hb7⟩
theorem walkBack_yn {op d a imm : Int} {loc : List UInt8} (h : insB op d a 0 imm ⟨loc.toArray⟩ ⟨#[]⟩ 0 = true) (hp : parseP l = none) :
    Calls Tryd.prog 4 #[insV op d a 0 imm ⟨loc.toArray⟩ ⟨#[]⟩ 0, .string ⟨l.toArray⟩] w fun e w' => e = .returned (.bool true) ∧ Below w.heap.size w w' := by
  have H := Lib.hid h
  have HP := Lib.hid hp
  clear h hp
  go_enter Tryd.func4, Tryd.ntmps4
  go_wp2_with fail
  refine (printP_l H.out _ (hE.alloc _)).mono ?_
  rintro e w1 ⟨rfl, hb1⟩
  have hE1 := (hE.alloc _).mono hb1
  have hB1 := below_trans (alloc_below _ _) hb1
  obtain ⟨hc1, hf1⟩ := bcell hb1
  have z1 : w.heap.size < w1.heap.size := Nat.lt_of_lt_of_le (by simp) hb1.size
  go_wp2_with fail
  refine (back_l H.out _ hE1).mono ?_
  rintro e w2 ⟨rfl, hb2⟩
  have hE2 := hE1.mono hb2
  have hB2 := below_trans hB1 hb2
  obtain ⟨hc2, hf2⟩ := bcell hb2
  have z2 : w.heap.size < w2.heap.size := Nat.lt_of_lt_of_le z1 hb2.size
  go_wp2_with fail
  refine (parseP_0 HP.out hl _ (hE2.alloc _)).mono ?_
  rintro e w3 ⟨rfl, hb3⟩
  have hE3 := (hE2.alloc _).mono hb3
  have hB3 := below_trans (below_trans hB2 (alloc_below _ _)) hb3
  go_wp2_with fail
  refine (awake_c _ (hE3.alloc _)).mono ?_
  rintro e w7 ⟨rfl, hb7⟩
  go_wp2_with fail
  go_ret
  exact ⟨rfl, below_trans (below_trans hB3 (alloc_below _ _)) hb7⟩
theorem walkBack_ns {op d a b imm : Int} {loc label : ByteArray} {fence : Int} (hs : loc.size ≤ 9223372036854775807) (h : insB op d a b imm loc label fence = false) {op2 d2 a2 imm2 : Int} {loc2 : List UInt8} (hp : parseP l = some (op2, d2, a2, imm2, loc2)) :
    Calls Tryd.prog 4 #[insV op d a b imm loc label fence, .string ⟨l.toArray⟩] w fun e w' => e = .returned (.bool true) ∧ Below w.heap.size w w' := by
  have h2 := parse_insB hp
  have hs2 := insB_loc h2
  have H := Lib.hid h
  have H2 := Lib.hid h2
  have HP := Lib.hid hp
  clear h h2 hp
  go_enter Tryd.func4, Tryd.ntmps4
  go_wp2_with fail
  refine (printP_n H.out _ hs).mono ?_
  rintro e w1 ⟨rfl, hb1⟩
  have hE1 := (hE.alloc _).mono hb1
  have hB1 := below_trans (alloc_below _ _) hb1
  obtain ⟨hc1, hf1⟩ := bcell hb1
  have z1 : w.heap.size < w1.heap.size := Nat.lt_of_lt_of_le (by simp) hb1.size
  go_wp2_with fail
  refine (checkR_l2 H.out _ hs).mono ?_
  rintro e w2 ⟨rfl, hb2⟩
  have hE2 := hE1.mono hb2
  have hB2 := below_trans hB1 hb2
  go_wp2_with fail
  refine (parseP_s HP.out hl _ hE2).mono ?_
  rintro e w3 ⟨rfl, hb3⟩
  have hE3 := hE2.mono hb3
  have hB3 := below_trans hB2 hb3
  obtain ⟨hc3, hf3⟩ := bcell hb3
  go_wp2_with fail
  refine (printP_l H2.out _ (hE3.alloc _)).mono ?_
  rintro e w4 ⟨rfl, hb4⟩
  have hE4 := (hE3.alloc _).mono hb4
  have hB4 := below_trans (below_trans hB3 (alloc_below _ _)) hb4
  obtain ⟨hc4, hf4⟩ := bcell hb4
  have x4 : w3.heap.size < w4.heap.size := Nat.lt_of_lt_of_le (by simp) hb4.size
  go_wp2_with fail
  refine (back_l H2.out _ hE4).mono ?_
  rintro e w5 ⟨rfl, hb5⟩
  have hE5 := hE4.mono hb5
  have hB5 := below_trans hB4 hb5
  obtain ⟨hc5, hf5⟩ := bcell hb5
  have x5 : w3.heap.size < w5.heap.size := Nat.lt_of_lt_of_le x4 hb5.size
  go_wp2_with fail
  refine (checkP_l2 H2.out _ (by omega)).mono ?_
  rintro e w6 ⟨rfl, hb6⟩
  have hE6 := (hE5.alloc _).mono hb6
  have hB6 := below_trans (below_trans hB5 (alloc_below _ _)) hb6
  go_wp2_with fail
  refine (awake_c _ hE6).mono ?_
  rintro e w7 ⟨rfl, hb7⟩
  go_wp2_with fail
  go_ret
  exact ⟨rfl, below_trans hB6 hb7⟩
theorem walkBack_nn {op d a b imm : Int} {loc label : ByteArray} {fence : Int} (hs : loc.size ≤ 9223372036854775807) (h : insB op d a b imm loc label fence = false) (hp : parseP l = none) :
    Calls Tryd.prog 4 #[insV op d a b imm loc label fence, .string ⟨l.toArray⟩] w fun e w' => e = .returned (.bool true) ∧ Below w.heap.size w w' := by
  have H := Lib.hid h
  have HP := Lib.hid hp
  clear h hp
  go_enter Tryd.func4, Tryd.ntmps4
  go_wp2_with fail
  refine (printP_n H.out _ hs).mono ?_
  rintro e w1 ⟨rfl, hb1⟩
  have hE1 := (hE.alloc _).mono hb1
  have hB1 := below_trans (alloc_below _ _) hb1
  obtain ⟨hc1, hf1⟩ := bcell hb1
  have z1 : w.heap.size < w1.heap.size := Nat.lt_of_lt_of_le (by simp) hb1.size
  go_wp2_with fail
  refine (checkR_l2 H.out _ hs).mono ?_
  rintro e w2 ⟨rfl, hb2⟩
  have hE2 := hE1.mono hb2
  have hB2 := below_trans hB1 hb2
  go_wp2_with fail
  refine (parseP_0 HP.out hl _ hE2).mono ?_
  rintro e w3 ⟨rfl, hb3⟩
  have hE3 := hE2.mono hb3
  have hB3 := below_trans hB2 hb3
  go_wp2_with fail
  refine (awake_c _ (hE3.alloc _)).mono ?_
  rintro e w7 ⟨rfl, hb7⟩
  go_wp2_with fail
  go_ret
  exact ⟨rfl, below_trans (below_trans hB3 (alloc_below _ _)) hb7⟩
end
theorem walkBack (op d a b imm : Int) (loc label : ByteArray) (fence : Int) (s : ByteArray) (hl1 : loc.size ≤ 9223372036854775807) (ws : s.size ≤ 9223372036854775807) (w : World) (hE : Env w) :
    Calls Tryd.prog 4 #[insV op d a b imm loc label fence, .string s] w fun e w' => e = .returned (.bool true) ∧ Below w.heap.size w w' := by
  have hl : s.data.toList.length ≤ 9223372036854775807 := by rw [str_len]; exact ws
  rw [← str_eta s]
  cases h : insB op d a b imm loc label fence with
  | true =>
    obtain ⟨rfl, rfl, rfl⟩ := insB_std h
    rw [← str_eta loc] at h ⊢
    cases hp : parseP s.data.toList with
    | none => exact walkBack_yn hl w hE h hp
    | some m =>
      obtain ⟨op2, d2, a2, imm2, loc2⟩ := m
      exact walkBack_ys hl w hE h hp
  | false =>
    cases hp : parseP s.data.toList with
    | none => exact walkBack_nn hl w hE hl1 h hp
    | some m =>
      obtain ⟨op2, d2, a2, imm2, loc2⟩ := m
      exact walkBack_ns hl w hE hl1 h hp
end Go.Proofs.YtlpcahkchmlghaaDoor
