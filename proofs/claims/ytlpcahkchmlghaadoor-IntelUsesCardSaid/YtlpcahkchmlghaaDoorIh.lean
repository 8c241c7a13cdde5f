/- Contract of the program's Parse. -/
import Derived.Test.YtlpcahkchmlghaaDoorIg
namespace Go.Proofs.YtlpcahkchmlghaaDoor
open Go.RowKit

def mfence : List UInt8 := [77, 70, 69, 78, 67, 69]
def parse2 (t : List UInt8) : Option (Int × Int × Int × Int × List UInt8) :=
  if t = [77, 70, 69, 78, 67, 69] then some (5, 0, 0, 0, [])
  else if Lib.hasPrefix t [77, 79, 86] = false then none
  else if h : 4 ≤ t.length then
    if blankB t[3] = false then none
    else if (Lib.cut (t.drop 3) [44]).2.2 = false then none
    else if (mvP (trimB (Lib.cut (t.drop 3) [44]).1) (trimB (Lib.cut (t.drop 3) [44]).2.1)).2 &&
        (let m := (mvP (trimB (Lib.cut (t.drop 3) [44]).1) (trimB (Lib.cut (t.drop 3) [44]).2.1)).1
         insB m.1 m.2.1 m.2.2.1 0 m.2.2.2.1 ⟨m.2.2.2.2.toArray⟩ ⟨#[]⟩ 0) then some (mvP (trimB (Lib.cut (t.drop 3) [44]).1) (trimB (Lib.cut (t.drop 3) [44]).2.1)).1
    else none
  else none
def parseP (l : List UInt8) : Option (Int × Int × Int × Int × List UInt8) := if 262144 < l.length then none else parse2 (trimB l)
def parseV (o : Option (Int × Int × Int × Int × List UInt8)) : Value := match o with
  | some m => .tuple #[insV m.1 m.2.1 m.2.2.1 0 m.2.2.2.1 ⟨m.2.2.2.2.toArray⟩ ⟨#[]⟩ 0, .int .i64 0]
  | none => .tuple #[insV 0 0 0 0 0 ⟨#[]⟩ ⟨#[]⟩ 0, .int .i64 91]

theorem trim_as {l t : List UInt8} (ht : trimB l = t) (w : World) (hl : l.length ≤ 9223372036854775807) :
    Calls Tryd.prog 30 #[.string ⟨l.toArray⟩, .string ⟨#[32, 9, 10, 13]⟩] w fun e w' => e = .returned (.string ⟨t.toArray⟩) ∧ Below w.heap.size w w' := ht ▸ trim_l l w hl

set_option maxHeartbeats 400000 in
theorem parse_long (l : List UInt8) (h : 262144 < l.length) (hl : l.length ≤ 9223372036854775807) (w : World) :
    Calls Tryd.prog 10 #[.string ⟨l.toArray⟩] w fun e w' => e = .returned (parseV none) ∧ Below w.heap.size w w' := by
  have h1 : decide ((262144 : Int) < (l.length : Int)) = true := by simp; omega
  go_enter Tryd.func10, Tryd.ntmps10
  go_wp2
  refine bodyPost_ret (v := parseV none) ?_ rfl ⟨rfl, ?_⟩
  · simp [results, Tryd.results10, go_sem, parseV]
  · exact below_alloc (Below.refl _ _) _

set_option maxHeartbeats 400000 in
theorem parse_mfence (l : List UInt8) (h : l.length ≤ 262144) (ht : trimB l = [77, 70, 69, 78, 67, 69]) (w : World) :
    Calls Tryd.prog 10 #[.string ⟨l.toArray⟩] w fun e w' => e = .returned (parseV (some (5, 0, 0, 0, []))) ∧ Below w.heap.size w w' := by
  have h1 : decide ((262144 : Int) < (l.length : Int)) = false := by simp; omega
  have HT := Lib.hid ht
  clear ht
  go_enter Tryd.func10, Tryd.ntmps10
  go_wp2_with (go_at_call 30; refine (trim_as HT.out _ (by omega)).mono ?_; rintro e w' ⟨rfl, hb⟩; have hbw := below_trans (below_alloc (Below.refl _ _) _) hb; obtain ⟨hc, hf⟩ := bcell hb; have hz : w.heap.size < w'.heap.size := Nat.lt_of_lt_of_le (by simp) hb.size)
  refine bodyPost_ret (v := parseV (some (5, 0, 0, 0, []))) ?_ rfl ⟨rfl, ?_⟩
  · simp [results, Tryd.results10, go_sem, parseV, hc]
  · repeat (first | (with_reducible refine Below.setCell ?_ ?_ _; rotate_left 1; exact Nat.le_refl _) | (with_reducible exact hbw))

theorem cut_l (l sep : List UInt8) (w : World) (hE : Env w) (hl : l.length < 4294967281) :
    Calls Tryd.prog 33 #[.string ⟨l.toArray⟩, .string ⟨sep.toArray⟩] w fun e w' => e = .returned (.tuple #[.string ⟨(Lib.cut l sep).1.toArray⟩, .string ⟨(Lib.cut l sep).2.1.toArray⟩, .bool (Lib.cut l sep).2.2]) ∧ Below w.heap.size w w' :=
  cut_c ⟨l.toArray⟩ ⟨sep.toArray⟩ w hE (by rw [str_size]; exact hl)
theorem checkP_l {op d a imm : Int} {loc : List UInt8} {r : Bool} (h : insB op d a 0 imm ⟨loc.toArray⟩ ⟨#[]⟩ 0 = r) (w : World) (hs : loc.length ≤ 9223372036854775807) :
    Calls Tryd.prog 15 #[insV op d a 0 imm ⟨loc.toArray⟩ ⟨#[]⟩ 0] w fun e w' => e = .returned (.int .i64 (chkI r)) ∧ Below w.heap.size w w' := h ▸ checkP d a 0 imm ⟨loc.toArray⟩ ⟨#[]⟩ 0 w (by rw [str_size]; exact hs) op

theorem cut_as {l sep c1 c2 : List UInt8} {b : Bool} (hc : Lib.cut l sep = (c1, c2, b)) (w : World) (hE : Env w) (hl : l.length < 4294967281) :
    Calls Tryd.prog 33 #[.string ⟨l.toArray⟩, .string ⟨sep.toArray⟩] w fun e w' => e = .returned (.tuple #[.string ⟨c1.toArray⟩, .string ⟨c2.toArray⟩, .bool b]) ∧ Below w.heap.size w w' := by
  have := cut_l l sep w hE hl
  rw [hc] at this
  exact this
theorem moved_as {a b : List UInt8} {op d x imm : Int} {loc : List UInt8} {r : Bool} (hm : mvP a b = ((op, d, x, imm, loc), r)) (w : World) (hE : Env w) (ha : a.length ≤ 281474976710656) (hb : b.length ≤ 281474976710656) :
    Calls Tryd.prog 34 #[.string ⟨a.toArray⟩, .string ⟨b.toArray⟩] w fun e w' => e = .returned (.tuple #[insV op d x 0 imm ⟨loc.toArray⟩ ⟨#[]⟩ 0, .bool r]) ∧ Below w.heap.size w w' := by
  have := moved_c a b w hE ha hb
  rw [hm] at this
  exact this
theorem parse_fin (op d x imm : Int) (loc : List UInt8) : Ending.returned (.tuple #[insV op d x 0 imm ⟨loc.toArray⟩ ⟨#[]⟩ 0, .int .i64 0]) = .returned (parseV (some (op, d, x, imm, loc))) := rfl

section
variable (l t : List UInt8) (h : l.length ≤ 262144) (ht : trimB l = t) (hM : (t == [77, 70, 69, 78, 67, 69]) = false) (w : World) (hE : Env w)
include h ht hM hE
set_option maxHeartbeats 400000
theorem parse_nopre (hp : Lib.hasPrefix t [77, 79, 86] = false) :
    Calls Tryd.prog 10 #[.string ⟨l.toArray⟩] w fun e w' => e = .returned (parseV none) ∧ Below w.heap.size w w' := by
  have h1 : decide ((262144 : Int) < (l.length : Int)) = false := by simp; omega
  have HT := Lib.hid ht
  have _hE := hE
  clear ht
  go_enter Tryd.func10, Tryd.ntmps10
  go_wp2_with (first
    | (go_at_call 30; refine (trim_as HT.out _ (by omega)).mono ?_; rintro e w' ⟨rfl, hb⟩; have hbw := below_trans (below_alloc (Below.refl _ _) _) hb; obtain ⟨hc, hf⟩ := bcell hb; have hz : w.heap.size < w'.heap.size := Nat.lt_of_lt_of_le (by simp) hb.size)
    | (go_at_call 31; refine (hasPrefix_l _ _ _).mono ?_; rintro e w2 ⟨rfl, rfl⟩))
  refine bodyPost_ret (v := parseV none) ?_ rfl ⟨rfl, ?_⟩
  · simp [results, Tryd.results10, go_sem, parseV, hc]
  · repeat (first | (with_reducible refine Below.setCell ?_ ?_ _; rotate_left 1; exact Nat.le_refl _) | (with_reducible exact hbw))
theorem parse_short (hp : Lib.hasPrefix t [77, 79, 86] = true) (h4 : t.length < 4) :
    Calls Tryd.prog 10 #[.string ⟨l.toArray⟩] w fun e w' => e = .returned (parseV none) ∧ Below w.heap.size w w' := by
  have h1 : decide ((262144 : Int) < (l.length : Int)) = false := by simp; omega
  have h2 : decide ((t.length : Int) < 4) = true := by simp; omega
  have HT := Lib.hid ht
  have _hE := hE
  clear ht
  go_enter Tryd.func10, Tryd.ntmps10
  go_wp2_with (first
    | (go_at_call 30; refine (trim_as HT.out _ (by omega)).mono ?_; rintro e w' ⟨rfl, hb⟩; have hbw := below_trans (below_alloc (Below.refl _ _) _) hb; obtain ⟨hc, hf⟩ := bcell hb; have hz : w.heap.size < w'.heap.size := Nat.lt_of_lt_of_le (by simp) hb.size)
    | (go_at_call 31; refine (hasPrefix_l _ _ _).mono ?_; rintro e w2 ⟨rfl, rfl⟩))
  refine bodyPost_ret (v := parseV none) ?_ rfl ⟨rfl, ?_⟩
  · simp [results, Tryd.results10, go_sem, parseV, hc]
  · repeat (first | (with_reducible refine Below.setCell ?_ ?_ _; rotate_left 1; exact Nat.le_refl _) | (with_reducible exact hbw))
set_option maxRecDepth 100000 in
theorem parse_noblank (hp : Lib.hasPrefix t [77, 79, 86] = true) (h4 : 4 ≤ t.length) (c : UInt8) (h3c : t[3] = c) (hk : blankB c = false) :
    Calls Tryd.prog 10 #[.string ⟨l.toArray⟩] w fun e w' => e = .returned (parseV none) ∧ Below w.heap.size w w' := by
  have h1 : decide ((262144 : Int) < (l.length : Int)) = false := by simp; omega
  have h2 : decide ((t.length : Int) < 4) = false := by simp; omega
  have h3 : (3 : Int) < (t.length : Int) := by omega
  have hx3 : ∀ hh, (⟨t.toArray⟩ : ByteArray)[3]'hh = c := fun _ => h3c
  have hclt : (c.toNat : Int) < 256 := by have := c.toNat_lt; omega
  clear h3c
  have HT := Lib.hid ht
  have _hE := hE
  clear ht
  go_enter Tryd.func10, Tryd.ntmps10
  go_wp2_with (first
    | (go_at_call 30; refine (trim_as HT.out _ (by omega)).mono ?_; rintro e w' ⟨rfl, hb⟩; have hbw := below_trans (below_alloc (Below.refl _ _) _) hb; obtain ⟨hc, hf⟩ := bcell hb; have hz : w.heap.size < w'.heap.size := Nat.lt_of_lt_of_le (by simp) hb.size)
    | (go_at_call 31; refine (hasPrefix_l _ _ _).mono ?_; rintro e w2 ⟨rfl, rfl⟩)
    | (go_at_call 32; refine (containsRune_c _ _ rfl _).mono ?_; rintro e w3 ⟨rfl, hb2⟩; have hbw2 := below_trans hbw hb2; obtain ⟨hc2, hf2⟩ := bcell hb2; have hz2 : w.heap.size < w3.heap.size := Nat.lt_of_lt_of_le hz hb2.size))
  refine bodyPost_ret (v := parseV none) ?_ rfl ⟨rfl, ?_⟩
  · simp [results, Tryd.results10, go_sem, parseV, hc, hz, hc2]
  · repeat (first | (with_reducible refine Below.setCell ?_ ?_ _; rotate_left 1; exact Nat.le_refl _) | (with_reducible exact hbw2))
set_option maxRecDepth 100000 in
theorem parse_nocut (hp : Lib.hasPrefix t [77, 79, 86] = true) (h4 : 4 ≤ t.length) (c : UInt8) (h3c : t[3] = c) (hk : blankB c = true) (htl : t.length ≤ 262144) (c1 c2 : List UInt8) (hcut : Lib.cut (t.drop 3) [44] = (c1, c2, false)) :
    Calls Tryd.prog 10 #[.string ⟨l.toArray⟩] w fun e w' => e = .returned (parseV none) ∧ Below w.heap.size w w' := by
  have h1 : decide ((262144 : Int) < (l.length : Int)) = false := by simp; omega
  have h2 : decide ((t.length : Int) < 4) = false := by simp; omega
  have h3 : (3 : Int) < (t.length : Int) := by omega
  have hx3 : ∀ hh, (⟨t.toArray⟩ : ByteArray)[3]'hh = c := fun _ => h3c
  have hclt : (c.toNat : Int) < 256 := by have := c.toNat_lt; omega
  have hx := ext_drop t 3
  have HT := Lib.hid ht
  have tokA : True := trivial
  have HC := Lib.hid hcut
  clear ht h3c hcut
  go_enter Tryd.func10, Tryd.ntmps10
  go_wp2_with (first
    | (go_at_call 30; have _t := tokA; refine (trim_as HT.out _ (by omega)).mono ?_; clear tokA; rintro e w1 ⟨rfl, hb1⟩; have hB1 := below_trans (below_alloc (Below.refl _ _) _) hb1; obtain ⟨hc1, hf1⟩ := bcell hb1; have hz1 : w.heap.size < w1.heap.size := Nat.lt_of_lt_of_le (by simp) hb1.size; have hE1 := hE.mono hB1)
    | (go_at_call 31; refine (hasPrefix_l _ _ _).mono ?_; rintro e w2 ⟨rfl, rfl⟩)
    | (go_at_call 32; refine (containsRune_c _ _ rfl _).mono ?_; rintro e w3 ⟨rfl, hb3⟩; have hB3 := below_trans hB1 hb3; obtain ⟨hc3, hf3⟩ := bcell hb3; have hz3 : w.heap.size < w3.heap.size := Nat.lt_of_lt_of_le hz1 hb3.size; have hE3 := hE1.mono hb3)
    | (go_at_call 33; refine (cut_as HC.out _ hE3 (by rw [List.length_drop]; omega)).mono ?_; rintro e w4 ⟨rfl, hb4⟩; have hB4 := below_trans hB3 hb4; obtain ⟨hc4, hf4⟩ := bcell hb4; have hz4 : w.heap.size < w4.heap.size := Nat.lt_of_lt_of_le hz3 hb4.size; have hE4 := hE3.mono hb4))
  refine bodyPost_ret (v := parseV none) ?_ rfl ⟨rfl, ?_⟩
  · simp [results, Tryd.results10, go_sem, parseV, hc1, hz1, hc3, hz3, hc4]
  · repeat (first | (with_reducible refine Below.setCell ?_ ?_ _; rotate_left 1; exact Nat.le_refl _) | (with_reducible exact hB4))
set_option maxRecDepth 100000 in
theorem parse_nomove (hp : Lib.hasPrefix t [77, 79, 86] = true) (h4 : 4 ≤ t.length) (c : UInt8) (h3c : t[3] = c) (hk : blankB c = true) (htl : t.length ≤ 262144) (c1 c2 : List UInt8) (hcut : Lib.cut (t.drop 3) [44] = (c1, c2, true)) (hl1 : c1.length ≤ 262144) (hl2 : c2.length ≤ 262144) (op d x imm : Int) (loc : List UInt8) (hm : mvP (trimB c1) (trimB c2) = ((op, d, x, imm, loc), false)) :
    Calls Tryd.prog 10 #[.string ⟨l.toArray⟩] w fun e w' => e = .returned (parseV none) ∧ Below w.heap.size w w' := by
  have h1 : decide ((262144 : Int) < (l.length : Int)) = false := by simp; omega
  have h2 : decide ((t.length : Int) < 4) = false := by simp; omega
  have h3 : (3 : Int) < (t.length : Int) := by omega
  have hx3 : ∀ hh, (⟨t.toArray⟩ : ByteArray)[3]'hh = c := fun _ => h3c
  have hclt : (c.toNat : Int) < 256 := by have := c.toNat_lt; omega
  have hx := ext_drop t 3
  have HT := Lib.hid ht
  have tokA : True := trivial
  have HC := Lib.hid hcut
  have HM := Lib.hid hm
  have tokB : True := trivial
  clear ht h3c hcut hm
  go_enter Tryd.func10, Tryd.ntmps10
  go_wp2_with (first
    | (go_at_call 30; have _t := tokA; refine (trim_as HT.out _ (by omega)).mono ?_; clear tokA; rintro e w1 ⟨rfl, hb1⟩; have hB1 := below_trans (below_alloc (Below.refl _ _) _) hb1; obtain ⟨hc1, hf1⟩ := bcell hb1; have hz1 : w.heap.size < w1.heap.size := Nat.lt_of_lt_of_le (by simp) hb1.size; have hE1 := hE.mono hB1)
    | (go_at_call 31; refine (hasPrefix_l _ _ _).mono ?_; rintro e w2 ⟨rfl, rfl⟩)
    | (go_at_call 32; refine (containsRune_c _ _ rfl _).mono ?_; rintro e w3 ⟨rfl, hb3⟩; have hB3 := below_trans hB1 hb3; obtain ⟨hc3, hf3⟩ := bcell hb3; have hz3 : w.heap.size < w3.heap.size := Nat.lt_of_lt_of_le hz1 hb3.size; have hE3 := hE1.mono hb3)
    | (go_at_call 33; refine (cut_as HC.out _ hE3 (by rw [List.length_drop]; omega)).mono ?_; rintro e w4 ⟨rfl, hb4⟩; have hB4 := below_trans hB3 hb4; obtain ⟨hc4, hf4⟩ := bcell hb4; have hz4 : w.heap.size < w4.heap.size := Nat.lt_of_lt_of_le hz3 hb4.size; have hE4 := hE3.mono hb4)
    | (go_at_call 30; have _t := tokB; refine (trim_l _ _ (by omega)).mono ?_; clear tokB; rintro e w5 ⟨rfl, hb5⟩; have hB5 := below_trans hB4 hb5; obtain ⟨hc5, hf5⟩ := bcell hb5; have hz5 : w.heap.size < w5.heap.size := Nat.lt_of_lt_of_le hz4 hb5.size; have hE5 := hE4.mono hb5)
    | (go_at_call 30; refine (trim_l _ _ (by omega)).mono ?_; rintro e w6 ⟨rfl, hb6⟩; have hB6 := below_trans hB5 hb6; obtain ⟨hc6, hf6⟩ := bcell hb6; have hz6 : w.heap.size < w6.heap.size := Nat.lt_of_lt_of_le hz5 hb6.size; have hE6 := hE5.mono hb6)
    | (go_at_call 34; refine (moved_as HM.out _ hE6 (Nat.le_trans (trimB_le _) (by omega)) (Nat.le_trans (trimB_le _) (by omega))).mono ?_; rintro e w7 ⟨rfl, hb7⟩; have hB7 := below_trans hB6 hb7; obtain ⟨hc7, hf7⟩ := bcell hb7; have hz7 : w.heap.size < w7.heap.size := Nat.lt_of_lt_of_le hz6 hb7.size))
  refine bodyPost_ret (v := parseV none) ?_ rfl ⟨rfl, ?_⟩
  · simp [results, Tryd.results10, go_sem, parseV, hc1, hz1, hc3, hz3, hc4, hz4, hc5, hz5, hc6, hz6, hc7, hz7]
  · repeat (first | (with_reducible refine Below.setCell ?_ ?_ _; rotate_left 1; exact Nat.le_refl _) | (with_reducible refine below_alloc ?_ _) | (with_reducible exact hB7))
set_option maxRecDepth 100000 in
theorem parse_nocheck (hp : Lib.hasPrefix t [77, 79, 86] = true) (h4 : 4 ≤ t.length) (c : UInt8) (h3c : t[3] = c) (hk : blankB c = true) (htl : t.length ≤ 262144) (c1 c2 : List UInt8) (hcut : Lib.cut (t.drop 3) [44] = (c1, c2, true)) (hl1 : c1.length ≤ 262144) (hl2 : c2.length ≤ 262144) (op d x imm : Int) (loc : List UInt8) (hm : mvP (trimB c1) (trimB c2) = ((op, d, x, imm, loc), true)) (hll : loc.length ≤ 262144) (hi : insB op d x 0 imm ⟨loc.toArray⟩ ⟨#[]⟩ 0 = false) :
    Calls Tryd.prog 10 #[.string ⟨l.toArray⟩] w fun e w' => e = .returned (parseV none) ∧ Below w.heap.size w w' := by
  have h1 : decide ((262144 : Int) < (l.length : Int)) = false := by simp; omega
  have h2 : decide ((t.length : Int) < 4) = false := by simp; omega
  have h3 : (3 : Int) < (t.length : Int) := by omega
  have hx3 : ∀ hh, (⟨t.toArray⟩ : ByteArray)[3]'hh = c := fun _ => h3c
  have hclt : (c.toNat : Int) < 256 := by have := c.toNat_lt; omega
  have hx := ext_drop t 3
  have HT := Lib.hid ht
  have tokA : True := trivial
  have HC := Lib.hid hcut
  have HM := Lib.hid hm
  have tokB : True := trivial
  have HI := Lib.hid hi
  have hch : chkI false = 91 := rfl
  clear ht h3c hcut hm hi
  go_enter Tryd.func10, Tryd.ntmps10
  go_wp2_with (first
    | (go_at_call 30; have _t := tokA; refine (trim_as HT.out _ (by omega)).mono ?_; clear tokA; rintro e w1 ⟨rfl, hb1⟩; have hB1 := below_trans (below_alloc (Below.refl _ _) _) hb1; obtain ⟨hc1, hf1⟩ := bcell hb1; have hz1 : w.heap.size < w1.heap.size := Nat.lt_of_lt_of_le (by simp) hb1.size; have hE1 := hE.mono hB1)
    | (go_at_call 31; refine (hasPrefix_l _ _ _).mono ?_; rintro e w2 ⟨rfl, rfl⟩)
    | (go_at_call 32; refine (containsRune_c _ _ rfl _).mono ?_; rintro e w3 ⟨rfl, hb3⟩; have hB3 := below_trans hB1 hb3; obtain ⟨hc3, hf3⟩ := bcell hb3; have hz3 : w.heap.size < w3.heap.size := Nat.lt_of_lt_of_le hz1 hb3.size; have hE3 := hE1.mono hb3)
    | (go_at_call 33; refine (cut_as HC.out _ hE3 (by rw [List.length_drop]; omega)).mono ?_; rintro e w4 ⟨rfl, hb4⟩; have hB4 := below_trans hB3 hb4; obtain ⟨hc4, hf4⟩ := bcell hb4; have hz4 : w.heap.size < w4.heap.size := Nat.lt_of_lt_of_le hz3 hb4.size; have hE4 := hE3.mono hb4)
    | (go_at_call 30; have _t := tokB; refine (trim_l _ _ (by omega)).mono ?_; clear tokB; rintro e w5 ⟨rfl, hb5⟩; have hB5 := below_trans hB4 hb5; obtain ⟨hc5, hf5⟩ := bcell hb5; have hz5 : w.heap.size < w5.heap.size := Nat.lt_of_lt_of_le hz4 hb5.size; have hE5 := hE4.mono hb5)
    | (go_at_call 30; refine (trim_l _ _ (by omega)).mono ?_; rintro e w6 ⟨rfl, hb6⟩; have hB6 := below_trans hB5 hb6; obtain ⟨hc6, hf6⟩ := bcell hb6; have hz6 : w.heap.size < w6.heap.size := Nat.lt_of_lt_of_le hz5 hb6.size; have hE6 := hE5.mono hb6)
    | (go_at_call 34; refine (moved_as HM.out _ hE6 (Nat.le_trans (trimB_le _) (by omega)) (Nat.le_trans (trimB_le _) (by omega))).mono ?_; rintro e w7 ⟨rfl, hb7⟩; have hB7 := below_trans hB6 hb7; obtain ⟨hc7, hf7⟩ := bcell hb7; have hz7 : w.heap.size < w7.heap.size := Nat.lt_of_lt_of_le hz6 hb7.size)
    | (go_at_call 15; refine (checkP_l HI.out _ (by omega)).mono ?_; rintro e w8 ⟨rfl, hb8⟩; have hB8 := below_trans (below_alloc hB7 _) hb8; obtain ⟨hc8, hf8⟩ := bcell hb8; have hz8 : w.heap.size < w8.heap.size := Nat.lt_of_lt_of_le (by simp; omega) hb8.size; have hz9 : w7.heap.size < w8.heap.size := Nat.lt_of_lt_of_le (by simp) hb8.size; have hz7b : w.heap.size < w7.heap.size + 1 := Nat.lt_succ_of_lt hz7))
  refine bodyPost_ret (v := parseV none) ?_ rfl ⟨rfl, ?_⟩
  · simp [results, Tryd.results10, go_sem, parseV, hc1, hz1, hc3, hz3, hc4, hz4, hc5, hz5, hc6, hz6, hc7, hz7, hc8, hz7b]
  · repeat (first | (with_reducible refine Below.setCell ?_ ?_ _; rotate_left 1; exact Nat.le_refl _) | (with_reducible exact hB8))
set_option maxRecDepth 100000 in
theorem parse_yes (hp : Lib.hasPrefix t [77, 79, 86] = true) (h4 : 4 ≤ t.length) (c : UInt8) (h3c : t[3] = c) (hk : blankB c = true) (htl : t.length ≤ 262144) (c1 c2 : List UInt8) (hcut : Lib.cut (t.drop 3) [44] = (c1, c2, true)) (hl1 : c1.length ≤ 262144) (hl2 : c2.length ≤ 262144) (op d x imm : Int) (loc : List UInt8) (hm : mvP (trimB c1) (trimB c2) = ((op, d, x, imm, loc), true)) (hll : loc.length ≤ 262144) (hi : insB op d x 0 imm ⟨loc.toArray⟩ ⟨#[]⟩ 0 = true) :
    Calls Tryd.prog 10 #[.string ⟨l.toArray⟩] w fun e w' => e = .returned (parseV (some (op, d, x, imm, loc))) ∧ Below w.heap.size w w' := by
  have h1 : decide ((262144 : Int) < (l.length : Int)) = false := by simp; omega
  have h2 : decide ((t.length : Int) < 4) = false := by simp; omega
  have h3 : (3 : Int) < (t.length : Int) := by omega
  have hx3 : ∀ hh, (⟨t.toArray⟩ : ByteArray)[3]'hh = c := fun _ => h3c
  have hclt : (c.toNat : Int) < 256 := by have := c.toNat_lt; omega
  have hx := ext_drop t 3
  have HT := Lib.hid ht
  have tokA : True := trivial
  have HC := Lib.hid hcut
  have HM := Lib.hid hm
  have tokB : True := trivial
  have HI := Lib.hid hi
  have hch : chkI true = 0 := rfl
  clear ht h3c hcut hm hi
  go_enter Tryd.func10, Tryd.ntmps10
  go_wp2_with (first
    | (go_at_call 30; have _t := tokA; refine (trim_as HT.out _ (by omega)).mono ?_; clear tokA; rintro e w1 ⟨rfl, hb1⟩; have hB1 := below_trans (below_alloc (Below.refl _ _) _) hb1; obtain ⟨hc1, hf1⟩ := bcell hb1; have hz1 : w.heap.size < w1.heap.size := Nat.lt_of_lt_of_le (by simp) hb1.size; have hE1 := hE.mono hB1)
    | (go_at_call 31; refine (hasPrefix_l _ _ _).mono ?_; rintro e w2 ⟨rfl, rfl⟩)
    | (go_at_call 32; refine (containsRune_c _ _ rfl _).mono ?_; rintro e w3 ⟨rfl, hb3⟩; have hB3 := below_trans hB1 hb3; obtain ⟨hc3, hf3⟩ := bcell hb3; have hz3 : w.heap.size < w3.heap.size := Nat.lt_of_lt_of_le hz1 hb3.size; have hE3 := hE1.mono hb3)
    | (go_at_call 33; refine (cut_as HC.out _ hE3 (by rw [List.length_drop]; omega)).mono ?_; rintro e w4 ⟨rfl, hb4⟩; have hB4 := below_trans hB3 hb4; obtain ⟨hc4, hf4⟩ := bcell hb4; have hz4 : w.heap.size < w4.heap.size := Nat.lt_of_lt_of_le hz3 hb4.size; have hE4 := hE3.mono hb4)
    | (go_at_call 30; have _t := tokB; refine (trim_l _ _ (by omega)).mono ?_; clear tokB; rintro e w5 ⟨rfl, hb5⟩; have hB5 := below_trans hB4 hb5; obtain ⟨hc5, hf5⟩ := bcell hb5; have hz5 : w.heap.size < w5.heap.size := Nat.lt_of_lt_of_le hz4 hb5.size; have hE5 := hE4.mono hb5)
    | (go_at_call 30; refine (trim_l _ _ (by omega)).mono ?_; rintro e w6 ⟨rfl, hb6⟩; have hB6 := below_trans hB5 hb6; obtain ⟨hc6, hf6⟩ := bcell hb6; have hz6 : w.heap.size < w6.heap.size := Nat.lt_of_lt_of_le hz5 hb6.size; have hE6 := hE5.mono hb6)
    | (go_at_call 34; refine (moved_as HM.out _ hE6 (Nat.le_trans (trimB_le _) (by omega)) (Nat.le_trans (trimB_le _) (by omega))).mono ?_; rintro e w7 ⟨rfl, hb7⟩; have hB7 := below_trans hB6 hb7; obtain ⟨hc7, hf7⟩ := bcell hb7; have hz7 : w.heap.size < w7.heap.size := Nat.lt_of_lt_of_le hz6 hb7.size)
    | (go_at_call 15; refine (checkP_l HI.out _ (by omega)).mono ?_; rintro e w8 ⟨rfl, hb8⟩; have hB8 := below_trans (below_alloc hB7 _) hb8; obtain ⟨hc8, hf8⟩ := bcell hb8; have hz8 : w.heap.size < w8.heap.size := Nat.lt_of_lt_of_le (by simp; omega) hb8.size; have hz9 : w7.heap.size < w8.heap.size := Nat.lt_of_lt_of_le (by simp) hb8.size; have hz7b : w.heap.size < w7.heap.size + 1 := Nat.lt_succ_of_lt hz7))
  refine bodyPost_ret (v := parseV (some (op, d, x, imm, loc))) ?_ rfl ⟨rfl, ?_⟩
  · simp [results, Tryd.results10, go_sem, parseV, hc1, hz1, hc3, hz3, hc4, hz4, hc5, hz5, hc6, hz6, hc7, hz7, hc8, hz7b]
  · repeat (first | (with_reducible refine Below.setCell ?_ ?_ _; rotate_left 1; exact Nat.le_refl _) | (with_reducible exact hB8))
end
end Go.Proofs.YtlpcahkchmlghaaDoor
