/- The reference's Parse: one contract. -/
import Derived.Test.YtlpcahkchmlghaaDoorIo
namespace Go.Proofs.YtlpcahkchmlghaaDoor
open Go.RowKit

def parseR (l : List UInt8) : Option (Int × Int × Int × Int × List UInt8) :=
  if 262144 < l.length then none
  else match wordsL l with
    | [x] => if x == [77, 70, 69, 78, 67, 69] then some (5, 0, 0, 0, []) else none
    | x0 :: x1 :: x2 :: x3 :: r =>
      if (x0 == [77, 79, 86]) && apartB l then
        if (mvR (x1 :: x2 :: x3 :: r)).2 then some (mvR (x1 :: x2 :: x3 :: r)).1 else none
      else none
    | _ => none
def prV (o : Option (Int × Int × Int × Int × List UInt8)) : Value := match o with
  | some m => .tuple #[insV m.1 m.2.1 m.2.2.1 0 m.2.2.2.1 ⟨m.2.2.2.2.toArray⟩ ⟨#[]⟩ 0, .int .i64 0]
  | none => .tuple #[insV 0 0 0 0 0 ⟨#[]⟩ ⟨#[]⟩ 0, .int .i64 91]

theorem own_cells {w : World} {base : Nat} {v : Value} {ws : List (List UInt8)} (h : w.ownsRow base 9 1 v ws.length (strW ws)) (hne : ws ≠ []) :
    ∃ g cap, v = .slice (some ⟨g, 0, none⟩) ws.length cap ∧ ws.length ≤ cap ∧ cap ≤ 9223372036854775807 ∧ g < w.heap.size ∧ StrsAt w g 0 ws := by
  obtain ⟨_, h | ⟨g, cap, cur, hv, hb, hh, hn, hm, hs, ht⟩⟩ := h
  · exact absurd (List.eq_nil_of_length_eq_zero h.2) hne
  · refine ⟨g, cap, hv, hn, by unfold maxLen at hm; exact hm, ?_, ?_⟩
    · rcases Nat.lt_or_ge g w.heap.size with h | h
      · exact h
      · rw [Array.getElem?_eq_none h] at hh; cases hh
    · intro j hj
      unfold World.cell?
      simp only [hh]
      have hlen : (strW ws).length = ws.length := by simp [strW]
      have e1 : cur.toList[j]? = some (.string ⟨ws[j].toArray⟩) := by
        have h2 : (cur.toList.take (ws.length * 1))[j]? = (strW ws)[j]? := by rw [ht]
        rw [List.getElem?_take_of_lt (by omega)] at h2
        rw [h2]
        simp [strW, hj]
      simpa using e1
/-- What words hands back, of a list that is known. -/
def WordsLen (ws : List (List UInt8)) (w : World) (e : Ending) (w' : World) : Prop := ∃ a cap, e = .returned (.slice a ws.length cap) ∧ Below w.heap.size w w'
def WordsIs (ws : List (List UInt8)) (w : World) (e : Ending) (w' : World) : Prop :=
  ∃ g cap, e = .returned (.slice (some ⟨g, 0, none⟩) ws.length cap) ∧ ws.length ≤ cap ∧ cap ≤ 9223372036854775807 ∧ g < w'.heap.size ∧ StrsAt w' g 0 ws ∧ Below w.heap.size w w'
theorem words_len {l : List UInt8} {ws : List (List UInt8)} (hw : wordsL l = ws) (hl : l.length ≤ 262144) (w : World) : Calls Tryd.prog 35 #[.string ⟨l.toArray⟩] w (WordsLen ws w) :=
  (wordsR l hl w).mono fun _ _ ⟨v, he, ho, hb⟩ => by
    rw [hw] at ho
    obtain ⟨_, ⟨h1, h2⟩ | ⟨g, cap, cur, hv, _⟩⟩ := ho
    · exact ⟨none, 0, by rw [he, h1, h2], hb⟩
    · exact ⟨_, _, by rw [he, hv], hb⟩
theorem words_is {l : List UInt8} {ws : List (List UInt8)} (hw : wordsL l = ws) (hne : ws ≠ []) (hl : l.length ≤ 262144) (w : World) : Calls Tryd.prog 35 #[.string ⟨l.toArray⟩] w (WordsIs ws w) :=
  (wordsR l hl w).mono fun _ _ ⟨v, he, ho, hb⟩ => by
    rw [hw] at ho
    obtain ⟨g, cap, hv, h1, h2, h3, h4⟩ := own_cells ho hne
    exact ⟨g, cap, by rw [he, hv], h1, h2, h3, h4, hb⟩
theorem movedR_as {ws : List (List UInt8)} {op d x imm : Int} {loc : List UInt8} {r : Bool} (hm : mvR ws = ((op, d, x, imm, loc), r)) (b o cap : Nat) (w : World) (hE : Env w) (hb0 : b < w.heap.size) (h3 : 3 ≤ ws.length) (hcap : ws.length ≤ cap) (hc63 : cap ≤ 9223372036854775807) (hL : ∀ x ∈ ws, x.length ≤ 262144) (hq : StrsAt w b o ws) :
    Calls Tryd.prog 37 #[.slice (some ⟨b, o, none⟩) ws.length cap] w fun e w' => e = .returned (.tuple #[insV op d x 0 imm ⟨loc.toArray⟩ ⟨#[]⟩ 0, .bool r]) ∧ Below w.heap.size w w' := by
  have := movedR b o cap w hE hb0 ws h3 hcap hc63 hL hq
  rw [hm] at this
  exact this
theorem strs_below {w w' : World} {g o : Nat} {ws : List (List UInt8)} (h : StrsAt w g o ws) (hb : Below w.heap.size w w') : StrsAt w' g o ws := fun j hj => cell_go (h j hj) hb
theorem strs_tail {w : World} {g : Nat} {x : List UInt8} {ws : List (List UInt8)} (h : StrsAt w g 0 (x :: ws)) : StrsAt w g 1 ws := fun j hj => by
  have := h (j + 1) (by simp; omega)
  rw [Nat.zero_add] at this
  rw [Nat.add_comm 1 j]
  simpa using this
theorem apart_as {l : List UInt8} {r : Bool} (h : apartB l = r) (hl : l.length ≤ 262144) (w : World) : Calls Tryd.prog 36 #[.string ⟨l.toArray⟩] w fun e w' => e = .returned (.bool r) ∧ w = w' := h ▸ apartR l hl w

set_option maxHeartbeats 400000 in
theorem parseR_long (l : List UInt8) (h : 262144 < l.length) (hl : l.length ≤ 9223372036854775807) (w : World) :
    Calls Tryd.prog 11 #[.string ⟨l.toArray⟩] w fun e w' => e = .returned (prV none) ∧ Below w.heap.size w w' := by
  have h1 : decide ((262144 : Int) < (l.length : Int)) = true := by simp; omega
  go_enter Tryd.func11, Tryd.ntmps11
  go_wp2
  refine bodyPost_ret (v := prV none) ?_ rfl ⟨rfl, ?_⟩
  · simp [results, Tryd.results11, go_sem, prV]
  · exact below_alloc (Below.refl _ _) _

set_option maxHeartbeats 400000 in
theorem parseR_few (l : List UInt8) (hl : l.length ≤ 262144) (ws : List (List UInt8)) (hw : wordsL l = ws) (n : Nat) (hn : ws.length = n) (h1 : n ≠ 1) (h4 : n < 4) (w : World) :
    Calls Tryd.prog 11 #[.string ⟨l.toArray⟩] w fun e w' => e = .returned (prV none) ∧ Below w.heap.size w w' := by
  have g1 : decide ((262144 : Int) < (l.length : Int)) = false := by simp; omega
  have g2 : ((n : Int) == 1) = false := by rw [beq_eq_false_iff_ne]; omega
  have g3 : decide ((n : Int) < 4) = true := by simp; omega
  have HW := Lib.hid hw
  clear hw
  go_enter Tryd.func11, Tryd.ntmps11
  go_wp2_with (go_at_call 35; refine (words_len HW.out hl _).mono ?_; rintro e w1 ⟨a, cap, rfl, hb1⟩; rw [hn]; have hB1 := below_trans (alloc_below w _) hb1; obtain ⟨hc1, hf1⟩ := bcell hb1; have hz1 : w.heap.size < w1.heap.size := Nat.lt_of_lt_of_le (by simp) hb1.size)
  refine bodyPost_ret (v := prV none) ?_ rfl ⟨rfl, ?_⟩
  · simp [results, Tryd.results11, go_sem, prV, hc1]
  · repeat (first | (with_reducible refine Below.setCell ?_ ?_ _; rotate_left 1; exact Nat.le_refl _) | (with_reducible exact hB1))

set_option maxHeartbeats 400000 in
theorem parseR_one_t (l : List UInt8) (hl : l.length ≤ 262144) (x0 : List UInt8) (hw : wordsL l = [x0]) (he : (x0 == [77, 70, 69, 78, 67, 69]) = true) (w : World) :
    Calls Tryd.prog 11 #[.string ⟨l.toArray⟩] w fun e w' => e = .returned (prV (some (5, 0, 0, 0, []))) ∧ Below w.heap.size w w' := by
  have g1 : decide ((262144 : Int) < (l.length : Int)) = false := by simp; omega
  have HW := Lib.hid hw
  clear hw
  go_enter Tryd.func11, Tryd.ntmps11
  go_wp2_with (go_at_call 35; refine (words_is HW.out (by simp) hl _).mono ?_; rintro e w1 ⟨g, cap, rfl, hcap, hc63, hg, hq, hb1⟩; have hB1 := below_trans (alloc_below w _) hb1; obtain ⟨hc1, hf1⟩ := bcell hb1; have hz1 : w.heap.size < w1.heap.size := Nat.lt_of_lt_of_le (by simp) hb1.size; have q0 : w1.cell? ⟨g, 0, none⟩ = some (.string ⟨x0.toArray⟩) := hq 0 (by simp); have HQ := Lib.hid hq; clear hq; simp only [List.length_cons, List.length_nil] at hcap ⊢)
  refine bodyPost_ret (v := prV (some (5, 0, 0, 0, []))) ?_ rfl ⟨rfl, ?_⟩
  · simp [results, Tryd.results11, go_sem, prV, hc1]
  · repeat (first | (with_reducible refine Below.setCell ?_ ?_ _; rotate_left 1; exact Nat.le_refl _) | (with_reducible exact hB1))

set_option maxHeartbeats 400000 in
theorem parseR_one_f (l : List UInt8) (hl : l.length ≤ 262144) (x0 : List UInt8) (hw : wordsL l = [x0]) (he : (x0 == [77, 70, 69, 78, 67, 69]) = false) (w : World) :
    Calls Tryd.prog 11 #[.string ⟨l.toArray⟩] w fun e w' => e = .returned (prV none) ∧ Below w.heap.size w w' := by
  have g1 : decide ((262144 : Int) < (l.length : Int)) = false := by simp; omega
  have HW := Lib.hid hw
  clear hw
  go_enter Tryd.func11, Tryd.ntmps11
  go_wp2_with (go_at_call 35; refine (words_is HW.out (by simp) hl _).mono ?_; rintro e w1 ⟨g, cap, rfl, hcap, hc63, hg, hq, hb1⟩; have hB1 := below_trans (alloc_below w _) hb1; obtain ⟨hc1, hf1⟩ := bcell hb1; have hz1 : w.heap.size < w1.heap.size := Nat.lt_of_lt_of_le (by simp) hb1.size; have q0 : w1.cell? ⟨g, 0, none⟩ = some (.string ⟨x0.toArray⟩) := hq 0 (by simp); have HQ := Lib.hid hq; clear hq; simp only [List.length_cons, List.length_nil] at hcap ⊢)
  refine bodyPost_ret (v := prV none) ?_ rfl ⟨rfl, ?_⟩
  · simp [results, Tryd.results11, go_sem, prV, hc1]
  · repeat (first | (with_reducible refine Below.setCell ?_ ?_ _; rotate_left 1; exact Nat.le_refl _) | (with_reducible exact hB1))

set_option maxRecDepth 100000 in
set_option maxHeartbeats 1000000 in
theorem parseR_nomov (l : List UInt8) (hl : l.length ≤ 262144) (x0 : List UInt8) (ws : List (List UInt8)) (hw : wordsL l = x0 :: ws) (h3 : 3 ≤ ws.length) (he : (x0 == [77, 79, 86]) = false) (w : World) (hE : Env w) :
    Calls Tryd.prog 11 #[.string ⟨l.toArray⟩] w fun e w' => e = .returned (prV none) ∧ Below w.heap.size w w' := by
  have _hE := hE
  have g1 : decide ((262144 : Int) < (l.length : Int)) = false := by simp; omega
  have g2 : ((ws.length : Int) + 1 == 1) = false := by rw [beq_eq_false_iff_ne]; omega
  have g3 : decide ((ws.length : Int) + 1 < 4) = false := by simp; omega
  have g4 : (1 : Int) ≤ (ws.length : Int) + 1 := by omega
  have HW := Lib.hid hw
  have _h3 := h3
  clear hw
  go_enter Tryd.func11, Tryd.ntmps11
  go_wp2_with (first
    | (go_at_call 35; refine (words_is HW.out (by simp) hl _).mono ?_; rintro e w1 ⟨g, cap, rfl, hcap, hc63, hg, hq, hb1⟩; have hB1 := below_trans (alloc_below w _) hb1; obtain ⟨hc1, hf1⟩ := bcell hb1; have hz1 : w.heap.size < w1.heap.size := Nat.lt_of_lt_of_le (by simp) hb1.size; have q0 : w1.cell? ⟨g, 0, none⟩ = some (.string ⟨x0.toArray⟩) := hq 0 (by simp); have HQ := Lib.hid hq; clear hq; simp only [List.length_cons] at hcap ⊢; have hE1 := hE.mono hB1; have c1 : ¬ cap = 1 := (by omega); have c1' : ¬ 1 = cap := (by omega); have c2 : (1 : Int) ≤ (cap : Int) := (by omega); have c3 : ws.length + 1 ≤ cap := hcap))
  refine bodyPost_ret (v := prV none) ?_ rfl ⟨rfl, ?_⟩
  · simp [results, Tryd.results11, go_sem, prV, hc1]
  · repeat (first | (with_reducible refine Below.setCell ?_ ?_ _; rotate_left 1; exact Nat.le_refl _) | (with_reducible refine below_alloc ?_ _) | (with_reducible exact hB1))

set_option maxRecDepth 100000 in
set_option maxHeartbeats 1000000 in
theorem parseR_noapart (l : List UInt8) (hl : l.length ≤ 262144) (x0 : List UInt8) (ws : List (List UInt8)) (hw : wordsL l = x0 :: ws) (h3 : 3 ≤ ws.length) (he : (x0 == [77, 79, 86]) = true) (ha : apartB l = false) (w : World) (hE : Env w) :
    Calls Tryd.prog 11 #[.string ⟨l.toArray⟩] w fun e w' => e = .returned (prV none) ∧ Below w.heap.size w w' := by
  have _hE := hE
  have g1 : decide ((262144 : Int) < (l.length : Int)) = false := by simp; omega
  have g2 : ((ws.length : Int) + 1 == 1) = false := by rw [beq_eq_false_iff_ne]; omega
  have g3 : decide ((ws.length : Int) + 1 < 4) = false := by simp; omega
  have g4 : (1 : Int) ≤ (ws.length : Int) + 1 := by omega
  have HW := Lib.hid hw
  have _h3 := h3
  have HA := Lib.hid ha
  clear ha
  clear hw
  go_enter Tryd.func11, Tryd.ntmps11
  go_wp2_with (first
    | (go_at_call 35; refine (words_is HW.out (by simp) hl _).mono ?_; rintro e w1 ⟨g, cap, rfl, hcap, hc63, hg, hq, hb1⟩; have hB1 := below_trans (alloc_below w _) hb1; obtain ⟨hc1, hf1⟩ := bcell hb1; have hz1 : w.heap.size < w1.heap.size := Nat.lt_of_lt_of_le (by simp) hb1.size; have q0 : w1.cell? ⟨g, 0, none⟩ = some (.string ⟨x0.toArray⟩) := hq 0 (by simp); have HQ := Lib.hid hq; clear hq; simp only [List.length_cons] at hcap ⊢; have hE1 := hE.mono hB1; have c1 : ¬ cap = 1 := (by omega); have c1' : ¬ 1 = cap := (by omega); have c2 : (1 : Int) ≤ (cap : Int) := (by omega); have c3 : ws.length + 1 ≤ cap := hcap)
    | (go_at_call 36; refine (apart_as HA.out hl _).mono ?_; rintro e w2 ⟨rfl, rfl⟩))
  refine bodyPost_ret (v := prV none) ?_ rfl ⟨rfl, ?_⟩
  · simp [results, Tryd.results11, go_sem, prV, hc1]
  · repeat (first | (with_reducible refine Below.setCell ?_ ?_ _; rotate_left 1; exact Nat.le_refl _) | (with_reducible refine below_alloc ?_ _) | (with_reducible exact hB1))

set_option maxRecDepth 100000 in
set_option maxHeartbeats 1000000 in
theorem parseR_nomove (l : List UInt8) (hl : l.length ≤ 262144) (x0 : List UInt8) (ws : List (List UInt8)) (hw : wordsL l = x0 :: ws) (h3 : 3 ≤ ws.length) (he : (x0 == [77, 79, 86]) = true) (ha : apartB l = true) (hL : ∀ x ∈ ws, x.length ≤ 262144) (op d x imm : Int) (loc : List UInt8) (hm : mvR ws = ((op, d, x, imm, loc), false)) (w : World) (hE : Env w) :
    Calls Tryd.prog 11 #[.string ⟨l.toArray⟩] w fun e w' => e = .returned (prV none) ∧ Below w.heap.size w w' := by
  have _hE := hE
  have g1 : decide ((262144 : Int) < (l.length : Int)) = false := by simp; omega
  have g2 : ((ws.length : Int) + 1 == 1) = false := by rw [beq_eq_false_iff_ne]; omega
  have g3 : decide ((ws.length : Int) + 1 < 4) = false := by simp; omega
  have g4 : (1 : Int) ≤ (ws.length : Int) + 1 := by omega
  have HW := Lib.hid hw
  have _h3 := h3
  have HA := Lib.hid ha
  have HL := Lib.hid hL
  have HM := Lib.hid hm
  clear ha hL hm
  clear hw
  go_enter Tryd.func11, Tryd.ntmps11
  go_wp2_with (first
    | (go_at_call 35; refine (words_is HW.out (by simp) hl _).mono ?_; rintro e w1 ⟨g, cap, rfl, hcap, hc63, hg, hq, hb1⟩; have hB1 := below_trans (alloc_below w _) hb1; obtain ⟨hc1, hf1⟩ := bcell hb1; have hz1 : w.heap.size < w1.heap.size := Nat.lt_of_lt_of_le (by simp) hb1.size; have q0 : w1.cell? ⟨g, 0, none⟩ = some (.string ⟨x0.toArray⟩) := hq 0 (by simp); have HQ := Lib.hid hq; clear hq; simp only [List.length_cons] at hcap ⊢; have hE1 := hE.mono hB1; have c1 : ¬ cap = 1 := (by omega); have c1' : ¬ 1 = cap := (by omega); have c2 : (1 : Int) ≤ (cap : Int) := (by omega); have c3 : ws.length + 1 ≤ cap := hcap)
    | (go_at_call 36; refine (apart_as HA.out hl _).mono ?_; rintro e w2 ⟨rfl, rfl⟩)
    | (go_at_call 37; refine (movedR_as HM.out g 1 _ _ hE1 hg h3 (by omega) (by omega) HL.out (strs_tail HQ.out)).mono ?_; rintro e w3 ⟨rfl, hb3⟩; have hB3 := below_trans hB1 hb3; obtain ⟨hc3, hf3⟩ := bcell hb3; have hz3 : w.heap.size < w3.heap.size := Nat.lt_of_lt_of_le hz1 hb3.size))
  refine bodyPost_ret (v := prV none) ?_ rfl ⟨rfl, ?_⟩
  · simp [results, Tryd.results11, go_sem, prV, hc1, hz1, hc3, hz3]
  · repeat (first | (with_reducible refine Below.setCell ?_ ?_ _; rotate_left 1; exact Nat.le_refl _) | (with_reducible refine below_alloc ?_ _) | (with_reducible exact hB3))

set_option maxRecDepth 100000 in
set_option maxHeartbeats 1000000 in
theorem parseR_yes (l : List UInt8) (hl : l.length ≤ 262144) (x0 : List UInt8) (ws : List (List UInt8)) (hw : wordsL l = x0 :: ws) (h3 : 3 ≤ ws.length) (he : (x0 == [77, 79, 86]) = true) (ha : apartB l = true) (hL : ∀ x ∈ ws, x.length ≤ 262144) (op d x imm : Int) (loc : List UInt8) (hm : mvR ws = ((op, d, x, imm, loc), true)) (w : World) (hE : Env w) :
    Calls Tryd.prog 11 #[.string ⟨l.toArray⟩] w fun e w' => e = .returned (prV (some (op, d, x, imm, loc))) ∧ Below w.heap.size w w' := by
  have _hE := hE
  have g1 : decide ((262144 : Int) < (l.length : Int)) = false := by simp; omega
  have g2 : ((ws.length : Int) + 1 == 1) = false := by rw [beq_eq_false_iff_ne]; omega
  have g3 : decide ((ws.length : Int) + 1 < 4) = false := by simp; omega
  have g4 : (1 : Int) ≤ (ws.length : Int) + 1 := by omega
  have HW := Lib.hid hw
  have _h3 := h3
  have HA := Lib.hid ha
  have HL := Lib.hid hL
  have HM := Lib.hid hm
  clear ha hL hm
  clear hw
  go_enter Tryd.func11, Tryd.ntmps11
  go_wp2_with (first
    | (go_at_call 35; refine (words_is HW.out (by simp) hl _).mono ?_; rintro e w1 ⟨g, cap, rfl, hcap, hc63, hg, hq, hb1⟩; have hB1 := below_trans (alloc_below w _) hb1; obtain ⟨hc1, hf1⟩ := bcell hb1; have hz1 : w.heap.size < w1.heap.size := Nat.lt_of_lt_of_le (by simp) hb1.size; have q0 : w1.cell? ⟨g, 0, none⟩ = some (.string ⟨x0.toArray⟩) := hq 0 (by simp); have HQ := Lib.hid hq; clear hq; simp only [List.length_cons] at hcap ⊢; have hE1 := hE.mono hB1; have c1 : ¬ cap = 1 := (by omega); have c1' : ¬ 1 = cap := (by omega); have c2 : (1 : Int) ≤ (cap : Int) := (by omega); have c3 : ws.length + 1 ≤ cap := hcap)
    | (go_at_call 36; refine (apart_as HA.out hl _).mono ?_; rintro e w2 ⟨rfl, rfl⟩)
    | (go_at_call 37; refine (movedR_as HM.out g 1 _ _ hE1 hg h3 (by omega) (by omega) HL.out (strs_tail HQ.out)).mono ?_; rintro e w3 ⟨rfl, hb3⟩; have hB3 := below_trans hB1 hb3; obtain ⟨hc3, hf3⟩ := bcell hb3; have hz3 : w.heap.size < w3.heap.size := Nat.lt_of_lt_of_le hz1 hb3.size))
  refine bodyPost_ret (v := prV (some (op, d, x, imm, loc))) ?_ rfl ⟨rfl, ?_⟩
  · simp [results, Tryd.results11, go_sem, prV, hc1, hz1, hc3, hz3]
  · repeat (first | (with_reducible refine Below.setCell ?_ ?_ _; rotate_left 1; exact Nat.le_refl _) | (with_reducible refine below_alloc ?_ _) | (with_reducible exact hB3))

end Go.Proofs.YtlpcahkchmlghaaDoor
