/- Layer 10: whether a RISC-V instruction may be: the program's Check. -/
import Derived.Test.YtoegmdnfbemppaaGreatDoorKb18

namespace Go.Proofs.YtoegmdnfbemppaaGreatDoor
open Go.RowKit

section
variable (op d a b imm : Int) (loc label : ByteArray) (fence : Int) (w : World)
set_option maxHeartbeats 800000
theorem chkV_any (d' a' b' imm' : Int) (loc' label' : ByteArray) (fence' : Int) (ok q : Bool) (hq : insQ d' a' b' imm' loc' label' fence' d a b imm loc label fence = q)
    (hf : ∀ w, Calls Tryz.prog 223 #[insV op d a b imm loc label fence] w fun e w' => e = .returned (.tuple #[insV op d' a' b' imm' loc' label' fence', .bool ok]) ∧ Below w.heap.size w w') :
    Calls Tryz.prog 146 #[insV op d a b imm loc label fence] w fun e w' => e = .returned (.int .i64 (chkI (chkOk ok q d a b))) ∧ Below w.heap.size w w' := by
  have HF := Lib.hid hf
  have hne : ∀ w, (binOp .neq 77 (insV op d' a' b' imm' loc' label' fence') (insV op d a b imm loc label fence)).run Tryz.prog w = .ok (.bool (!q)) w := fun w => by rw [neq_ins, hq]
  have HG : ∀ a b c d w, (eqGuard .neq 77 a b (.agg c) (.agg d)).run Tryz.prog w = .ok () w := fun a b c d w => run_eqGuard_agg w .neq _ _ _ _ _ guard_instr
  clear hf hq
  cases ok with
  | false =>
    go_enter Tryz.func146, Tryz.ntmps146
    go_wp2_with fail
    refine (HF.out _).mono ?_
    rintro e w2 ⟨rfl, hb2⟩
    have HB := Lib.hid (((Blk.new w 77 #[.int .i64 op, .int .i64 d, .int .i64 a, .int .i64 b, .int .i64 imm, .string loc, .string label, .int .i64 fence]).go hb2).alloc (.cells #[.int .i64 op, .int .i64 d', .int .i64 a', .int .i64 b', .int .i64 imm', .string loc', .string label', .int .i64 fence'] 77 (0, 0)))
    have c0 := HB.out.cell 0
    have c1 := HB.out.cell 1
    have c2 := HB.out.cell 2
    have c3 := HB.out.cell 3
    have c4 := HB.out.cell 4
    have c5 := HB.out.cell 5
    have c6 := HB.out.cell 6
    have c7 := HB.out.cell 7
    have HX := Lib.hid (below_alloc (below_trans (alloc_b w _) hb2) (.cells #[.int .i64 op, .int .i64 d', .int .i64 a', .int .i64 b', .int .i64 imm', .string loc', .string label', .int .i64 fence'] 77 (0, 0)))
    clear hb2
    go_wp2_with (go_at_call 224; refine (regV _ _).mono ?_; rintro e w' ⟨rfl, rfl⟩)
    go_ret
    exact ⟨ret_int (by simp [chkOk, chkI, *]), HX.out⟩
  | true => cases q with
    | false =>
      simp only [Bool.not_false] at hne
      go_enter Tryz.func146, Tryz.ntmps146
      go_wp2_with fail
      refine (HF.out _).mono ?_
      rintro e w2 ⟨rfl, hb2⟩
      have HB := Lib.hid (((Blk.new w 77 #[.int .i64 op, .int .i64 d, .int .i64 a, .int .i64 b, .int .i64 imm, .string loc, .string label, .int .i64 fence]).go hb2).alloc (.cells #[.int .i64 op, .int .i64 d', .int .i64 a', .int .i64 b', .int .i64 imm', .string loc', .string label', .int .i64 fence'] 77 (0, 0)))
      have c0 := HB.out.cell 0
      have c1 := HB.out.cell 1
      have c2 := HB.out.cell 2
      have c3 := HB.out.cell 3
      have c4 := HB.out.cell 4
      have c5 := HB.out.cell 5
      have c6 := HB.out.cell 6
      have c7 := HB.out.cell 7
      have HX := Lib.hid (below_alloc (below_trans (alloc_b w _) hb2) (.cells #[.int .i64 op, .int .i64 d', .int .i64 a', .int .i64 b', .int .i64 imm', .string loc', .string label', .int .i64 fence'] 77 (0, 0)))
      clear hb2
      go_wp2_with (go_at_call 224; refine (regV _ _).mono ?_; rintro e w' ⟨rfl, rfl⟩)
      go_ret
      exact ⟨ret_int (by simp [chkOk, chkI, *]), HX.out⟩
    | true =>
      obtain hd | hd := regB_or d <;> obtain ha | ha := regB_or a <;> obtain hb | hb := regB_or b
      all_goals
        simp only [Bool.not_true] at hne
        go_enter Tryz.func146, Tryz.ntmps146
        go_wp2_with fail
        refine (HF.out _).mono ?_
        rintro e w2 ⟨rfl, hb2⟩
        have HB := Lib.hid (((Blk.new w 77 #[.int .i64 op, .int .i64 d, .int .i64 a, .int .i64 b, .int .i64 imm, .string loc, .string label, .int .i64 fence]).go hb2).alloc (.cells #[.int .i64 op, .int .i64 d', .int .i64 a', .int .i64 b', .int .i64 imm', .string loc', .string label', .int .i64 fence'] 77 (0, 0)))
        have c0 := HB.out.cell 0
        have c1 := HB.out.cell 1
        have c2 := HB.out.cell 2
        have c3 := HB.out.cell 3
        have c4 := HB.out.cell 4
        have c5 := HB.out.cell 5
        have c6 := HB.out.cell 6
        have c7 := HB.out.cell 7
        have HX := Lib.hid (below_alloc (below_trans (alloc_b w _) hb2) (.cells #[.int .i64 op, .int .i64 d', .int .i64 a', .int .i64 b', .int .i64 imm', .string loc', .string label', .int .i64 fence'] 77 (0, 0)))
        clear hb2
        go_wp2_with (go_at_call 224; refine (regV _ _).mono ?_; rintro e w' ⟨rfl, rfl⟩)
        go_ret
        exact ⟨ret_int (by simp [chkOk, chkI, *]), HX.out⟩
theorem chkVP_6 (hs : label.size ≤ 9223372036854775807) : Calls Tryz.prog 146 #[insV 6 d a b imm loc label fence] w fun e w' => e = .returned (.int .i64 (chkI (vinsB 6 d a b imm loc label fence))) ∧ Below w.heap.size w w' := by
  have _hs := hs
  refine (chkV_any 6 d a b imm loc label fence w d a 0 0 ⟨#[]⟩ ⟨#[]⟩ 0 true _ rfl fun w => fieldsV_6 d a b imm loc label fence w).mono ?_
  rintro e w' ⟨rfl, hb⟩
  exact ⟨ret_int (congrArg chkI (chkOk_6 d a b imm loc label fence)), hb⟩
theorem chkVP_7 (hs : label.size ≤ 9223372036854775807) : Calls Tryz.prog 146 #[insV 7 d a b imm loc label fence] w fun e w' => e = .returned (.int .i64 (chkI (vinsB 7 d a b imm loc label fence))) ∧ Below w.heap.size w w' := by
  have _hs := hs
  refine (chkV_any 7 d a b imm loc label fence w 0 a b 0 ⟨#[]⟩ ⟨#[]⟩ 0 true _ rfl fun w => fieldsV_7 d a b imm loc label fence w).mono ?_
  rintro e w' ⟨rfl, hb⟩
  exact ⟨ret_int (congrArg chkI (chkOk_7 d a b imm loc label fence)), hb⟩
theorem chkVP_8 (hs : label.size ≤ 9223372036854775807) : Calls Tryz.prog 146 #[insV 8 d a b imm loc label fence] w fun e w' => e = .returned (.int .i64 (chkI (vinsB 8 d a b imm loc label fence))) ∧ Below w.heap.size w w' := by
  have _hs := hs
  refine (chkV_any 8 d a b imm loc label fence w d a 0 imm ⟨#[]⟩ ⟨#[]⟩ 0 (decide (-2048 ≤ imm) && decide (imm ≤ 2047)) _ rfl fun w => fieldsV_8 d a b imm loc label fence w).mono ?_
  rintro e w' ⟨rfl, hb⟩
  exact ⟨ret_int (congrArg chkI (chkOk_8 d a b imm loc label fence)), hb⟩
theorem chkVP_9 (hs : label.size ≤ 9223372036854775807) : Calls Tryz.prog 146 #[insV 9 d a b imm loc label fence] w fun e w' => e = .returned (.int .i64 (chkI (vinsB 9 d a b imm loc label fence))) ∧ Below w.heap.size w w' := by
  have _hs := hs
  refine (chkV_any 9 d a b imm loc label fence w d a b 0 ⟨#[]⟩ ⟨#[]⟩ 0 true _ rfl fun w => fieldsV_9 d a b imm loc label fence w).mono ?_
  rintro e w' ⟨rfl, hb⟩
  exact ⟨ret_int (congrArg chkI (chkOk_9 d a b imm loc label fence)), hb⟩
theorem chkVP_10 (hs : label.size ≤ 9223372036854775807) : Calls Tryz.prog 146 #[insV 10 d a b imm loc label fence] w fun e w' => e = .returned (.int .i64 (chkI (vinsB 10 d a b imm loc label fence))) ∧ Below w.heap.size w w' := by
  have _hs := hs
  refine (chkV_any 10 d a b imm loc label fence w d a b 0 ⟨#[]⟩ ⟨#[]⟩ 0 true _ rfl fun w => fieldsV_10 d a b imm loc label fence w).mono ?_
  rintro e w' ⟨rfl, hb⟩
  exact ⟨ret_int (congrArg chkI (chkOk_10 d a b imm loc label fence)), hb⟩
theorem chkVP_11 (hs : label.size ≤ 9223372036854775807) : Calls Tryz.prog 146 #[insV 11 d a b imm loc label fence] w fun e w' => e = .returned (.int .i64 (chkI (vinsB 11 d a b imm loc label fence))) ∧ Below w.heap.size w w' := by
  have _hs := hs
  refine (chkV_any 11 d a b imm loc label fence w 0 a b 0 ⟨#[]⟩ label 0 (nameB label.data.toList) _ rfl fun w => fieldsV_11 d a b imm loc label fence w _ rfl hs).mono ?_
  rintro e w' ⟨rfl, hb⟩
  exact ⟨ret_int (congrArg chkI (chkOk_11 d a b imm loc label fence)), hb⟩
theorem chkVP_12 (hs : label.size ≤ 9223372036854775807) : Calls Tryz.prog 146 #[insV 12 d a b imm loc label fence] w fun e w' => e = .returned (.int .i64 (chkI (vinsB 12 d a b imm loc label fence))) ∧ Below w.heap.size w w' := by
  have _hs := hs
  refine (chkV_any 12 d a b imm loc label fence w 0 0 0 0 ⟨#[]⟩ label 0 (nameB label.data.toList) _ rfl fun w => fieldsV_12 d a b imm loc label fence w _ rfl hs).mono ?_
  rintro e w' ⟨rfl, hb⟩
  exact ⟨ret_int (congrArg chkI (chkOk_12 d a b imm loc label fence)), hb⟩
theorem chkVP_13 (hs : label.size ≤ 9223372036854775807) : Calls Tryz.prog 146 #[insV 13 d a b imm loc label fence] w fun e w' => e = .returned (.int .i64 (chkI (vinsB 13 d a b imm loc label fence))) ∧ Below w.heap.size w w' := by
  have _hs := hs
  refine (chkV_any 13 d a b imm loc label fence w 0 0 0 0 ⟨#[]⟩ ⟨#[]⟩ fence (decide (2 ≤ fence) && decide (fence ≤ 11)) _ rfl fun w => fieldsV_13 d a b imm loc label fence w).mono ?_
  rintro e w' ⟨rfl, hb⟩
  exact ⟨ret_int (congrArg chkI (chkOk_13 d a b imm loc label fence)), hb⟩
theorem chkVP_no (h6 : (op == 6) = false) (h7 : (op == 7) = false) (h8 : (op == 8) = false) (h9 : (op == 9) = false) (h10 : (op == 10) = false) (h11 : (op == 11) = false) (h12 : (op == 12) = false) (h13 : (op == 13) = false) : Calls Tryz.prog 146 #[insV op d a b imm loc label fence] w fun e w' => e = .returned (.int .i64 (chkI (vinsB op d a b imm loc label fence))) ∧ Below w.heap.size w w' := by
  refine (chkV_any op d a b imm loc label fence w 0 0 0 0 ⟨#[]⟩ ⟨#[]⟩ 0 false _ rfl fun w => fieldsV_no d a b imm loc label fence w op h6 h7 h8 h9 h10 h11 h12 h13).mono ?_
  rintro e w' ⟨rfl, hb⟩
  exact ⟨ret_int (congrArg chkI (by simp at h6 h7 h8 h9 h10 h11 h12 h13; simp [chkOk, vinsB, h6, h7, h8, h9, h10, h11, h12, h13])), hb⟩
theorem chkVP (hs : label.size ≤ 9223372036854775807) : Calls Tryz.prog 146 #[insV op d a b imm loc label fence] w fun e w' => e = .returned (.int .i64 (chkI (vinsB op d a b imm loc label fence))) ∧ Below w.heap.size w w' := by
  by_cases h6 : op = 6
  · subst h6; exact chkVP_6 d a b imm loc label fence w hs
  by_cases h7 : op = 7
  · subst h7; exact chkVP_7 d a b imm loc label fence w hs
  by_cases h8 : op = 8
  · subst h8; exact chkVP_8 d a b imm loc label fence w hs
  by_cases h9 : op = 9
  · subst h9; exact chkVP_9 d a b imm loc label fence w hs
  by_cases h10 : op = 10
  · subst h10; exact chkVP_10 d a b imm loc label fence w hs
  by_cases h11 : op = 11
  · subst h11; exact chkVP_11 d a b imm loc label fence w hs
  by_cases h12 : op = 12
  · subst h12; exact chkVP_12 d a b imm loc label fence w hs
  by_cases h13 : op = 13
  · subst h13; exact chkVP_13 d a b imm loc label fence w hs
  exact chkVP_no op d a b imm loc label fence w (by simpa using h6) (by simpa using h7) (by simpa using h8) (by simpa using h9) (by simpa using h10) (by simpa using h11) (by simpa using h12) (by simpa using h13)
end
end Go.Proofs.YtoegmdnfbemppaaGreatDoor
