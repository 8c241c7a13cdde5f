/- Layer 10: the closure of Links, and whether some instruction is a label of a name. -/
import Derived.Test.YtjhafgnmahhacaaGreatDoorTe17

namespace Go.Proofs.YtjhafgnmahhacaaGreatDoor
open Go.RowKit
section
abbrev insL (x : Ins) : Value := insV x.op x.d x.a x.b x.imm ⟨x.loc.toArray⟩ ⟨x.label.toArray⟩ x.fence
/-- The cells of an instruction at o of a block. -/
structure InsC (w : World) (b o : Nat) (x : Ins) : Prop where
  c0 : w.cell? ⟨b, o, none⟩ = some (.int .i64 x.op)
  c1 : w.cell? ⟨b, o + 1, none⟩ = some (.int .i64 x.d)
  c2 : w.cell? ⟨b, o + 2, none⟩ = some (.int .i64 x.a)
  c3 : w.cell? ⟨b, o + 3, none⟩ = some (.int .i64 x.b)
  c4 : w.cell? ⟨b, o + 4, none⟩ = some (.int .i64 x.imm)
  c5 : w.cell? ⟨b, o + 5, none⟩ = some (.string ⟨x.loc.toArray⟩)
  c6 : w.cell? ⟨b, o + 6, none⟩ = some (.string ⟨x.label.toArray⟩)
  c7 : w.cell? ⟨b, o + 7, none⟩ = some (.int .i64 x.fence)
  l1 : x.loc.length ≤ 9223372036854775807
  l2 : x.label.length ≤ 9223372036854775807
theorem InsAt.at_ {w : World} {A : Option Addr} {c : List Ins} (h : InsAt w A c) {i : Nat} {x : Ins} (hx : c[i]? = some x) : ∃ b o, A = some ⟨b, o, none⟩ ∧ InsC w b (o + i * 8) x := by
  obtain ⟨b, o, e, h0, h1, h2, h3, h4, h5, h6, h7, h8, h9⟩ := h i x hx
  exact ⟨b, o, e, h0, h1, h2, h3, h4, h5, h6, h7, h8, h9⟩
theorem InsC.go {w w' : World} {b o : Nat} {x : Ins} (h : InsC w b o x) (hb : Below w.heap.size w w') : InsC w' b o x :=
  ⟨cell_go h.c0 hb, cell_go h.c1 hb, cell_go h.c2 hb, cell_go h.c3 hb, cell_go h.c4 hb, cell_go h.c5 hb, cell_go h.c6 hb, cell_go h.c7 hb, h.l1, h.l2⟩
theorem InsC.lt {w : World} {b o : Nat} {x : Ins} (h : InsC w b o x) : b < w.heap.size := World.block_lt_of_cell? w _ h.c0
theorem InsAt.drop {w : World} {b o : Nat} {c : List Ins} (h : InsAt w (some ⟨b, o, none⟩) c) (j : Nat) : InsAt w (some ⟨b, o + j * 8, none⟩) (c.drop j) := by
  intro i x hx
  rw [List.getElem?_drop] at hx
  obtain ⟨b', o', e, hr⟩ := h (j + i) x hx
  simp only [Option.some.injEq, Addr.mk.injEq, and_true] at e
  obtain ⟨rfl, rfl⟩ := e
  refine ⟨b, o + j * 8, rfl, ?_⟩
  rw [show o + j * 8 + i * 8 = o + (j + i) * 8 by omega]
  exact hr
theorem InsAt.nil (w : World) (A : Option Addr) : InsAt w A [] := fun i x h => by simp at h
section
set_option maxHeartbeats 2000000
set_option maxRecDepth 100000
theorem labP (x : Ins) (s : List UInt8) (p : Nat) (w : World) (hp : w.cell? ⟨p, 6, none⟩ = some (.string ⟨s.toArray⟩)) :
    Calls Tryz.prog 239 #[insL x, .pointer (some ⟨p, 0, none⟩)] w fun e w' => e = .returned (.bool (labB s x)) ∧ Below w.heap.size w w' := by
  obtain ⟨op, d, a, b, imm, loc, label, fence⟩ := x
  simp only [insL]
  have hp' := cell_al hp (.cells #[.int .i64 op, .int .i64 d, .int .i64 a, .int .i64 b, .int .i64 imm, .string ⟨loc.toArray⟩, .string ⟨label.toArray⟩, .int .i64 fence] 70 (0, 0))
  have HB := Lib.hid (alloc_b w (.cells #[.int .i64 op, .int .i64 d, .int .i64 a, .int .i64 b, .int .i64 imm, .string ⟨loc.toArray⟩, .string ⟨label.toArray⟩, .int .i64 fence] 70 (0, 0)))
  clear hp
  by_cases h1 : op = 12
  · by_cases h2 : label = s
    · have e1 : labB s ⟨op, d, a, b, imm, loc, label, fence⟩ = true := by simp [labB, h1, h2]
      rw [e1]
      subst h2 h1
      go_enter Tryz.func239, Tryz.ntmps239
      go_wp2_with fail
      go_ret
      exact ⟨rfl, HB.out⟩
    · have e1 : labB s ⟨op, d, a, b, imm, loc, label, fence⟩ = false := by simp [labB, h2]
      have e2 : (label == s) = false := by simpa using h2
      rw [e1]
      subst h1
      clear h2 e1
      go_enter Tryz.func239, Tryz.ntmps239
      go_wp2_with fail
      go_ret
      exact ⟨rfl, HB.out⟩
  · have e1 : labB s ⟨op, d, a, b, imm, loc, label, fence⟩ = false := by simp [labB, h1]
    have e2 : (op == 12) = false := by simpa using h1
    rw [e1]
    clear h1 e1
    go_enter Tryz.func239, Tryz.ntmps239
    go_wp2_with fail
    go_ret
    exact ⟨rfl, HB.out⟩
def LabIdx (b : Bool) (w : World) (e : Ending) (w' : World) : Prop := ∃ i : Int, e = .returned (.int .i64 i) ∧ decide (0 ≤ i) = b ∧ Below w.heap.size w w'
theorem anyI_step {c : List Ins} {j : Nat} {x : Ins} (h : c[j]? = some x) (p : Ins → Bool) : (c.take (j + 1)).any p = ((c.take j).any p || p x) := by
  obtain ⟨h1, rfl⟩ := List.getElem?_eq_some_iff.1 h
  rw [List.take_succ_eq_append_getElem h1, List.any_append]
  simp
theorem anyI_at {c : List Ins} {j : Nat} {x : Ins} (h : c[j]? = some x) (p : Ins → Bool) (hp : p x = true) : c.any p = true := by
  obtain ⟨h1, rfl⟩ := List.getElem?_eq_some_iff.1 h
  exact List.any_eq_true.2 ⟨_, List.getElem_mem h1, hp⟩
theorem idxLab (c : List Ins) (A : Option Addr) (cap : Nat) (s : List UInt8) (p : Nat) (w : World) (hlen : c.length ≤ 9223372036854775806) (hA : InsAt w A c) (hp : w.cell? ⟨p, 6, none⟩ = some (.string ⟨s.toArray⟩)) :
    Calls Tryz.prog 289 #[.slice A c.length cap, .func (.func 239) #[] #[.pointer (some ⟨p, 0, none⟩)]] w (LabIdx (c.any (labB s)) w) := by
  have HA := Lib.hid hA
  have HP := Lib.hid hp
  obtain ⟨q, hq⟩ : ∃ q, c.any (labB s) = q := ⟨_, rfl⟩
  have HQ := Lib.hid hq
  rw [hq]
  clear hA hp hq
  go_enter Tryz.func289, Tryz.ntmps289
  go_wp2_with fail
  go_loopw [8] (fun i wr => ∃ j : Nat, j ≤ c.length ∧ i = .int .i64 j ∧ (c.take j).any (labB s) = false ∧ Below w.heap.size w wr) (fun i _ => c.length - (intOf i).toNat)
  case atStart => exact ⟨0, Nat.zero_le _, rfl, by simp, Below.refl _ _⟩
  case round =>
    obtain ⟨j, hj, rfl, hno, hbr⟩ := hrel
    have HNO := Lib.hid hno
    have HBR := Lib.hid hbr
    have hzr := hbr.size
    clear hno hbr
    by_cases hlt : j < c.length
    · have ex := List.getElem?_eq_getElem hlt
      obtain ⟨x, hx⟩ : ∃ x, c[j] = x := ⟨_, rfl⟩
      rw [hx] at ex
      obtain ⟨b, o, rfl, hC⟩ := HA.out.at_ ex
      obtain ⟨c0, c1, c2, c3, c4, c5, c6, c7, l1, l2⟩ := hC.go HBR.out
      have HX := Lib.hid ex
      have hpr := cell_go HP.out HBR.out
      have HPR := Lib.hid hpr
      obtain ⟨r, hr⟩ : ∃ r, labB s x = r := ⟨_, rfl⟩
      have HR := Lib.hid hr
      clear hx ex hC hpr hr
      cases r
      all_goals
        go_wp2_with (go_at_call 239; refine (labP x s p wr HPR.out).mono ?_; rw [HR.out]; rintro e w2 ⟨rfl, hb2⟩)
        first
          | (go_roundw
             case rel => exact ⟨j + 1, by omega, by go_num, by rw [anyI_step HX.out, HNO.out, HR.out]; rfl, below_trans HBR.out hb2⟩
             case measure => simp [intOf]; omega)
          | (go_ret; exact ⟨j, rfl, by rw [← HQ.out, anyI_at HX.out (labB s) HR.out]; simp, below_trans HBR.out hb2⟩)
    · have HFIN := Lib.hid (show c.any (labB s) = false by have := HNO.out; rwa [List.take_of_length_le (by omega)] at this)
      go_wp2_with fail
      go_ret
      exact ⟨-1, rfl, by rw [← HQ.out, HFIN.out]; rfl, HBR.out⟩
theorem conLab (c : List Ins) (A : Option Addr) (cap : Nat) (s : List UInt8) (p : Nat) (w : World) (hlen : c.length ≤ 9223372036854775806) (hA : InsAt w A c) (hp : w.cell? ⟨p, 6, none⟩ = some (.string ⟨s.toArray⟩)) :
    Calls Tryz.prog 238 #[.slice A c.length cap, .func (.func 239) #[] #[.pointer (some ⟨p, 0, none⟩)]] w fun e w' => e = .returned (.bool (c.any (labB s))) ∧ Below w.heap.size w w' := by
  have HC := Lib.hid (idxLab c A cap s p w hlen hA hp)
  obtain ⟨q, hq⟩ : ∃ q, c.any (labB s) = q := ⟨_, rfl⟩
  rw [hq] at HC ⊢
  clear hA hp hq
  go_enter Tryz.func238, Tryz.ntmps238
  go_wp2_with (go_at_call 289; refine HC.out.mono ?_; rintro e w2 ⟨i, rfl, hci, hb2⟩; have HCI := Lib.hid hci; clear hci)
  go_ret
  exact ⟨ret_bool HCI.out, hb2⟩
end
end
section
variable (op d a b imm : Int) (loc label : ByteArray) (fence : Int) (w : World)
set_option maxHeartbeats 800000
theorem chkV_any (d' a' b' imm' : Int) (loc' label' : ByteArray) (fence' : Int) (ok q : Bool) (hq : insQ d' a' b' imm' loc' label' fence' d a b imm loc label fence = q)
    (hf : ∀ w, Calls Tryz.prog 262 #[insV op d a b imm loc label fence] w fun e w' => e = .returned (.tuple #[insV op d' a' b' imm' loc' label' fence', .bool ok]) ∧ Below w.heap.size w w') :
    Calls Tryz.prog 194 #[insV op d a b imm loc label fence] w fun e w' => e = .returned (.int .i64 (chkI (chkOk ok q d a b))) ∧ Below w.heap.size w w' := by
  have HF := Lib.hid hf
  have hne : ∀ w, (binOp .neq 70 (insV op d' a' b' imm' loc' label' fence') (insV op d a b imm loc label fence)).run Tryz.prog w = .ok (.bool (!q)) w := fun w => by rw [neq_ins, hq]
  have HG : ∀ a b c d w, (eqGuard .neq 70 a b (.agg c) (.agg d)).run Tryz.prog w = .ok () w := fun a b c d w => run_eqGuard_agg w .neq _ _ _ _ _ guard_instr
  clear hf hq
  cases ok with
  | false =>
    go_enter Tryz.func194, Tryz.ntmps194
    go_wp2_with fail
    refine (HF.out _).mono ?_
    rintro e w2 ⟨rfl, hb2⟩
    have HB := Lib.hid (((Blk.new w 70 #[.int .i64 op, .int .i64 d, .int .i64 a, .int .i64 b, .int .i64 imm, .string loc, .string label, .int .i64 fence]).go hb2).alloc (.cells #[.int .i64 op, .int .i64 d', .int .i64 a', .int .i64 b', .int .i64 imm', .string loc', .string label', .int .i64 fence'] 70 (0, 0)))
    have c0 := HB.out.cell 0
    have c1 := HB.out.cell 1
    have c2 := HB.out.cell 2
    have c3 := HB.out.cell 3
    have c4 := HB.out.cell 4
    have c5 := HB.out.cell 5
    have c6 := HB.out.cell 6
    have c7 := HB.out.cell 7
    have HX := Lib.hid (below_alloc (below_trans (alloc_b w _) hb2) (.cells #[.int .i64 op, .int .i64 d', .int .i64 a', .int .i64 b', .int .i64 imm', .string loc', .string label', .int .i64 fence'] 70 (0, 0)))
    clear hb2
    go_wp2_with (go_at_call 263; refine (regV _ _).mono ?_; rintro e w' ⟨rfl, rfl⟩)
    go_ret
    exact ⟨ret_int (by simp [chkOk, chkI, *]), HX.out⟩
  | true => cases q with
    | false =>
      simp only [Bool.not_false] at hne
      go_enter Tryz.func194, Tryz.ntmps194
      go_wp2_with fail
      refine (HF.out _).mono ?_
      rintro e w2 ⟨rfl, hb2⟩
      have HB := Lib.hid (((Blk.new w 70 #[.int .i64 op, .int .i64 d, .int .i64 a, .int .i64 b, .int .i64 imm, .string loc, .string label, .int .i64 fence]).go hb2).alloc (.cells #[.int .i64 op, .int .i64 d', .int .i64 a', .int .i64 b', .int .i64 imm', .string loc', .string label', .int .i64 fence'] 70 (0, 0)))
      have c0 := HB.out.cell 0
      have c1 := HB.out.cell 1
      have c2 := HB.out.cell 2
      have c3 := HB.out.cell 3
      have c4 := HB.out.cell 4
      have c5 := HB.out.cell 5
      have c6 := HB.out.cell 6
      have c7 := HB.out.cell 7
      have HX := Lib.hid (below_alloc (below_trans (alloc_b w _) hb2) (.cells #[.int .i64 op, .int .i64 d', .int .i64 a', .int .i64 b', .int .i64 imm', .string loc', .string label', .int .i64 fence'] 70 (0, 0)))
      clear hb2
      go_wp2_with (go_at_call 263; refine (regV _ _).mono ?_; rintro e w' ⟨rfl, rfl⟩)
      go_ret
      exact ⟨ret_int (by simp [chkOk, chkI, *]), HX.out⟩
    | true =>
      obtain hd | hd := regB_or d <;> obtain ha | ha := regB_or a <;> obtain hb | hb := regB_or b
      all_goals
        simp only [Bool.not_true] at hne
        go_enter Tryz.func194, Tryz.ntmps194
        go_wp2_with fail
        refine (HF.out _).mono ?_
        rintro e w2 ⟨rfl, hb2⟩
        have HB := Lib.hid (((Blk.new w 70 #[.int .i64 op, .int .i64 d, .int .i64 a, .int .i64 b, .int .i64 imm, .string loc, .string label, .int .i64 fence]).go hb2).alloc (.cells #[.int .i64 op, .int .i64 d', .int .i64 a', .int .i64 b', .int .i64 imm', .string loc', .string label', .int .i64 fence'] 70 (0, 0)))
        have c0 := HB.out.cell 0
        have c1 := HB.out.cell 1
        have c2 := HB.out.cell 2
        have c3 := HB.out.cell 3
        have c4 := HB.out.cell 4
        have c5 := HB.out.cell 5
        have c6 := HB.out.cell 6
        have c7 := HB.out.cell 7
        have HX := Lib.hid (below_alloc (below_trans (alloc_b w _) hb2) (.cells #[.int .i64 op, .int .i64 d', .int .i64 a', .int .i64 b', .int .i64 imm', .string loc', .string label', .int .i64 fence'] 70 (0, 0)))
        clear hb2
        go_wp2_with (go_at_call 263; refine (regV _ _).mono ?_; rintro e w' ⟨rfl, rfl⟩)
        go_ret
        exact ⟨ret_int (by simp [chkOk, chkI, *]), HX.out⟩
theorem chkVP_6 (hs : label.size ≤ 9223372036854775807) : Calls Tryz.prog 194 #[insV 6 d a b imm loc label fence] w fun e w' => e = .returned (.int .i64 (chkI (vinsB 6 d a b imm loc label fence))) ∧ Below w.heap.size w w' := by
  have _hs := hs
  refine (chkV_any 6 d a b imm loc label fence w d a 0 0 ⟨#[]⟩ ⟨#[]⟩ 0 true _ rfl fun w => fieldsV_6 d a b imm loc label fence w).mono ?_
  rintro e w' ⟨rfl, hb⟩
  exact ⟨ret_int (congrArg chkI (chkOk_6 d a b imm loc label fence)), hb⟩
theorem chkVP_7 (hs : label.size ≤ 9223372036854775807) : Calls Tryz.prog 194 #[insV 7 d a b imm loc label fence] w fun e w' => e = .returned (.int .i64 (chkI (vinsB 7 d a b imm loc label fence))) ∧ Below w.heap.size w w' := by
  have _hs := hs
  refine (chkV_any 7 d a b imm loc label fence w 0 a b 0 ⟨#[]⟩ ⟨#[]⟩ 0 true _ rfl fun w => fieldsV_7 d a b imm loc label fence w).mono ?_
  rintro e w' ⟨rfl, hb⟩
  exact ⟨ret_int (congrArg chkI (chkOk_7 d a b imm loc label fence)), hb⟩
theorem chkVP_8 (hs : label.size ≤ 9223372036854775807) : Calls Tryz.prog 194 #[insV 8 d a b imm loc label fence] w fun e w' => e = .returned (.int .i64 (chkI (vinsB 8 d a b imm loc label fence))) ∧ Below w.heap.size w w' := by
  have _hs := hs
  refine (chkV_any 8 d a b imm loc label fence w d a 0 imm ⟨#[]⟩ ⟨#[]⟩ 0 (decide (-2048 ≤ imm) && decide (imm ≤ 2047)) _ rfl fun w => fieldsV_8 d a b imm loc label fence w).mono ?_
  rintro e w' ⟨rfl, hb⟩
  exact ⟨ret_int (congrArg chkI (chkOk_8 d a b imm loc label fence)), hb⟩
theorem chkVP_9 (hs : label.size ≤ 9223372036854775807) : Calls Tryz.prog 194 #[insV 9 d a b imm loc label fence] w fun e w' => e = .returned (.int .i64 (chkI (vinsB 9 d a b imm loc label fence))) ∧ Below w.heap.size w w' := by
  have _hs := hs
  refine (chkV_any 9 d a b imm loc label fence w d a b 0 ⟨#[]⟩ ⟨#[]⟩ 0 true _ rfl fun w => fieldsV_9 d a b imm loc label fence w).mono ?_
  rintro e w' ⟨rfl, hb⟩
  exact ⟨ret_int (congrArg chkI (chkOk_9 d a b imm loc label fence)), hb⟩
theorem chkVP_10 (hs : label.size ≤ 9223372036854775807) : Calls Tryz.prog 194 #[insV 10 d a b imm loc label fence] w fun e w' => e = .returned (.int .i64 (chkI (vinsB 10 d a b imm loc label fence))) ∧ Below w.heap.size w w' := by
  have _hs := hs
  refine (chkV_any 10 d a b imm loc label fence w d a b 0 ⟨#[]⟩ ⟨#[]⟩ 0 true _ rfl fun w => fieldsV_10 d a b imm loc label fence w).mono ?_
  rintro e w' ⟨rfl, hb⟩
  exact ⟨ret_int (congrArg chkI (chkOk_10 d a b imm loc label fence)), hb⟩
theorem chkVP_11 (hs : label.size ≤ 9223372036854775807) : Calls Tryz.prog 194 #[insV 11 d a b imm loc label fence] w fun e w' => e = .returned (.int .i64 (chkI (vinsB 11 d a b imm loc label fence))) ∧ Below w.heap.size w w' := by
  have _hs := hs
  refine (chkV_any 11 d a b imm loc label fence w 0 a b 0 ⟨#[]⟩ label 0 (nameB label.data.toList) _ rfl fun w => fieldsV_11 d a b imm loc label fence w _ rfl hs).mono ?_
  rintro e w' ⟨rfl, hb⟩
  exact ⟨ret_int (congrArg chkI (chkOk_11 d a b imm loc label fence)), hb⟩
theorem chkVP_12 (hs : label.size ≤ 9223372036854775807) : Calls Tryz.prog 194 #[insV 12 d a b imm loc label fence] w fun e w' => e = .returned (.int .i64 (chkI (vinsB 12 d a b imm loc label fence))) ∧ Below w.heap.size w w' := by
  have _hs := hs
  refine (chkV_any 12 d a b imm loc label fence w 0 0 0 0 ⟨#[]⟩ label 0 (nameB label.data.toList) _ rfl fun w => fieldsV_12 d a b imm loc label fence w _ rfl hs).mono ?_
  rintro e w' ⟨rfl, hb⟩
  exact ⟨ret_int (congrArg chkI (chkOk_12 d a b imm loc label fence)), hb⟩
theorem chkVP_13 (hs : label.size ≤ 9223372036854775807) : Calls Tryz.prog 194 #[insV 13 d a b imm loc label fence] w fun e w' => e = .returned (.int .i64 (chkI (vinsB 13 d a b imm loc label fence))) ∧ Below w.heap.size w w' := by
  have _hs := hs
  refine (chkV_any 13 d a b imm loc label fence w 0 0 0 0 ⟨#[]⟩ ⟨#[]⟩ fence (decide (2 ≤ fence) && decide (fence ≤ 11)) _ rfl fun w => fieldsV_13 d a b imm loc label fence w).mono ?_
  rintro e w' ⟨rfl, hb⟩
  exact ⟨ret_int (congrArg chkI (chkOk_13 d a b imm loc label fence)), hb⟩
theorem chkVP_no (h6 : (op == 6) = false) (h7 : (op == 7) = false) (h8 : (op == 8) = false) (h9 : (op == 9) = false) (h10 : (op == 10) = false) (h11 : (op == 11) = false) (h12 : (op == 12) = false) (h13 : (op == 13) = false) : Calls Tryz.prog 194 #[insV op d a b imm loc label fence] w fun e w' => e = .returned (.int .i64 (chkI (vinsB op d a b imm loc label fence))) ∧ Below w.heap.size w w' := by
  refine (chkV_any op d a b imm loc label fence w 0 0 0 0 ⟨#[]⟩ ⟨#[]⟩ 0 false _ rfl fun w => fieldsV_no d a b imm loc label fence w op h6 h7 h8 h9 h10 h11 h12 h13).mono ?_
  rintro e w' ⟨rfl, hb⟩
  exact ⟨ret_int (congrArg chkI (by simp at h6 h7 h8 h9 h10 h11 h12 h13; simp [chkOk, vinsB, h6, h7, h8, h9, h10, h11, h12, h13])), hb⟩
theorem chkVP (hs : label.size ≤ 9223372036854775807) : Calls Tryz.prog 194 #[insV op d a b imm loc label fence] w fun e w' => e = .returned (.int .i64 (chkI (vinsB op d a b imm loc label fence))) ∧ Below w.heap.size w w' := by
  by_cases h6 : op = 6
  · subst h6; exact chkVP_6 d a b imm loc label fence w hs
  by_cases h7 : op = 7
  · subst h7; exact chkVP_7 d a b imm loc label fence w hs
  by_cases h8 : op = 8
  · subst h8; exact chkVP_8 d a b imm loc label fence w hs
  by_cases h9 : op = 9
  · subst h9; exact chkVP_9 d a b imm loc label fence w hs
  by_cases h10 : op = 10
  · subst h10; exact chkVP_10 d a b imm loc label fence w hs
  by_cases h11 : op = 11
  · subst h11; exact chkVP_11 d a b imm loc label fence w hs
  by_cases h12 : op = 12
  · subst h12; exact chkVP_12 d a b imm loc label fence w hs
  by_cases h13 : op = 13
  · subst h13; exact chkVP_13 d a b imm loc label fence w hs
  exact chkVP_no op d a b imm loc label fence w (by simpa using h6) (by simpa using h7) (by simpa using h8) (by simpa using h9) (by simpa using h10) (by simpa using h11) (by simpa using h12) (by simpa using h13)
end
end Go.Proofs.YtjhafgnmahhacaaGreatDoor
