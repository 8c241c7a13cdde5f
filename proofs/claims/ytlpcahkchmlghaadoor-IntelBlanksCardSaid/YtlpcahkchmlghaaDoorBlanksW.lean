/- IntelBlanks: the walk. -/
import Derived.Test.YtlpcahkchmlghaaDoorKb
import Derived.Deep.RegionHeld3
import Derived.IntWalk
namespace Go.Proofs.YtlpcahkchmlghaaDoor
open Go.RowKit

theorem spr_snoc (u v l : List UInt8) (k : Nat) (hk : k < l.length) (c : UInt8) (hc : l[k] = c) : spr u v (l.take (k + 1)) = spr u v (l.take k) ++ spr1 u v c := by
  rw [List.take_succ_eq_append_getElem hk, spr_append, hc]; simp [spr_cons, spr_nil]
theorem ext_one (l : List UInt8) (k : Nat) (hk : k < l.length) (c : UInt8) (hc : l[k] = c) : (⟨l.toArray⟩ : ByteArray).extract k (k + 1) = ⟨#[c]⟩ := by
  rw [extract_list, drop_cons hk, hc, Nat.add_sub_cancel_left]; rfl
theorem spr1_sp (u v : List UInt8) {c : UInt8} (h : c = 32 ∨ c = 44) : spr1 u v c = u ++ c :: v := by rw [spr1, if_pos h]
theorem spr1_91 (u v : List UInt8) : spr1 u v 91 = 91 :: v := by rw [spr1, if_neg (by decide), if_pos rfl]
theorem spr1_93 (u v : List UInt8) : spr1 u v 93 = u ++ [93] := by rw [spr1, if_neg (by decide), if_neg (by decide), if_pos rfl]
theorem spr1_no (u v : List UInt8) {c : UInt8} (h1 : c ≠ 32) (h2 : c ≠ 44) (h3 : c ≠ 91) (h4 : c ≠ 93) : spr1 u v c = [c] := by simp [spr1, h1, h2, h3, h4]
theorem byte_beq_f {c : UInt8} {k : UInt8} (h : c ≠ k) : ((c.toNat : Int) == (k.toNat : Int)) = false := by
  rw [beq_eq_false_iff_ne]; intro e; exact h (UInt8.toNat_inj.1 (by omega))

theorem parse_at {tb : ByteArray} {x y : List UInt8} {op d a imm : Int} {loc : List UInt8} (ht : tb = ⟨x.toArray⟩) (h : parseP (x ++ y) = some (op, d, a, imm, loc)) (w : World) (hE : Env w) :
    Calls Tryd.prog 10 #[.string (tb ++ ⟨y.toArray⟩)] w fun e w' => e = .returned (.tuple #[insV op d a 0 imm ⟨loc.toArray⟩ ⟨#[]⟩ 0, .int .i64 0]) ∧ Below w.heap.size w w' := by
  have e : tb ++ ⟨y.toArray⟩ = ⟨(x ++ y).toArray⟩ := str_ext (by rw [ba_append, ht])
  rw [e]
  refine parseP_s h ?_ w hE
  have hl : ¬ 262144 < (x ++ y).length := by
    intro hx
    unfold parseP at h
    rw [if_pos hx] at h; cases h
  omega
section
variable (n0 n1 n2 : Int) (w : World) (hE : Env w)
include hE
set_option maxRecDepth 100000
set_option maxHeartbeats 1000000
theorem walkBlanks_n {op d a b imm : Int} {loc label : ByteArray} {fence : Int} (hs : loc.size ≤ 9223372036854775807) (h : insB op d a b imm loc label fence = false) :
    Calls Tryd.prog 5 #[insV op d a b imm loc label fence, .agg #[.int .i64 n0, .int .i64 n1, .int .i64 n2]] w fun e w' => e = .returned (.bool true) ∧ Below w.heap.size w w' := by
  have H := Lib.hid h
  clear h
  go_enter Tryd.func5, Tryd.ntmps5
  go_wp2_with fail
  refine (printP_n H.out _ hs).mono ?_
  rintro e w1 ⟨rfl, hb1⟩
  have hE1 := ((hE.alloc _).alloc _).mono hb1
  have hB1 := below_trans (below_trans (alloc_below _ _) (alloc_below _ _)) hb1
  obtain ⟨hc1, hf1⟩ := bcell hb1
  have z1 : w.heap.size < w1.heap.size := Nat.lt_of_lt_of_le (by simp; omega) hb1.size
  go_wp2_with fail
  refine (checkR_l2 H.out _ hs).mono ?_
  rintro e w2 ⟨rfl, hb2⟩
  have hE2 := hE1.mono hb2
  have hB2 := below_trans hB1 hb2
  go_wp2_with fail
  refine (awake_c _ hE2).mono ?_
  rintro e w7 ⟨rfl, hb7⟩
  go_wp2_with fail
  go_ret
  exact ⟨rfl, below_trans hB2 hb7⟩
theorem walkBlanks_y {op d a imm : Int} {loc : List UInt8} (h : insB op d a 0 imm ⟨loc.toArray⟩ ⟨#[]⟩ 0 = true) :
    Calls Tryd.prog 5 #[insV op d a 0 imm ⟨loc.toArray⟩ ⟨#[]⟩ 0, .agg #[.int .i64 n0, .int .i64 n1, .int .i64 n2]] w fun e w' => e = .returned (.bool true) ∧ Below w.heap.size w w' := by
  have H := Lib.hid h
  have a0 := blkL_all n0
  have a1 := blkL_all n1
  have a2 := blkL_all n2
  have hps := parse_spr h (blkL n0) (blkL n1) (blkL n2) (blkL n1) a0.1 a1.1 a2.1 a1.1 (by have := a0.2; have := a1.2; have := a2.2; omega)
  have HPS := Lib.hid hps
  have hlen := printB_len h
  have HL0 := Lib.hid (spr_len (blkL n1) (blkL n2) 6 (by have := a1.2; have := a2.2; omega))
  have s0 := a0.2
  have s1 := a1.2
  have s2 := a2.2
  have B0 : (blkL n0).length ≤ 3 := s0
  clear h hps a0 a1 a2
  go_enter Tryd.func5, Tryd.ntmps5
  go_wp2_with fail
  refine (printP_l H.out _ ((hE.alloc _).alloc _)).mono ?_
  rintro e w1 ⟨rfl, hb1⟩
  have hE1 := ((hE.alloc _).alloc _).mono hb1
  have hB1 := below_trans (below_trans (alloc_below _ _) (alloc_below _ _)) hb1
  obtain ⟨hc1, hf1⟩ := bcell hb1
  have z1 : w.heap.size < w1.heap.size := Nat.lt_of_lt_of_le (by simp; omega) hb1.size
  have y1 : w.heap.size + 1 < w1.heap.size := Nat.lt_of_lt_of_le (by simp) hb1.size
  go_wp2_with fail
  refine (blanks_c _ _).mono ?_
  rintro e w2 ⟨rfl, hb2⟩
  have hE2 := hE1.mono hb2
  have hB2 := below_trans hB1 hb2
  obtain ⟨hc2, hf2⟩ := bcell hb2
  have z2 : w.heap.size < w2.heap.size := Nat.lt_of_lt_of_le z1 hb2.size
  have y2 : w.heap.size + 1 < w2.heap.size := Nat.lt_of_lt_of_le y1 hb2.size
  have q1 : w2.cell? ⟨w.heap.size + 1, 1, none⟩ = some (.int .i64 n1) := by rw [hc2 _ _ y1, hc1 _ _ (by simp)]; simp [go_sem]
  have q2 : w2.cell? ⟨w.heap.size + 1, 2, none⟩ = some (.int .i64 n2) := by rw [hc2 _ _ y1, hc1 _ _ (by simp)]; simp [go_sem]
  obtain ⟨l, hl⟩ : ∃ l, printB op d a imm loc = l := ⟨_, rfl⟩
  have HL := Lib.hid hl
  rw [hl] at hlen HPS ⊢
  clear hl
  have u3 := s1
  go_wp2
  go_loopw [7, 8] (fun t i wr => ∃ (k : Nat) (tb : ByteArray), k ≤ l.length ∧ i = .int .i64 k ∧ t = .string tb ∧ tb.data.toList = blkL n0 ++ spr (blkL n1) (blkL n2) (l.take k) ∧ Below w2.heap.size w2 wr) (fun _ i _ => l.length - (intOf i).toNat)
  case atStart => exact ⟨0, _, Nat.zero_le _, rfl, rfl, by simp [spr_nil], Below.refl _ _⟩
  case round =>
    obtain ⟨k, tb, hk, rfl, rfl, htb, hbw⟩ := hrel
    have hEr := hE2.mono hbw
    have hBr := below_trans hB2 hbw
    have htl : tb.size ≤ 500 := by
      have h1 := congrArg List.length htb
      have h2 := HL0.out (l.take k)
      rw [str_len, List.length_append] at h1
      have h3 : (l.take k).length ≤ 60 := by rw [List.length_take]; omega
      omega
    have HT := Lib.hid htb
    clear htb
    have r1 : wr.cell? ⟨w.heap.size + 1, 1, none⟩ = some (.int .i64 n1) := by rw [hbw.cell (p := ⟨w.heap.size + 1, 1, none⟩) y2]; exact q1
    have r2 : wr.cell? ⟨w.heap.size + 1, 2, none⟩ = some (.int .i64 n2) := by rw [hbw.cell (p := ⟨w.heap.size + 1, 2, none⟩) y2]; exact q2
    by_cases hlt : k < l.length
    · obtain ⟨c, hc⟩ : ∃ c, l[k] = c := ⟨_, rfl⟩
      have hx : ∀ h, (⟨l.toArray⟩ : ByteArray)[k]'h = c := fun _ => hc
      have hxe := ext_one l k hlt c hc
      have HS := Lib.hid (spr_snoc (blkL n1) (blkL n2) l k hlt c hc)
      have b1 : (k : Int) ≤ (k : Int) + 1 := by omega
      have b2 : (k : Int) + 1 ≤ (l.length : Int) := by omega
      clear hc
      have k0 : ¬ (9223372036854775807 < tb.size + (blkL n1).length) := by omega
      have k1 : ¬ (9223372036854775807 < tb.size + (blkL n1).length + 1) := by omega
      have k2 : ¬ (9223372036854775807 < tb.size + (blkL n1).length + 1 + (blkL n2).length) := by omega
      have k3 : ¬ (9223372036854775807 < tb.size + 1) := by omega
      have k4 : ¬ (9223372036854775807 < tb.size + 1 + (blkL n2).length) := by omega
      have b3 : (0 : Int) ≤ (k : Int) := by omega
      have b4 : (0 : Int) ≤ (k : Int) + 1 := by omega
      have b5 : ((k : Int) + 1).toNat = k + 1 := by omega
      have b6 : IntKind.i64.wrap ((k : Int) + 1) = (k : Int) + 1 := IntWalk.i64_in _ (by omega)
      by_cases c1 : c = 32
      · subst c1
        have HN := Lib.hid (spr1_sp (blkL n1) (blkL n2) (c := 32) (.inl rfl))
        go_wp2
        go_region_held3 (fun x => Below w2.heap.size w2 x ∧ x.cell? ⟨w.heap.size + 1, 1, none⟩ = some (.int .i64 n1) ∧ x.cell? ⟨w.heap.size + 1, 2, none⟩ = some (.int .i64 n2))
          (first
            | (have hh := ‹Below _ _ _ ∧ _›; obtain ⟨g1, g2, g3⟩ := hh; exact ⟨g1.trans (hb'.mono g1.size), cell_go g2 hb', cell_go g3 hb'⟩)
            | (exact ⟨hbw.drew, r1, r2⟩))
          (first | (go_at_call 16; refine (blanks_c _ _).mono ?_; rintro e w' ⟨rfl, hb'⟩))
        have hW := (‹Below _ _ _ ∧ _›).1
        go_wp2
        go_roundw
        case rel => exact ⟨k + 1, _, by omega, by go_num, rfl, by rw [HS.out, HN.out]; simp only [ba_append, HT.out]; simp, hW⟩
        case measure => simp [intOf]; omega
      by_cases c2 : c = 44
      · subst c2
        have HN := Lib.hid (spr1_sp (blkL n1) (blkL n2) (c := 44) (.inr rfl))
        go_wp2
        go_region_held3 (fun x => Below w2.heap.size w2 x ∧ x.cell? ⟨w.heap.size + 1, 1, none⟩ = some (.int .i64 n1) ∧ x.cell? ⟨w.heap.size + 1, 2, none⟩ = some (.int .i64 n2))
          (first
            | (have hh := ‹Below _ _ _ ∧ _›; obtain ⟨g1, g2, g3⟩ := hh; exact ⟨g1.trans (hb'.mono g1.size), cell_go g2 hb', cell_go g3 hb'⟩)
            | (exact ⟨hbw.drew, r1, r2⟩))
          (first | (go_at_call 16; refine (blanks_c _ _).mono ?_; rintro e w' ⟨rfl, hb'⟩))
        have hW := (‹Below _ _ _ ∧ _›).1
        go_wp2
        go_roundw
        case rel => exact ⟨k + 1, _, by omega, by go_num, rfl, by rw [HS.out, HN.out]; simp only [ba_append, HT.out]; simp, hW⟩
        case measure => simp [intOf]; omega
      by_cases c3 : c = 91
      · subst c3
        have HN := Lib.hid (spr1_91 (blkL n1) (blkL n2))
        go_wp2
        go_region_held3 (fun x => Below w2.heap.size w2 x ∧ x.cell? ⟨w.heap.size + 1, 1, none⟩ = some (.int .i64 n1) ∧ x.cell? ⟨w.heap.size + 1, 2, none⟩ = some (.int .i64 n2))
          (first
            | (have hh := ‹Below _ _ _ ∧ _›; obtain ⟨g1, g2, g3⟩ := hh; exact ⟨g1.trans (hb'.mono g1.size), cell_go g2 hb', cell_go g3 hb'⟩)
            | (exact ⟨hbw.drew, r1, r2⟩))
          (first | (go_at_call 16; refine (blanks_c _ _).mono ?_; rintro e w' ⟨rfl, hb'⟩))
        have hW := (‹Below _ _ _ ∧ _›).1
        go_wp2
        go_roundw
        case rel => exact ⟨k + 1, _, by omega, by go_num, rfl, by rw [HS.out, HN.out]; simp only [ba_append, HT.out]; simp, hW⟩
        case measure => simp [intOf]; omega
      by_cases c4 : c = 93
      · subst c4
        have HN := Lib.hid (spr1_93 (blkL n1) (blkL n2))
        go_wp2
        go_region_held3 (fun x => Below w2.heap.size w2 x ∧ x.cell? ⟨w.heap.size + 1, 1, none⟩ = some (.int .i64 n1) ∧ x.cell? ⟨w.heap.size + 1, 2, none⟩ = some (.int .i64 n2))
          (first
            | (have hh := ‹Below _ _ _ ∧ _›; obtain ⟨g1, g2, g3⟩ := hh; exact ⟨g1.trans (hb'.mono g1.size), cell_go g2 hb', cell_go g3 hb'⟩)
            | (exact ⟨hbw.drew, r1, r2⟩))
          (first | (go_at_call 16; refine (blanks_c _ _).mono ?_; rintro e w' ⟨rfl, hb'⟩))
        have hW := (‹Below _ _ _ ∧ _›).1
        go_wp2
        go_roundw
        case rel => exact ⟨k + 1, _, by omega, by go_num, rfl, by rw [HS.out, HN.out]; simp only [ba_append, HT.out]; simp, hW⟩
        case measure => simp [intOf]; omega
      have e1 : ((c.toNat : Int) == 32) = false := byte_beq_f c1
      have e2 : ((c.toNat : Int) == 44) = false := byte_beq_f c2
      have e3 : ((c.toNat : Int) == 91) = false := byte_beq_f c3
      have e4 : ((c.toNat : Int) == 93) = false := byte_beq_f c4
      have HN := Lib.hid (spr1_no (blkL n1) (blkL n2) c1 c2 c3 c4)
      clear c1 c2 c3 c4
      go_wp2
      go_roundw
      case rel => exact ⟨k + 1, _, by omega, by go_num, rfl, by rw [HS.out, HN.out, ba_append, HT.out, List.append_assoc], hbw⟩
      case measure => simp [intOf]; omega
    · have hkl : k = l.length := by omega
      have htk : l.take k = l := by rw [hkl, List.take_length]
      have hfin : tb = ⟨(blkL n0 ++ spr (blkL n1) (blkL n2) l).toArray⟩ := str_ext (by rw [HT.out, htk])
      have HF := Lib.hid hfin
      have k0 : ¬ (9223372036854775807 < tb.size + (blkL n1).length) := by omega
      clear hkl htk hfin
      go_wp2_with fail
      refine (blanks_c _ _).mono ?_
      rintro e w3 ⟨rfl, hb3⟩
      have hE3 := hEr.mono hb3
      have hB3 := below_trans hBr hb3
      obtain ⟨hc3, hf3⟩ := bcell hb3
      have z3 : w.heap.size < w3.heap.size := Nat.lt_of_lt_of_le z2 (Nat.le_trans hbw.size hb3.size)
      go_wp2_with fail
      refine (parse_at HF.out HPS.out _ hE3).mono ?_
      rintro e w4 ⟨rfl, hb4⟩
      have hE4 := hE3.mono hb4
      have hB4 := below_trans hB3 hb4
      obtain ⟨hc4, hf4⟩ := bcell hb4
      obtain ⟨hcr, hfr⟩ := bcell hbw
      have zr : w.heap.size < wr.heap.size := Nat.lt_of_lt_of_le z2 hbw.size
      have z4 : w.heap.size < w4.heap.size := Nat.lt_of_lt_of_le z3 hb4.size
      go_wp2_with fail
      refine (awake_c _ (hE4.alloc _)).mono ?_
      rintro e w5 ⟨rfl, hb5⟩
      go_wp2_with fail
      go_ret
      exact ⟨rfl, below_trans (below_trans hB4 (alloc_below _ _)) hb5⟩
end
theorem walkBlanks (op d a b imm : Int) (loc label : ByteArray) (fence n0 n1 n2 : Int) (hl1 : loc.size ≤ 9223372036854775807) (w : World) (hE : Env w) :
    Calls Tryd.prog 5 #[insV op d a b imm loc label fence, .agg #[.int .i64 n0, .int .i64 n1, .int .i64 n2]] w fun e w' => e = .returned (.bool true) ∧ Below w.heap.size w w' := by
  cases h : insB op d a b imm loc label fence with
  | true =>
    obtain ⟨rfl, rfl, rfl⟩ := insB_std h
    rw [← str_eta loc] at h ⊢
    exact walkBlanks_y n0 n1 n2 w hE h
  | false => exact walkBlanks_n n0 n1 n2 w hE hl1 h
end Go.Proofs.YtlpcahkchmlghaaDoor
