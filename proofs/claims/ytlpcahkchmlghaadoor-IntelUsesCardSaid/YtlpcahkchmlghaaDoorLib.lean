/- The library's contracts in one form: Trim, ContainsRune at a byte, Cut, HasPrefix, Itoa, Atoi. -/
import Derived.Test.YtlpcahkchmlghaaDoorIc
import Derived.Test.YtlpcahkchmlghaaDoorShelf
import Derived.Lib.AppendIntMem
import Derived.Lib.AtoiErrMem
namespace Go.Proofs.YtlpcahkchmlghaaDoor
open Go.RowKit

def blanksL : List UInt8 := [32, 9, 10, 13]
def blankB (c : UInt8) : Bool := blanksL.contains c
def trimB (l : List UInt8) : List UInt8 := Lib.trimS l blanksL

theorem info116 : (Tryd.prog.info? 86).map (fun i => (i.zero, i.size)) = some (some (.agg (Array.replicate 256 (.bool false))), 256) := by kernel_rfl
theorem blanks_size : (⟨#[32, 9, 10, 13]⟩ : ByteArray).size < 4294967281 := by
  have h : (⟨#[32, 9, 10, 13]⟩ : ByteArray).size = 4 := rfl
  rw [h]; omega
set_option maxRecDepth 100000 in
theorem trim_c (s : ByteArray) (w : World) (hs : s.size ≤ 9223372036854775807) :
    Calls Tryd.prog 30 #[.string s, .string ⟨#[32, 9, 10, 13]⟩] w fun e w' => e = .returned (.string ⟨(trimB s.data.toList).toArray⟩) ∧ Below w.heap.size w w' :=
  Any.strings_Trim_laid Tryd.l160 info116 s ⟨#[32, 9, 10, 13]⟩ w hs blanks_size (ascii_of_all (by decide))

theorem hasPrefix_c (s p : ByteArray) (w : World) : Calls Tryd.prog 31 #[.string s, .string p] w fun e w' => e = .returned (.bool (Lib.hasPrefix s.data.toList p.data.toList)) ∧ w = w' :=
  (Tryd.strings_HasPrefix s p w).mono fun _ _ ⟨h, k⟩ => ⟨h, k.symm⟩

theorem cut_c (s sep : ByteArray) (w : World) (hE : Env w) (hs : s.size < 4294967281) :
    Calls Tryd.prog 33 #[.string s, .string sep] w fun e w' => e = .returned (.tuple #[.string ⟨(Lib.cut s.data.toList sep.data.toList).1.toArray⟩, .string ⟨(Lib.cut s.data.toList sep.data.toList).2.1.toArray⟩, .bool (Lib.cut s.data.toList sep.data.toList).2.2]) ∧ Below w.heap.size w w' := by
  obtain ⟨m, hm⟩ := hE.maxl
  refine (Tryd.strings_Cut s sep m w hs hm).mono fun _ _ ⟨h, n, k⟩ => ⟨h, ?_⟩
  subst k
  exact below_drewN (Below.refl _ _) n

theorem itoa_c (n : Int) (w : World) (hE : Env w) (h0 : -9223372036854775808 ≤ n) (h1 : n ≤ 9223372036854775807) :
    Calls Tryd.prog 38 #[.int .i64 n] w fun e w' => e = .returned (.string ⟨(Lib.itoa n).toArray⟩) ∧ Below w.heap.size w w' := by
  refine (Tryd.strconv_Itoa n h0 h1 w hE.pow).mono fun _ _ ⟨h, k, os, hw⟩ => ⟨h, ?_⟩
  subst hw
  exact Lib.below_grow _ _ (Nat.le_refl _) _ _

def atoiN (l : List UInt8) : Int := match Lib.atoiAll l with
  | .ok v => v
  | .range => Lib.atoiSat l
  | _ => 0
def atoiB (l : List UInt8) : Bool := match Lib.atoiAll l with
  | .ok _ => true
  | _ => false
def AtoiSome (l : List UInt8) (w : World) (e : Ending) (w' : World) : Prop := ∃ t a, e = .returned (.tuple #[.int .i64 (atoiN l), .iface t (.pointer (some a))]) ∧ Below w.heap.size w w'

theorem atoi_yes (s : ByteArray) (w : World) (hs : s.size ≤ 281474976710656) (h : atoiB s.data.toList = true) :
    Calls Tryd.prog 82 #[.string s] w fun e w' => e = .returned (.tuple #[.int .i64 (atoiN s.data.toList), .nilIface]) ∧ Below w.heap.size w w' := by
  have hx : ∃ v, Lib.atoiAll s.data.toList = .ok v := by
    unfold atoiB at h
    rcases e : Lib.atoiAll s.data.toList with v | _ | _
    · exact ⟨v, rfl⟩
    · rw [e] at h; cases h
    · rw [e] at h; cases h
  obtain ⟨v, hv⟩ := hx
  have hn : atoiN s.data.toList = v := by simp [atoiN, hv]
  rw [hn]
  refine (Tryd.strconv_Atoi_ok s (by omega) v hv w).mono fun _ _ ⟨h, hw⟩ => ⟨h, ?_⟩
  rcases hw with rfl | ⟨t, rfl⟩
  · exact Below.refl _ _
  · exact Lib.bytesWorld_below _ _ _
theorem atoi_no (s : ByteArray) (w : World) (hE : Env w) (hs : s.size ≤ 281474976710656) (h : atoiB s.data.toList = false) :
    Calls Tryd.prog 82 #[.string s] w (AtoiSome s.data.toList w) := by
  obtain ⟨tp, p, hv⟩ := hE.esyn
  obtain ⟨tp', p', hv'⟩ := hE.eran
  rcases e : Lib.atoiAll s.data.toList with v | _ | _
  · simp [atoiB, e] at h
  · have hn : atoiN s.data.toList = 0 := by simp [atoiN, e]
    refine (Tryd.strconv_Atoi_syntax_var s hs e tp p w hv).mono fun _ _ ⟨N, h, _, _, hb⟩ => ?_
    exact ⟨_, _, by rw [hn]; exact h, hb⟩
  · have hn : atoiN s.data.toList = Lib.atoiSat s.data.toList := by simp [atoiN, e]
    refine (Tryd.strconv_Atoi_range_var s hs e tp' p' w hv').mono fun _ _ ⟨N, h, _, _, hb⟩ => ?_
    exact ⟨_, _, by rw [hn]; exact h, hb⟩

set_option maxRecDepth 100000 in
theorem indexRune_hi (r : Int) (h0 : 128 ≤ r) (h1 : r ≤ 255) (w : World) :
    Calls Tryd.prog 59 #[.string ⟨#[32, 9, 10, 13]⟩, .int .i32 r] w fun e w' => e = .returned (.int .i64 (-1)) ∧ Below w.heap.size w w' := by
  have he : ∃ a b : UInt8, Utf8.encode r = ⟨#[a, b]⟩ ∧ 128 ≤ (b.toNat : Int) := by
    have hv : Utf8.valid r = true := by simp [Utf8.valid]; omega
    refine ⟨UInt8.ofNat (0xC0 + r.toNat / 64), UInt8.ofNat (0x80 + r.toNat % 64), ?_, ?_⟩
    · unfold Utf8.encode
      simp only [hv, if_true]
      rw [if_neg (by omega), if_pos (by omega)]
    · simp; omega
  obtain ⟨a, b, hab, hb⟩ := he
  have hv : Lib.validRune r = true := by simp [Lib.validRune]; omega
  have h3 : decide (r < 128) = false := by simp; omega
  have h4 : (r == 65533) = false := by rw [beq_eq_false_iff_ne]; omega
  have hb2 : (b.toNat : Int) < 256 := by have := b.toNat_lt; omega
  go_enter Tryd.func59, Tryd.ntmps59
  go_wp2_with (first
    | (go_at_call 78; refine (Tryd.utf8_ValidRune _ _).mono ?_; rintro e w' ⟨rfl, rfl⟩))
  have hb1 : ∀ h, ((⟨#[a, b]⟩ : ByteArray)[1]'h) = b := fun _ => rfl
  have hs1 : ∀ h, ((⟨#[32, 9, 10, 13]⟩ : ByteArray)[1]'h) = 9 := fun _ => rfl
  have hne : ((9 : Int) == (b.toNat : Int)) = false := by rw [beq_eq_false_iff_ne]; omega
  have hne' : ((9 : Int) != (b.toNat : Int)) = true := by rw [bne_iff_ne]; omega
  go_step3
  go_wp2_with fail
  refine wp_loop_rounds 1 ?_
  rw [rounds_succ]
  go_wp2_with fail
  go_step3
  go_wp2_with fail
  go_quiet (fail)
  go_wp2_with fail
  go_quiet ((go_at_call 77; exact quiet_add_same (Tryd.strings_IndexByte _ _ _)))
  have hx : Lib.indexByte [10, 13] b = -1 := by
    have : b ≠ 10 ∧ b ≠ 13 := ⟨fun h => by subst h; simp at hb, fun h => by subst h; simp at hb⟩
    simp [Lib.indexByte, this.1.symm, this.2.symm]
  go_wp2_with fail
  go_simp
  go_ret
  exact ⟨rfl, below_drewN (Below.refl _ _) _⟩

theorem indexByte_hi (c : UInt8) (h : 128 ≤ (c.toNat : Int)) : (decide (0 ≤ Lib.indexByte [32, 9, 10, 13] c)) = false ∧ blankB c = false := by
  have : c ≠ 32 ∧ c ≠ 9 ∧ c ≠ 10 ∧ c ≠ 13 := by
    refine ⟨?_, ?_, ?_, ?_⟩ <;> (intro h'; subst h'; simp at h)
  obtain ⟨a, b, c', d⟩ := this
  constructor
  · simp [Lib.indexByte, a.symm, b.symm, c'.symm, d.symm]
  · simp [blankB, blanksL, a, b, c', d]
theorem indexByte_blank (c : UInt8) : (decide (0 ≤ Lib.indexByte [32, 9, 10, 13] c)) = blankB c := by
  unfold blankB blanksL
  by_cases h1 : c = 32
  · subst h1; decide
  by_cases h2 : c = 9
  · subst h2; decide
  by_cases h3 : c = 10
  · subst h3; decide
  by_cases h4 : c = 13
  · subst h4; decide
  simp [Lib.indexByte, Ne.symm h1, Ne.symm h2, Ne.symm h3, Ne.symm h4, h1, h2, h3, h4]

/-- 'Does a byte stand among the blanks?', asked of the rune of one byte. -/
theorem containsRune_c (c : UInt8) (r : Int) (hr : r = (c.toNat : Int)) (w : World) :
    Calls Tryd.prog 32 #[.string ⟨#[32, 9, 10, 13]⟩, .int .i32 r] w fun e w' => e = .returned (.bool (blankB c)) ∧ Below w.heap.size w w' := by
  subst hr
  have hlt := c.toNat_lt
  by_cases h : 128 ≤ (c.toNat : Int)
  · rw [(indexByte_hi c h).2]
    go_enter Tryd.func32, Tryd.ntmps32
    go_wp2_with (go_at_call 59; refine (indexRune_hi _ h (by omega) _).mono ?_; rintro e w' ⟨rfl, hb⟩)
    go_ret
    exact ⟨rfl, hb⟩
  · refine (Tryd.strings_ContainsRune_ascii _ _ w (by omega) (by omega)).mono fun _ _ ⟨h, k⟩ => ⟨?_, by rw [k]; exact Below.refl _ _⟩
    rw [h]
    refine ret_bool ?_
    have : (c.toNat : Int).toNat.toUInt8 = c := by simp
    rw [this]
    exact indexByte_blank c
end Go.Proofs.YtlpcahkchmlghaaDoor
