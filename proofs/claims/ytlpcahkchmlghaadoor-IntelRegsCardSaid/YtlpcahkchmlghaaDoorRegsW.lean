/- IntelRegs: the walk. -/
import Derived.Test.YtlpcahkchmlghaaDoorIv
namespace Go.Proofs.YtlpcahkchmlghaaDoor
open Go.RowKit

theorem regRR_ok (k : Nat) (hk : k < 15) (w : World) : Calls Tryd.prog 18 #[.int .i64 k] w fun e w' => e = .returned (.tuple #[.string ⟨(regN k).toArray⟩, .int .i64 0]) ∧ Below w.heap.size w w' := by
  have h1 : decide ((k : Int) < 0) = false := by simp
  have h2 : decide ((15 : Int) ≤ (k : Int)) = false := by simp; omega
  have hk0 : (0 : Int) ≤ (k : Int) := by omega
  have hk1 : (k : Int) < 15 := by omega
  go_enter Tryd.func18, Tryd.ntmps18
  go_wp2_with (go_at_call 45; refine (names_at k hk _).mono ?_; rintro e w2 ⟨rfl, hb, hcn⟩)
  go_ret2
  exact ⟨rfl, hb⟩
theorem regRR_no (n : Int) (hn : regB n = false) (w : World) : Calls Tryd.prog 18 #[.int .i64 n] w fun e w' => e = .returned (.tuple #[.string ⟨#[]⟩, .int .i64 90]) ∧ w = w' := by
  unfold regB at hn
  rw [Bool.and_eq_false_iff] at hn
  simp at hn
  have hn' : n < 0 ∨ 15 ≤ n := hn
  clear hn
  go_enter Tryd.func18, Tryd.ntmps18
  go_wp2
  all_goals (go_ret2; exact ⟨rfl, rfl⟩)
theorem regOf_regN : ∀ k, k < 15 → regOf (regN k) = some k := by
  have : ∀ k : Fin 15, regOf (regN k.val) = some k.val := by decide +kernel
  exact fun k hk => this ⟨k, hk⟩
/-- What RegOf answers, as numbers. -/
theorem regOfV_any (l : List UInt8) : ∃ a b : Int, regOfV l = .tuple #[.int .i64 a, .int .i64 b] := by
  unfold regOfV
  cases regOf l with
  | none => exact ⟨_, _, rfl⟩
  | some k => exact ⟨_, _, rfl⟩
theorem regOfP_as {l : List UInt8} {a b : Int} (h : regOfV l = .tuple #[.int .i64 a, .int .i64 b]) (w : World) (hE : Env w) : Calls Tryd.prog 19 #[.string ⟨l.toArray⟩] w fun e w' => e = .returned (.tuple #[.int .i64 a, .int .i64 b]) ∧ w = w' := by
  have := regOfP ⟨l.toArray⟩ w hE
  rw [str_mk, h] at this; exact this
theorem regOfR_as {l : List UInt8} {a b : Int} (h : regOfV l = .tuple #[.int .i64 a, .int .i64 b]) (w : World) : Calls Tryd.prog 20 #[.string ⟨l.toArray⟩] w fun e w' => e = .returned (.tuple #[.int .i64 a, .int .i64 b]) ∧ Below w.heap.size w w' := by
  have := regOfR ⟨l.toArray⟩ w
  rw [str_mk, h] at this; exact this

set_option maxRecDepth 100000 in
set_option maxHeartbeats 1000000 in
theorem walkRegs_ok (k : Nat) (hk : k < 15) (l : List UInt8) (w : World) (hE : Env w) : Calls Tryd.prog 6 #[.int .i64 k, .string ⟨l.toArray⟩] w fun e w' => e = .returned (.bool true) ∧ Below w.heap.size w w' := by
  obtain ⟨a, b, hv⟩ := regOfV_any l
  have HV := Lib.hid hv
  have HR := Lib.hid (regOf_regN k hk)
  have tokA : True := trivial
  clear hv
  go_enter Tryd.func6, Tryd.ntmps6
  go_wp2_with (first
    | (go_at_call 17; refine (reg_ok k hk _ hE).mono ?_; rintro e w1 ⟨rfl, rfl⟩)
    | (go_at_call 18; refine (regRR_ok k hk _).mono ?_; rintro e w2 ⟨rfl, hb2⟩; have hE2 := hE.mono hb2)
    | (go_at_call 19; have _t := tokA; refine (regOfP_as HV.out _ hE2).mono ?_; clear tokA; rintro e w3 ⟨rfl, rfl⟩)
    | (go_at_call 20; refine (regOfR_as HV.out _).mono ?_; rintro e w4 ⟨rfl, hb4⟩; have hB4 := below_trans hb2 hb4)
    | (go_at_call 19; refine (regOfP_y HR.out _ (hE.mono hB4)).mono ?_; rintro e w5 ⟨rfl, rfl⟩)
    | (go_at_call 12; refine (awake_c _ (hE.mono hB4)).mono ?_; rintro e w6 ⟨rfl, hb6⟩; have hB6 := below_trans hB4 hb6))
  go_ret
  exact ⟨rfl, hB6⟩

set_option maxRecDepth 100000 in
set_option maxHeartbeats 1000000 in
theorem walkRegs_no (n : Int) (hn : regB n = false) (l : List UInt8) (w : World) (hE : Env w) : Calls Tryd.prog 6 #[.int .i64 n, .string ⟨l.toArray⟩] w fun e w' => e = .returned (.bool true) ∧ Below w.heap.size w w' := by
  obtain ⟨a, b, hv⟩ := regOfV_any l
  have HV := Lib.hid hv
  have HN := Lib.hid hn
  have HR := Lib.hid (show regOf [] = none by decide +kernel)
  have tokA : True := trivial
  clear hv hn
  go_enter Tryd.func6, Tryd.ntmps6
  go_wp2_with (first
    | (go_at_call 17; refine (reg_no _ HN.out _).mono ?_; rintro e w1 ⟨rfl, rfl⟩)
    | (go_at_call 18; refine (regRR_no _ HN.out _).mono ?_; rintro e w2 ⟨rfl, rfl⟩)
    | (go_at_call 19; have _t := tokA; refine (regOfP_as HV.out _ hE).mono ?_; clear tokA; rintro e w3 ⟨rfl, rfl⟩)
    | (go_at_call 20; refine (regOfR_as HV.out _).mono ?_; rintro e w4 ⟨rfl, hB4⟩)
    | (go_at_call 19; refine (regOfP_n HR.out _ (hE.mono hB4)).mono ?_; rintro e w5 ⟨rfl, rfl⟩)
    | (go_at_call 12; refine (awake_c _ (hE.mono hB4)).mono ?_; rintro e w6 ⟨rfl, hb6⟩; have hB6 := below_trans hB4 hb6))
  go_ret
  exact ⟨rfl, hB6⟩
theorem walkRegs (n : Int) (s : ByteArray) (w : World) (hE : Env w) : Calls Tryd.prog 6 #[.int .i64 n, .string s] w fun e w' => e = .returned (.bool true) ∧ Below w.heap.size w w' := by
  rw [← str_eta s]
  cases h : regB n with
  | false => exact walkRegs_no n h _ w hE
  | true =>
    obtain ⟨k, hk, rfl⟩ := regB_nat h
    exact walkRegs_ok k hk _ w hE
end Go.Proofs.YtlpcahkchmlghaaDoor
