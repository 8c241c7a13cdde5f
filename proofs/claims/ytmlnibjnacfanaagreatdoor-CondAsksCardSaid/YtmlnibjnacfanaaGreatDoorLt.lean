/- The reference's lists that were lent are as they were: Compare, Alike, Kept; SameThings. -/
import Derived.Test.YtmlnibjnacfanaaGreatDoorLs
import Derived.Test.YtmlnibjnacfanaaGreatDoorHc
namespace Go.Proofs.YtmlnibjnacfanaaGreatDoor
open Go.RowKit

section
variable {w : World}
set_option maxHeartbeats 2000000 in
set_option maxRecDepth 100000 in
theorem compareSame (st : List Int) (A A2 : Option Addr) (c1 c2 : Nat) (w : World) (hl : st.length ≤ 9223372036854775806) (hA : IntsAt w A st) (hA2 : IntsAt w A2 st) :
    Calls Tryz.prog 97 #[.slice A st.length c1, .slice A2 st.length c2] w fun e w' => e = .returned (.int .i64 0) ∧ Below w.heap.size w w' := by
  have HA := Lib.hid hA
  have HA2 := Lib.hid hA2
  clear hA hA2
  go_enter Tryz.func97, Tryz.ntmps97
  go_wp2_with fail
  go_loopw [5] (fun i wr => ∃ j : Nat, j ≤ st.length ∧ i = .int .i64 j ∧ Below w.heap.size w wr) (fun i _ => st.length - (intOf i).toNat)
  case atStart => exact ⟨0, Nat.zero_le _, rfl, Below.refl _ _⟩
  case round =>
    obtain ⟨j, hj, rfl, hb⟩ := hrel
    have HB := Lib.hid hb
    by_cases hlt : j < st.length
    · have ex := List.getElem?_eq_getElem hlt
      obtain ⟨x, hx⟩ : ∃ x, st[j] = x := ⟨_, rfl⟩
      rw [hx] at ex
      obtain ⟨b, o, rfl, d0⟩ := (HA.out.below hb) j x ex
      obtain ⟨b2, o2, rfl, d1⟩ := (HA2.out.below hb) j x ex
      have i1 : (j : Int) < (st.length : Int) := by omega
      have i2 : decide (x < x) = false := by simp
      clear ex hx hb
      go_wp2_with fail
      go_quiet (fail)
      go_wp2_with fail
      go_quiet (fail)
      go_wp2_with fail
      go_roundw
      case rel => exact ⟨j + 1, by omega, by go_num, below_drewN HB.out _⟩
      case measure => simp [intOf]; omega
    · have hje : j = st.length := by omega
      clear hb
      go_wp2_with fail
      go_ret
      exact ⟨rfl, HB.out⟩
set_option maxHeartbeats 2000000 in
set_option maxRecDepth 100000 in
theorem alikeSame (st : List Int) (A A2 : Option Addr) (c1 c2 : Nat) (w : World) (hl : st.length ≤ 9223372036854775806) (hA : IntsAt w A st) (hA2 : IntsAt w A2 st) :
    Calls Tryz.prog 62 #[.slice A st.length c1, .slice A2 st.length c2] w fun e w' => e = .returned (.bool true) ∧ Below w.heap.size w w' := by
  go_enter Tryz.func62, Tryz.ntmps62
  go_wp2_with (go_at_call 97; refine (compareSame st A A2 c1 c2 _ hl hA hA2).mono ?_; rintro e w' ⟨rfl, hb⟩)
  go_ret
  exact ⟨rfl, hb⟩
set_option maxHeartbeats 2000000 in
set_option maxRecDepth 100000 in
theorem keptR (st : List Int) (g cap : Nat) (A2 : Option Addr) (c2 : Nat) (w : World) (hl : st.length ≤ 17592186043904) (hL : LentAt w g cap st) (hA2 : IntsAt w A2 st) :
    Calls Tryz.prog 29 #[.slice (some ⟨g, 0, none⟩) st.length cap, .slice A2 st.length c2] w fun e w' => e = .returned (.bool true) ∧ Below w.heap.size w w' := by
  have HL := Lib.hid hL
  have HA2 := Lib.hid hA2
  obtain ⟨h1, h2, _⟩ := hL
  have HC := Lib.hid (fun (j : Nat) (h : j < 70) => show w.cell? ⟨g, st.length + j, none⟩ = some (.int .i64 (-770000 - (j : Int))) from HL.out.2.2 _ _ (by rw [List.getElem?_append_right (by omega), Nat.add_sub_cancel_left]; exact mark_at h))
  obtain ⟨n, hn⟩ : ∃ n, st.length = n := ⟨_, rfl⟩
  have HN := Lib.hid hn
  rw [hn] at h1 hl HC ⊢
  have s1 : (n : Int) + 70 ≤ (cap : Int) := by omega
  clear hA2 hn
  go_enter Tryz.func29, Tryz.ntmps29
  go_wp2_with fail
  go_loopw [6] (fun i wr => ∃ j : Nat, j ≤ 70 ∧ i = .int .i64 j ∧ w = wr) (fun i _ => 70 - (intOf i).toNat)
  case atStart => exact ⟨0, Nat.zero_le _, rfl, rfl⟩
  case round =>
    obtain ⟨j, hj, rfl, rfl⟩ := hrel
    by_cases hlt : j < 70
    · have d0 := HC.out j hlt
      have i1 : (n : Int) + (j : Int) < (n : Int) + 70 := by omega
      go_wp2_with fail
      go_roundw
      case rel => exact ⟨j + 1, by omega, by go_num, trivial⟩
      case measure => simp [intOf]; omega
    · have hje : j = 70 := by omega
      have HAL := Lib.hid (alikeSame st (some ⟨g, 0, none⟩) A2 cap c2 w (by rw [HN.out]; omega) HL.out.ints HA2.out)
      rw [HN.out] at HAL
      go_wp2_with (go_at_call 62; refine HAL.out.mono ?_; rintro e w' ⟨rfl, hb⟩)
      go_ret
      exact ⟨rfl, hb⟩
set_option maxHeartbeats 2000000 in
set_option maxRecDepth 100000 in
theorem sameThR (T : List Th) (A A2 : Option Addr) (c1 c2 : Nat) (w : World) (hl : T.length ≤ 9223372036854775806) (hA : ThsB w A T) (hA2 : ThsB w A2 T) :
    Calls Tryz.prog 28 #[.slice A T.length c1, .slice A2 T.length c2] w fun e w' => e = .returned (.bool true) ∧ Below w.heap.size w w' := by
  have HA := Lib.hid hA
  have HA2 := Lib.hid hA2
  clear hA hA2
  go_enter Tryz.func28, Tryz.ntmps28
  go_wp2_with fail
  go_loopw [5] (fun i wr => ∃ j : Nat, j ≤ T.length ∧ i = .int .i64 j ∧ Below w.heap.size w wr) (fun i _ => T.length - (intOf i).toNat)
  case atStart => exact ⟨0, Nat.zero_le _, rfl, Below.refl _ _⟩
  case round =>
    obtain ⟨j, hj, rfl, hb⟩ := hrel
    have HB := Lib.hid hb
    by_cases hlt : j < T.length
    · have ex := List.getElem?_eq_getElem hlt
      obtain ⟨x, hx⟩ : ∃ x, T[j] = x := ⟨_, rfl⟩
      rw [hx] at ex
      obtain ⟨b, o, rfl, d0, d1, d2⟩ := (HA.out.below hb) j x ex
      obtain ⟨b2, o2, rfl, f0, f1, f2⟩ := (HA2.out.below hb) j x ex
      have i1 : (j : Int) < (T.length : Int) := by omega
      have hgd := fun (w : World) (op : BinOp) (x y : Operand) (xs ys : Array Value) => run_eqGuard_agg (P := Tryz.prog) w op 23 x y xs ys guard_thing
      have hne : ∀ w, (binOp .neq 23 (thVal x.1 x.2.1 x.2.2) (thVal x.1 x.2.1 x.2.2)).run Tryz.prog w = .ok (.bool false) w := fun w => by rw [neq_thing, decide_eq_true rfl]; rfl
      clear ex hx hb
      go_wp2_with fail
      go_quiet (fail)
      go_wp2_with fail
      go_roundw
      case rel => exact ⟨j + 1, by omega, by go_num, below_drewN HB.out _⟩
      case measure => simp [intOf]; omega
    · have hje : j = T.length := by omega
      clear hb
      go_wp2_with fail
      go_ret
      exact ⟨rfl, HB.out⟩
end
end Go.Proofs.YtmlnibjnacfanaaGreatDoor
