/- Layer 8: the program's numbers. -/
import Derived.Test.YtmlnibjnacfanaaGreatDoorEf
namespace Go.Proofs.YtmlnibjnacfanaaGreatDoor
open Go.RowKit

section
variable {w : World}
theorem notNumP (n : Int) (w : World) : Calls Tryz.prog 92 #[.int .i64 n] w fun e w' => e = .returned (.bool (!numB n)) ∧ w = w' := by
  obtain ⟨b, hb⟩ : ∃ b, numB n = b := ⟨_, rfl⟩
  have HB := Lib.hid hb
  rw [hb]
  clear hb
  go_enter Tryz.func92, Tryz.ntmps92
  go_wp2_with (go_at_call 64; refine (numP _ _).mono ?_; rw [HB.out]; rintro e w2 ⟨rfl, rfl⟩)
  go_ret
  exact ⟨rfl, rfl⟩
def IntsAt (w : World) (A : Option Addr) (st : List Int) : Prop := ∀ i v, st[i]? = some v → ∃ b o, A = some ⟨b, o, none⟩ ∧ w.cell? ⟨b, o + i, none⟩ = some (.int .i64 v)
theorem IntsAt.below {w w' : World} {A : Option Addr} {st : List Int} (h : IntsAt w A st) (hb : Below w.heap.size w w') : IntsAt w' A st := fun i v hv => by
  obtain ⟨b, o, e, c⟩ := h i v hv
  exact ⟨b, o, e, (hb.cell (p := ⟨b, o + i, none⟩) (World.block_lt_of_cell? w _ c)).trans c⟩
set_option maxHeartbeats 2000000 in
set_option maxRecDepth 100000 in
theorem idxInt (st : List Int) (A : Option Addr) (cap : Nat) (w : World) (hlen : st.length ≤ 9223372036854775806) (hA : IntsAt w A st) :
    Calls Tryz.prog 117 #[.slice A st.length cap, .func (.func 92) #[] #[]] w (IdxPost (st.any (fun v => !numB v)) w) := by
  have HA := Lib.hid hA
  clear hA
  go_enter Tryz.func117, Tryz.ntmps117
  go_wp2_with fail
  go_loopw [8] (fun i wr => ∃ j : Nat, j ≤ st.length ∧ i = .int .i64 j ∧ (st.take j).any (fun v => !numB v) = false ∧ w = wr) (fun i _ => st.length - (intOf i).toNat)
  case atStart => exact ⟨0, Nat.zero_le _, rfl, by simp, rfl⟩
  case round =>
    obtain ⟨j, hj, rfl, hno, rfl⟩ := hrel
    have HNO := Lib.hid hno
    clear hno
    by_cases hlt : j < st.length
    · have ex := List.getElem?_eq_getElem hlt
      obtain ⟨x, hx⟩ : ∃ x, st[j] = x := ⟨_, rfl⟩
      rw [hx] at ex
      obtain ⟨b, o, rfl, c0⟩ := HA.out _ _ ex
      obtain ⟨bj, hbj⟩ : ∃ bj, numB x = bj := ⟨_, rfl⟩
      have HBJ := Lib.hid hbj
      have HEX := Lib.hid ex
      clear hx ex hbj
      cases bj
      all_goals
        go_wp2_with (go_at_call 92; refine (notNumP x _).mono ?_; rw [HBJ.out]; rintro e w2 ⟨rfl, rfl⟩)
        skip
      · go_ret
        refine ⟨j, rfl, ?_, Below.refl _ _⟩
        obtain ⟨h1, he⟩ := List.getElem?_eq_some_iff.1 HEX.out
        rw [show st.any (fun v => !numB v) = true from List.any_eq_true.2 ⟨_, List.getElem_mem h1, by rw [he, HBJ.out]; rfl⟩]
        simp
      · go_roundw
        case rel =>
          refine ⟨j + 1, by omega, by go_num, ?_, trivial⟩
          obtain ⟨h1, he⟩ := List.getElem?_eq_some_iff.1 HEX.out
          rw [List.take_succ_eq_append_getElem h1, List.any_append, HNO.out, he]
          simp [HBJ.out]
        case measure => simp [intOf]; omega
    · have hjk : j = st.length := by omega
      have HFIN := Lib.hid (show st.any (fun v => !numB v) = false by have := HNO.out; rwa [List.take_of_length_le (by omega)] at this)
      go_wp2_with fail
      go_ret
      exact ⟨-1, rfl, by rw [HFIN.out]; rfl, Below.refl _ _⟩
set_option maxHeartbeats 2000000 in
set_option maxRecDepth 100000 in
theorem hasInt (st : List Int) (A : Option Addr) (cap : Nat) (w : World) (hlen : st.length ≤ 9223372036854775806) (hA : IntsAt w A st) :
    Calls Tryz.prog 91 #[.slice A st.length cap, .func (.func 92) #[] #[]] w fun e w' => e = .returned (.bool (st.any (fun v => !numB v))) ∧ Below w.heap.size w w' := by
  have HA := Lib.hid hA
  clear hA
  go_enter Tryz.func91, Tryz.ntmps91
  go_wp2_with (go_at_call 117; refine (idxInt st A cap w hlen HA.out).mono ?_; rintro e w2 ⟨i, rfl, hi, hb2⟩; have HI := Lib.hid hi; have HB := Lib.hid hb2; clear hi hb2)
  go_ret
  exact ⟨ret_bool HI.out, HB.out⟩
def numsB (st : List Int) (n : Nat) : Bool := decide (st.length = n) && st.all numB
set_option maxHeartbeats 2000000 in
set_option maxRecDepth 100000 in
theorem numbersP (st : List Int) (n : Nat) (A : Option Addr) (cap : Nat) (w : World) (hlen : st.length ≤ 9223372036854775806) (hn : n ≤ 1000000) (hA : IntsAt w A st) :
    Calls Tryz.prog 56 #[.slice A st.length cap, .int .i64 n] w fun e w' => e = .returned (.bool (numsB st n)) ∧ Below w.heap.size w w' := by
  have HA := Lib.hid hA
  clear hA
  by_cases he : st.length = n
  · subst he
    obtain ⟨b, hb⟩ : ∃ b, st.any (fun v => !numB v) = b := ⟨_, rfl⟩
    have HV := Lib.hid (show numsB st st.length = !b by rw [← hb]; simp [numsB, List.all_eq_not_any_not])
    have HB := Lib.hid hb
    have he' : ((st.length : Int) == (st.length : Int)) = true := by simp
    have hi := hasInt st A cap w hlen HA.out
    rw [hb] at hi
    have HI := Lib.hid hi
    clear hb hi
    go_enter Tryz.func56, Tryz.ntmps56
    go_wp2_with (go_at_call 91; refine HI.out.mono ?_; rintro e w2 ⟨rfl, hb2⟩)
    go_ret
    exact ⟨ret_bool HV.out.symm, hb2⟩
  · have HV := Lib.hid (show numsB st n = false by simp [numsB, he])
    have he' : ((st.length : Int) == (n : Int)) = false := by simp; omega
    go_enter Tryz.func56, Tryz.ntmps56
    go_wp2_with fail
    go_ret
    exact ⟨ret_bool HV.out.symm, Below.refl _ _⟩
end
end Go.Proofs.YtmlnibjnacfanaaGreatDoor
