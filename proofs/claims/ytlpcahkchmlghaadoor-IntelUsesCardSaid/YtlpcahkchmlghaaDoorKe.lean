/- A thread's registers in memory; whether a thread may be: of the program (may) and of the reference (thread, May). -/
import Derived.Test.YtlpcahkchmlghaaDoorId
import Derived.Test.YtlpcahkchmlghaaDoorIb
namespace Go.Proofs.YtlpcahkchmlghaaDoor
open Go.RowKit

def valB (x : List UInt8 × Int) : Bool := if x.1 = [] then numB x.2 else nameB x.1 && (x.2 == 0)
def ValsAt (w : World) (v : Value) (vs : List (List UInt8 × Int)) : Prop :=
  ∃ A cap, v = .slice A vs.length cap ∧ vs.length ≤ cap ∧ cap ≤ 9223372036854775807 ∧ (∀ j (h : j < vs.length), vs[j].1.length ≤ 9223372036854775807) ∧
    (0 < vs.length → ∃ b o, A = some ⟨b, o, none⟩ ∧ b < w.heap.size ∧ ∀ j (h : j < vs.length), w.cell? ⟨b, o + j * 2, none⟩ = some (.string ⟨vs[j].1.toArray⟩) ∧ w.cell? ⟨b, o + j * 2 + 1, none⟩ = some (.int .i64 vs[j].2))
theorem ValsAt.mono {w w' : World} {v : Value} {vs : List (List UInt8 × Int)} (h : ValsAt w v vs) (hb : Below w.heap.size w w') : ValsAt w' v vs := by
  obtain ⟨A, cap, h1, h2, h3, h3', h4⟩ := h
  refine ⟨A, cap, h1, h2, h3, h3', fun hp => ?_⟩
  obtain ⟨b, o, h5, h6, h7⟩ := h4 hp
  refine ⟨b, o, h5, Nat.lt_of_lt_of_le h6 hb.size, fun j hj => ?_⟩
  rw [hb.cell (p := ⟨b, o + j * 2, none⟩) h6, hb.cell (p := ⟨b, o + j * 2 + 1, none⟩) h6]; exact h7 j hj
abbrev locV (v : Value) (at_ : Int) : Value := .agg #[v, .int .i64 at_]
def threadB (n : Nat) (at_ : Int) (vs : List (List UInt8 × Int)) : Bool := decide (0 ≤ at_) && decide (at_ < 256) && decide (vs.length = n) && vs.all valB
theorem threadB_lo {n : Nat} {at_ : Int} {vs : List (List UInt8 × Int)} (h : at_ < 0) : threadB n at_ vs = false := by simp [threadB]; omega
theorem threadB_hi {n : Nat} {at_ : Int} {vs : List (List UInt8 × Int)} (h : 256 ≤ at_) : threadB n at_ vs = false := by simp [threadB]; omega
theorem threadB_len {n : Nat} {at_ : Int} {vs : List (List UInt8 × Int)} (h : vs.length ≠ n) : threadB n at_ vs = false := by simp [threadB]; omega
theorem threadB_no {n : Nat} {at_ : Int} {vs : List (List UInt8 × Int)} {k : Nat} (hk : k < vs.length) (h : valB vs[k] = false) : threadB n at_ vs = false := by
  have : vs.all valB = false := by
    rw [List.all_eq_false]
    exact ⟨vs[k], List.getElem_mem _, by rw [h]; simp⟩
  simp [threadB, this]
theorem threadB_yes {n : Nat} {at_ : Int} {vs : List (List UInt8 × Int)} (h1 : 0 ≤ at_) (h2 : at_ < 256) (h3 : vs.length = n) (h : ∀ j (hj : j < vs.length), valB vs[j] = true) : threadB n at_ vs = true := by
  have : vs.all valB = true := by
    rw [List.all_eq_true]
    intro x hx
    obtain ⟨j, hj, rfl⟩ := List.getElem_of_mem hx
    exact h j hj
  simp [threadB, this, h1, h2, h3]
theorem valB_nil {n : Int} : valB ([], n) = numB n := rfl
theorem valB_loc {L : List UInt8} {n : Int} (h : L ≠ []) : valB (L, n) = (nameB L && (n == 0)) := by unfold valB; rw [if_neg h]

theorem alloc_b (w : World) (o : Obj) : Below w.heap.size w (w.alloc o) := below_alloc (Below.refl _ _) _
set_option maxRecDepth 100000 in
set_option maxHeartbeats 2000000 in
theorem may_c (v : Value) (at_ : Int) (vs : List (List UInt8 × Int)) (w : World) (hv : ValsAt w v vs) :
    Calls Tryd.prog 47 #[locV v at_] w fun e w' => e = .returned (.bool (threadB 15 at_ vs)) ∧ Below w.heap.size w w' := by
  obtain ⟨A, cap, rfl, ha1, ha2, ha3, ha4⟩ := hv
  have H3 := Lib.hid ha3
  have H4 := Lib.hid ha4
  clear ha3 ha4
  by_cases h0 : at_ < 0
  · have HF := Lib.hid (threadB_lo (n := 15) (vs := vs) h0)
    have h0' : decide (at_ < 0) = true := by simpa using h0
    clear h0
    go_enter Tryd.func47, Tryd.ntmps47
    go_wp2
    go_ret
    exact ⟨ret_bool HF.out.symm, below_alloc (Below.refl _ _) _⟩
  have h0' : decide (at_ < 0) = false := by simpa using h0
  by_cases h1 : 256 ≤ at_
  · have HF := Lib.hid (threadB_hi (n := 15) (vs := vs) h1)
    have h1' : decide (256 ≤ at_) = true := by simpa using h1
    clear h0 h1
    go_enter Tryd.func47, Tryd.ntmps47
    go_wp2
    go_ret
    exact ⟨ret_bool HF.out.symm, below_alloc (Below.refl _ _) _⟩
  have h1' : decide (256 ≤ at_) = false := by simpa using h1
  by_cases h2 : vs.length = 15
  · have h2' : ((vs.length : Int) != 15) = false := by simp; omega
    have H0 := Lib.hid h0
    have H1 := Lib.hid h1
    have H2 := Lib.hid h2
    have l2 : 15 ≤ vs.length := by omega
    have l3 : vs.length ≤ 15 := by omega
    clear h0 h1 h2
    go_enter Tryd.func47, Tryd.ntmps47
    go_wp2
    go_loopw [4, 22] (fun _ i wr => ∃ k : Nat, k ≤ 15 ∧ i = .int .i64 k ∧ (∀ j (hj : j < vs.length), j < k → valB vs[j] = true) ∧ Below w.heap.size w wr) (fun _ i _ => 15 - (intOf i).toNat)
    case atStart => exact ⟨0, Nat.zero_le _, rfl, fun j _ h => absurd h (Nat.not_lt_zero _), below_alloc (Below.refl _ _) _⟩
    case round =>
      obtain ⟨k, hk, rfl, hall, hbw⟩ := hrel
      have H := Lib.hid hall
      clear hall
      by_cases hlt : k < vs.length
      · obtain ⟨b, o, rfl, hbs, hcell⟩ := H4.out (by omega)
        obtain ⟨c1, c2⟩ := hcell k hlt
        have hL := H3.out k hlt
        obtain ⟨x, hx⟩ : ∃ x, vs[k] = x := ⟨_, rfl⟩
        obtain ⟨L, n⟩ := x
        rw [hx] at c1 c2 hL
        simp only at c1 c2 hL
        rw [← hbw.cell (p := ⟨b, o + k * 2, none⟩) hbs] at c1
        rw [← hbw.cell (p := ⟨b, o + k * 2 + 1, none⟩) hbs] at c2
        have HX := Lib.hid hx
        clear hcell hx
        have hlt' : k < 15 := by omega
        have hb2 := below_trans hbw (alloc_b wr (.cells #[.string ⟨L.toArray⟩, .int .i64 n] 55 (0, 0)))
        have hgo : ∀ r, valB (L, n) = r → valB vs[k] = r := fun r h => by rw [HX.out, h]
        have HG := Lib.hid hgo
        clear hgo
        have hstep : valB vs[k] = true → ∀ j (hj : j < vs.length), j < k + 1 → valB vs[j] = true := fun h j hj hjk => by
          by_cases e : j < k
          · exact H.out j hj e
          · obtain rfl : j = k := by omega
            exact h
        have HS := Lib.hid hstep
        clear hstep
        by_cases hLn : L = []
        · subst hLn
          cases hn : numB n with
          | true =>
            have HV := Lib.hid (HG.out true (by rw [valB_nil, hn]))
            go_wp2_with (go_at_call 43; refine (isNumber_c _ _).mono ?_; rintro e w' ⟨rfl, rfl⟩)
            go_roundw
            case rel => exact ⟨k + 1, by omega, by go_num, HS.out HV.out, hb2⟩
            case measure => simp [intOf]; omega
          | false =>
            have HV := Lib.hid (threadB_no (n := 15) (at_ := at_) hlt (HG.out false (by rw [valB_nil, hn])))
            go_wp2_with (go_at_call 43; refine (isNumber_c _ _).mono ?_; rintro e w' ⟨rfl, rfl⟩)
            go_ret
            exact ⟨ret_bool HV.out.symm, hb2⟩
        · have HB := Lib.hid (fun r h => HG.out r ((valB_loc hLn).trans h))
          have hLe : L.isEmpty = false := by simpa using hLn
          have hs9 : (⟨L.toArray⟩ : ByteArray).size ≤ 9223372036854775807 := by rw [str_size]; exact hL
          clear hLn HG
          cases hn : nameB L with
          | false =>
            have HV := Lib.hid (threadB_no (n := 15) (at_ := at_) hlt (HB.out false (by rw [hn]; rfl)))
            go_wp2_with (go_at_call 42; refine (isName_c _ _ hs9).mono ?_; rintro e w' ⟨rfl, rfl⟩)
            go_ret
            exact ⟨ret_bool HV.out.symm, hb2⟩
          | true =>
            cases hz : (n == 0) with
            | true =>
              have HV := Lib.hid (HB.out true (by rw [hn, hz]; rfl))
              have hz' : (n != 0) = false := by simpa using hz
              go_wp2_with (go_at_call 42; refine (isName_c _ _ hs9).mono ?_; rintro e w' ⟨rfl, rfl⟩)
              go_roundw
              case rel => exact ⟨k + 1, by omega, by go_num, HS.out HV.out, hb2⟩
              case measure => simp [intOf]; omega
            | false =>
              have HV := Lib.hid (threadB_no (n := 15) (at_ := at_) hlt (HB.out false (by rw [hn, hz]; rfl)))
              have hz' : (n != 0) = true := by simpa using hz
              go_wp2_with (go_at_call 42; refine (isName_c _ _ hs9).mono ?_; rintro e w' ⟨rfl, rfl⟩)
              go_ret
              exact ⟨ret_bool HV.out.symm, hb2⟩
      · have HF := Lib.hid (threadB_yes (n := 15) (by have := H0.out; omega) (by have := H1.out; omega) H2.out (fun j hj => H.out j hj (by omega)))
        have hge : ¬ k < 15 := by omega
        go_wp2
        go_ret
        exact ⟨ret_bool HF.out.symm, hbw⟩
  · have h2' : ((vs.length : Int) != 15) = true := by simp; omega
    have HF := Lib.hid (threadB_len (n := 15) (at_ := at_) h2)
    clear h0 h1 h2
    go_enter Tryd.func47, Tryd.ntmps47
    go_wp2
    go_ret
    exact ⟨ret_bool HF.out.symm, below_alloc (Below.refl _ _) _⟩
end Go.Proofs.YtlpcahkchmlghaaDoor
