/- The reference's May, thread, SameLocal. -/
import Derived.Test.YtlpcahkchmlghaaDoorKe
import Derived.Test.YtlpcahkchmlghaaDoorKc
namespace Go.Proofs.YtlpcahkchmlghaaDoor
open Go.RowKit

set_option maxHeartbeats 1000000 in
theorem mayR (L : List UInt8) (n : Int) (w : World) (hL : L.length ≤ 9223372036854775807) : Calls Tryd.prog 29 #[.agg #[.string ⟨L.toArray⟩, .int .i64 n]] w fun e w' => e = .returned (.bool (valB (L, n))) ∧ Below w.heap.size w w' := by
  have hs9 : (⟨L.toArray⟩ : ByteArray).size ≤ 9223372036854775807 := by rw [str_size]; exact hL
  by_cases h : L = []
  · subst h
    go_enter Tryd.func29, Tryd.ntmps29
    go_wp2_with (go_at_call 40; refine (numberR _ _).mono ?_; rintro e w' ⟨rfl, rfl⟩)
    go_ret
    exact ⟨rfl, alloc_b _ _⟩
  · have HV := Lib.hid (valB_loc (n := n) h)
    have hLe : L.isEmpty = false := by simpa using h
    clear h
    cases hn : nameB L with
    | false =>
      have HN := Lib.hid hn
      go_enter Tryd.func29, Tryd.ntmps29
      go_wp2_with (go_at_call 39; refine (namedR _ _ hs9).mono ?_; rintro e w' ⟨rfl, rfl⟩)
      go_ret
      exact ⟨ret_bool (by rw [HV.out, HN.out]; rfl), alloc_b _ _⟩
    | true =>
      have HN := Lib.hid hn
      go_enter Tryd.func29, Tryd.ntmps29
      go_wp2_with (go_at_call 39; refine (namedR _ _ hs9).mono ?_; rintro e w' ⟨rfl, rfl⟩)
      go_ret
      exact ⟨ret_bool (by rw [HV.out, HN.out]; rfl), alloc_b _ _⟩

set_option maxRecDepth 100000 in
set_option maxHeartbeats 2000000 in
theorem threadR (v : Value) (at_ : Int) (vs : List (List UInt8 × Int)) (w : World) (hv : ValsAt w v vs) :
    Calls Tryd.prog 50 #[locV v at_, .int .i64 15] w fun e w' => e = .returned (.bool (threadB 15 at_ vs)) ∧ Below w.heap.size w w' := by
  obtain ⟨A, cap, rfl, ha1, ha2, ha3, ha4⟩ := hv
  have H3 := Lib.hid ha3
  have H4 := Lib.hid ha4
  clear ha3 ha4
  by_cases h0 : at_ < 0
  · have HF := Lib.hid (threadB_lo (n := 15) (vs := vs) h0)
    have h0' : decide (at_ < 0) = true := by simpa using h0
    clear h0
    go_enter Tryd.func50, Tryd.ntmps50
    go_wp2
    go_ret
    exact ⟨ret_bool HF.out.symm, below_alloc (Below.refl _ _) _⟩
  have h0' : decide (at_ < 0) = false := by simpa using h0
  by_cases h1 : 256 ≤ at_
  · have HF := Lib.hid (threadB_hi (n := 15) (vs := vs) h1)
    have h1' : decide (256 ≤ at_) = true := by simpa using h1
    clear h0 h1
    go_enter Tryd.func50, Tryd.ntmps50
    go_wp2
    go_ret
    exact ⟨ret_bool HF.out.symm, below_alloc (Below.refl _ _) _⟩
  have h1' : decide (256 ≤ at_) = false := by simpa using h1
  by_cases h2 : vs.length = 15
  · have h2' : ((vs.length : Int) != 15) = false := by simp; omega
    have H0 := Lib.hid h0
    have H1 := Lib.hid h1
    have H2 := Lib.hid h2
    have l2 : 15 ≤ vs.length := by omega
    have l3 : vs.length ≤ 15 := by omega
    clear h0 h1 h2
    go_enter Tryd.func50, Tryd.ntmps50
    go_wp2
    go_loopw [5] (fun i wr => ∃ k : Nat, k ≤ 15 ∧ i = .int .i64 k ∧ (∀ j (hj : j < vs.length), j < k → valB vs[j] = true) ∧ Below (w.heap.size + 1) (w.alloc (.cells #[.slice A vs.length cap, .int .i64 at_] 47 (0, 0))) wr) (fun i _ => 15 - (intOf i).toNat)
    case atStart => exact ⟨0, Nat.zero_le _, rfl, fun j _ h => absurd h (Nat.not_lt_zero _), Below.refl _ _⟩
    case round =>
      obtain ⟨k, hk, rfl, hall, hbw0⟩ := hrel
      have hbw1 : Below (w.alloc (.cells #[.slice A vs.length cap, .int .i64 at_] 47 (0, 0))).heap.size (w.alloc (.cells #[.slice A vs.length cap, .int .i64 at_] 47 (0, 0))) wr := by simpa using hbw0
      have hbw : Below w.heap.size w wr := below_trans (alloc_b w _) hbw1
      have H := Lib.hid hall
      clear hall
      by_cases hlt : k < vs.length
      · obtain ⟨b, o, rfl, hbs, hcell⟩ := H4.out (by omega)
        obtain ⟨c1, c2⟩ := hcell k hlt
        have hL := H3.out k hlt
        obtain ⟨x, hx⟩ : ∃ x, vs[k] = x := ⟨_, rfl⟩
        obtain ⟨L, n⟩ := x
        rw [hx] at c1 c2 hL
        simp only at c1 c2 hL
        rw [← hbw.cell (p := ⟨b, o + k * 2, none⟩) hbs] at c1
        rw [← hbw.cell (p := ⟨b, o + k * 2 + 1, none⟩) hbs] at c2
        have q0 : wr.cell? ⟨w.heap.size, 0, none⟩ = some (.slice (some ⟨b, o, none⟩) vs.length cap) := by rw [hbw1.cell (p := ⟨w.heap.size, 0, none⟩) (by simp), cell_new]; rfl
        have HX := Lib.hid hx
        clear hcell hx
        have hlt' : k < 15 := by omega
        have hgo : ∀ r, valB (L, n) = r → valB vs[k] = r := fun r h => by rw [HX.out, h]
        have HG := Lib.hid hgo
        clear hgo
        have hstep : valB vs[k] = true → ∀ j (hj : j < vs.length), j < k + 1 → valB vs[j] = true := fun h j hj hjk => by
          by_cases e : j < k
          · exact H.out j hj e
          · obtain rfl : j = k := by omega
            exact h
        have HS := Lib.hid hstep
        clear hstep
        have hz : w.heap.size + 1 ≤ wr.heap.size := by simpa using hbw1.size
        cases hn : valB (L, n) with
        | true =>
          have HV := Lib.hid (HG.out true hn)
          go_wp2_with (go_at_call 29; refine (mayR _ _ _ hL).mono ?_; rintro e w' ⟨rfl, hb'⟩)
          go_roundw
          case rel => exact ⟨k + 1, by omega, by go_num, HS.out HV.out, hbw0.trans (hb'.mono hz)⟩
          case measure => simp [intOf]; omega
        | false =>
          have HV := Lib.hid (threadB_no (n := 15) (at_ := at_) hlt (HG.out false hn))
          go_wp2_with (go_at_call 29; refine (mayR _ _ _ hL).mono ?_; rintro e w' ⟨rfl, hb'⟩)
          go_ret
          exact ⟨ret_bool HV.out.symm, below_trans hbw hb'⟩
      · have HF := Lib.hid (threadB_yes (n := 15) (by have := H0.out; omega) (by have := H1.out; omega) H2.out (fun j hj => H.out j hj (by omega)))
        have hge : ¬ k < 15 := by omega
        go_wp2
        go_ret
        exact ⟨ret_bool HF.out.symm, hbw⟩
  · have h2' : ((vs.length : Int) != 15) = true := by simp; omega
    have HF := Lib.hid (threadB_len (n := 15) (at_ := at_) h2)
    clear h0 h1 h2
    go_enter Tryd.func50, Tryd.ntmps50
    go_wp2
    go_ret
    exact ⟨ret_bool HF.out.symm, below_alloc (Below.refl _ _) _⟩

set_option maxRecDepth 100000 in
set_option maxHeartbeats 2000000 in
/-- Two threads that read alike. -/
theorem sameLocalR (v u : Value) (at_ : Int) (vs : List (List UInt8 × Int)) (w : World) (hv : ValsAt w v vs) (hu : ValsAt w u vs) :
    Calls Tryd.prog 28 #[locV v at_, locV u at_] w fun e w' => e = .returned (.bool true) ∧ Below w.heap.size w w' := by
  obtain ⟨A, ca, rfl, ha1, ha2, ha3, ha4⟩ := hv
  obtain ⟨B, cb, rfl, hb1, hb2, hb3, hb4⟩ := hu
  have HA := Lib.hid ha4
  have HB := Lib.hid hb4
  clear ha3 ha4 hb3 hb4
  go_enter Tryd.func28, Tryd.ntmps28
  go_wp2
  go_loopw [5] (fun i wr => ∃ k : Nat, k ≤ vs.length ∧ i = .int .i64 k ∧ ∃ n, wr = ((w.alloc (.cells #[.slice A vs.length ca, .int .i64 at_] 47 (0, 0))).alloc (.cells #[.slice B vs.length cb, .int .i64 at_] 47 (0, 0))).drewN n) (fun i _ => vs.length - (intOf i).toNat)
  case atStart => exact ⟨0, Nat.zero_le _, rfl, 0, rfl⟩
  case round =>
    obtain ⟨k, hk, rfl, n, rfl⟩ := hrel
    by_cases hlt : k < vs.length
    · obtain ⟨b, o, rfl, hbs, hcell⟩ := HA.out (by omega)
      obtain ⟨b', o', rfl, hbs', hcell'⟩ := HB.out (by omega)
      obtain ⟨c1, c2⟩ := hcell k hlt
      obtain ⟨c3, c4⟩ := hcell' k hlt
      obtain ⟨x, hx⟩ : ∃ x, vs[k] = x := ⟨_, rfl⟩
      rw [hx] at c1 c2 c3 c4
      clear hcell hcell' hx
      have d1 := cell_go c1 (below_alloc (alloc_b w (.cells #[.slice (some ⟨b, o, none⟩) vs.length ca, .int .i64 at_] 47 (0, 0))) (.cells #[.slice (some ⟨b', o', none⟩) vs.length cb, .int .i64 at_] 47 (0, 0)))
      have d2 := cell_go c2 (below_alloc (alloc_b w (.cells #[.slice (some ⟨b, o, none⟩) vs.length ca, .int .i64 at_] 47 (0, 0))) (.cells #[.slice (some ⟨b', o', none⟩) vs.length cb, .int .i64 at_] 47 (0, 0)))
      have d3 := cell_go c3 (below_alloc (alloc_b w (.cells #[.slice (some ⟨b, o, none⟩) vs.length ca, .int .i64 at_] 47 (0, 0))) (.cells #[.slice (some ⟨b', o', none⟩) vs.length cb, .int .i64 at_] 47 (0, 0)))
      have d4 := cell_go c4 (below_alloc (alloc_b w (.cells #[.slice (some ⟨b, o, none⟩) vs.length ca, .int .i64 at_] 47 (0, 0))) (.cells #[.slice (some ⟨b', o', none⟩) vs.length cb, .int .i64 at_] 47 (0, 0)))
      go_wp2
      go_quiet (fail)
      go_wp2
      go_roundw
      case rel => exact ⟨k + 1, by omega, by go_num, (by first | exact dn0 _ _ | exact dn1 _ _ _ | exact dn2 _ _ _ _)⟩
      case measure => simp [intOf]; omega
    · go_wp2
      go_ret
      exact ⟨rfl, below_drewN (below_alloc (alloc_b _ _) _) _⟩
end Go.Proofs.YtlpcahkchmlghaaDoor
