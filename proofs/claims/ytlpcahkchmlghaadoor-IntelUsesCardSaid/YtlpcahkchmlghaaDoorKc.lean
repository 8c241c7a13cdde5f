/- A slice of ints that reads as a list; the reference's Compare and Alike. -/
import Derived.Test.YtlpcahkchmlghaaDoorBase
namespace Go.Proofs.YtlpcahkchmlghaaDoor
open Go.RowKit

def IntsAt (w : World) (v : Value) (xs : List Int) : Prop :=
  ∃ A cap, v = .slice A xs.length cap ∧ xs.length ≤ cap ∧ cap ≤ 9223372036854775807 ∧ (0 < xs.length → ∃ b o, A = some ⟨b, o, none⟩ ∧ b < w.heap.size ∧ ∀ j (h : j < xs.length), w.cell? ⟨b, o + j, none⟩ = some (.int .i64 xs[j]))
theorem IntsAt.mono {w w' : World} {v : Value} {xs : List Int} (h : IntsAt w v xs) (hb : Below w.heap.size w w') : IntsAt w' v xs := by
  obtain ⟨A, cap, h1, h2, h3, h4⟩ := h
  refine ⟨A, cap, h1, h2, h3, fun hp => ?_⟩
  obtain ⟨b, o, h5, h6, h7⟩ := h4 hp
  exact ⟨b, o, h5, Nat.lt_of_lt_of_le h6 hb.size, fun j hj => by rw [hb.cell (p := ⟨b, o + j, none⟩) h6]; exact h7 j hj⟩
theorem IntsAt.nil (w : World) (A : Option Addr) (cap : Nat) (hc : cap ≤ 9223372036854775807) : IntsAt w (.slice A 0 cap) [] := ⟨A, cap, rfl, Nat.zero_le _, hc, fun h => by simp at h⟩

def cmpI : List Int → List Int → Int
  | [], [] => 0
  | [], _ :: _ => -1
  | _ :: _, [] => 1
  | a :: x, b :: y => if a < b then -1 else if b < a then 1 else cmpI x y
theorem cmpI_self : ∀ x, cmpI x x = 0
  | [] => rfl
  | a :: x => by simp [cmpI, cmpI_self x]
theorem cmpI_zero : ∀ x y, cmpI x y = 0 → x = y
  | [], [], _ => rfl
  | [], _ :: _, h => by simp [cmpI] at h
  | _ :: _, [], h => by simp [cmpI] at h
  | a :: x, b :: y, h => by
    unfold cmpI at h
    split at h
    · simp at h
    · split at h
      · simp at h
      · rw [cmpI_zero x y h, show a = b by omega]
theorem cmpI_at {xs ys : List Int} {k : Nat} (h1 : k < xs.length) (h2 : k < ys.length) : cmpI (xs.drop k) (ys.drop k) = if xs[k] < ys[k] then -1 else if ys[k] < xs[k] then 1 else cmpI (xs.drop (k + 1)) (ys.drop (k + 1)) := by
  rw [List.drop_eq_getElem_cons h1, List.drop_eq_getElem_cons h2]; rfl
theorem cmpI_end {xs ys : List Int} {k : Nat} (hk : k ≤ xs.length) (hk2 : k ≤ ys.length) (h : ¬ (k < xs.length ∧ k < ys.length)) : cmpI (xs.drop k) (ys.drop k) = if xs.length < ys.length then -1 else if ys.length < xs.length then 1 else 0 := by
  have dx : ¬ k < xs.length → xs.drop k = [] := fun h => List.drop_eq_nil_of_le (by omega)
  have dy : ¬ k < ys.length → ys.drop k = [] := fun h => List.drop_eq_nil_of_le (by omega)
  by_cases h1 : k < xs.length
  · rw [List.drop_eq_getElem_cons h1, dy (by omega), if_neg (by omega), if_pos (by omega)]; rfl
  · by_cases h2 : k < ys.length
    · rw [List.drop_eq_getElem_cons h2, dx (by omega), if_pos (by omega)]; rfl
    · rw [dx h1, dy h2, if_neg (by omega), if_neg (by omega)]; rfl
theorem dn1 (w : World) (n m : Nat) : ∃ k, (w.drewN n).drewN m = w.drewN k := ⟨_, World.drewN_drewN _ _ _⟩
theorem dn0 (w : World) (n : Nat) : ∃ k, w.drewN n = w.drewN k := ⟨_, rfl⟩
theorem dn2 (w : World) (n m j : Nat) : ∃ k, ((w.drewN n).drewN m).drewN j = w.drewN k := by rw [World.drewN_drewN, World.drewN_drewN]; exact ⟨_, rfl⟩
def CmpPost (xs ys : List Int) (w : World) (e : Ending) (w' : World) : Prop := e = .returned (.int .i64 (cmpI xs ys)) ∧ ∃ n, w' = w.drewN n
set_option maxHeartbeats 1000000 in
theorem compareR (v u : Value) (xs ys : List Int) (w : World) (hv : IntsAt w v xs) (hu : IntsAt w u ys) :
    Calls Tryd.prog 46 #[v, u] w (CmpPost xs ys w) := by
  obtain ⟨A, ca, rfl, ha1, ha2, ha3⟩ := hv
  obtain ⟨B, cb, rfl, hb1, hb2, hb3⟩ := hu
  have HA := Lib.hid ha3
  have HB := Lib.hid hb3
  clear ha3 hb3
  go_enter Tryd.func46, Tryd.ntmps46
  go_wp2
  go_loopw [5] (fun i wr => ∃ k : Nat, k ≤ xs.length ∧ k ≤ ys.length ∧ i = .int .i64 k ∧ cmpI xs ys = cmpI (xs.drop k) (ys.drop k) ∧ ∃ n, wr = w.drewN n) (fun i _ => xs.length - (intOf i).toNat)
  case atStart => exact ⟨0, Nat.zero_le _, Nat.zero_le _, rfl, rfl, 0, rfl⟩
  case round =>
    obtain ⟨k, hk1, hk2, rfl, hcm, n, rfl⟩ := hrel
    have HC := Lib.hid hcm
    clear hcm
    by_cases hlt : k < xs.length ∧ k < ys.length
    · obtain ⟨l1, l2⟩ := hlt
      obtain ⟨b, o, rfl, hbs, hcell⟩ := HA.out (by omega)
      obtain ⟨b', o', rfl, hbs', hcell'⟩ := HB.out (by omega)
      have c1 := hcell k l1
      have c2 := hcell' k l2
      clear hcell hcell'
      have HN := Lib.hid (cmpI_at l1 l2)
      obtain ⟨x, hx⟩ : ∃ x, xs[k] = x := ⟨_, rfl⟩
      obtain ⟨y, hy⟩ : ∃ y, ys[k] = y := ⟨_, rfl⟩
      rw [hx] at c1
      rw [hy] at c2
      have HX := Lib.hid hx
      have HY := Lib.hid hy
      clear hx hy
      by_cases g1 : x < y
      · have g1' : decide (x < y) = true := by simpa using g1
        have G1 := Lib.hid g1
        clear g1
        go_wp2
        go_quiet (fail)
        go_wp2
        go_ret
        exact ⟨ret_int (by rw [HC.out, HN.out, HX.out, HY.out, if_pos G1.out]), (by first | exact dn0 _ _ | exact dn1 _ _ _ | exact dn2 _ _ _ _)⟩
      · have g1' : decide (x < y) = false := by simpa using g1
        have G1 := Lib.hid g1
        clear g1
        by_cases g2 : y < x
        · have g2' : decide (y < x) = true := by simpa using g2
          have G2 := Lib.hid g2
          clear g2
          go_wp2
          go_quiet (fail)
          go_wp2
          go_quiet (fail)
          go_wp2
          go_ret
          exact ⟨ret_int (by rw [HC.out, HN.out, HX.out, HY.out, if_neg (by have := G1.out; omega), if_pos G2.out]), (by first | exact dn0 _ _ | exact dn1 _ _ _ | exact dn2 _ _ _ _)⟩
        · have g2' : decide (y < x) = false := by simpa using g2
          have G2 := Lib.hid g2
          clear g2
          go_wp2
          go_quiet (fail)
          go_wp2
          go_quiet (fail)
          go_wp2
          go_roundw
          case rel => exact ⟨k + 1, by omega, by omega, by go_num, by rw [HC.out, HN.out, HX.out, HY.out, if_neg (by have := G1.out; omega), if_neg (by have := G2.out; omega)], (by first | exact dn0 _ _ | exact dn1 _ _ _ | exact dn2 _ _ _ _)⟩
          case measure => simp [intOf]; omega
    · have HE := Lib.hid (cmpI_end hk1 hk2 hlt)
      rcases Nat.lt_or_ge k xs.length with q | q
      · go_wp2
        all_goals (go_ret; exact ⟨ret_int (by rw [HC.out, HE.out]; first | rw [if_pos (by omega)] | (rw [if_neg (by omega), if_pos (by omega)]) | (rw [if_neg (by omega), if_neg (by omega)])), (by first | exact dn0 _ _ | exact dn1 _ _ _ | exact dn2 _ _ _ _)⟩)
      · go_wp2
        all_goals (go_ret; exact ⟨ret_int (by rw [HC.out, HE.out]; first | rw [if_pos (by omega)] | (rw [if_neg (by omega), if_pos (by omega)]) | (rw [if_neg (by omega), if_neg (by omega)])), (by first | exact dn0 _ _ | exact dn1 _ _ _ | exact dn2 _ _ _ _)⟩)
theorem alikeR (v u : Value) (xs ys : List Int) (w : World) (hv : IntsAt w v xs) (hu : IntsAt w u ys) :
    Calls Tryd.prog 24 #[v, u] w fun e w' => e = .returned (.bool (decide (xs = ys))) ∧ Below w.heap.size w w' := by
  have key : (cmpI xs ys == 0) = decide (xs = ys) := by
    rw [Bool.eq_iff_iff]
    simp only [beq_iff_eq, decide_eq_true_eq]
    exact ⟨cmpI_zero xs ys, fun h => by rw [h]; exact cmpI_self ys⟩
  have HK := Lib.hid key
  clear key
  go_enter Tryd.func24, Tryd.ntmps24
  go_wp2_with (go_at_call 46; refine (compareR _ _ xs ys _ hv hu).mono ?_; rintro e w' ⟨rfl, n, rfl⟩)
  go_ret
  exact ⟨ret_bool HK.out, below_drewN (Below.refl _ _) n⟩
end Go.Proofs.YtlpcahkchmlghaaDoor
