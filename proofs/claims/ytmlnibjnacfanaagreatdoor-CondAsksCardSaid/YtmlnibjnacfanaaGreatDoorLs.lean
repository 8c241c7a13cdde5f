/- The reference's lists that are lent, and looked at again: Lent, Kept, Alike at ints. -/
import Derived.Test.YtmlnibjnacfanaaGreatDoorJf
import Derived.OwnWalk
import Derived.Laws.AppendOwnNone
namespace Go.Proofs.YtmlnibjnacfanaaGreatDoor
open Go.RowKit

/-- A slice of ints. -/
def IntsV (w : World) (v : Value) (st : List Int) : Prop := ∃ A cap, v = .slice A st.length cap ∧ IntsAt w A st ∧ (A = none → cap = 0) ∧ st.length ≤ cap ∧ cap ≤ 9223372036854775807 ∧ st.length * 8 ≤ 140737488351232
theorem IntsV.below {w w' : World} {v : Value} {st : List Int} (h : IntsV w v st) (hb : Below w.heap.size w w') : IntsV w' v st := by
  obtain ⟨A, cap, e, h1, h2⟩ := h
  exact ⟨A, cap, e, h1.below hb, h2⟩
def markL : List Int := (List.range 70).map fun (i : Nat) => -770000 - (i : Int)
theorem mark_at {j : Nat} (h : j < 70) : markL[j]? = some (-770000 - (j : Int)) := by
  unfold markL
  rw [List.getElem?_map, List.getElem?_range h]; rfl
theorem mark_len : markL.length = 70 := by simp [markL]
/-- A list that was lent: its numbers, and the marks behind them. -/
def LentAt (w : World) (g cap : Nat) (st : List Int) : Prop := st.length + 70 ≤ cap ∧ cap ≤ 9223372036854775807 ∧ ∀ i v, (st ++ markL)[i]? = some v → w.cell? ⟨g, i, none⟩ = some (.int .i64 v)
theorem LentAt.below {w w' : World} {g cap : Nat} {st : List Int} (h : LentAt w g cap st) (hb : Below w.heap.size w w') : LentAt w' g cap st :=
  ⟨h.1, h.2.1, fun i v hv => cell_go (h.2.2 i v hv) hb⟩
theorem LentAt.ints {w : World} {g cap : Nat} {st : List Int} (h : LentAt w g cap st) : IntsAt w (some ⟨g, 0, none⟩) st := fun i v hv =>
  ⟨g, 0, rfl, by
    have hi := (List.getElem?_eq_some_iff.1 hv).1
    rw [Nat.zero_add]
    exact h.2.2 i v (by rw [List.getElem?_append_left hi]; exact hv)⟩
def LentPost (st : List Int) (w : World) (e : Ending) (w' : World) : Prop := ∃ g cap, e = .returned (.slice (some ⟨g, 0, none⟩) st.length cap) ∧ w.heap.size ≤ g ∧ LentAt w' g cap st ∧ Below w.heap.size w w'
abbrev intC (l : List Int) : List Value := l.map fun n => .int .i64 n
theorem intC_one (l : List Int) : ∀ u ∈ intC l, u.oneCell' = true := by
  intro u hu
  obtain ⟨n, _, rfl⟩ := List.mem_map.1 hu
  rfl
theorem infoInt : (Tryz.prog.info? 3).map (fun i => (i.zero, i.size, i.bytes)) = some (some (.int .i64 0), 1, 8) := by kernel_rfl
theorem add_none' (b o j : Nat) : (⟨b, o, none⟩ : Addr).add j = ⟨b, o + j, none⟩ := by
  unfold Addr.add
  split
  · rename_i h; subst h; rfl
  · rfl
theorem ints_src {w : World} {a : Addr} {st : List Int} (h : IntsAt w (some a) st) (j : Nat) (u : Value) (hu : (intC st)[j]? = some u) : w.cell? (a.add j) = some u := by
  rw [List.getElem?_map] at hu
  obtain ⟨v, hv, rfl⟩ := Option.map_eq_some_iff.1 hu
  obtain ⟨b, o, e, hcell⟩ := h j v hv
  simp only [Option.some.injEq] at e
  subst e
  rw [add_none']; exact hcell
section
variable {w : World}
set_option maxHeartbeats 4000000 in
set_option maxRecDepth 100000 in
/-- Behind the copy: the marks are put there. -/
theorem lentR (v : Value) (st : List Int) (w : World) (hv : IntsV w v st) :
    Calls Tryz.prog 25 #[v] w (LentPost st w) := by
  obtain ⟨A, c2, rfl, hA, hno, h1, h2, h3⟩ := hv
  obtain ⟨i0, hi, hz0, hz1, hz2⟩ := info_parts infoInt
  have HA := Lib.hid hA
  have HNO := Lib.hid hno
  have hp : (st.length : Int) + 70 = ((st.length + 70 : Nat) : Int) := by omega
  have HP := Lib.hid hp
  obtain ⟨n, hn⟩ : ∃ n, st.length = n := ⟨_, rfl⟩
  rw [hn] at h1 h3 HP
  have HN := Lib.hid hn
  have hnn : st.length = n := hn
  clear hA hno hp hn
  have hb2 : i0.bytes * (n + 70) ≤ 281474976710656 := by rw [hz2]; omega
  have hm : n ≤ 17592186043904 := by omega
  have HML := Lib.hid (fun (j : Nat) (h : j < 70) => show markL.take (j + 1) = markL.take j ++ [-770000 - (j : Int)] by rw [List.take_add_one, mark_at h]; rfl)
  have HMR := Lib.hid (show intC (st ++ markL.take 70) = intC (st ++ markL) by rw [List.take_of_length_le (Nat.le_of_eq mark_len)])
  have HLN := Lib.hid (fun (j : Nat) (h : j ≤ 70) => show (st ++ markL.take j).length = n + j by rw [List.length_append, HN.out, List.length_take, mark_len]; omega)
  have fin : ∀ (wr : World), wr.ownsRow w.heap.size 3 1 (.slice (some ⟨w.heap.size, 0, none⟩) (n + 70) (n + 70)) (n + 70) (intC (st ++ markL.take 70)) → Below w.heap.size w wr → LentPost st w (.returned (.slice (some ⟨w.heap.size, 0, none⟩) n (n + 70))) wr := fun wr ho hb => by
    rw [HMR.out] at ho
    refine ⟨w.heap.size, n + 70, by rw [HN.out], Nat.le_refl _, ⟨by rw [HN.out]; exact Nat.le_refl _, by omega, fun i v hv => ?_⟩, hb⟩
    have hi := (List.getElem?_eq_some_iff.1 hv).1
    have hl : (intC (st ++ markL)).length = n + 70 := by rw [ho.1]; omega
    simp only [List.length_map] at hl
    rw [ho.cellAt i (by omega)]
    rw [List.getElem?_map, hv]; rfl
  have FIN := Lib.hid fin
  clear fin
  rw [hnn]
  clear hnn
  rcases A with _ | a
  · have hc0 : c2 = 0 := HNO.out rfl
    subst hc0
    have hn0 : n = 0 := by omega
    have HN0 := Lib.hid hn0
    have hs0 : st = [] := List.eq_nil_of_length_eq_zero (by rw [HN.out, hn0])
    have HS0 := Lib.hid hs0
    clear hs0 hn0
    go_enter Tryz.func25, Tryz.ntmps25
    go_wp2_with (first | (at_make; refine wpList_make_own _ rfl _ _ 40 rfl w.heap.size 3 i0 (.int .i64 0) 1 Tryz.underlying40 hi hz0 hz1 .i64 .i64 _ (n + 70) rfl rfl HP.out hb2 (by unfold maxLen; omega) (Nat.le_refl _) ?_; intro w1 hown1 hg1; have HO1 := Lib.hid hown1; have HG1 := Lib.hid (show Below w.heap.size w w1 from (Below.refl _ _).grown hg1 (Nat.le_refl _) (fun j hj => by cases hj)); clear hown1 hg1) | (at_builtin; refine wpList_append_own_none rfl _ _ 40 rfl w.heap.size 3 i0 1 Tryz.underlying40 hi _ _ _ rfl HO1.out (show Value.slice none n 0 = .slice none 0 0 by rw [HN0.out]) ?_; have HOW := Lib.hid (show w1.ownsRow w.heap.size 3 1 (.slice (some ⟨w.heap.size, 0, none⟩) 0 (n + 70)) 0 (intC st) by rw [HS0.out]; exact HO1.out); have HBW := HG1))
    go_loopw [3, 4] (fun v3 i wr => ∃ j : Nat, j ≤ 70 ∧ i = .int .i64 j ∧ v3 = .slice (some ⟨w.heap.size, 0, none⟩) (n + j) (n + 70) ∧ wr.ownsRow w.heap.size 3 1 v3 (n + j) (intC (st ++ markL.take j)) ∧ Below w.heap.size w wr) (fun _ i _ => 70 - (intOf i).toNat)
    case atStart => exact ⟨0, by omega, rfl, by rw [HN0.out], by have h := HOW.out; rw [Nat.add_zero, List.take_zero, List.append_nil]; rw [HN0.out] at h ⊢; exact h, HBW.out⟩
    case round =>
      obtain ⟨j, hj, rfl, rfl, hown, hb⟩ := hrel
      have HO := Lib.hid hown
      have HB := Lib.hid hb
      clear hown hb
      by_cases hlt : j < 70
      · have hl := HML.out j hlt
        have HST := Lib.hid (show intC (st ++ markL.take (j + 1)) = intC (st ++ markL.take j) ++ [.int .i64 (-770000 - (j : Int))] by rw [hl]; simp)
        have HOA := Lib.hid (HO.out.alloc (.cells #[.int .i64 (-770000 - (j : Int))] 3 (0, 0)))
        have HBA := Lib.hid (below_alloc HB.out (.cells #[.int .i64 (-770000 - (j : Int))] 3 (0, 0)))
        clear hl
        go_wp2_with (at_builtin; refine wpList_append_fits _ rfl _ _ 40 rfl w.heap.size 3 i0 1 Tryz.underlying40 hi hz1 w.heap.size (n + j) (n + 70) _ rfl HOA.out ⟨wr.heap.size, 0, none⟩ 1 1 [.int .i64 (-770000 - (j : Int))] rfl rfl (fun jj u hu => by rw [add_none', Nat.zero_add, cell_new]; simpa using hu) (intC_one [_]) (by omega) ?_; intro w2 hown2 hg2; have HO2 := Lib.hid hown2; have HB2 := Lib.hid (HBA.out.grown hg2 HBA.out.size (fun j hj => by cases hj; exact Nat.le_refl _)); clear hown2 hg2)
        go_roundw
        case rel => exact ⟨j + 1, by omega, by go_num, by rw [Nat.add_assoc], by rw [HST.out, ← Nat.add_assoc]; exact HO2.out, HB2.out⟩
        case measure => simp [intOf]; omega
      · obtain rfl : j = 70 := by omega
        go_wp2_with fail
        go_ret
        have hf := FIN.out _ HO.out HB.out
        have e : Value.slice (some ⟨w.heap.size, 0, none⟩) n (n + 70) = .slice (some ⟨w.heap.size, 0, none⟩) 0 (n + 70) := by simp [HN0.out]
        rw [e] at hf
        exact hf
  · go_enter Tryz.func25, Tryz.ntmps25
    go_wp2_with (first | (at_make; refine wpList_make_own _ rfl _ _ 40 rfl w.heap.size 3 i0 (.int .i64 0) 1 Tryz.underlying40 hi hz0 hz1 .i64 .i64 _ (n + 70) rfl rfl HP.out hb2 (by unfold maxLen; omega) (Nat.le_refl _) ?_; intro w1 hown1 hg1; have HO1 := Lib.hid hown1; have HG1 := Lib.hid (show Below w.heap.size w w1 from (Below.refl _ _).grown hg1 (Nat.le_refl _) (fun j hj => by cases hj)); clear hown1 hg1) | (at_builtin; refine wpList_append_fits _ rfl _ _ 40 rfl w.heap.size 3 i0 1 Tryz.underlying40 hi hz1 w.heap.size 0 (n + 70) [] rfl HO1.out a n c2 (intC st) rfl (by rw [List.length_map, HN.out]; omega) (ints_src (HA.out.below HG1.out)) (intC_one _) (by omega) ?_; intro w2 hown2 hg2; rw [Nat.zero_add, List.nil_append] at hown2; have HOW := Lib.hid hown2; have HBW := Lib.hid (HG1.out.grown hg2 HG1.out.size (fun j hj => by cases hj; exact Nat.le_refl _)); clear hown2 hg2))
    go_loopw [3, 4] (fun v3 i wr => ∃ j : Nat, j ≤ 70 ∧ i = .int .i64 j ∧ v3 = .slice (some ⟨w.heap.size, 0, none⟩) (n + j) (n + 70) ∧ wr.ownsRow w.heap.size 3 1 v3 (n + j) (intC (st ++ markL.take j)) ∧ Below w.heap.size w wr) (fun _ i _ => 70 - (intOf i).toNat)
    case atStart => exact ⟨0, by omega, rfl, by simp, by simpa using HOW.out, HBW.out⟩
    case round =>
      obtain ⟨j, hj, rfl, rfl, hown, hb⟩ := hrel
      have HO := Lib.hid hown
      have HB := Lib.hid hb
      clear hown hb
      by_cases hlt : j < 70
      · have hl := HML.out j hlt
        have HST := Lib.hid (show intC (st ++ markL.take (j + 1)) = intC (st ++ markL.take j) ++ [.int .i64 (-770000 - (j : Int))] by rw [hl]; simp)
        have HOA := Lib.hid (HO.out.alloc (.cells #[.int .i64 (-770000 - (j : Int))] 3 (0, 0)))
        have HBA := Lib.hid (below_alloc HB.out (.cells #[.int .i64 (-770000 - (j : Int))] 3 (0, 0)))
        clear hl
        go_wp2_with (at_builtin; refine wpList_append_fits _ rfl _ _ 40 rfl w.heap.size 3 i0 1 Tryz.underlying40 hi hz1 w.heap.size (n + j) (n + 70) _ rfl HOA.out ⟨wr.heap.size, 0, none⟩ 1 1 [.int .i64 (-770000 - (j : Int))] rfl rfl (fun jj u hu => by rw [add_none', Nat.zero_add, cell_new]; simpa using hu) (intC_one [_]) (by omega) ?_; intro w2 hown2 hg2; have HO2 := Lib.hid hown2; have HB2 := Lib.hid (HBA.out.grown hg2 HBA.out.size (fun j hj => by cases hj; exact Nat.le_refl _)); clear hown2 hg2)
        go_roundw
        case rel => exact ⟨j + 1, by omega, by go_num, by rw [Nat.add_assoc], by rw [HST.out, ← Nat.add_assoc]; exact HO2.out, HB2.out⟩
        case measure => simp [intOf]; omega
      · obtain rfl : j = 70 := by omega
        go_wp2_with fail
        go_ret
        exact FIN.out _ HO.out HB.out
end
end Go.Proofs.YtmlnibjnacfanaaGreatDoor
