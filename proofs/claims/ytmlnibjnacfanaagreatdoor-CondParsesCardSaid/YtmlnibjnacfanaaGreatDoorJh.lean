/- Layer 8: the reference's Things, fits, Eval and Judge. Layer 8: the reference's Judge. -/
import Derived.Test.YtmlnibjnacfanaaGreatDoorJf
import Derived.Test.YtmlnibjnacfanaaGreatDoorHd
import Derived.Test.YtmlnibjnacfanaaGreatDoorHf
namespace Go.Proofs.YtmlnibjnacfanaaGreatDoor
open Go.RowKit

/-- What the reference's Things answers. -/
def TopR (T : List Th) (E : Int) (w : World) (e : Ending) (w' : World) : Prop := ∃ A cap, e = .returned (.tuple #[.slice A T.length cap, .int .i64 E]) ∧ ThsN w.heap.size w' A T ∧ Below w.heap.size w w'
section
variable {w : World} {q k t r v : Int} {l : List UInt8} {kids : Fr}
set_option maxHeartbeats 2000000 in
set_option maxRecDepth 100000 in
theorem topR (hi : Nat) (kv : Value) (hhi : hi ≤ w.heap.size) (hs : SlAt w hi kv kids) (hl : l.length ≤ 9223372036854775807) :
    Calls Tryz.prog 26 #[condV q k t r l v kv] w (TopR (topT q k t r l v kids) (checkC 2 q k t r l v kids) w) := by
  obtain ⟨A, cap, rfl, s'⟩ := hs
  have hs2 : SlAt w hi (.slice A kids.len cap) kids := ⟨A, cap, rfl, s'⟩
  have hb1 := alloc_b w (.cells #[.int .i64 q, .int .i64 k, .int .i64 t, .int .i64 r, .string ⟨l.toArray⟩, .int .i64 v, .slice A kids.len cap] 28 (0, 0))
  have hs3 := hs2.below hhi hb1
  have HS := Lib.hid hs3
  have HSU := Lib.hid (hs3.up (show hi ≤ (w.alloc (.cells #[.int .i64 q, .int .i64 k, .int .i64 t, .int .i64 r, .string ⟨l.toArray⟩, .int .i64 v, .slice A kids.len cap] 28 (0, 0))).heap.size by simp; omega))
  have HB1 := Lib.hid hb1
  have HBN := Lib.hid (Blk.new w 28 #[.int .i64 q, .int .i64 k, .int .i64 t, .int .i64 r, .string ⟨l.toArray⟩, .int .i64 v, .slice A kids.len cap])
  by_cases hck : checkC 2 q k t r l v kids = 0
  · obtain ⟨ho, hk, hall, hv, hnl⟩ := cond_ok hck
    have HCK := Lib.hid hck
    have hN := nodeG_all (k := k) (t := t) (r := r) (l := l) (v := v) ho hk
    have HTP := Lib.hid (fun (w2 : World) (h3 : w.heap.size ≤ w2.heap.size) (h1 : hi ≤ w2.heap.size) (h2 : SlAt w2 hi (.slice A kids.len cap) kids) => hN w2 hi _ none 0 [] w.heap.size h3 h1 h2 ⟨ThsB.nil _ _, fun _ e => by cases e⟩ (by simp; omega))
    rw [show topT q k t r l v kids = gatL (atL k t r l ++ atomsF kids) [] by unfold topT; rw [if_pos hck, gatL_thsU hv], hck]
    obtain ⟨T, hT⟩ : ∃ T, gatL (atL k t r l ++ atomsF kids) [] = T := ⟨_, rfl⟩
    rw [hT] at HTP ⊢
    clear s' hs2 hs3 hb1 hv hck hT ho hk hall hN
    go_enter Tryz.func26, Tryz.ntmps26
    go_wp2_with (first
      | (go_at_call 15; refine (checkR 2 q k t r l v _ kids _ hl HSU.out).mono ?_; rw [HCK.out]; rintro e w2 ⟨rfl, hb2⟩; have hB := HBN.out.go hb2; have c1 := hB.cell 1; have c2 := hB.cell 2; have c3 := hB.cell 3; have c4 := hB.cell 4; have c5 := hB.cell 5; have c6 := hB.cell 6; have HB2 := Lib.hid hb2; have hz2 := hb2.size; simp at hz2; have HS2 := Lib.hid (HS.out.below (by simp; omega) hb2); clear hB hb2)
      | (go_at_call 59; refine (HTP.out _ (by omega) (by omega) HS2.out).mono ?_; rintro e w3 ⟨g, cg, rfl, ht, hb3⟩; have HT := Lib.hid ht; have HB3 := Lib.hid hb3; clear ht hb3))
    go_ret2
    exact ⟨g, cg, rfl, HT.out, below_trans HB1.out (below_trans HB2.out HB3.out)⟩
  · obtain ⟨E, hE⟩ : ∃ E, checkC 2 q k t r l v kids = E := ⟨_, rfl⟩
    rw [show topT q k t r l v kids = [] by unfold topT; rw [if_neg hck], hE]
    rw [hE] at hck
    have HCK := Lib.hid hE
    have e1 : (E != 0) = true := by simpa using hck
    clear s' hs2 hs3 hb1 hck hE
    go_enter Tryz.func26, Tryz.ntmps26
    go_wp2_with (go_at_call 15; refine (checkR 2 q k t r l v _ kids _ hl HSU.out).mono ?_; rw [HCK.out]; rintro e w2 ⟨rfl, hb2⟩)
    go_ret2
    exact ⟨none, 0, rfl, ⟨ThsB.nil _ _, fun _ e => by cases e⟩, below_trans HB1.out hb2⟩
set_option maxHeartbeats 2000000 in
set_option maxRecDepth 100000 in
theorem fitsR (n : Nat) (A : Option Addr) (cA : Nat) (st : List Int) (A2 : Option Addr) (c2 : Nat) (w : World) (hst : st.length ≤ 9223372036854775806) (hn : n ≤ 1000000) (hA : IntsAt w A2 st) :
    Calls Tryz.prog 60 #[.slice A n cA, .slice A2 st.length c2] w fun e w' => e = .returned (.bool (numsB st n)) ∧ w = w' := by
  have HA := Lib.hid hA
  clear hA
  by_cases he : st.length = n
  · subst he
    have HV := Lib.hid (show numsB st st.length = st.all numB by simp [numsB])
    go_enter Tryz.func60, Tryz.ntmps60
    go_wp2_with fail
    go_loopw [5] (fun i wr => ∃ j : Nat, j ≤ st.length ∧ i = .int .i64 j ∧ (st.take j).all numB = true ∧ w = wr) (fun i _ => st.length - (intOf i).toNat)
    case atStart => exact ⟨0, Nat.zero_le _, rfl, by simp, rfl⟩
    case round =>
      obtain ⟨j, hj, rfl, hno, rfl⟩ := hrel
      have HNO := Lib.hid hno
      clear hno
      by_cases hlt : j < st.length
      · have ex := List.getElem?_eq_getElem hlt
        obtain ⟨x, hx⟩ : ∃ x, st[j] = x := ⟨_, rfl⟩
        rw [hx] at ex
        obtain ⟨b, o, rfl, c0⟩ := HA.out _ _ ex
        obtain ⟨bj, hbj⟩ : ∃ bj, numB x = bj := ⟨_, rfl⟩
        have HBJ := Lib.hid hbj
        have HEX := Lib.hid ex
        clear hx ex hbj
        cases bj with
        | true =>
          go_wp2_with (go_at_call 32; refine (numR _ x).mono ?_; rw [HBJ.out]; rintro e w2 ⟨rfl, rfl⟩)
          go_roundw
          case rel => exact ⟨j + 1, by omega, by go_num, by rw [List.take_add_one, HEX.out]; simp [HNO.out, HBJ.out], trivial⟩
          case measure => simp [intOf]; omega
        | false =>
          have HF := Lib.hid (show st.all numB = false by rw [List.all_eq_false]; exact ⟨x, List.mem_of_getElem? HEX.out, by simp [HBJ.out]⟩)
          go_wp2_with (go_at_call 32; refine (numR _ x).mono ?_; rw [HBJ.out]; rintro e w2 ⟨rfl, rfl⟩)
          go_ret
          exact ⟨ret_bool (by rw [HV.out, HF.out]), rfl⟩
      · have HFIN := Lib.hid (show st.all numB = true by have := HNO.out; rwa [List.take_of_length_le (by omega)] at this)
        go_wp2_with fail
        go_ret
        exact ⟨ret_bool (by rw [HV.out, HFIN.out]), rfl⟩
  · have HV := Lib.hid (show numsB st n = false by simp [numsB, he])
    have he' : ((st.length : Int) != (n : Int)) = true := by simp; omega
    go_enter Tryz.func60, Tryz.ntmps60
    go_wp2_with fail
    go_ret
    exact ⟨ret_bool HV.out.symm, rfl⟩
theorem thsU_nodup {L : List Th} (hv : ∀ x ∈ L, vthB x) : (thsU L).Nodup := by
  have h := thsU_str hv
  have hs := thsU_sub L
  refine List.Pairwise.imp_of_mem (fun {a b} ha hb hab => ?_) h
  rintro rfl
  exact st_irr (hv a (hs a ha)) hab
set_option maxHeartbeats 2000000 in
set_option maxRecDepth 100000 in
theorem evalR (hi : Nat) (kv : Value) (st : List Int) (A2 : Option Addr) (c2 : Nat) (hhi : hi ≤ w.heap.size) (hs : SlAt w hi kv kids) (hl : l.length ≤ 9223372036854775807) (hst : st.length ≤ 9223372036854775806) (hA : IntsAt w A2 st) :
    Calls Tryz.prog 27 #[condV q k t r l v kv, .slice A2 st.length c2] w fun e w' => e = .returned (.tuple #[.bool (evalU q k t r l v kids st).1, .int .i64 (evalU q k t r l v kids st).2]) ∧ Below w.heap.size w w' := by
  obtain ⟨A, cap, rfl, s'⟩ := hs
  have hs2 : SlAt w hi (.slice A kids.len cap) kids := ⟨A, cap, rfl, s'⟩
  have hb1 := alloc_b w (.cells #[.int .i64 q, .int .i64 k, .int .i64 t, .int .i64 r, .string ⟨l.toArray⟩, .int .i64 v, .slice A kids.len cap] 28 (0, 0))
  have hs3 := hs2.below hhi hb1
  have HS := Lib.hid hs3
  have HB1 := Lib.hid hb1
  have HBN := Lib.hid (Blk.new w 28 #[.int .i64 q, .int .i64 k, .int .i64 t, .int .i64 r, .string ⟨l.toArray⟩, .int .i64 v, .slice A kids.len cap])
  have HI := Lib.hid (hA.below hb1)
  have htp := topR (w := w.alloc (.cells #[.int .i64 q, .int .i64 k, .int .i64 t, .int .i64 r, .string ⟨l.toArray⟩, .int .i64 v, .slice A kids.len cap] 28 (0, 0))) (q := q) (k := k) (t := t) (r := r) (v := v) hi _ (by simp; omega) hs3 hl
  by_cases hck : checkC 2 q k t r l v kids = 0
  · obtain ⟨ho, hk, _, hv, hnl⟩ := cond_ok hck
    have hu := thsU_len (atL k t r l ++ atomsF kids)
    have hnd := thsU_nodup hv
    have hin : ∀ x ∈ atL k t r l ++ atomsF kids, x ∈ thsU (atL k t r l ++ atomsF kids) := fun x hx => (thsU_mem _ x).2 hx
    have hev : evalU q k t r l v kids st = if numsB st (thsU (atL k t r l ++ atomsF kids)).length then (hOf (valG (thsU (atL k t r l ++ atomsF kids)) st (fun _ => 0)) k t r l v (hL (valG (thsU (atL k t r l ++ atomsF kids)) st (fun _ => 0)) kids), 0) else (false, 1) := by
      unfold evalU holdsU; rw [if_pos hck]
    rw [show topT q k t r l v kids = thsU (atL k t r l ++ atomsF kids) by unfold topT; rw [if_pos hck], hck] at htp
    obtain ⟨T, hT⟩ : ∃ T, thsU (atL k t r l ++ atomsF kids) = T := ⟨_, rfl⟩
    rw [hT] at htp hev hu hnd hin
    have HTP := Lib.hid htp
    have HEV := Lib.hid hev
    have hTl : T.length ≤ 1000000 := by omega
    have HO := Lib.hid ho
    have HK := Lib.hid hk
    have HND := Lib.hid hnd
    have HIN := Lib.hid hin
    obtain ⟨nb, hnb⟩ : ∃ b, numsB st T.length = b := ⟨_, rfl⟩
    have HNB := Lib.hid hnb
    clear s' hs2 hs3 hb1 hv hck hA ho hk hev hnb hu htp hT hnl hnd hin
    cases nb with
    | false =>
      have HR := Lib.hid (show evalU q k t r l v kids st = (false, 1) by rw [HEV.out, HNB.out]; rfl)
      go_enter Tryz.func27, Tryz.ntmps27
      go_wp2_with (first
        | (go_at_call 26; refine HTP.out.mono ?_; rintro e w2 ⟨Au, cu, rfl, ⟨hth, _⟩, hb2⟩; have HI2 := Lib.hid (HI.out.below hb2); have HB2 := Lib.hid hb2; clear hth hb2)
        | (go_at_call 60; refine (fitsR T.length Au cu st A2 c2 _ hst hTl HI2.out).mono ?_; rw [HNB.out]; rintro e w3 ⟨rfl, rfl⟩))
      go_ret2
      exact ⟨by rw [HR.out]; rfl, below_trans HB1.out HB2.out⟩
    | true =>
      have hns := HNB.out
      simp only [numsB, Bool.and_eq_true, decide_eq_true_eq, List.all_eq_true] at hns
      have HSL := Lib.hid hns.1
      clear hns
      have HR := Lib.hid (show evalU q k t r l v kids st = (hOf (valG T st (fun _ => 0)) k t r l v (hL (valG T st (fun _ => 0)) kids), 0) by rw [HEV.out, HNB.out]; rfl)
      go_enter Tryz.func27, Tryz.ntmps27
      go_wp2_with (first
        | (go_at_call 26; refine HTP.out.mono ?_; rintro e w2 ⟨Au, cu, rfl, ⟨hth, _⟩, hb2⟩; have HTH := Lib.hid hth; have HI2 := Lib.hid (HI.out.below hb2); have HB2 := Lib.hid hb2; have hz2 := hb2.size; simp at hz2; have hB := HBN.out.go hb2; have c1 := hB.cell 1; have c2' := hB.cell 2; have c3 := hB.cell 3; have c4 := hB.cell 4; have c5 := hB.cell 5; have c6 := hB.cell 6; have HS2 := Lib.hid (HS.out.below (by simp; omega) hb2); clear hth hb2 hB)
        | (go_at_call 60; refine (fitsR T.length Au cu st A2 c2 _ hst hTl HI2.out).mono ?_; rw [HNB.out]; rintro e w3 ⟨rfl, rfl⟩)
        | (go_at_call 61; refine (nodeJ_all hTl HSL.out HND.out _ hi _ Au cu A2 c2 (by omega) HS2.out HTH.out HI2.out HIN.out HO.out HK.out).mono ?_; rintro e w5 ⟨rfl, hb5⟩))
      go_ret2
      exact ⟨by rw [HR.out]; rfl, below_trans HB1.out (below_trans HB2.out hb5)⟩
  · obtain ⟨E, hE⟩ : ∃ E, checkC 2 q k t r l v kids = E := ⟨_, rfl⟩
    rw [hE] at htp hck
    have HR := Lib.hid (show evalU q k t r l v kids st = (false, E) by unfold evalU; rw [hE, if_neg hck])
    have e1 : (E != 0) = true := by simpa using hck
    have HTP := Lib.hid htp
    clear s' hs2 hs3 hb1 hck hA hE htp
    go_enter Tryz.func27, Tryz.ntmps27
    go_wp2_with (go_at_call 26; refine HTP.out.mono ?_; rintro e w2 ⟨Au, cu, rfl, ⟨hth, _⟩, hb2⟩)
    go_ret2
    exact ⟨by rw [HR.out]; rfl, below_trans HB1.out hb2⟩
end

section
variable {w : World} {q k t r v : Int} {l : List UInt8} {kids : Fr}
set_option maxHeartbeats 4000000 in
set_option maxRecDepth 100000 in
theorem judgeR (hi : Nat) (kv : Value) (sts : List (List Int)) (As : Option Addr) (cs : Nat) (hhi : hi ≤ w.heap.size) (hs : SlAt w hi kv kids) (hl : l.length ≤ 9223372036854775807) (hst : sts.length ≤ 9223372036854775806) (hA : StsAt w As sts) :
    Calls Tryz.prog 34 #[condV q k t r l v kv, .slice As sts.length cs] w fun e w' => e = .returned (.tuple #[.bool (judgeU q k t r l v kids sts).1, .int .i64 (judgeU q k t r l v kids sts).2]) ∧ Below w.heap.size w w' := by
  obtain ⟨A, cap, rfl, s'⟩ := hs
  have hs2 : SlAt w hi (.slice A kids.len cap) kids := ⟨A, cap, rfl, s'⟩
  have hb1 := alloc_b w (.cells #[.int .i64 q, .int .i64 k, .int .i64 t, .int .i64 r, .string ⟨l.toArray⟩, .int .i64 v, .slice A kids.len cap] 28 (0, 0))
  have hs3 := hs2.below hhi hb1
  have HS := Lib.hid hs3
  have HB1 := Lib.hid hb1
  have HBN := Lib.hid (Blk.new w 28 #[.int .i64 q, .int .i64 k, .int .i64 t, .int .i64 r, .string ⟨l.toArray⟩, .int .i64 v, .slice A kids.len cap])
  have HI := Lib.hid (hA.below hb1)
  have htp := topR (w := w.alloc (.cells #[.int .i64 q, .int .i64 k, .int .i64 t, .int .i64 r, .string ⟨l.toArray⟩, .int .i64 v, .slice A kids.len cap] 28 (0, 0))) (q := q) (k := k) (t := t) (r := r) (v := v) hi _ (by simp; omega) hs3 hl
  by_cases hck : checkC 2 q k t r l v kids = 0
  · obtain ⟨ho, hk, _, hv, hnl⟩ := cond_ok hck
    have HO := Lib.hid ho
    have HK := Lib.hid hk
    have hu := thsU_len (atL k t r l ++ atomsF kids)
    have hnd := thsU_nodup hv
    have hin : ∀ x ∈ atL k t r l ++ atomsF kids, x ∈ thsU (atL k t r l ++ atomsF kids) := fun x hx => (thsU_mem _ x).2 hx
    have hev : judgeU q k t r l v kids sts = (if sts.all (fun st => numsB st (thsU (atL k t r l ++ atomsF kids)).length) then
      ((if q = 1 then sts.any (holdsU k t r l v kids) else if q = 2 then !(sts.any (holdsU k t r l v kids)) else sts.all (holdsU k t r l v kids)), 0) else (false, 1)) := by
      unfold judgeU; rw [if_pos hck]
    have hhol : ∀ st, holdsU k t r l v kids st = hOf (valG (thsU (atL k t r l ++ atomsF kids)) st (fun _ => 0)) k t r l v (hL (valG (thsU (atL k t r l ++ atomsF kids)) st (fun _ => 0)) kids) := fun _ => rfl
    rw [show topT q k t r l v kids = thsU (atL k t r l ++ atomsF kids) by unfold topT; rw [if_pos hck], hck] at htp
    obtain ⟨T, hT⟩ : ∃ T, thsU (atL k t r l ++ atomsF kids) = T := ⟨_, rfl⟩
    obtain ⟨hU, hhU⟩ : ∃ hU, holdsU k t r l v kids = hU := ⟨_, rfl⟩
    rw [hT] at htp hev hu hnd hin hhol
    rw [hhU] at hev hhol
    have HTP := Lib.hid htp
    have HEV := Lib.hid hev
    have HHOL := Lib.hid hhol
    have hTl : T.length ≤ 1000000 := by omega
    have HND := Lib.hid hnd
    have HIN := Lib.hid hin
    clear s' hs2 hs3 hb1 hv hck hA ho hk hev hu hnd hin htp hT hnl hhol hhU
    go_enter Tryz.func34, Tryz.ntmps34
    go_wp2_with (first
        | (go_at_call 26; refine HTP.out.mono ?_; rintro e w2 ⟨Au, cu, rfl, ⟨hth, _⟩, hb2⟩; have HT := Lib.hid hth; have HI2 := Lib.hid (HI.out.below hb2); have HB2 := Lib.hid hb2; have hz2 := hb2.size; have HBN2 := Lib.hid (HBN.out.go hb2); clear hth hb2))
    have hz1 := HB1.out.size
    have HS2 := Lib.hid (HS.out.below (by simp; omega) HB2.out)
    have hlt0 := HBN2.out.lt
    have hz2' := hz2
    simp only [World.size_alloc] at hz2'
    go_loopw [10] (fun i wr => ∃ j : Nat, j ≤ sts.length ∧ i = .int .i64 j ∧ (sts.take j).all (fun st => numsB st T.length) = true ∧ w2 = wr) (fun i _ => sts.length - (intOf i).toNat)
    case atStart => exact ⟨0, Nat.zero_le _, rfl, by simp, rfl⟩
    case round =>
      obtain ⟨j, hj, rfl, hall, rfl⟩ := hrel
      have HALL := Lib.hid hall
      clear hall
      by_cases hlt : j < sts.length
      · have ex := List.getElem?_eq_getElem hlt
        obtain ⟨st, hst'⟩ : ∃ st, sts[j] = st := ⟨_, rfl⟩
        rw [hst'] at ex
        obtain ⟨bs, os, A2, c2, rfl, hcs, hints, hsl⟩ := HI2.out j st ex
        have HIX := Lib.hid hints
        have HEX := Lib.hid ex
        obtain ⟨nb, hnb⟩ : ∃ b, numsB st T.length = b := ⟨_, rfl⟩
        have HNB := Lib.hid hnb
        clear ex hst' hints hnb
        cases nb with
        | false =>
          have HR := Lib.hid (show judgeU q k t r l v kids sts = (false, 1) by rw [HEV.out, all_no _ _ _ _ HEX.out HNB.out]; rfl)
          go_wp2_with (go_at_call 60; refine (fitsR T.length Au cu st A2 c2 _ hsl hTl HIX.out).mono ?_; rw [HNB.out]; rintro e w3 ⟨rfl, rfl⟩)
          go_ret2
          exact ⟨by rw [HR.out]; rfl, below_trans HB1.out HB2.out⟩
        | true =>
          have HAL2 := Lib.hid (show (sts.take (j + 1)).all (fun st => numsB st T.length) = true by rw [all_take _ _ _ _ HEX.out, HALL.out, HNB.out]; rfl)
          go_wp2_with (go_at_call 60; refine (fitsR T.length Au cu st A2 c2 _ hsl hTl HIX.out).mono ?_; rw [HNB.out]; rintro e w3 ⟨rfl, rfl⟩)
          go_roundw
          case rel => exact ⟨j + 1, by omega, by go_num, HAL2.out, trivial⟩
          case measure => simp [intOf]; omega
      · have HAT := Lib.hid (show sts.all (fun st => numsB st T.length) = true by have := HALL.out; rwa [List.take_of_length_le (by omega)] at this)
        have HEV2 := Lib.hid (show judgeU q k t r l v kids sts = ((if q = 1 then sts.any hU else if q = 2 then !(sts.any hU) else sts.all hU), 0) by rw [HEV.out, HAT.out]; rfl)
        go_wp2_with fail
        go_loopw [8, 9, 11] (fun sm al i wr => ∃ j : Nat, j ≤ sts.length ∧ i = .int .i64 j ∧ sm = .bool ((sts.take j).any hU) ∧ al = .bool ((sts.take j).all hU) ∧ Below w2.heap.size w2 wr) (fun _ _ i _ => sts.length - (intOf i).toNat)
        case atStart => exact ⟨0, Nat.zero_le _, rfl, by simp, by simp, Below.refl _ _⟩
        case round =>
          obtain ⟨j', hj', rfl, rfl, rfl, hb⟩ := hrel
          have HB := Lib.hid hb
          have hzb := hb.size
          have hB := HBN2.out.go hb
          have c0 := hB.cell 0
          have c1 := hB.cell 1
          have c2' := hB.cell 2
          have c3 := hB.cell 3
          have c4 := hB.cell 4
          have c5 := hB.cell 5
          have c6 := hB.cell 6
          have HBN3 := Lib.hid hB
          clear hb hB
          by_cases hlt' : j' < sts.length
          · have ex := List.getElem?_eq_getElem hlt'
            obtain ⟨st, hst'⟩ : ∃ st, sts[j'] = st := ⟨_, rfl⟩
            rw [hst'] at ex
            obtain ⟨bs, os, A2, c2, rfl, hcs, hints, hsl⟩ := (HI2.out.below HB.out) j' st ex
            have HIX := Lib.hid hints
            have HAN2 := Lib.hid (any_take hU _ _ _ ex)
            have HAL3 := Lib.hid (all_take hU _ _ _ ex)
            have hnb : numsB st T.length = true := List.all_eq_true.1 HAT.out st (List.mem_of_getElem? ex)
            simp only [numsB, Bool.and_eq_true, decide_eq_true_eq] at hnb
            have HSL := Lib.hid hnb.1
            obtain ⟨hb', hhb⟩ : ∃ b, hU st = b := ⟨_, rfl⟩
            have HHB := Lib.hid ((HHOL.out st).symm.trans hhb)
            have HAN3 := Lib.hid (show (sts.take (j' + 1)).any hU = ((sts.take j').any hU || hb') by rw [HAN2.out, hhb])
            have HAL4 := Lib.hid (show (sts.take (j' + 1)).all hU = ((sts.take j').all hU && hb') by rw [HAL3.out, hhb])
            have d1 := cell_dr c1
            have d2 := cell_dr c2'
            have d3 := cell_dr c3
            have d4 := cell_dr c4
            have d5 := cell_dr c5
            have d6 := cell_dr c6
            have ds := cell_dr hcs
            have i1 : (j' : Int) < (sts.length : Int) := by omega
            have HSW := Lib.hid (show SlAt wr.drew hi (.slice A kids.len cap) kids from SlAt.below (w := wr) (HS2.out.below (by omega) HB.out) (by omega) (Below.refl _ _).drew)
            have HTW := Lib.hid (show ThsB wr.drew Au T from (show ThsB wr Au T from HT.out.below HB.out))
            have HIW := Lib.hid (show IntsAt wr.drew A2 st from HIX.out)
            clear ex hst' hints hnb hhb
            cases hb'
            all_goals
              go_wp2_with fail
              refine still_tail 7 (by kernel_rfl) (by kernel_rfl) ?_
              simp only [List.take_succ_cons, List.take_zero, List.drop_succ_cons, List.drop_zero]
              repeat still_step
              refine wpStill_nil ?_
              go_wp2_with (go_at_call 61; refine (nodeJ_all hTl HSL.out HND.out wr.drew hi _ Au cu A2 c2 (show hi ≤ wr.heap.size by omega) HSW.out HTW.out HIW.out HIN.out HO.out HK.out).mono ?_; rw [HHB.out]; rintro e w5 ⟨rfl, hb5⟩)
              go_roundw
              case rel => exact ⟨j' + 1, by omega, by go_num, by rw [HAN3.out]; simp, by rw [HAL4.out]; simp, below_trans HB.out (below_of_drew hb5)⟩
              case measure => simp [intOf]; omega
          · have hje : j' = sts.length := by omega
            subst hje
            have htk : sts.take sts.length = sts := List.take_length
            by_cases h1 : q = 1
            · subst h1
              go_wp2_with fail
              go_ret2
              exact ⟨by rw [HEV2.out]; simp, below_trans HB1.out (below_trans HB2.out HB.out)⟩
            by_cases h2 : q = 2
            · subst h2
              go_wp2_with fail
              go_ret2
              exact ⟨by rw [HEV2.out]; simp, below_trans HB1.out (below_trans HB2.out HB.out)⟩
            · have e1 : (q == 1) = false := by simpa using h1
              have e2 : (q == 2) = false := by simpa using h2
              have HQ := Lib.hid h1
              have HQ2 := Lib.hid h2
              clear h1 h2
              go_wp2_with fail
              go_ret2
              exact ⟨by rw [HEV2.out, if_neg HQ.out, if_neg HQ2.out]; simp, below_trans HB1.out (below_trans HB2.out HB.out)⟩
  · obtain ⟨E, hE⟩ : ∃ E, checkC 2 q k t r l v kids = E := ⟨_, rfl⟩
    rw [hE] at htp hck
    have HR := Lib.hid (show judgeU q k t r l v kids sts = (false, E) by unfold judgeU; rw [hE, if_neg hck])
    have e1 : (E != 0) = true := by simpa using hck
    have HTP := Lib.hid htp
    clear s' hs2 hs3 hb1 hck hA hE htp
    go_enter Tryz.func34, Tryz.ntmps34
    go_wp2_with (go_at_call 26; refine HTP.out.mono ?_; rintro e w2 ⟨Au, cu, rfl, ⟨hth, _⟩, hb2⟩)
    go_ret2
    exact ⟨by rw [HR.out]; rfl, below_trans HB1.out hb2⟩
end
end Go.Proofs.YtmlnibjnacfanaaGreatDoor
