/- Layer 8: the program's Eval. Layer 8: the program's Eval at any condition. Layer 8: the program's Judge at any condition. -/
import Derived.Test.YtmlnibjnacfanaaGreatDoorEg
import Derived.Test.YtmlnibjnacfanaaGreatDoorEl
import Derived.Test.YtmlnibjnacfanaaGreatDoorHd
namespace Go.Proofs.YtmlnibjnacfanaaGreatDoor
open Go.RowKit

/-- What Eval answers at a condition that may be. -/
def evalC (k t r : Int) (l : List UInt8) (v : Int) (kids : Fr) (st : List Int) : Bool × Int :=
  if numsB st (atL k t r l ++ atomsF kids).length then (hOf (valG (sortT (atL k t r l ++ atomsF kids)) st (fun _ => 0)) k t r l v (hL (valG (sortT (atL k t r l ++ atomsF kids)) st (fun _ => 0)) kids), 0) else (false, 1)
section
variable {w : World} {q k t r v : Int} {l : List UInt8} {kids : Fr}
set_option maxHeartbeats 2000000 in
set_option maxRecDepth 100000 in
theorem evalP (hi : Nat) (kv : Value) (st : List Int) (A2 : Option Addr) (c2 : Nat) (hhi : hi ≤ w.heap.size) (hs : SlAt w hi kv kids) (hl : l.length ≤ 9223372036854775807) (hall : 1 + kids.all ≤ 1000000) (hck : checkC 2 q k t r l v kids = 0) (ho : ownB 2 k t r l v kids.len = true) (hk : okF 2 kids)
    (hv : ∀ x ∈ atL k t r l ++ atomsF kids, vthB x) (hnd : (atL k t r l ++ atomsF kids).Nodup) (hne : 0 < (atL k t r l ++ atomsF kids).length) (hst : st.length ≤ 9223372036854775806) (hA : IntsAt w A2 st) :
    Calls Tryz.prog 23 #[condV q k t r l v kv, .slice A2 st.length c2] w fun e w' => e = .returned (.tuple #[.bool (evalC k t r l v kids st).1, .int .i64 (evalC k t r l v kids st).2]) ∧ Below w.heap.size w w' := by
  obtain ⟨A, cap, rfl, s'⟩ := hs
  have hs2 : SlAt w hi (.slice A kids.len cap) kids := ⟨A, cap, rfl, s'⟩
  have hb1 := alloc_b w (.cells #[.int .i64 q, .int .i64 k, .int .i64 t, .int .i64 r, .string ⟨l.toArray⟩, .int .i64 v, .slice A kids.len cap] 28 (0, 0))
  have hs3 := hs2.below hhi hb1
  have HS := Lib.hid hs3
  have HB1 := Lib.hid hb1
  have HBN := Lib.hid (Blk.new w 28 #[.int .i64 q, .int .i64 k, .int .i64 t, .int .i64 r, .string ⟨l.toArray⟩, .int .i64 v, .slice A kids.len cap])
  have HI := Lib.hid (hA.below hb1)
  have HO := Lib.hid ho
  have HK := Lib.hid hk
  have hat1 : (atL k t r l).length ≤ 1 := by unfold atL; split <;> simp
  have haf1 := atomsF_len kids
  have hnl : (atL k t r l ++ atomsF kids).length ≤ 1000000 := by simp; omega
  have HTP := Lib.hid (topP (w := w.alloc (.cells #[.int .i64 q, .int .i64 k, .int .i64 t, .int .i64 r, .string ⟨l.toArray⟩, .int .i64 v, .slice A kids.len cap] 28 (0, 0))) hi _ (by simp; omega) hs3 hl hall hck hv hnd hne)
  obtain ⟨L, hLL⟩ : ∃ L, atL k t r l ++ atomsF kids = L := ⟨_, rfl⟩
  have hev : evalC k t r l v kids st = if numsB st L.length then (hOf (valG (sortT L) st (fun _ => 0)) k t r l v (hL (valG (sortT L) st (fun _ => 0)) kids), 0) else (false, 1) := by rw [← hLL]; rfl
  rw [hLL] at hnl hne HTP hv
  have HEV := Lib.hid hev
  have HNL := Lib.hid hnl
  have HNE := Lib.hid hne
  have HOKT := Lib.hid (fun x (hx : x ∈ sortT L) => thing_ok (hv x ((sortT_perm L).mem_iff.1 hx)))
  obtain ⟨nb, hnb⟩ : ∃ b, numsB st L.length = b := ⟨_, rfl⟩
  have HNB := Lib.hid hnb
  clear s' hs2 hs3 hb1 hv hnd hne hck hat1 haf1 hLL hnl hA ho hk hev hnb
  cases nb with
  | false =>
    have HR := Lib.hid (show evalC k t r l v kids st = (false, 1) by rw [HEV.out, HNB.out]; rfl)
    go_enter Tryz.func23, Tryz.ntmps23
    go_wp2_with (first
      | (go_at_call 22; refine HTP.out.mono ?_; rintro e w2 ⟨g, cg, rfl, hg, ht, hb2⟩; have HI2 := Lib.hid (HI.out.below hb2); have HB2 := Lib.hid hb2; clear ht hb2)
      | (go_at_call 56; refine (numbersP st L.length A2 c2 _ hst HNL.out HI2.out).mono ?_; rw [HNB.out]; rintro e w3 ⟨rfl, hb3⟩))
    go_ret2
    exact ⟨by rw [HR.out]; rfl, below_trans HB1.out (below_trans HB2.out hb3)⟩
  | true =>
    have hns := HNB.out
    simp only [numsB, Bool.and_eq_true, decide_eq_true_eq, List.all_eq_true] at hns
    have HSL := Lib.hid hns.1
    have HAN := Lib.hid hns.2
    clear hns
    have HR := Lib.hid (show evalC k t r l v kids st = (hOf (valG (sortT L) st (fun _ => 0)) k t r l v (hL (valG (sortT L) st (fun _ => 0)) kids), 0) by rw [HEV.out, HNB.out]; rfl)
    go_enter Tryz.func23, Tryz.ntmps23
    go_wp2_with (first
      | (go_at_call 22; refine HTP.out.mono ?_; rintro e w2 ⟨g, cg, rfl, hg, ht, hb2⟩; have HT := Lib.hid ht; have HI2 := Lib.hid (HI.out.below hb2); have HB2 := Lib.hid hb2; have hz2 := hb2.size; clear ht hb2)
      | (go_at_call 56; refine (numbersP st L.length A2 c2 _ hst HNL.out HI2.out).mono ?_; rw [HNB.out]; rintro e w3 ⟨rfl, hb3⟩; have HI3 := Lib.hid (HI2.out.below hb3); have HB3 := Lib.hid hb3; have hz3 := hb3.size; have hB := (HBN.out.go HB2.out).go hb3; have c1 := hB.cell 1; have c2' := hB.cell 2; have c3 := hB.cell 3; have c4 := hB.cell 4; have c5 := hB.cell 5; have c6 := hB.cell 6; clear hb3))
    have HK3 := Lib.hid (fun x (hx : Below w3.heap.size w3 x) => (⟨(hB.go hx).cell 1, (hB.go hx).cell 2, (hB.go hx).cell 3, (hB.go hx).cell 4, (hB.go hx).cell 5, (hB.go hx).cell 6⟩ : x.cell? ⟨w.heap.size, 1, none⟩ = some (.int .i64 k) ∧ x.cell? ⟨w.heap.size, 2, none⟩ = some (.int .i64 t) ∧ x.cell? ⟨w.heap.size, 3, none⟩ = some (.int .i64 r) ∧ x.cell? ⟨w.heap.size, 4, none⟩ = some (.string ⟨l.toArray⟩) ∧ x.cell? ⟨w.heap.size, 5, none⟩ = some (.int .i64 v) ∧ x.cell? ⟨w.heap.size, 6, none⟩ = some (.slice A kids.len cap)))
    clear hB
    have hz1 := HB1.out.size
    have HT3 := Lib.hid (fun (i : Nat) (x : Th) (hx : (sortT L)[i]? = some x) => (⟨g, rfl, (HT.out.below HB3.out (World.block_lt_of_cell? w2 _ (HT.out i x hx).1)) i x hx⟩ : ∃ g', some (⟨g, 0, none⟩ : Addr) = some ⟨g', 0, none⟩ ∧ w3.drew.cell? ⟨g', i * 3, none⟩ = some (.int .i64 x.1) ∧ w3.drew.cell? ⟨g', i * 3 + 1, none⟩ = some (.int .i64 x.2.1) ∧ w3.drew.cell? ⟨g', i * 3 + 2, none⟩ = some (.string ⟨x.2.2.toArray⟩)))
    have hgv := givenP (sortT L) st (some ⟨g, 0, none⟩) A2 cg c2 w3.drew (by rw [sortT_len]; exact HNL.out) (by rw [sortT_len]; exact HSL.out) HOKT.out HAN.out HT3.out HI3.out
    rw [sortT_len] at hgv
    have HGV := Lib.hid hgv
    clear hgv
    have HS3 := Lib.hid ((HS.out.below (by simp; omega) HB2.out).below (by simp at hz2; omega) HB3.out)
    go_region_held3 (fun x => x.cell? ⟨w.heap.size, 1, none⟩ = some (.int .i64 k) ∧ x.cell? ⟨w.heap.size, 2, none⟩ = some (.int .i64 t) ∧ x.cell? ⟨w.heap.size, 3, none⟩ = some (.int .i64 r) ∧ x.cell? ⟨w.heap.size, 4, none⟩ = some (.string ⟨l.toArray⟩) ∧ x.cell? ⟨w.heap.size, 5, none⟩ = some (.int .i64 v) ∧ x.cell? ⟨w.heap.size, 6, none⟩ = some (.slice A kids.len cap))
      (first | exact HK3.out _ (Below.refl _ _).drew | exact HK3.out _ (below_of_drew (below_trans HB4.out hb5)) | exact HK3.out _ (below_of_drew HB4.out))
      (first
        | (go_at_call 58; refine HGV.out.mono ?_; rintro e w4 ⟨b, rfl, hbg, hm, hb4⟩; have HM := Lib.hid hm; have HB4 := Lib.hid hb4; have hz4 := hb4.size; simp at hz4; clear hm hb4)
        | (go_at_call 57; refine (nodeH_all w4 hi b _ _ (by omega) HM.out (HS3.out.below (by omega) (below_of_drew HB4.out)) hl HO.out HK.out).mono ?_; rintro e w5 ⟨rfl, hb5⟩))
    go_wp2_with fail
    go_ret2
    exact ⟨by rw [HR.out]; rfl, below_trans HB1.out (below_trans HB2.out (below_trans HB3.out (below_trans (below_of_drew HB4.out) hb5)))⟩
end

/-- Whether a condition's node holds, its things having these values. -/
def holdsU (k t r : Int) (l : List UInt8) (v : Int) (kids : Fr) (st : List Int) : Bool :=
  hOf (valG (thsU (atL k t r l ++ atomsF kids)) st (fun _ => 0)) k t r l v (hL (valG (thsU (atL k t r l ++ atomsF kids)) st (fun _ => 0)) kids)
/-- What Eval answers. -/
def evalU (q k t r : Int) (l : List UInt8) (v : Int) (kids : Fr) (st : List Int) : Bool × Int :=
  if checkC 2 q k t r l v kids = 0 then (if numsB st (thsU (atL k t r l ++ atomsF kids)).length then (holdsU k t r l v kids st, 0) else (false, 1)) else (false, checkC 2 q k t r l v kids)
section
variable {w : World} {q k t r v : Int} {l : List UInt8} {kids : Fr}
set_option maxHeartbeats 2000000 in
set_option maxRecDepth 100000 in
theorem evalG (hi : Nat) (kv : Value) (st : List Int) (A2 : Option Addr) (c2 : Nat) (hhi : hi ≤ w.heap.size) (hs : SlAt w hi kv kids) (hl : l.length ≤ 9223372036854775807) (hst : st.length ≤ 9223372036854775806) (hA : IntsAt w A2 st) :
    Calls Tryz.prog 23 #[condV q k t r l v kv, .slice A2 st.length c2] w fun e w' => e = .returned (.tuple #[.bool (evalU q k t r l v kids st).1, .int .i64 (evalU q k t r l v kids st).2]) ∧ Below w.heap.size w w' := by
  obtain ⟨A, cap, rfl, s'⟩ := hs
  have hs2 : SlAt w hi (.slice A kids.len cap) kids := ⟨A, cap, rfl, s'⟩
  have hb1 := alloc_b w (.cells #[.int .i64 q, .int .i64 k, .int .i64 t, .int .i64 r, .string ⟨l.toArray⟩, .int .i64 v, .slice A kids.len cap] 28 (0, 0))
  have hs3 := hs2.below hhi hb1
  have HS := Lib.hid hs3
  have HB1 := Lib.hid hb1
  have HBN := Lib.hid (Blk.new w 28 #[.int .i64 q, .int .i64 k, .int .i64 t, .int .i64 r, .string ⟨l.toArray⟩, .int .i64 v, .slice A kids.len cap])
  have HI := Lib.hid (hA.below hb1)
  have htp := topG (w := w.alloc (.cells #[.int .i64 q, .int .i64 k, .int .i64 t, .int .i64 r, .string ⟨l.toArray⟩, .int .i64 v, .slice A kids.len cap] 28 (0, 0))) (q := q) (k := k) (t := t) (r := r) (v := v) hi _ (by simp; omega) hs3 hl
  by_cases hck : checkC 2 q k t r l v kids = 0
  · obtain ⟨ho, hk, _, hv, hnl⟩ := cond_ok hck
    have HO := Lib.hid ho
    have HK := Lib.hid hk
    have hu := thsU_len (atL k t r l ++ atomsF kids)
    have hokt := fun x (hx : x ∈ thsU (atL k t r l ++ atomsF kids)) => thing_ok (hv x (thsU_sub _ x hx))
    have hev : evalU q k t r l v kids st = if numsB st (thsU (atL k t r l ++ atomsF kids)).length then (hOf (valG (thsU (atL k t r l ++ atomsF kids)) st (fun _ => 0)) k t r l v (hL (valG (thsU (atL k t r l ++ atomsF kids)) st (fun _ => 0)) kids), 0) else (false, 1) := by
      unfold evalU holdsU; rw [if_pos hck]
    rw [show topT q k t r l v kids = thsU (atL k t r l ++ atomsF kids) by unfold topT; rw [if_pos hck], hck] at htp
    obtain ⟨T, hT⟩ : ∃ T, thsU (atL k t r l ++ atomsF kids) = T := ⟨_, rfl⟩
    rw [hT] at htp hev hu hokt
    have HTP := Lib.hid htp
    have HEV := Lib.hid hev
    have hTl : T.length ≤ 1000000 := by omega
    have HOKT := Lib.hid hokt
    obtain ⟨nb, hnb⟩ : ∃ b, numsB st T.length = b := ⟨_, rfl⟩
    have HNB := Lib.hid hnb
    clear s' hs2 hs3 hb1 hv hck hA ho hk hev hnb hu hokt htp hT hnl
    cases nb with
    | false =>
      have HR := Lib.hid (show evalU q k t r l v kids st = (false, 1) by rw [HEV.out, HNB.out]; rfl)
      go_enter Tryz.func23, Tryz.ntmps23
      go_wp2_with (first
        | (go_at_call 22; refine HTP.out.mono ?_; rintro e w2 ⟨u, rfl, hown, hb2⟩; obtain ⟨Au, cu, rfl, hfl, hth⟩ := own_ths hown rfl; have HI2 := Lib.hid (HI.out.below hb2); have HB2 := Lib.hid hb2; clear hown hfl hth hb2)
        | (go_at_call 56; refine (numbersP st T.length A2 c2 _ hst hTl HI2.out).mono ?_; rw [HNB.out]; rintro e w3 ⟨rfl, hb3⟩))
      go_ret2
      exact ⟨by rw [HR.out]; rfl, below_trans HB1.out (below_trans HB2.out hb3)⟩
    | true =>
      have hns := HNB.out
      simp only [numsB, Bool.and_eq_true, decide_eq_true_eq, List.all_eq_true] at hns
      have HSL := Lib.hid hns.1
      have HAN := Lib.hid hns.2
      clear hns
      have HR := Lib.hid (show evalU q k t r l v kids st = (hOf (valG T st (fun _ => 0)) k t r l v (hL (valG T st (fun _ => 0)) kids), 0) by rw [HEV.out, HNB.out]; rfl)
      go_enter Tryz.func23, Tryz.ntmps23
      go_wp2_with (first
        | (go_at_call 22; refine HTP.out.mono ?_; rintro e w2 ⟨u, rfl, hown, hb2⟩; obtain ⟨Au, cu, rfl, hfl, hth⟩ := own_ths hown rfl; have HT := Lib.hid hth; have HI2 := Lib.hid (HI.out.below hb2); have HB2 := Lib.hid hb2; have hz2 := hb2.size; clear hown hfl hth hb2)
        | (go_at_call 56; refine (numbersP st T.length A2 c2 _ hst hTl HI2.out).mono ?_; rw [HNB.out]; rintro e w3 ⟨rfl, hb3⟩; have HI3 := Lib.hid (HI2.out.below hb3); have HB3 := Lib.hid hb3; have hz3 := hb3.size; have hB := (HBN.out.go HB2.out).go hb3; have c1 := hB.cell 1; have c2' := hB.cell 2; have c3 := hB.cell 3; have c4 := hB.cell 4; have c5 := hB.cell 5; have c6 := hB.cell 6; clear hb3))
      have HK3 := Lib.hid (fun x (hx : Below w3.heap.size w3 x) => (⟨(hB.go hx).cell 1, (hB.go hx).cell 2, (hB.go hx).cell 3, (hB.go hx).cell 4, (hB.go hx).cell 5, (hB.go hx).cell 6⟩ : x.cell? ⟨w.heap.size, 1, none⟩ = some (.int .i64 k) ∧ x.cell? ⟨w.heap.size, 2, none⟩ = some (.int .i64 t) ∧ x.cell? ⟨w.heap.size, 3, none⟩ = some (.int .i64 r) ∧ x.cell? ⟨w.heap.size, 4, none⟩ = some (.string ⟨l.toArray⟩) ∧ x.cell? ⟨w.heap.size, 5, none⟩ = some (.int .i64 v) ∧ x.cell? ⟨w.heap.size, 6, none⟩ = some (.slice A kids.len cap)))
      clear hB
      have hz1 := HB1.out.size
      have HT3 := Lib.hid (show ThsA w3.drew Au T from (show ThsA w3 Au T from HT.out.below HB3.out))
      have HGV := Lib.hid (givenP T st Au A2 cu c2 w3.drew hTl HSL.out HOKT.out HAN.out HT3.out HI3.out)
      have HS3 := Lib.hid ((HS.out.below (by simp; omega) HB2.out).below (by simp at hz2; omega) HB3.out)
      go_region_held3 (fun x => x.cell? ⟨w.heap.size, 1, none⟩ = some (.int .i64 k) ∧ x.cell? ⟨w.heap.size, 2, none⟩ = some (.int .i64 t) ∧ x.cell? ⟨w.heap.size, 3, none⟩ = some (.int .i64 r) ∧ x.cell? ⟨w.heap.size, 4, none⟩ = some (.string ⟨l.toArray⟩) ∧ x.cell? ⟨w.heap.size, 5, none⟩ = some (.int .i64 v) ∧ x.cell? ⟨w.heap.size, 6, none⟩ = some (.slice A kids.len cap))
        (first | exact HK3.out _ (Below.refl _ _).drew | exact HK3.out _ (below_of_drew (below_trans HB4.out hb5)) | exact HK3.out _ (below_of_drew HB4.out))
        (first
          | (go_at_call 58; refine HGV.out.mono ?_; rintro e w4 ⟨b, rfl, hbg, hm, hb4⟩; have HM := Lib.hid hm; have HB4 := Lib.hid hb4; have hz4 := hb4.size; simp at hz4; clear hm hb4)
          | (go_at_call 57; refine (nodeH_all w4 hi b _ _ (by omega) HM.out (HS3.out.below (by omega) (below_of_drew HB4.out)) hl HO.out HK.out).mono ?_; rintro e w5 ⟨rfl, hb5⟩))
      go_wp2_with fail
      go_ret2
      exact ⟨by rw [HR.out]; rfl, below_trans HB1.out (below_trans HB2.out (below_trans HB3.out (below_trans (below_of_drew HB4.out) hb5)))⟩
  · obtain ⟨E, hE⟩ : ∃ E, checkC 2 q k t r l v kids = E := ⟨_, rfl⟩
    rw [hE] at htp hck
    have HR := Lib.hid (show evalU q k t r l v kids st = (false, E) by unfold evalU; rw [hE, if_neg hck])
    have e1 : (E != 0) = true := by simpa using hck
    have HTP := Lib.hid htp
    clear s' hs2 hs3 hb1 hck hA hE htp
    go_enter Tryz.func23, Tryz.ntmps23
    go_wp2_with (go_at_call 22; refine HTP.out.mono ?_; rintro e w2 ⟨u, rfl, hown, hb2⟩)
    go_ret2
    exact ⟨by rw [HR.out]; rfl, below_trans HB1.out hb2⟩
end

/-- A slice of slices of ints. -/
def StsAt (w : World) (A : Option Addr) (sts : List (List Int)) : Prop := ∀ i st, sts[i]? = some st → ∃ b o A2 c2, A = some ⟨b, o, none⟩ ∧ w.cell? ⟨b, o + i, none⟩ = some (.slice A2 st.length c2) ∧ IntsAt w A2 st ∧ st.length ≤ 9223372036854775806
theorem StsAt.below {w w' : World} {A : Option Addr} {sts : List (List Int)} (h : StsAt w A sts) (hb : Below w.heap.size w w') : StsAt w' A sts := fun i st hi => by
  obtain ⟨b, o, A2, c2, e, hc, ha, hl⟩ := h i st hi
  exact ⟨b, o, A2, c2, e, (hb.cell (p := ⟨b, o + i, none⟩) (World.block_lt_of_cell? w _ hc)).trans hc, ha.below hb, hl⟩
/-- What Judge answers. -/
def judgeU (q k t r : Int) (l : List UInt8) (v : Int) (kids : Fr) (sts : List (List Int)) : Bool × Int :=
  if checkC 2 q k t r l v kids = 0 then
    (if sts.all (fun st => numsB st (thsU (atL k t r l ++ atomsF kids)).length) then
      ((if q = 1 then sts.any (holdsU k t r l v kids) else if q = 2 then !(sts.any (holdsU k t r l v kids)) else sts.all (holdsU k t r l v kids)), 0) else (false, 1))
  else (false, checkC 2 q k t r l v kids)
theorem any_take {α : Type} (p : α → Bool) (l : List α) (j : Nat) (x : α) (h : l[j]? = some x) : (l.take (j + 1)).any p = ((l.take j).any p || p x) := by
  rw [List.take_add_one, h]; simp
theorem all_take {α : Type} (p : α → Bool) (l : List α) (j : Nat) (x : α) (h : l[j]? = some x) : (l.take (j + 1)).all p = ((l.take j).all p && p x) := by
  rw [List.take_add_one, h]; simp
theorem all_no {α : Type} (p : α → Bool) (l : List α) (j : Nat) (x : α) (h : l[j]? = some x) (hp : p x = false) : l.all p = false := by
  rw [List.all_eq_false]
  exact ⟨x, List.mem_of_getElem? h, by simp [hp]⟩
section
variable {w : World} {q k t r v : Int} {l : List UInt8} {kids : Fr}
set_option maxHeartbeats 2000000 in
set_option maxRecDepth 100000 in
theorem judgeG (hi : Nat) (kv : Value) (sts : List (List Int)) (As : Option Addr) (cs : Nat) (hhi : hi ≤ w.heap.size) (hs : SlAt w hi kv kids) (hl : l.length ≤ 9223372036854775807) (hst : sts.length ≤ 9223372036854775806) (hA : StsAt w As sts) :
    Calls Tryz.prog 33 #[condV q k t r l v kv, .slice As sts.length cs] w fun e w' => e = .returned (.tuple #[.bool (judgeU q k t r l v kids sts).1, .int .i64 (judgeU q k t r l v kids sts).2]) ∧ Below w.heap.size w w' := by
  obtain ⟨A, cap, rfl, s'⟩ := hs
  have hs2 : SlAt w hi (.slice A kids.len cap) kids := ⟨A, cap, rfl, s'⟩
  have hb1 := alloc_b w (.cells #[.int .i64 q, .int .i64 k, .int .i64 t, .int .i64 r, .string ⟨l.toArray⟩, .int .i64 v, .slice A kids.len cap] 28 (0, 0))
  have hs3 := hs2.below hhi hb1
  have HS := Lib.hid hs3
  have HB1 := Lib.hid hb1
  have HBN := Lib.hid (Blk.new w 28 #[.int .i64 q, .int .i64 k, .int .i64 t, .int .i64 r, .string ⟨l.toArray⟩, .int .i64 v, .slice A kids.len cap])
  have HI := Lib.hid (hA.below hb1)
  have htp := topG (w := w.alloc (.cells #[.int .i64 q, .int .i64 k, .int .i64 t, .int .i64 r, .string ⟨l.toArray⟩, .int .i64 v, .slice A kids.len cap] 28 (0, 0))) (q := q) (k := k) (t := t) (r := r) (v := v) hi _ (by simp; omega) hs3 hl
  by_cases hck : checkC 2 q k t r l v kids = 0
  · obtain ⟨ho, hk, _, hv, hnl⟩ := cond_ok hck
    have HO := Lib.hid ho
    have HK := Lib.hid hk
    have hu := thsU_len (atL k t r l ++ atomsF kids)
    have hokt := fun x (hx : x ∈ thsU (atL k t r l ++ atomsF kids)) => thing_ok (hv x (thsU_sub _ x hx))
    have hev : judgeU q k t r l v kids sts = (if sts.all (fun st => numsB st (thsU (atL k t r l ++ atomsF kids)).length) then
      ((if q = 1 then sts.any (holdsU k t r l v kids) else if q = 2 then !(sts.any (holdsU k t r l v kids)) else sts.all (holdsU k t r l v kids)), 0) else (false, 1)) := by
      unfold judgeU; rw [if_pos hck]
    have hhol : ∀ st, holdsU k t r l v kids st = hOf (valG (thsU (atL k t r l ++ atomsF kids)) st (fun _ => 0)) k t r l v (hL (valG (thsU (atL k t r l ++ atomsF kids)) st (fun _ => 0)) kids) := fun _ => rfl
    rw [show topT q k t r l v kids = thsU (atL k t r l ++ atomsF kids) by unfold topT; rw [if_pos hck], hck] at htp
    obtain ⟨T, hT⟩ : ∃ T, thsU (atL k t r l ++ atomsF kids) = T := ⟨_, rfl⟩
    obtain ⟨hU, hhU⟩ : ∃ hU, holdsU k t r l v kids = hU := ⟨_, rfl⟩
    rw [hT] at htp hev hu hokt hhol
    rw [hhU] at hev hhol
    have HTP := Lib.hid htp
    have HEV := Lib.hid hev
    have HHOL := Lib.hid hhol
    have hTl : T.length ≤ 1000000 := by omega
    have HOKT := Lib.hid hokt
    clear s' hs2 hs3 hb1 hv hck hA ho hk hev hu hokt htp hT hnl hhol hhU
    go_enter Tryz.func33, Tryz.ntmps33
    go_wp2_with (first
        | (go_at_call 22; refine HTP.out.mono ?_; rintro e w2 ⟨u, rfl, hown, hb2⟩; obtain ⟨Au, cu, rfl, hfl, hth⟩ := own_ths hown rfl; have HT := Lib.hid hth; have HI2 := Lib.hid (HI.out.below hb2); have HB2 := Lib.hid hb2; have hz2 := hb2.size; have HBN2 := Lib.hid (HBN.out.go hb2); clear hown hfl hth hb2))
    have hz1 := HB1.out.size
    have HS2 := Lib.hid (HS.out.below (by simp; omega) HB2.out)
    have hlt0 := HBN2.out.lt
    go_loopw [8, 9, 22] (fun sm al i wr => ∃ j : Nat, j ≤ sts.length ∧ i = .int .i64 j ∧ sm = .bool ((sts.take j).any hU) ∧ al = .bool ((sts.take j).all hU) ∧ (sts.take j).all (fun st => numsB st T.length) = true ∧ Below w2.heap.size w2 wr) (fun _ _ i _ => sts.length - (intOf i).toNat)
    case atStart => exact ⟨0, Nat.zero_le _, rfl, by simp, by simp, by simp, Below.refl _ _⟩
    case round =>
      obtain ⟨j, hj, rfl, rfl, rfl, hall, hb⟩ := hrel
      have HB := Lib.hid hb
      have HALL := Lib.hid hall
      have hzb := hb.size
      have hB := HBN2.out.go hb
      have c0 := hB.cell 0
      have c1 := hB.cell 1
      have c2' := hB.cell 2
      have c3 := hB.cell 3
      have c4 := hB.cell 4
      have c5 := hB.cell 5
      have c6 := hB.cell 6
      have HBN3 := Lib.hid hB
      clear hb hall hB
      by_cases hlt : j < sts.length
      · have ex := List.getElem?_eq_getElem hlt
        obtain ⟨st, hst'⟩ : ∃ st, sts[j] = st := ⟨_, rfl⟩
        rw [hst'] at ex
        obtain ⟨bs, os, A2, c2, rfl, hcs, hints, hsl⟩ := (HI2.out.below HB.out) j st ex
        have HIN := Lib.hid hints
        have HEX := Lib.hid ex
        obtain ⟨nb, hnb⟩ : ∃ b, numsB st T.length = b := ⟨_, rfl⟩
        have HNB := Lib.hid hnb
        clear ex hst' hints hnb
        cases nb with
        | false =>
          have HR := Lib.hid (show judgeU q k t r l v kids sts = (false, 1) by rw [HEV.out, all_no _ _ _ _ HEX.out HNB.out]; rfl)
          go_wp2_with (go_at_call 56; refine (numbersP st T.length A2 c2 _ hsl hTl HIN.out).mono ?_; rw [HNB.out]; rintro e w3 ⟨rfl, hb3⟩)
          go_ret2
          exact ⟨by rw [HR.out]; rfl, below_trans HB1.out (below_trans HB2.out (below_trans HB.out hb3))⟩
        | true =>
          have hns := HNB.out
          simp only [numsB, Bool.and_eq_true, decide_eq_true_eq, List.all_eq_true] at hns
          have HSL := Lib.hid hns.1
          have HAN := Lib.hid hns.2
          have HAL2 := Lib.hid (show (sts.take (j + 1)).all (fun st => numsB st T.length) = true by rw [all_take _ _ _ _ HEX.out, HALL.out, HNB.out]; rfl)
          have HAN2 := Lib.hid (any_take hU _ _ _ HEX.out)
          have HAL3 := Lib.hid (all_take hU _ _ _ HEX.out)
          obtain ⟨hb', hhb⟩ : ∃ b, hU st = b := ⟨_, rfl⟩
          have HHB := Lib.hid ((HHOL.out st).symm.trans hhb)
          rw [hhb] at HAN2 HAL3
          clear hns hhb
          go_wp2_with (go_at_call 56; refine (numbersP st T.length A2 c2 _ hsl hTl HIN.out).mono ?_; rw [HNB.out]; rintro e w3 ⟨rfl, hb3⟩; have HI3 := Lib.hid (HIN.out.below hb3); have HB3 := Lib.hid hb3; have hz3 := hb3.size; have hB := HBN3.out.go hb3; have c1 := hB.cell 1; have c2' := hB.cell 2; have c3 := hB.cell 3; have c4 := hB.cell 4; have c5 := hB.cell 5; have c6 := hB.cell 6; clear hb3)
          have hz2' := hz2
          simp only [World.size_alloc] at hz2'
          have HK3 := Lib.hid (fun x (hx : Below w3.heap.size w3 x) => (⟨(hB.go hx).cell 1, (hB.go hx).cell 2, (hB.go hx).cell 3, (hB.go hx).cell 4, (hB.go hx).cell 5, (hB.go hx).cell 6⟩ : x.cell? ⟨w.heap.size, 1, none⟩ = some (.int .i64 k) ∧ x.cell? ⟨w.heap.size, 2, none⟩ = some (.int .i64 t) ∧ x.cell? ⟨w.heap.size, 3, none⟩ = some (.int .i64 r) ∧ x.cell? ⟨w.heap.size, 4, none⟩ = some (.string ⟨l.toArray⟩) ∧ x.cell? ⟨w.heap.size, 5, none⟩ = some (.int .i64 v) ∧ x.cell? ⟨w.heap.size, 6, none⟩ = some (.slice A kids.len cap)))
          clear hB c0
          have HT3 := Lib.hid (show ThsA w3.drew Au T from (show ThsA w3 Au T from HT.out.below (HB.out.trans (HB3.out.mono hzb))))
          have HGV := Lib.hid (givenP T st Au A2 cu c2 w3.drew hTl HSL.out HOKT.out HAN.out HT3.out HI3.out)
          have HS3 := Lib.hid (HS2.out.below (by omega) (HB.out.trans (HB3.out.mono hzb)))
          cases hb'
          all_goals
            go_region_held3 (fun x => x.cell? ⟨w.heap.size, 1, none⟩ = some (.int .i64 k) ∧ x.cell? ⟨w.heap.size, 2, none⟩ = some (.int .i64 t) ∧ x.cell? ⟨w.heap.size, 3, none⟩ = some (.int .i64 r) ∧ x.cell? ⟨w.heap.size, 4, none⟩ = some (.string ⟨l.toArray⟩) ∧ x.cell? ⟨w.heap.size, 5, none⟩ = some (.int .i64 v) ∧ x.cell? ⟨w.heap.size, 6, none⟩ = some (.slice A kids.len cap))
              (first | exact HK3.out _ (Below.refl _ _).drew | exact HK3.out _ (below_of_drew (below_trans HB4.out hb5)) | exact HK3.out _ (below_of_drew HB4.out))
              (first
                | (go_at_call 58; refine HGV.out.mono ?_; rintro e w4 ⟨b, rfl, hbg, hm, hb4⟩; have HM := Lib.hid hm; have HB4 := Lib.hid hb4; have hz4 := hb4.size; simp at hz4; clear hm hb4)
                | (go_at_call 57; refine (nodeH_all w4 hi b _ _ (by omega) HM.out (HS3.out.below (by omega) (below_of_drew HB4.out)) hl HO.out HK.out).mono ?_; rw [HHB.out]; rintro e w5 ⟨rfl, hb5⟩))
            go_wp2_with fail
            go_roundw
            case rel => exact ⟨j + 1, by omega, by go_num, by rw [HAN2.out]; simp, by rw [HAL3.out]; simp, HAL2.out, below_trans HB.out (below_trans HB3.out (below_trans (below_of_drew HB4.out) hb5))⟩
            case measure => simp [intOf]; omega
      · have hje : j = sts.length := by omega
        subst hje
        have hall' := HALL.out
        rw [List.take_length] at hall'
        have HJ := Lib.hid (show judgeU q k t r l v kids sts = ((if q = 1 then sts.any hU else if q = 2 then !(sts.any hU) else sts.all hU), 0) by rw [HEV.out, hall']; rfl)
        clear hall'
        have htk : sts.take sts.length = sts := List.take_length
        by_cases h1 : q = 1
        · subst h1
          go_wp2_with fail
          go_ret2
          exact ⟨by rw [HJ.out]; simp, below_trans HB1.out (below_trans HB2.out HB.out)⟩
        by_cases h2 : q = 2
        · subst h2
          go_wp2_with fail
          go_ret2
          exact ⟨by rw [HJ.out]; simp, below_trans HB1.out (below_trans HB2.out HB.out)⟩
        · have e1 : (q == 1) = false := by simpa using h1
          have e2 : (q == 2) = false := by simpa using h2
          have HQ := Lib.hid h1
          have HQ2 := Lib.hid h2
          clear h1 h2
          go_wp2_with fail
          go_ret2
          exact ⟨by rw [HJ.out, if_neg HQ.out, if_neg HQ2.out]; simp, below_trans HB1.out (below_trans HB2.out HB.out)⟩
  · obtain ⟨E, hE⟩ : ∃ E, checkC 2 q k t r l v kids = E := ⟨_, rfl⟩
    rw [hE] at htp hck
    have HR := Lib.hid (show judgeU q k t r l v kids sts = (false, E) by unfold judgeU; rw [hE, if_neg hck])
    have e1 : (E != 0) = true := by simpa using hck
    have HTP := Lib.hid htp
    clear s' hs2 hs3 hb1 hck hA hE htp
    go_enter Tryz.func33, Tryz.ntmps33
    go_wp2_with (go_at_call 22; refine HTP.out.mono ?_; rintro e w2 ⟨u, rfl, hown, hb2⟩)
    go_ret2
    exact ⟨by rw [HR.out]; rfl, below_trans HB1.out hb2⟩
end
end Go.Proofs.YtmlnibjnacfanaaGreatDoor
