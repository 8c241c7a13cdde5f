/- Layer 8: the program's Eval. -/
import Derived.Test.YtmlnibjnacfanaaGreatDoorEg
import Derived.Test.YtmlnibjnacfanaaGreatDoorEl
import Derived.Test.YtmlnibjnacfanaaGreatDoorEm
namespace Go.Proofs.YtmlnibjnacfanaaGreatDoor
open Go.RowKit

/-- What Eval answers at a condition that may be. -/
def evalC (k t r : Int) (l : List UInt8) (v : Int) (kids : Fr) (st : List Int) : Bool × Int :=
  if numsB st (atL k t r l ++ atomsF kids).length then (hOf (valG (sortT (atL k t r l ++ atomsF kids)) st (fun _ => 0)) k t r l v (hL (valG (sortT (atL k t r l ++ atomsF kids)) st (fun _ => 0)) kids), 0) else (false, 1)
section
variable {w : World} {q k t r v : Int} {l : List UInt8} {kids : Fr}
set_option maxHeartbeats 2000000 in
set_option maxRecDepth 100000 in
theorem evalP (hi : Nat) (kv : Value) (st : List Int) (A2 : Option Addr) (c2 : Nat) (hhi : hi ≤ w.heap.size) (hs : SlAt w hi kv kids) (hl : l.length ≤ 9223372036854775807) (hall : 1 + kids.all ≤ 1000000) (hck : checkC 2 q k t r l v kids = 0) (ho : ownB 2 k t r l v kids.len = true) (hk : okF 2 kids)
    (hv : ∀ x ∈ atL k t r l ++ atomsF kids, vthB x) (hnd : (atL k t r l ++ atomsF kids).Nodup) (hne : 0 < (atL k t r l ++ atomsF kids).length) (hst : st.length ≤ 9223372036854775806) (hA : IntsAt w A2 st) :
    Calls Tryz.prog 23 #[condV q k t r l v kv, .slice A2 st.length c2] w fun e w' => e = .returned (.tuple #[.bool (evalC k t r l v kids st).1, .int .i64 (evalC k t r l v kids st).2]) ∧ Below w.heap.size w w' := by
  obtain ⟨A, cap, rfl, s'⟩ := hs
  have hs2 : SlAt w hi (.slice A kids.len cap) kids := ⟨A, cap, rfl, s'⟩
  have hb1 := alloc_b w (.cells #[.int .i64 q, .int .i64 k, .int .i64 t, .int .i64 r, .string ⟨l.toArray⟩, .int .i64 v, .slice A kids.len cap] 28 (0, 0))
  have hs3 := hs2.below hhi hb1
  have HS := Lib.hid hs3
  have HB1 := Lib.hid hb1
  have HBN := Lib.hid (Blk.new w 28 #[.int .i64 q, .int .i64 k, .int .i64 t, .int .i64 r, .string ⟨l.toArray⟩, .int .i64 v, .slice A kids.len cap])
  have HI := Lib.hid (hA.below hb1)
  have HO := Lib.hid ho
  have HK := Lib.hid hk
  have hat1 : (atL k t r l).length ≤ 1 := by unfold atL; split <;> simp
  have haf1 := atomsF_len kids
  have hnl : (atL k t r l ++ atomsF kids).length ≤ 1000000 := by simp; omega
  have HTP := Lib.hid (topP (w := w.alloc (.cells #[.int .i64 q, .int .i64 k, .int .i64 t, .int .i64 r, .string ⟨l.toArray⟩, .int .i64 v, .slice A kids.len cap] 28 (0, 0))) hi _ (by simp; omega) hs3 hl hall hck hv hnd hne)
  obtain ⟨L, hLL⟩ : ∃ L, atL k t r l ++ atomsF kids = L := ⟨_, rfl⟩
  have hev : evalC k t r l v kids st = if numsB st L.length then (hOf (valG (sortT L) st (fun _ => 0)) k t r l v (hL (valG (sortT L) st (fun _ => 0)) kids), 0) else (false, 1) := by rw [← hLL]; rfl
  rw [hLL] at hnl hne HTP hv
  have HEV := Lib.hid hev
  have HNL := Lib.hid hnl
  have HNE := Lib.hid hne
  have HOKT := Lib.hid (fun x (hx : x ∈ sortT L) => thing_ok (hv x ((sortT_perm L).mem_iff.1 hx)))
  obtain ⟨nb, hnb⟩ : ∃ b, numsB st L.length = b := ⟨_, rfl⟩
  have HNB := Lib.hid hnb
  clear s' hs2 hs3 hb1 hv hnd hne hck hat1 haf1 hLL hnl hA ho hk hev hnb
  cases nb with
  | false =>
    have HR := Lib.hid (show evalC k t r l v kids st = (false, 1) by rw [HEV.out, HNB.out]; rfl)
    go_enter Tryz.func23, Tryz.ntmps23
    go_wp2_with (first
      | (go_at_call 22; refine HTP.out.mono ?_; rintro e w2 ⟨g, cg, rfl, hg, ht, hb2⟩; have HI2 := Lib.hid (HI.out.below hb2); have HB2 := Lib.hid hb2; clear ht hb2)
      | (go_at_call 56; refine (numbersP st L.length A2 c2 _ hst HNL.out HI2.out).mono ?_; rw [HNB.out]; rintro e w3 ⟨rfl, hb3⟩))
    go_ret2
    exact ⟨by rw [HR.out]; rfl, below_trans HB1.out (below_trans HB2.out hb3)⟩
  | true =>
    have hns := HNB.out
    simp only [numsB, Bool.and_eq_true, decide_eq_true_eq, List.all_eq_true] at hns
    have HSL := Lib.hid hns.1
    have HAN := Lib.hid hns.2
    clear hns
    have HR := Lib.hid (show evalC k t r l v kids st = (hOf (valG (sortT L) st (fun _ => 0)) k t r l v (hL (valG (sortT L) st (fun _ => 0)) kids), 0) by rw [HEV.out, HNB.out]; rfl)
    go_enter Tryz.func23, Tryz.ntmps23
    go_wp2_with (first
      | (go_at_call 22; refine HTP.out.mono ?_; rintro e w2 ⟨g, cg, rfl, hg, ht, hb2⟩; have HT := Lib.hid ht; have HI2 := Lib.hid (HI.out.below hb2); have HB2 := Lib.hid hb2; have hz2 := hb2.size; clear ht hb2)
      | (go_at_call 56; refine (numbersP st L.length A2 c2 _ hst HNL.out HI2.out).mono ?_; rw [HNB.out]; rintro e w3 ⟨rfl, hb3⟩; have HI3 := Lib.hid (HI2.out.below hb3); have HB3 := Lib.hid hb3; have hz3 := hb3.size; have hB := (HBN.out.go HB2.out).go hb3; have c1 := hB.cell 1; have c2' := hB.cell 2; have c3 := hB.cell 3; have c4 := hB.cell 4; have c5 := hB.cell 5; have c6 := hB.cell 6; clear hb3))
    have HK3 := Lib.hid (fun x (hx : Below w3.heap.size w3 x) => (⟨(hB.go hx).cell 1, (hB.go hx).cell 2, (hB.go hx).cell 3, (hB.go hx).cell 4, (hB.go hx).cell 5, (hB.go hx).cell 6⟩ : x.cell? ⟨w.heap.size, 1, none⟩ = some (.int .i64 k) ∧ x.cell? ⟨w.heap.size, 2, none⟩ = some (.int .i64 t) ∧ x.cell? ⟨w.heap.size, 3, none⟩ = some (.int .i64 r) ∧ x.cell? ⟨w.heap.size, 4, none⟩ = some (.string ⟨l.toArray⟩) ∧ x.cell? ⟨w.heap.size, 5, none⟩ = some (.int .i64 v) ∧ x.cell? ⟨w.heap.size, 6, none⟩ = some (.slice A kids.len cap)))
    clear hB
    have hz1 := HB1.out.size
    have HT3 := Lib.hid (fun (i : Nat) (x : Th) (hx : (sortT L)[i]? = some x) => (⟨g, rfl, (HT.out.below HB3.out (World.block_lt_of_cell? w2 _ (HT.out i x hx).1)) i x hx⟩ : ∃ g', some (⟨g, 0, none⟩ : Addr) = some ⟨g', 0, none⟩ ∧ w3.drew.cell? ⟨g', i * 3, none⟩ = some (.int .i64 x.1) ∧ w3.drew.cell? ⟨g', i * 3 + 1, none⟩ = some (.int .i64 x.2.1) ∧ w3.drew.cell? ⟨g', i * 3 + 2, none⟩ = some (.string ⟨x.2.2.toArray⟩)))
    have hgv := givenP (sortT L) st (some ⟨g, 0, none⟩) A2 cg c2 w3.drew (by rw [sortT_len]; exact HNL.out) (by rw [sortT_len]; exact HSL.out) HOKT.out HAN.out HT3.out HI3.out
    rw [sortT_len] at hgv
    have HGV := Lib.hid hgv
    clear hgv
    have HS3 := Lib.hid ((HS.out.below (by simp; omega) HB2.out).below (by simp at hz2; omega) HB3.out)
    go_region_held3 (fun x => x.cell? ⟨w.heap.size, 1, none⟩ = some (.int .i64 k) ∧ x.cell? ⟨w.heap.size, 2, none⟩ = some (.int .i64 t) ∧ x.cell? ⟨w.heap.size, 3, none⟩ = some (.int .i64 r) ∧ x.cell? ⟨w.heap.size, 4, none⟩ = some (.string ⟨l.toArray⟩) ∧ x.cell? ⟨w.heap.size, 5, none⟩ = some (.int .i64 v) ∧ x.cell? ⟨w.heap.size, 6, none⟩ = some (.slice A kids.len cap))
      (first | exact HK3.out _ (Below.refl _ _).drew | exact HK3.out _ (below_of_drew (below_trans HB4.out hb5)) | exact HK3.out _ (below_of_drew HB4.out))
      (first
        | (go_at_call 58; refine HGV.out.mono ?_; rintro e w4 ⟨b, rfl, hbg, hm, hb4⟩; have HM := Lib.hid hm; have HB4 := Lib.hid hb4; have hz4 := hb4.size; simp at hz4; clear hm hb4)
        | (go_at_call 57; refine (nodeH_all w4 hi b _ _ (by omega) HM.out (HS3.out.below (by omega) (below_of_drew HB4.out)) hl HO.out HK.out).mono ?_; rintro e w5 ⟨rfl, hb5⟩))
    go_wp2_with fail
    go_ret2
    exact ⟨by rw [HR.out]; rfl, below_trans HB1.out (below_trans HB2.out (below_trans HB3.out (below_trans (below_of_drew HB4.out) hb5)))⟩
end
end Go.Proofs.YtmlnibjnacfanaaGreatDoor
