/- Layer 8: Print. -/
import Derived.Test.YtmlnibjnacfanaaGreatDoorCk
namespace Go.Proofs.YtmlnibjnacfanaaGreatDoor
open Go.RowKit

set_option maxHeartbeats 2000000 in
set_option maxRecDepth 100000 in
theorem printP (a q k t r : Int) (l : List UInt8) (v : Int) (kv : Value) (kids : Fr) (w : World) (hE : Env w) (hl : l.length ≤ 9223372036854775807) (hs : SlAt w w.heap.size kv kids) :
    Calls Tryz.prog 13 #[.int .i64 a, condV q k t r l v kv] w fun e w' => e = .returned (printC a q k t r l v kids) ∧ Below w.heap.size w w' := by
  obtain ⟨A, cap, rfl, hs'⟩ := hs
  have hs : SlAt w w.heap.size (.slice A kids.len cap) kids := ⟨A, cap, rfl, hs'⟩
  have h6 : 6 ≤ w.heap.size := hE.size
  have hB0 := alloc_b w (.cells #[.int .i64 q, .int .i64 k, .int .i64 t, .int .i64 r, .string ⟨l.toArray⟩, .int .i64 v, .slice A kids.len cap] 28 (0, 0))
  have HB0 := Lib.hid hB0
  have HS := Lib.hid hs
  have HS0 := Lib.hid ((hs.below (Nat.le_refl _) hB0).up (show w.heap.size ≤ _ from hB0.size))
  have HBX := Lib.hid (Blk.new w 28 #[.int .i64 q, .int .i64 k, .int .i64 t, .int .i64 r, .string ⟨l.toArray⟩, .int .i64 v, .slice A kids.len cap])
  clear hs' hs hB0
  obtain ⟨ee, hee⟩ : ∃ ee, checkC a q k t r l v kids = ee := ⟨_, rfl⟩
  by_cases h0 : ee = 0
  case neg =>
    have HV := Lib.hid (show printC a q k t r l v kids = .tuple #[.string ⟨#[]⟩, .int .i64 ee] by rw [printC, hee, if_neg h0])
    have HEE := Lib.hid hee
    have h0' : (ee != 0) = true := by simpa using h0
    clear hee h0
    go_enter Tryz.func13, Tryz.ntmps13
    go_wp2_with fail
    refine (checkP a q k t r l v _ kids _ hl HS0.out).mono ?_
    rw [HEE.out]
    rintro e w1 ⟨rfl, hb1⟩
    go_wp2_with fail
    go_ret2
    exact ⟨by rw [HV.out]; rfl, below_trans HB0.out hb1⟩
  subst h0
  have hlen := condT_len hee
  obtain ⟨_, hq1, hq2, hob, hok, _⟩ := checkC_ok hee
  have HV := Lib.hid (show printC a q k t r l v kids = .tuple #[.string ⟨(condT a q k t r l v kids).toArray⟩, .int .i64 0] by rw [printC, hee, if_pos rfl])
  have HEE := Lib.hid hee
  have HLN := Lib.hid hlen
  have HOB := Lib.hid hob
  have HOK := Lib.hid hok
  clear hee hlen hob hok
  go_enter Tryz.func13, Tryz.ntmps13
  go_wp2_with fail
  refine (checkP a q k t r l v _ kids _ hl HS0.out).mono ?_
  rw [HEE.out]
  rintro e w1 ⟨rfl, hb1⟩
  have HB1 := Lib.hid (below_trans HB0.out hb1)
  have HX1 := Lib.hid (HBX.out.go hb1)
  have hz1 : w.heap.size < w1.heap.size := HX1.out.lt
  clear hb1
  go_wp2_with fail
  generalize hW : w1.alloc (.cells #[.pointer none, .slice none 0 0, .int .i64 a] 72 (0, 0)) = W
  have hpr : PrAt W w1.heap.size w1.heap.size (.pointer none) [] a := by
    rw [← hW]
    exact ⟨Nat.le_refl _, .slice none 0 0, heap_alloc_new w1 _, World.ownsRow_nil _ _ _ _, by simp [Value.ownBlock]⟩
  have hB : Below w1.heap.size w1 W := by rw [← hW]; exact alloc_b _ _
  have hX : Blk W w.heap.size 28 #[.int .i64 q, .int .i64 k, .int .i64 t, .int .i64 r, .string ⟨l.toArray⟩, .int .i64 v, .slice A kids.len cap] := HX1.out.go hB
  have HP := Lib.hid hpr
  have HB := Lib.hid hB
  have HX := Lib.hid hX
  have hzW : w1.heap.size < W.heap.size := hpr.lt
  clear hW hpr hB hX
  obtain rfl | rfl | rfl : q = 1 ∨ q = 2 ∨ q = 3 := by omega
  · have HS1 : Hid (∀ x, Below W.heap.size W x → x.cell? ⟨w.heap.size, 0, none⟩ = some (.int .i64 1)) := Lib.hid (fun x hx => (HX.out.go hx).cell 0)
    have HS2 : Hid (∀ x, Pq w1.heap.size w1.heap.size W x → x.cell? ⟨w.heap.size, 0, none⟩ = some (.int .i64 1)) := Lib.hid (fun x hx => (Pq.blk HX.out hx (by omega) (by decide)).cell 0)
    refine wp_region_held_drew (S := fun x => x.cell? ⟨w.heap.size, 0, none⟩ = some (.int .i64 1)) (by kernel_rfl) (HS1.out _ (Below.refl _ _).drew) (fun hHeld => ?_)
    refine wpAnyH_take (i := 0) (v := ?_) rfl (by kernel_rfl) (by kernel_rfl) (by kernel_rfl) (fun _ _ _ h => h) (Or.inl ⟨by rfl, ?_⟩) (by assumption) ?_
    rotate_left
    · intro x hSx
      try dsimp only at hSx
      go_simp
      try with_reducible rfl
    simp only [Act.put, List.setIfInBounds_toArray]
    refine wpAnyH_take (i := 1) (v := ?_) rfl (by kernel_rfl) (by kernel_rfl) (by kernel_rfl) (fun _ _ _ h => h) (Or.inl ⟨by rfl, ?_⟩) (by assumption) ?_
    rotate_left
    · intro x hSx
      try dsimp only at hSx
      go_simp
      try with_reducible rfl
    simp only [Act.put]
    refine wpAnyH_take (i := 2) (v := ?_) rfl (by kernel_rfl) (by kernel_rfl) (by kernel_rfl) (fun _ _ _ h => h) (Or.inl ⟨by rfl, ?_⟩) (by assumption) ?_
    rotate_left
    · intro x hSx
      try dsimp only at hSx
      go_simp
      try with_reducible rfl
    simp only [Act.put]
    refine wpAnyH_take (i := 4) (v := ?_) rfl (by kernel_rfl) (by kernel_rfl) (by kernel_rfl) (fun _ _ _ h => h) (Or.inl ⟨by rfl, ?_⟩) (by assumption) ?_
    rotate_left
    · intro x hSx
      try dsimp only at hSx
      go_simp
      try with_reducible rfl
    simp only [Act.put]
    refine wpAnyH_take (i := 5) (v := ?_) rfl (by kernel_rfl) (by kernel_rfl) (by kernel_rfl) (fun _ _ _ h => h) (Or.inl ⟨by rfl, ?_⟩) (by assumption) ?_
    rotate_left
    · intro x hSx
      try dsimp only at hSx
      go_simp
      try with_reducible rfl
    simp only [Act.put]
    refine wpAnyH_ready (rs := [3]) (by kernel_rfl) (by simp) ?_
    refine AllReadyH.cons rfl (fun K hK => ?_) AllReadyH.nil
    go_simp
    refine hK.out _ _ (HS1.out _ (below_alloc ((Below.refl _ _).drew) _)) (fun _ => ?_)
    clear hK K
    try simp only [Act.put, List.setIfInBounds_toArray, List.set_cons_zero, List.set_cons_succ]
    refine wpAnyH_ready (rs := [6]) (by kernel_rfl) (by simp) ?_
    refine AllReadyH.cons rfl (fun K hK => ?_) AllReadyH.nil
    go_simp
    refine hK.out _ _ (HS1.out _ (below_alloc ((Below.refl _ _).drew) _)) (fun _ => ?_)
    clear hK K
    try simp only [Act.put, List.setIfInBounds_toArray, List.set_cons_zero, List.set_cons_succ]
    refine wpAnyH_ready (rs := [7]) (by kernel_rfl) (by simp) ?_
    refine AllReadyH.cons rfl (fun K hK => ?_) AllReadyH.nil
    go_simp
    refine hK.out _ _ (HS1.out _ (below_alloc ((Below.refl _ _).drew) _)) (fun _ => ?_)
    clear hK K
    try simp only [Act.put, List.setIfInBounds_toArray, List.set_cons_zero, List.set_cons_succ]
    refine wpAnyH_ready (rs := [8]) (by kernel_rfl) (by simp) ?_
    refine AllReadyH.cons rfl (fun K hK => ?_) AllReadyH.nil
    go_simp
    go_at_call 37
    refine (writeString_c w1.heap.size w1.heap.size [] a _ _ (IsPr.below (.inl HP.out) (below_alloc ((Below.refl _ _).drew) _)) (by simp [ByteArray.size]) (by simp; omega)).mono ?_
    rintro e x2 ⟨rfl, hp2, hq2⟩
    refine hK.out _ _ (HS2.out _ (Pq.trans (Pq.of_below (below_alloc ((Below.refl _ _).drew) _) (by omega)) hq2)) (fun _ => ?_)
    clear hK K
    try simp only [Act.put, List.setIfInBounds_toArray, List.set_cons_zero, List.set_cons_succ]
    refine wpAnyH_done (by kernel_rfl) ?_ _
    have hqq : Pq w1.heap.size w1.heap.size W x2 := Pq.trans (Pq.of_below (below_alloc ((Below.refl _ _).drew) _) (by omega)) hq2
    have hX2 := Pq.blk HX.out hqq (by omega) (by decide)
    have HB2 := Lib.hid (below_trans HB1.out (HB.out.trans hqq.low))
    have hz2 : w1.heap.size ≤ x2.heap.size := (HB.out.trans hqq.low).size
    have HP2 : IsPr x2 w1.heap.size w1.heap.size (quantT 1) a := .inr hp2
    have HP2 := Lib.hid HP2
    have d1 := hX2.cell 1
    have d2 := hX2.cell 2
    have d3 := hX2.cell 3
    have d4 := hX2.cell 4
    have d5 := hX2.cell 5
    have d6 := hX2.cell 6
    have hlow := HB.out.trans hqq.low
    have HS3 := Lib.hid ((HS.out.below (Nat.le_refl _) HB2.out))
    have HE2 := Lib.hid (hE.mono HB2.out)
    clear hp2 hq2 hqq hX2 hlow
    go_wp2_with fail
    refine (nodeW_step (allW a kids) _ w1.heap.size w1.heap.size w.heap.size _ _ HP2.out (by omega) hz2 (by omega) HE2.out HOB.out HOK.out (by have := HLN.out; unfold condT at this; simp only [List.length_append] at this; omega) hl HS3.out).mono ?_
    rintro e x3 ⟨rfl, hp3, hq3⟩
    have HP3 := Lib.hid hp3
    have HB3 := Lib.hid (show Below w.heap.size w x3 from HB2.out.trans (hq3.low.mono (by omega)))
    have hz3 : w1.heap.size ≤ x3.heap.size := Nat.le_trans hz2 hq3.low.size
    clear hp3 hq3 d1 d2 d3 d4 d5 d6
    go_wp2_with fail
    refine (write_c w1.heap.size w1.heap.size _ a [41] _ HP3.out (by have := HLN.out; unfold condT at this; simp only [List.length_append] at this ⊢; omega) hz3).mono ?_
    rintro e x4 ⟨rfl, hp4, hq4⟩
    have HP4 := Lib.hid hp4
    have HB4 := Lib.hid (show Below w.heap.size w x4 from HB3.out.trans (hq4.low.mono (by omega)))
    clear hp4 hq4
    go_wp2_with fail
    refine (string_c w1.heap.size w1.heap.size _ _ a _ HP4.out (by simp)).mono ?_
    rintro e x5 ⟨rfl, hb5⟩
    have HB5 := Lib.hid (show Below w.heap.size w x5 from HB4.out.trans (hb5.mono (by omega)))
    clear hb5
    go_wp2_with fail
    go_ret2
    exact ⟨by rw [HV.out]; rfl, HB5.out⟩
  · have HS1 : Hid (∀ x, Below W.heap.size W x → x.cell? ⟨w.heap.size, 0, none⟩ = some (.int .i64 2)) := Lib.hid (fun x hx => (HX.out.go hx).cell 0)
    have HS2 : Hid (∀ x, Pq w1.heap.size w1.heap.size W x → x.cell? ⟨w.heap.size, 0, none⟩ = some (.int .i64 2)) := Lib.hid (fun x hx => (Pq.blk HX.out hx (by omega) (by decide)).cell 0)
    refine wp_region_held_drew (S := fun x => x.cell? ⟨w.heap.size, 0, none⟩ = some (.int .i64 2)) (by kernel_rfl) (HS1.out _ (Below.refl _ _).drew) (fun hHeld => ?_)
    refine wpAnyH_take (i := 0) (v := ?_) rfl (by kernel_rfl) (by kernel_rfl) (by kernel_rfl) (fun _ _ _ h => h) (Or.inl ⟨by rfl, ?_⟩) (by assumption) ?_
    rotate_left
    · intro x hSx
      try dsimp only at hSx
      go_simp
      try with_reducible rfl
    simp only [Act.put, List.setIfInBounds_toArray]
    refine wpAnyH_take (i := 1) (v := ?_) rfl (by kernel_rfl) (by kernel_rfl) (by kernel_rfl) (fun _ _ _ h => h) (Or.inl ⟨by rfl, ?_⟩) (by assumption) ?_
    rotate_left
    · intro x hSx
      try dsimp only at hSx
      go_simp
      try with_reducible rfl
    simp only [Act.put]
    refine wpAnyH_take (i := 2) (v := ?_) rfl (by kernel_rfl) (by kernel_rfl) (by kernel_rfl) (fun _ _ _ h => h) (Or.inl ⟨by rfl, ?_⟩) (by assumption) ?_
    rotate_left
    · intro x hSx
      try dsimp only at hSx
      go_simp
      try with_reducible rfl
    simp only [Act.put]
    refine wpAnyH_take (i := 4) (v := ?_) rfl (by kernel_rfl) (by kernel_rfl) (by kernel_rfl) (fun _ _ _ h => h) (Or.inl ⟨by rfl, ?_⟩) (by assumption) ?_
    rotate_left
    · intro x hSx
      try dsimp only at hSx
      go_simp
      try with_reducible rfl
    simp only [Act.put]
    refine wpAnyH_take (i := 5) (v := ?_) rfl (by kernel_rfl) (by kernel_rfl) (by kernel_rfl) (fun _ _ _ h => h) (Or.inl ⟨by rfl, ?_⟩) (by assumption) ?_
    rotate_left
    · intro x hSx
      try dsimp only at hSx
      go_simp
      try with_reducible rfl
    simp only [Act.put]
    refine wpAnyH_ready (rs := [3]) (by kernel_rfl) (by simp) ?_
    refine AllReadyH.cons rfl (fun K hK => ?_) AllReadyH.nil
    go_simp
    refine hK.out _ _ (HS1.out _ (below_alloc ((Below.refl _ _).drew) _)) (fun _ => ?_)
    clear hK K
    try simp only [Act.put, List.setIfInBounds_toArray, List.set_cons_zero, List.set_cons_succ]
    refine wpAnyH_ready (rs := [6]) (by kernel_rfl) (by simp) ?_
    refine AllReadyH.cons rfl (fun K hK => ?_) AllReadyH.nil
    go_simp
    refine hK.out _ _ (HS1.out _ (below_alloc ((Below.refl _ _).drew) _)) (fun _ => ?_)
    clear hK K
    try simp only [Act.put, List.setIfInBounds_toArray, List.set_cons_zero, List.set_cons_succ]
    refine wpAnyH_ready (rs := [7]) (by kernel_rfl) (by simp) ?_
    refine AllReadyH.cons rfl (fun K hK => ?_) AllReadyH.nil
    go_simp
    refine hK.out _ _ (HS1.out _ (below_alloc ((Below.refl _ _).drew) _)) (fun _ => ?_)
    clear hK K
    try simp only [Act.put, List.setIfInBounds_toArray, List.set_cons_zero, List.set_cons_succ]
    refine wpAnyH_ready (rs := [8]) (by kernel_rfl) (by simp) ?_
    refine AllReadyH.cons rfl (fun K hK => ?_) AllReadyH.nil
    go_simp
    go_at_call 37
    refine (writeString_c w1.heap.size w1.heap.size [] a _ _ (IsPr.below (.inl HP.out) (below_alloc ((Below.refl _ _).drew) _)) (by simp [ByteArray.size]) (by simp; omega)).mono ?_
    rintro e x2 ⟨rfl, hp2, hq2⟩
    refine hK.out _ _ (HS2.out _ (Pq.trans (Pq.of_below (below_alloc ((Below.refl _ _).drew) _) (by omega)) hq2)) (fun _ => ?_)
    clear hK K
    try simp only [Act.put, List.setIfInBounds_toArray, List.set_cons_zero, List.set_cons_succ]
    refine wpAnyH_done (by kernel_rfl) ?_ _
    have hqq : Pq w1.heap.size w1.heap.size W x2 := Pq.trans (Pq.of_below (below_alloc ((Below.refl _ _).drew) _) (by omega)) hq2
    have hX2 := Pq.blk HX.out hqq (by omega) (by decide)
    have HB2 := Lib.hid (below_trans HB1.out (HB.out.trans hqq.low))
    have hz2 : w1.heap.size ≤ x2.heap.size := (HB.out.trans hqq.low).size
    have HP2 : IsPr x2 w1.heap.size w1.heap.size (quantT 2) a := .inr hp2
    have HP2 := Lib.hid HP2
    have d1 := hX2.cell 1
    have d2 := hX2.cell 2
    have d3 := hX2.cell 3
    have d4 := hX2.cell 4
    have d5 := hX2.cell 5
    have d6 := hX2.cell 6
    have hlow := HB.out.trans hqq.low
    have HS3 := Lib.hid ((HS.out.below (Nat.le_refl _) HB2.out))
    have HE2 := Lib.hid (hE.mono HB2.out)
    clear hp2 hq2 hqq hX2 hlow
    go_wp2_with fail
    refine (nodeW_step (allW a kids) _ w1.heap.size w1.heap.size w.heap.size _ _ HP2.out (by omega) hz2 (by omega) HE2.out HOB.out HOK.out (by have := HLN.out; unfold condT at this; simp only [List.length_append] at this; omega) hl HS3.out).mono ?_
    rintro e x3 ⟨rfl, hp3, hq3⟩
    have HP3 := Lib.hid hp3
    have HB3 := Lib.hid (show Below w.heap.size w x3 from HB2.out.trans (hq3.low.mono (by omega)))
    have hz3 : w1.heap.size ≤ x3.heap.size := Nat.le_trans hz2 hq3.low.size
    clear hp3 hq3 d1 d2 d3 d4 d5 d6
    go_wp2_with fail
    refine (write_c w1.heap.size w1.heap.size _ a [41] _ HP3.out (by have := HLN.out; unfold condT at this; simp only [List.length_append] at this ⊢; omega) hz3).mono ?_
    rintro e x4 ⟨rfl, hp4, hq4⟩
    have HP4 := Lib.hid hp4
    have HB4 := Lib.hid (show Below w.heap.size w x4 from HB3.out.trans (hq4.low.mono (by omega)))
    clear hp4 hq4
    go_wp2_with fail
    refine (string_c w1.heap.size w1.heap.size _ _ a _ HP4.out (by simp)).mono ?_
    rintro e x5 ⟨rfl, hb5⟩
    have HB5 := Lib.hid (show Below w.heap.size w x5 from HB4.out.trans (hb5.mono (by omega)))
    clear hb5
    go_wp2_with fail
    go_ret2
    exact ⟨by rw [HV.out]; rfl, HB5.out⟩
  · have HS1 : Hid (∀ x, Below W.heap.size W x → x.cell? ⟨w.heap.size, 0, none⟩ = some (.int .i64 3)) := Lib.hid (fun x hx => (HX.out.go hx).cell 0)
    have HS2 : Hid (∀ x, Pq w1.heap.size w1.heap.size W x → x.cell? ⟨w.heap.size, 0, none⟩ = some (.int .i64 3)) := Lib.hid (fun x hx => (Pq.blk HX.out hx (by omega) (by decide)).cell 0)
    refine wp_region_held_drew (S := fun x => x.cell? ⟨w.heap.size, 0, none⟩ = some (.int .i64 3)) (by kernel_rfl) (HS1.out _ (Below.refl _ _).drew) (fun hHeld => ?_)
    refine wpAnyH_take (i := 0) (v := ?_) rfl (by kernel_rfl) (by kernel_rfl) (by kernel_rfl) (fun _ _ _ h => h) (Or.inl ⟨by rfl, ?_⟩) (by assumption) ?_
    rotate_left
    · intro x hSx
      try dsimp only at hSx
      go_simp
      try with_reducible rfl
    simp only [Act.put, List.setIfInBounds_toArray]
    refine wpAnyH_take (i := 1) (v := ?_) rfl (by kernel_rfl) (by kernel_rfl) (by kernel_rfl) (fun _ _ _ h => h) (Or.inl ⟨by rfl, ?_⟩) (by assumption) ?_
    rotate_left
    · intro x hSx
      try dsimp only at hSx
      go_simp
      try with_reducible rfl
    simp only [Act.put]
    refine wpAnyH_take (i := 2) (v := ?_) rfl (by kernel_rfl) (by kernel_rfl) (by kernel_rfl) (fun _ _ _ h => h) (Or.inl ⟨by rfl, ?_⟩) (by assumption) ?_
    rotate_left
    · intro x hSx
      try dsimp only at hSx
      go_simp
      try with_reducible rfl
    simp only [Act.put]
    refine wpAnyH_take (i := 4) (v := ?_) rfl (by kernel_rfl) (by kernel_rfl) (by kernel_rfl) (fun _ _ _ h => h) (Or.inl ⟨by rfl, ?_⟩) (by assumption) ?_
    rotate_left
    · intro x hSx
      try dsimp only at hSx
      go_simp
      try with_reducible rfl
    simp only [Act.put]
    refine wpAnyH_take (i := 5) (v := ?_) rfl (by kernel_rfl) (by kernel_rfl) (by kernel_rfl) (fun _ _ _ h => h) (Or.inl ⟨by rfl, ?_⟩) (by assumption) ?_
    rotate_left
    · intro x hSx
      try dsimp only at hSx
      go_simp
      try with_reducible rfl
    simp only [Act.put]
    refine wpAnyH_ready (rs := [3]) (by kernel_rfl) (by simp) ?_
    refine AllReadyH.cons rfl (fun K hK => ?_) AllReadyH.nil
    go_simp
    refine hK.out _ _ (HS1.out _ (below_alloc ((Below.refl _ _).drew) _)) (fun _ => ?_)
    clear hK K
    try simp only [Act.put, List.setIfInBounds_toArray, List.set_cons_zero, List.set_cons_succ]
    refine wpAnyH_ready (rs := [6]) (by kernel_rfl) (by simp) ?_
    refine AllReadyH.cons rfl (fun K hK => ?_) AllReadyH.nil
    go_simp
    refine hK.out _ _ (HS1.out _ (below_alloc ((Below.refl _ _).drew) _)) (fun _ => ?_)
    clear hK K
    try simp only [Act.put, List.setIfInBounds_toArray, List.set_cons_zero, List.set_cons_succ]
    refine wpAnyH_ready (rs := [7]) (by kernel_rfl) (by simp) ?_
    refine AllReadyH.cons rfl (fun K hK => ?_) AllReadyH.nil
    go_simp
    refine hK.out _ _ (HS1.out _ (below_alloc ((Below.refl _ _).drew) _)) (fun _ => ?_)
    clear hK K
    try simp only [Act.put, List.setIfInBounds_toArray, List.set_cons_zero, List.set_cons_succ]
    refine wpAnyH_ready (rs := [8]) (by kernel_rfl) (by simp) ?_
    refine AllReadyH.cons rfl (fun K hK => ?_) AllReadyH.nil
    go_simp
    go_at_call 37
    refine (writeString_c w1.heap.size w1.heap.size [] a _ _ (IsPr.below (.inl HP.out) (below_alloc ((Below.refl _ _).drew) _)) (by simp [ByteArray.size]) (by simp; omega)).mono ?_
    rintro e x2 ⟨rfl, hp2, hq2⟩
    refine hK.out _ _ (HS2.out _ (Pq.trans (Pq.of_below (below_alloc ((Below.refl _ _).drew) _) (by omega)) hq2)) (fun _ => ?_)
    clear hK K
    try simp only [Act.put, List.setIfInBounds_toArray, List.set_cons_zero, List.set_cons_succ]
    refine wpAnyH_done (by kernel_rfl) ?_ _
    have hqq : Pq w1.heap.size w1.heap.size W x2 := Pq.trans (Pq.of_below (below_alloc ((Below.refl _ _).drew) _) (by omega)) hq2
    have hX2 := Pq.blk HX.out hqq (by omega) (by decide)
    have HB2 := Lib.hid (below_trans HB1.out (HB.out.trans hqq.low))
    have hz2 : w1.heap.size ≤ x2.heap.size := (HB.out.trans hqq.low).size
    have HP2 : IsPr x2 w1.heap.size w1.heap.size (quantT 3) a := .inr hp2
    have HP2 := Lib.hid HP2
    have d1 := hX2.cell 1
    have d2 := hX2.cell 2
    have d3 := hX2.cell 3
    have d4 := hX2.cell 4
    have d5 := hX2.cell 5
    have d6 := hX2.cell 6
    have hlow := HB.out.trans hqq.low
    have HS3 := Lib.hid ((HS.out.below (Nat.le_refl _) HB2.out))
    have HE2 := Lib.hid (hE.mono HB2.out)
    clear hp2 hq2 hqq hX2 hlow
    go_wp2_with fail
    refine (nodeW_step (allW a kids) _ w1.heap.size w1.heap.size w.heap.size _ _ HP2.out (by omega) hz2 (by omega) HE2.out HOB.out HOK.out (by have := HLN.out; unfold condT at this; simp only [List.length_append] at this; omega) hl HS3.out).mono ?_
    rintro e x3 ⟨rfl, hp3, hq3⟩
    have HP3 := Lib.hid hp3
    have HB3 := Lib.hid (show Below w.heap.size w x3 from HB2.out.trans (hq3.low.mono (by omega)))
    have hz3 : w1.heap.size ≤ x3.heap.size := Nat.le_trans hz2 hq3.low.size
    clear hp3 hq3 d1 d2 d3 d4 d5 d6
    go_wp2_with fail
    refine (write_c w1.heap.size w1.heap.size _ a [41] _ HP3.out (by have := HLN.out; unfold condT at this; simp only [List.length_append] at this ⊢; omega) hz3).mono ?_
    rintro e x4 ⟨rfl, hp4, hq4⟩
    have HP4 := Lib.hid hp4
    have HB4 := Lib.hid (show Below w.heap.size w x4 from HB3.out.trans (hq4.low.mono (by omega)))
    clear hp4 hq4
    go_wp2_with fail
    refine (string_c w1.heap.size w1.heap.size _ _ a _ HP4.out (by simp)).mono ?_
    rintro e x5 ⟨rfl, hb5⟩
    have HB5 := Lib.hid (show Below w.heap.size w x5 from HB4.out.trans (hb5.mono (by omega)))
    clear hb5
    go_wp2_with fail
    go_ret2
    exact ⟨by rw [HV.out]; rfl, HB5.out⟩
end Go.Proofs.YtmlnibjnacfanaaGreatDoor
