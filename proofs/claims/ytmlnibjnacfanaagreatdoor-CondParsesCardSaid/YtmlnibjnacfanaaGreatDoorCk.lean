/- Layer 8: the printer's node. -/
import Derived.Test.YtmlnibjnacfanaaGreatDoorCj
namespace Go.Proofs.YtmlnibjnacfanaaGreatDoor
open Go.RowKit

section
variable {a t r v : Int} {l : List UInt8} {kids : Fr}
abbrev nodeBox (k t r : Int) (l : List UInt8) (v : Int) (A : Option Addr) (n cap : Nat) : Obj := .cells #[.int .i64 k, .int .i64 t, .int .i64 r, .string ⟨l.toArray⟩, .int .i64 v, .slice A n cap] 26 (0, 0)
set_option maxHeartbeats 2000000 in
set_option maxRecDepth 100000 in
theorem nodeW_1 : NodeW a 1 t r l v kids := by
  intro w B b hi kv L h hhi hB h6 hE ho hk hlen hl hs
  obtain ⟨A, cap, rfl, hs'⟩ := hs
  have hbl := h.lt
  have H0 := Lib.hid (h.below (alloc_b w (nodeBox 1 t r l v A kids.len cap)))
  have HQ0 := Lib.hid (Pq.of_below (B := B) (b := b) (alloc_b w (nodeBox 1 t r l v A kids.len cap)) hB)
  have hT : nodeT a 1 t r l v kids = [116, 114, 117, 101] := rfl
  rw [hT] at hlen ⊢
  have HL := Lib.hid hlen
  clear hs' h hT hlen ho hk
  go_enter Tryz.func38, Tryz.ntmps38
  go_wp2_with fail
  refine (write_c B b L a [116, 114, 117, 101] _ H0.out HL.out (by simp; omega)).mono ?_
  rintro e w1 ⟨rfl, hp1, hq1⟩
  have HP1 := Lib.hid hp1
  have HQ1 := Lib.hid (HQ0.out.trans hq1)
  clear hp1 hq1
  go_wp2_with fail
  go_end0
  exact ⟨rfl, .inr HP1.out, HQ1.out⟩
set_option maxHeartbeats 2000000 in
set_option maxRecDepth 100000 in
theorem nodeW_4 (hN : AllW a kids) : NodeW a 4 t r l v kids := by
  intro w B b hi kv L h hhi hB h6 hE ho hk hlen hl hs
  obtain ⟨A, cap, rfl, hs'⟩ := hs
  have hs2 : SlAt w hi (.slice A kids.len cap) kids := ⟨A, cap, rfl, hs'⟩
  have hbl := h.lt
  have H0 := Lib.hid (h.below (alloc_b w (nodeBox 4 t r l v A kids.len cap)))
  have HQ0 := Lib.hid (Pq.of_below (B := B) (b := b) (alloc_b w (nodeBox 4 t r l v A kids.len cap)) hB)
  have hT : nodeT a 4 t r l v kids = txtF a kids 4 true := rfl
  rw [hT] at hlen ⊢
  have HL := Lib.hid hlen
  have HS := Lib.hid hs2
  have HK := Lib.hid hk
  have HN := Lib.hid hN
  clear hs' hs2 h hT hlen ho hk hN
  go_enter Tryz.func38, Tryz.ntmps38
  go_wp2_with fail
  refine (kidsP4 HN.out _ B b hi A cap L H0.out hhi (by simp; omega) h6 (hE.low HQ0.out.low h6) HK.out HL.out (HS.out.low hhi HQ0.out.low)).mono ?_
  rintro e w1 ⟨rfl, hp1, hq1⟩
  have HP1 := Lib.hid hp1
  have HQ1 := Lib.hid (HQ0.out.trans hq1)
  clear hp1 hq1
  go_wp2_with fail
  go_end0
  exact ⟨rfl, HP1.out, HQ1.out⟩
set_option maxHeartbeats 2000000 in
set_option maxRecDepth 100000 in
theorem nodeW_5 (hN : AllW a kids) : NodeW a 5 t r l v kids := by
  intro w B b hi kv L h hhi hB h6 hE ho hk hlen hl hs
  obtain ⟨A, cap, rfl, hs'⟩ := hs
  have hs2 : SlAt w hi (.slice A kids.len cap) kids := ⟨A, cap, rfl, hs'⟩
  have hbl := h.lt
  have H0 := Lib.hid (h.below (alloc_b w (nodeBox 5 t r l v A kids.len cap)))
  have HQ0 := Lib.hid (Pq.of_below (B := B) (b := b) (alloc_b w (nodeBox 5 t r l v A kids.len cap)) hB)
  have hT : nodeT a 5 t r l v kids = txtF a kids 5 true := rfl
  rw [hT] at hlen ⊢
  have HL := Lib.hid hlen
  have HS := Lib.hid hs2
  have HK := Lib.hid hk
  have HN := Lib.hid hN
  clear hs' hs2 h hT hlen ho hk hN
  go_enter Tryz.func38, Tryz.ntmps38
  go_wp2_with fail
  refine (kidsP5 HN.out _ B b hi A cap L H0.out hhi (by simp; omega) h6 (hE.low HQ0.out.low h6) HK.out HL.out (HS.out.low hhi HQ0.out.low)).mono ?_
  rintro e w1 ⟨rfl, hp1, hq1⟩
  have HP1 := Lib.hid hp1
  have HQ1 := Lib.hid (HQ0.out.trans hq1)
  clear hp1 hq1
  go_wp2_with fail
  go_end0
  exact ⟨rfl, HP1.out, HQ1.out⟩
set_option maxHeartbeats 4000000 in
set_option maxRecDepth 100000 in
theorem nodeW_3 (hN : AllW a kids) : NodeW a 3 t r l v kids := by
  intro w B b hi kv L h hhi hB h6 hE ho hk hlen hl hs
  obtain ⟨A, cap, rfl, s1, s2, s3⟩ := hs
  have hk1 : kids.len = 1 := by
    unfold ownB at ho
    rw [if_neg (by decide)] at ho
    simp only [Bool.and_eq_true] at ho
    simpa using ho.2
  match kids, hk1 with
  | .cons k' t' r' l' v' kids' .nil, _ =>
  obtain ⟨bb, o, rfl, hb, hrow⟩ := s3 (by simp [Fr.len])
  obtain ⟨kv', q0, q1, q2, q3, q4, q5, hl', hsl'⟩ := RowAt.head hrow
  obtain ⟨A', cap', rfl, hsl''⟩ := hsl'
  have hsl' : SlAt w hi (.slice A' kids'.len cap') kids' := ⟨A', cap', rfl, hsl''⟩
  have hbl := h.lt
  have H0 := Lib.hid (h.below (alloc_b w (nodeBox 3 t r l v (some ⟨bb, o, none⟩) 1 cap)))
  have HQ0 := Lib.hid (Pq.of_below (B := B) (b := b) (alloc_b w (nodeBox 3 t r l v (some ⟨bb, o, none⟩) 1 cap)) hB)
  have HBX := Lib.hid (Blk.new w 26 #[.int .i64 3, .int .i64 t, .int .i64 r, .string ⟨l.toArray⟩, .int .i64 v, .slice (some ⟨bb, o, none⟩) 1 cap])
  have hT : nodeT a 3 t r l v (.cons k' t' r' l' v' kids' .nil) = 126 :: brkT (brkB 4 k') (nodeT a k' t' r' l' v' kids') := by
    show 126 :: txtF a _ 3 true = _
    rw [txtF_step]
    simp [txtF]
    rfl
  rw [hT] at hlen ⊢
  have HL := Lib.hid hlen
  have HS := Lib.hid hsl'
  have HOB := Lib.hid hk.1
  have HOK := Lib.hid hk.2.1
  have HC := Lib.hid hN.1
  have HR : Hid (∀ x, Below B w x → x.cell? ⟨bb, o, none⟩ = some (.int .i64 k') ∧ x.cell? ⟨bb, o + 1, none⟩ = some (.int .i64 t') ∧ x.cell? ⟨bb, o + 2, none⟩ = some (.int .i64 r') ∧ x.cell? ⟨bb, o + 3, none⟩ = some (.string ⟨l'.toArray⟩) ∧ x.cell? ⟨bb, o + 4, none⟩ = some (.int .i64 v') ∧ x.cell? ⟨bb, o + 5, none⟩ = some (.slice A' kids'.len cap')) :=
    Lib.hid (fun x hx => by
      have hbb : bb < B := by omega
      exact ⟨cell_go' q0 hx hbb, cell_go' q1 hx hbb, cell_go' q2 hx hbb, cell_go' q3 hx hbb, cell_go' q4 hx hbb, cell_go' q5 hx hbb⟩)
  have hc1 : 1 ≤ cap := by simpa [Fr.len] using s1
  clear hsl' hsl'' h hT hlen ho hk hN s1 s3 hrow q0 q1 q2 q3 q4 q5 hk1
  go_enter Tryz.func38, Tryz.ntmps38
  go_wp2_with fail
  refine (write_c B b L a [126] _ H0.out (by have := HL.out; simp at this ⊢; omega) (by simp; omega)).mono ?_
  rintro e w1 ⟨rfl, hp1, hq1⟩
  have HP1 := Lib.hid hp1
  have HQ1 := Lib.hid (HQ0.out.trans hq1)
  have HB1 := Lib.hid (Pq.blk HBX.out hq1 (by omega) (by decide))
  have hz1 : B ≤ w1.heap.size := Nat.le_trans hB (HQ0.out.trans hq1).low.size
  have c5 := HB1.out.cell 5
  obtain ⟨q0, q1, q2, q3, q4, q5⟩ := HR.out w1 HQ1.out.low
  clear hp1 hq1
  go_wp2_with fail
  refine still_tail 12 (by kernel_rfl) (by kernel_rfl) ?_
  simp only [List.take_succ_cons, List.take_zero, List.drop_succ_cons, List.drop_zero]
  repeat still_step
  still_call ((weak4 _ _).mono fun _ _ ⟨h, k⟩ => ⟨h, k.symm⟩)
  refine wpStill_nil ?_
  go_wp2_with fail
  refine (kidP HC.out _ w1.drew B b hi _ _ (.inr HP1.out.drew) hhi hz1 h6 (hE.low HQ1.out.drew.low h6) HOB.out HOK.out (by have := HL.out; simp at this ⊢; omega) hl' (HS.out.low hhi HQ1.out.drew.low)).mono ?_
  rintro e w3 ⟨rfl, hp3, hq3⟩
  have HQ3 := Lib.hid (HQ1.out.trans (Pq.of_drew hq3))
  have HP3 := Lib.hid hp3
  clear hp3 hq3 c5 q0 q1 q2 q3 q4 q5
  go_wp2_with fail
  go_end0
  exact ⟨rfl, by have := HP3.out; simpa using this, HQ3.out⟩
set_option maxHeartbeats 4000000 in
set_option maxRecDepth 100000 in
theorem nodeW_2 : NodeW a 2 t r l v kids := by
  intro w B b hi kv L h hhi hB h6 hE ho hk hlen hl hs
  obtain ⟨A, cap, rfl, hs'⟩ := hs
  have hbl := h.lt
  have H0 := Lib.hid (h.below (alloc_b w (nodeBox 2 t r l v A kids.len cap)))
  have HQ0 := Lib.hid (Pq.of_below (B := B) (b := b) (alloc_b w (nodeBox 2 t r l v A kids.len cap)) hB)
  have HBX := Lib.hid (Blk.new w 26 #[.int .i64 2, .int .i64 t, .int .i64 r, .string ⟨l.toArray⟩, .int .i64 v, .slice A kids.len cap])
  have hT : nodeT a 2 t r l v kids = thT a t r l ++ 61 :: Lib.itoa v := rfl
  rw [hT] at hlen ⊢
  unfold ownB at ho
  rw [if_pos rfl] at ho
  simp only [Bool.and_eq_true, decide_eq_true_eq] at ho
  obtain ⟨⟨ho1, ho2⟩, ho3⟩ := ho
  have hv := numB_iff ho2
  have hv1 := hv.1
  have hv2 := hv.2
  have hll := thingB_loc ho1
  have hiv := Lib.itoa_length_le v (by omega) (by omega)
  have k1 : ¬ (9223372036854775807 < l.length + 1) := by omega
  have k2 : ¬ (9223372036854775807 < l.length + 1 + (Lib.itoa v).length) := by omega
  have HL := Lib.hid hlen
  have HT := Lib.hid ho1
  clear hs' h hT hlen ho1 ho2 hk hv
  by_cases ht : t = -1
  · subst ht
    have hth : thT a (-1) r l = l := by simp [thT]
    have HTH := Lib.hid hth
    have ho3' := Lib.hid ho3
    clear hth ho3
    go_enter Tryz.func38, Tryz.ntmps38
    go_wp2_with fail
    generalize hW : w.alloc (nodeBox 2 (-1) r l v A kids.len cap) = W
    have hB1 := HBX.out
    have hQ1 := HQ0.out
    have hP1 := H0.out
    rw [hW] at hB1 hQ1 hP1
    have hn : w.heap.size < W.heap.size := hB1.lt
    have hz : B ≤ W.heap.size := Nat.le_trans hB hQ1.low.size
    have HP := Lib.hid hP1
    have HQ := Lib.hid hQ1
    have HS : Hid (∀ x, Below W.heap.size W x → x.cell? ⟨w.heap.size, 3, none⟩ = some (.string ⟨l.toArray⟩) ∧ x.cell? ⟨w.heap.size, 4, none⟩ = some (.int .i64 v)) := Lib.hid (fun x hx => ⟨(hB1.go hx).cell 3, (hB1.go hx).cell 4⟩)
    have HS2 : Hid (∀ x, Pq B b W x → x.cell? ⟨w.heap.size, 3, none⟩ = some (.string ⟨l.toArray⟩) ∧ x.cell? ⟨w.heap.size, 4, none⟩ = some (.int .i64 v)) := Lib.hid (fun x hx => ⟨(Pq.blk hB1 hx (by omega) (by decide)).cell 3, (Pq.blk hB1 hx (by omega) (by decide)).cell 4⟩)
    have HEW := Lib.hid (hE.low hQ1.drew.low h6)
    have hsum : Hid (L.length + (⟨l.toArray⟩ ++ ⟨#[61]⟩ ++ ⟨(Lib.itoa v).toArray⟩ : ByteArray).size ≤ 140737488355328) := Lib.hid (by have := HL.out; rw [ByteArray.size_append, ByteArray.size_append, str_size, str_size]; simp [HTH.out] at this ⊢; first | omega | (simp [ByteArray.size]; omega))
    clear hW hB1 hQ1 hP1
    go_region_held3 (fun x => x.cell? ⟨w.heap.size, 3, none⟩ = some (.string ⟨l.toArray⟩) ∧ x.cell? ⟨w.heap.size, 4, none⟩ = some (.int .i64 v))
      (first | exact HS.out _ (Below.refl _ _).drew | exact HS2.out _ (Pq.trans (Pq.of_drew (Pq.of_below hb1 hz)) hq2) | exact HS.out _ (below_of_drew hb1))
      (first
        | (go_at_call 69; refine (itoa_c _ _ HEW.out (by omega) (by omega)).mono ?_; rintro e x1 ⟨rfl, hb1⟩)
        | (go_at_call 37; refine (writeString_c B b L a _ _ (HP.out.drew.below hb1) hsum.out (Nat.le_trans hz hb1.size)).mono ?_; rintro e x2 ⟨rfl, hp2, hq2⟩))
    have HP2 := Lib.hid hp2
    have HQ2 := Lib.hid (HQ.out.trans (Pq.trans (Pq.of_drew (Pq.of_below hb1 hz)) hq2))
    clear hp2 hq2 hb1
    go_wp2_with fail
    go_end0
    refine ⟨rfl, .inr ?_, HQ2.out⟩
    have := HP2.out
    rw [ba_append, ba_append] at this
    rw [HTH.out]; simpa using this
  · have ho1 := HT.out
    unfold thingB at ho1
    rw [if_neg ht] at ho1
    simp only [Bool.and_eq_true, decide_eq_true_eq, List.isEmpty_iff] at ho1
    obtain ⟨⟨⟨⟨t1, t2⟩, r1⟩, r2⟩, hln⟩ := ho1
    have HLN := Lib.hid hln
    have hth : thT a t r l = Lib.itoa t ++ 58 :: regT a r := by simp [thT, t1]
    have HTH := Lib.hid hth
    have ho3' := Lib.hid ho3
    have hit := Lib.itoa_length_le t (by omega) (by omega)
    have hrt := regT_len r1 r2
    have HR2 := Lib.hid r2
    have m1 : ¬ (9223372036854775807 < (Lib.itoa t).length + 1) := by omega
    have m2 : ¬ (9223372036854775807 < (Lib.itoa t).length + 1 + (regT a r).length) := by omega
    have t1' : decide (0 ≤ t) = true := by simpa using t1
    clear hth ho3 r2 ht hln
    go_enter Tryz.func38, Tryz.ntmps38
    go_wp2_with fail
    generalize hW : w.alloc (nodeBox 2 t r l v A kids.len cap) = W
    have hB1 := HBX.out
    have hQ1 := HQ0.out
    have hP1 := H0.out
    rw [hW] at hB1 hQ1 hP1
    have hn : w.heap.size < W.heap.size := hB1.lt
    have hz : B ≤ W.heap.size := Nat.le_trans hB hQ1.low.size
    have HP := Lib.hid hP1
    have HQ := Lib.hid hQ1
    have HB1 := Lib.hid hB1
    have HS : Hid (∀ x, Below W.heap.size W x → x.cell? ⟨w.heap.size, 1, none⟩ = some (.int .i64 t) ∧ x.cell? ⟨w.heap.size, 2, none⟩ = some (.int .i64 r) ∧ x.cell? ⟨b, 2, none⟩ = some (.int .i64 a)) := Lib.hid (fun x hx => ⟨(hB1.go hx).cell 1, (hB1.go hx).cell 2, (hP1.below hx).arch⟩)
    have HS2 : Hid (∀ x, Pq B b W x → x.cell? ⟨b, 2, none⟩ = some (.int .i64 a) → x.cell? ⟨w.heap.size, 1, none⟩ = some (.int .i64 t) ∧ x.cell? ⟨w.heap.size, 2, none⟩ = some (.int .i64 r) ∧ x.cell? ⟨b, 2, none⟩ = some (.int .i64 a)) := Lib.hid (fun x hx ha => ⟨(Pq.blk hB1 hx (by omega) (by decide)).cell 1, (Pq.blk hB1 hx (by omega) (by decide)).cell 2, ha⟩)
    have HEW := Lib.hid (hE.low hQ1.drew.low h6)
    have hsum : Hid (L.length + (⟨(Lib.itoa t).toArray⟩ ++ ⟨#[58]⟩ ++ ⟨(regT a r).toArray⟩ : ByteArray).size ≤ 140737488355328) := Lib.hid (by have := HL.out; rw [ByteArray.size_append, ByteArray.size_append, str_size, str_size]; simp [HTH.out] at this ⊢; first | omega | (simp [ByteArray.size]; omega))
    clear hW hB1 hQ1 hP1
    go_region_held3 (fun x => x.cell? ⟨w.heap.size, 1, none⟩ = some (.int .i64 t) ∧ x.cell? ⟨w.heap.size, 2, none⟩ = some (.int .i64 r) ∧ x.cell? ⟨b, 2, none⟩ = some (.int .i64 a))
      (first | exact HS.out _ (Below.refl _ _).drew | exact HS2.out _ (Pq.trans (Pq.of_drew (Pq.of_below (below_trans hb1 hb2) hz)) hq3) hp3.arch | exact HS.out _ (below_of_drew (below_trans hb1 hb2)) | exact HS.out _ (below_of_drew hb1))
      (first
        | (go_at_call 69; refine (itoa_c _ _ HEW.out (by omega) (by omega)).mono ?_; rintro e x1 ⟨rfl, hb1⟩)
        | (go_at_call 70; refine (registerP _ _ (by omega) HR2.out _ (HEW.out.mono hb1)).mono ?_; rintro e x2 ⟨rfl, hb2⟩)
        | (go_at_call 37; refine (writeString_c B b L a _ _ (HP.out.drew.below (below_trans hb1 hb2)) hsum.out (Nat.le_trans hz (below_trans hb1 hb2).size)).mono ?_; rintro e x3 ⟨rfl, hp3, hq3⟩))
    have hq13 := Pq.trans (Pq.of_drew (Pq.of_below (below_trans hb1 hb2) hz)) hq3
    have hQ3 := HQ.out.trans hq13
    have hB3 := Pq.blk HB1.out hq13 (by omega) (by decide)
    have hP3 : IsPr x3 B b (L ++ thT a t r l) a := by
      have := hp3
      rw [ba_append, ba_append] at this
      rw [HTH.out]
      exact .inr (by simpa using this)
    have c13 := hB3.cell 1
    clear hp3 hq3 hb1 hb2 hq13
    go_wp2_with fail
    have hn : w.heap.size < x3.heap.size := hB3.lt
    have hz : B ≤ x3.heap.size := Nat.le_trans hB hQ3.low.size
    have HPx := Lib.hid hP3
    have HQx := Lib.hid hQ3
    have HSx : Hid (∀ x, Below x3.heap.size x3 x → x.cell? ⟨w.heap.size, 3, none⟩ = some (.string ⟨l.toArray⟩) ∧ x.cell? ⟨w.heap.size, 4, none⟩ = some (.int .i64 v)) := Lib.hid (fun x hx => ⟨(hB3.go hx).cell 3, (hB3.go hx).cell 4⟩)
    have HSx2 : Hid (∀ x, Pq B b x3 x → x.cell? ⟨w.heap.size, 3, none⟩ = some (.string ⟨l.toArray⟩) ∧ x.cell? ⟨w.heap.size, 4, none⟩ = some (.int .i64 v)) := Lib.hid (fun x hx => ⟨(Pq.blk hB3 hx (by omega) (by decide)).cell 3, (Pq.blk hB3 hx (by omega) (by decide)).cell 4⟩)
    have HEx := Lib.hid (hE.low hQ3.drew.low h6)
    have hl0 : l.length = 0 := by rw [HLN.out]; rfl
    have HL0 := Lib.hid hl0
    clear hl0
    have hsumx : Hid ((L ++ thT a t r l).length + (⟨l.toArray⟩ ++ ⟨#[61]⟩ ++ ⟨(Lib.itoa v).toArray⟩ : ByteArray).size ≤ 140737488355328) := Lib.hid (by have hl0 := HL0.out; have := HL.out; rw [ByteArray.size_append, ByteArray.size_append, str_size, str_size]; simp [List.length_append] at this ⊢; first | omega | (simp [ByteArray.size]; omega))
    clear hB3 hQ3 hP3
    go_region_held3 (fun x => x.cell? ⟨w.heap.size, 3, none⟩ = some (.string ⟨l.toArray⟩) ∧ x.cell? ⟨w.heap.size, 4, none⟩ = some (.int .i64 v))
      (first | exact HSx.out _ (Below.refl _ _).drew | exact HSx2.out _ (Pq.trans (Pq.of_drew (Pq.of_below hb1 hz)) hq2) | exact HSx.out _ (below_of_drew hb1))
      (first
        | (go_at_call 69; refine (itoa_c _ _ HEx.out (by omega) (by omega)).mono ?_; rintro e x1 ⟨rfl, hb1⟩)
        | (go_at_call 37; refine (writeString_c B b (L ++ thT a t r l) a _ _ (HPx.out.drew.below hb1) hsumx.out (Nat.le_trans hz hb1.size)).mono ?_; rintro e x2 ⟨rfl, hp2, hq2⟩))
    have HP2 := Lib.hid hp2
    have HQ2 := Lib.hid (HQx.out.trans (Pq.trans (Pq.of_drew (Pq.of_below hb1 hz)) hq2))
    clear hp2 hq2 hb1
    go_wp2_with fail
    go_end0
    refine ⟨rfl, .inr ?_, HQ2.out⟩
    have := HP2.out
    rw [ba_append, ba_append] at this
    have hl0 := HLN.out
    subst hl0
    simpa using this
end
theorem nodeW_step {a k t r v : Int} {l : List UInt8} {kids : Fr} (hN : AllW a kids) : NodeW a k t r l v kids := by
  intro w B b hi kv L h hhi hB h6 hE ho hk hlen hl hs
  have hkk : k = 1 ∨ k = 2 ∨ k = 3 ∨ k = 4 ∨ k = 5 := by
    unfold ownB at ho
    split at ho
    · omega
    · simp only [Bool.and_eq_true] at ho
      have := ho.2
      split at this
      · omega
      · split at this
        · omega
        · split at this
          · omega
          · cases this
  rcases hkk with rfl | rfl | rfl | rfl | rfl
  · exact nodeW_1 w B b hi kv L h hhi hB h6 hE ho hk hlen hl hs
  · exact nodeW_2 w B b hi kv L h hhi hB h6 hE ho hk hlen hl hs
  · exact nodeW_3 hN w B b hi kv L h hhi hB h6 hE ho hk hlen hl hs
  · exact nodeW_4 hN w B b hi kv L h hhi hB h6 hE ho hk hlen hl hs
  · exact nodeW_5 hN w B b hi kv L h hhi hB h6 hE ho hk hlen hl hs
theorem allW (a : Int) : ∀ f, AllW a f
  | .nil => trivial
  | .cons _ _ _ _ _ kids rest => ⟨nodeW_step (allW a kids), allW a rest⟩
def quantT (q : Int) : List UInt8 := if q = 1 then [101, 120, 105, 115, 116, 115, 32, 40] else if q = 2 then [126, 101, 120, 105, 115, 116, 115, 32, 40] else [102, 111, 114, 97, 108, 108, 32, 40]
def condT (a q k t r : Int) (l : List UInt8) (v : Int) (kids : Fr) : List UInt8 := quantT q ++ nodeT a k t r l v kids ++ [41]
def printC (a q k t r : Int) (l : List UInt8) (v : Int) (kids : Fr) : Value :=
  .tuple #[.string ⟨(if checkC a q k t r l v kids = 0 then condT a q k t r l v kids else []).toArray⟩, .int .i64 (checkC a q k t r l v kids)]
theorem checkC_ok {a q k t r : Int} {l : List UInt8} {v : Int} {kids : Fr} (h : checkC a q k t r l v kids = 0) : archB a = true ∧ 1 ≤ q ∧ q ≤ 3 ∧ ownB a k t r l v kids.len = true ∧ okF a kids ∧ kids.size + 1 ≤ 1024 := by
  unfold checkC at h
  split at h
  · cases h
  · rename_i ha
    split at h
    · cases h
    · rename_i hq
      obtain ⟨h1, h2⟩ := walkF_ok a (.cons k t r l v kids .nil) 0 0 h
      have h3 := walkF_met a (.cons k t r l v kids .nil) 0 0 (by omega)
      rw [h2] at h3
      simp only [Fr.size] at h3
      exact ⟨by simpa using ha, by omega, by omega, h1.1, h1.2.1, by omega⟩
theorem condT_len {a q k t r : Int} {l : List UInt8} {v : Int} {kids : Fr} (h : checkC a q k t r l v kids = 0) : (condT a q k t r l v kids).length ≤ 100000 := by
  obtain ⟨_, _, _, h1, h2, h3⟩ := checkC_ok h
  have h4 := txtF_len a kids k true h2
  have h5 := ownT_len h1 (txtF a kids k true)
  have h6 : (quantT q).length ≤ 9 := by unfold quantT; split; · simp
                                        split <;> simp
  unfold condT nodeT
  simp only [List.length_append, List.length_cons, List.length_nil]
  omega
end Go.Proofs.YtmlnibjnacfanaaGreatDoor
