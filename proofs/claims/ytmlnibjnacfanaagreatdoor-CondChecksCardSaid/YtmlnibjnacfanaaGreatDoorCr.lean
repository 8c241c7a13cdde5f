/- Layer 8: the reference's text, ways true, atom, not. Layer 8: the reference's text, the way of an and. Layer 8: the reference's text, the way of an or. Layer 8: the reference's text at every tree. -/
import Derived.Test.YtmlnibjnacfanaaGreatDoorCq
namespace Go.Proofs.YtmlnibjnacfanaaGreatDoor
open Go.RowKit

theorem thOK_of {a t r : Int} {l : List UInt8} (h : thingB a t r l = true) : thOK a t r := by
  unfold thingB at h
  by_cases ht : t = -1
  · exact .inl ht
  · rw [if_neg ht] at h
    simp only [Bool.and_eq_true, decide_eq_true_eq] at h
    exact .inr ⟨h.1.1.1.1, by have := h.1.1.1.2; omega, h.1.1.2, h.1.2⟩
section
variable {a k t r v : Int} {l : List UInt8} {kids : Fr}
set_option maxHeartbeats 2000000 in
theorem textR_1 : TextW a 1 t r l v kids := by
  intro w kv hE ho hk hlen hs
  obtain ⟨A, cap, rfl, hs'⟩ := hs
  have HV := Lib.hid (show nodeT a 1 t r l v kids = [116, 114, 117, 101] from rfl)
  clear hs' ho hk hlen
  go_enter Tryz.func40, Tryz.ntmps40
  go_wp2_with fail
  go_ret
  exact ⟨ret_str (by rw [HV.out]), alloc_b _ _⟩
set_option maxHeartbeats 2000000 in
theorem textR_2 : TextW a 2 t r l v kids := by
  intro w kv hE ho hk hlen hs
  obtain ⟨A, cap, rfl, hs'⟩ := hs
  have HV := Lib.hid (show nodeT a 2 t r l v kids = thT a t r l ++ 61 :: Lib.itoa v from rfl)
  unfold ownB at ho
  rw [if_pos rfl] at ho
  simp only [Bool.and_eq_true, decide_eq_true_eq] at ho
  obtain ⟨⟨ho1, ho2⟩, ho3⟩ := ho
  have hv := numB_iff ho2
  have hv1 := hv.1
  have hv2 := hv.2
  have hll := thT_len ho1
  have hiv := Lib.itoa_length_le v (by omega) (by omega)
  have HI := Lib.hid (fun x (hx : Env x) => itoa_c v x hx (by omega) (by omega))
  have HR := Lib.hid (fun x (hx : Env x) => thingTextR a t r l x hx (thOK_of ho1))
  clear ho1 ho2 ho3 hk hs' hlen hv hv1 hv2
  generalize thT a t r l = N at HV hll HR
  have m1 : ¬ (9223372036854775807 < N.length + 1) := by omega
  have m2 : ¬ (9223372036854775807 < N.length + 1 + (Lib.itoa v).length) := by omega
  have HX := Lib.hid (Blk.new w 26 #[.int .i64 2, .int .i64 t, .int .i64 r, .string ⟨l.toArray⟩, .int .i64 v, .slice A kids.len cap])
  have HB0 := Lib.hid (alloc_b w (nodeBox 2 t r l v A kids.len cap))
  go_enter Tryz.func40, Tryz.ntmps40
  go_wp2_with fail
  generalize hW : w.alloc (nodeBox 2 t r l v A kids.len cap) = W
  have hX := HX.out
  have hB0 := HB0.out
  rw [hW] at hX hB0
  have HX1 := Lib.hid hX
  have HB1 := Lib.hid hB0
  clear hX hB0 hW HX HB0
  have HK : Hid (∀ x, Below W.heap.size W x → x.cell? ⟨w.heap.size, 1, none⟩ = some (.int .i64 t) ∧ x.cell? ⟨w.heap.size, 2, none⟩ = some (.int .i64 r) ∧ x.cell? ⟨w.heap.size, 3, none⟩ = some (.string ⟨l.toArray⟩) ∧ x.cell? ⟨w.heap.size, 4, none⟩ = some (.int .i64 v)) := Lib.hid (fun x hx => ⟨(HX1.out.go hx).cell 1, (HX1.out.go hx).cell 2, (HX1.out.go hx).cell 3, (HX1.out.go hx).cell 4⟩)
  have HE := Lib.hid (fun x (hx : Below W.heap.size W x) => hE.mono (below_trans HB1.out hx))
  go_region_held3 (fun x => x.cell? ⟨w.heap.size, 1, none⟩ = some (.int .i64 t) ∧ x.cell? ⟨w.heap.size, 2, none⟩ = some (.int .i64 r) ∧ x.cell? ⟨w.heap.size, 3, none⟩ = some (.string ⟨l.toArray⟩) ∧ x.cell? ⟨w.heap.size, 4, none⟩ = some (.int .i64 v))
    (first | exact HK.out _ (Below.refl _ _).drew | exact HK.out _ (below_of_drew (below_trans hb1 hb2)) | exact HK.out _ (below_of_drew hb1))
    (first
      | (go_at_call 74; refine (HR.out _ (HE.out _ (Below.refl _ _).drew)).mono ?_; rintro e x1 ⟨rfl, hb1⟩)
      | (go_at_call 69; refine (HI.out _ (HE.out _ (below_of_drew hb1))).mono ?_; rintro e x2 ⟨rfl, hb2⟩))
  go_wp2_with fail
  go_ret
  exact ⟨ret_ba (by rw [HV.out, ba_append, ba_append]; simp), below_trans HB1.out (below_of_drew (below_trans hb1 hb2))⟩
end
def AllT (a : Int) : Fr → Prop
  | .nil => True
  | .cons k t r l v kids rest => TextW a k t r l v kids ∧ AllT a rest
theorem AllT.at_ {a : Int} : ∀ (f : Fr) (j : Nat) {k t r : Int} {l : List UInt8} {v : Int} {kids rest : Fr}, AllT a f → f.drop j = .cons k t r l v kids rest → TextW a k t r l v kids
  | .nil, 0, _, _, _, _, _, _, _, _, h => by cases h
  | .nil, _ + 1, _, _, _, _, _, _, _, _, h => by cases h
  | .cons _ _ _ _ _ _ _, 0, _, _, _, _, _, _, _, h, e => by cases e; exact h.1
  | .cons _ _ _ _ _ _ rest, j + 1, _, _, _, _, _, _, _, h, e => AllT.at_ rest j h.2 e
theorem brkT_le (c : Bool) (s : List UInt8) : s.length ≤ (brkT c s).length ∧ (brkT c s).length ≤ s.length + 2 := by cases c <;> simp [brkT] <;> omega
section
variable {a k t r v : Int} {l : List UInt8} {kids : Fr}
set_option maxHeartbeats 2000000 in
set_option maxRecDepth 100000 in
theorem textR_3 (hN : AllT a kids) : TextW a 3 t r l v kids := by
  intro w kv hE ho hk hlen hs
  obtain ⟨A, cap, rfl, s1, s2, s3⟩ := hs
  have hk1 : kids.len = 1 := by
    unfold ownB at ho
    rw [if_neg (by decide)] at ho
    simp only [Bool.and_eq_true] at ho
    simpa using ho.2
  match kids, hk1 with
  | .cons k' t' r' l' v' kids' .nil, _ =>
  obtain ⟨bb, o, rfl, hb, hrow⟩ := s3 (by simp [Fr.len])
  obtain ⟨kv', q0, q1, q2, q3, q4, q5, hl', hsl'⟩ := RowAt.head hrow
  have HB0 := Lib.hid (alloc_b w (nodeBox 3 t r l v (some ⟨bb, o, none⟩) 1 cap))
  have HX := Lib.hid (Blk.new w 26 #[.int .i64 3, .int .i64 t, .int .i64 r, .string ⟨l.toArray⟩, .int .i64 v, .slice (some ⟨bb, o, none⟩) 1 cap])
  have HS := Lib.hid ((hsl'.below (Nat.le_refl _) HB0.out).up HB0.out.size)
  have hTT : nodeT a 3 t r l v (.cons k' t' r' l' v' kids' .nil) = 126 :: brkT (((k' == 4) && true) || k' == 5) (nodeT a k' t' r' l' v' kids') := by
    show 126 :: txtF a _ 3 true = _
    rw [txtF_step]
    simp [txtF]
    rfl
  rw [hTT] at hlen
  have hle := brkT_le (((k' == 4) && true) || k' == 5) (nodeT a k' t' r' l' v' kids')
  simp only [List.length_cons] at hlen
  have HV := Lib.hid hTT
  have HC := Lib.hid (kidR hN.1 true _ kv' (hE.mono HB0.out) hk.1 hk.2.1 (by omega) HS.out)
  generalize brkT (((k' == 4) && true) || k' == 5) (nodeT a k' t' r' l' v' kids') = N at HC HV hlen hle
  have m1 : ¬ (9223372036854775807 < 1 + N.length) := by omega
  have hc1 : 1 ≤ cap := by simpa [Fr.len] using s1
  obtain ⟨A', cap', rfl, _⟩ := hsl'
  have q0 := cell_go' q0 HB0.out hb
  have q1 := cell_go' q1 HB0.out hb
  have q2 := cell_go' q2 HB0.out hb
  have q3 := cell_go' q3 HB0.out hb
  have q4 := cell_go' q4 HB0.out hb
  have q5 := cell_go' q5 HB0.out hb
  clear hTT hlen hle ho hk hN s1 s3 hrow hk1 hE
  go_enter Tryz.func40, Tryz.ntmps40
  go_wp2_with fail
  refine HC.out.mono ?_
  rintro e w1 ⟨rfl, hb1⟩
  go_wp2_with fail
  go_ret
  exact ⟨ret_ba (by rw [HV.out, ba_append]; simp), below_trans HB0.out hb1⟩
end

theorem val_ba {b : ByteArray} {l : List UInt8} (h : b.data.toList = l) : Value.string b = .string ⟨l.toArray⟩ := by subst h; simp
section
variable {a k t r v : Int} {l : List UInt8} {kids : Fr}
set_option maxHeartbeats 4000000 in
set_option maxRecDepth 100000 in
theorem textR_4 (hN : AllT a kids) : TextW a 4 t r l v kids := by
  intro w kv hE ho hk hlen hs
  obtain ⟨A, cap, rfl, s1, s2, s3⟩ := hs
  have HB0 := Lib.hid (alloc_b w (nodeBox 4 t r l v A kids.len cap))
  have HX := Lib.hid (Blk.new w 26 #[.int .i64 4, .int .i64 t, .int .i64 r, .string ⟨l.toArray⟩, .int .i64 v, .slice A kids.len cap])
  have HV := Lib.hid (show nodeT a 4 t r l v kids = txtF a kids 4 true from rfl)
  have HL := Lib.hid (show (txtF a kids 4 true).length ≤ 1000000 from hlen)
  have S3 := Lib.hid s3
  have HN := Lib.hid hN
  have HK := Lib.hid hk
  have HE := Lib.hid hE
  clear s3 hN hk hlen ho hE
  go_enter Tryz.func40, Tryz.ntmps40
  go_wp2_with fail
  generalize hW : w.alloc (nodeBox 4 t r l v A kids.len cap) = W
  have hX := HX.out
  have hB0 := HB0.out
  rw [hW] at hX hB0
  have HX1 := Lib.hid hX
  have HB1 := Lib.hid hB0
  have hlt0 : w.heap.size < W.heap.size := hX.lt
  clear hX hB0 hW HX HB0
  go_loopw [5, 6] (fun s i wr => ∃ (j : Nat) (Lj : List UInt8), j ≤ kids.len ∧ i = .int .i64 j ∧ s = .string ⟨Lj.toArray⟩ ∧ Lj ++ txtF a (kids.drop j) 4 (decide (j = 0)) = txtF a kids 4 true ∧ Below W.heap.size W wr) (fun _ i _ => kids.len - (intOf i).toNat)
  case atStart => exact ⟨0, [], Nat.zero_le _, rfl, rfl, rfl, Below.refl _ _⟩
  case round =>
    obtain ⟨j, Lj, hj, rfl, rfl, hL, hb⟩ := hrel
    have HLJ := Lib.hid hL
    have HB := Lib.hid hb
    have hbx := HX1.out.go hb
    have x0 := hbx.cell 0
    have x5 := hbx.cell 5
    have hzr : w.heap.size < wr.heap.size := hbx.lt
    clear hL hb hbx
    by_cases hlt : j < kids.len
    · obtain ⟨bb, o, rfl, hbb, hrow⟩ := S3.out (by omega)
      obtain ⟨k', t', r', l', v', kids', rest', hdr⟩ := kids.drop_lt j hlt
      have hlow := below_trans HB1.out HB.out
      have hrow' := RowAt.keep (w' := wr) (fun b o hb => hlow.cell (p := ⟨b, o, none⟩) (show b < w.heap.size from hb)) kids bb o hbb hrow
      have hat := RowAt.at_ kids bb o j hrow'
      rw [hdr] at hat
      obtain ⟨kv', q0, q1, q2, q3, q4, q5, hl', hsl'⟩ := hat.head
      obtain ⟨A', cap', rfl, hsl''⟩ := hsl'
      have hsl' : SlAt wr w.heap.size (.slice A' kids'.len cap') kids' := ⟨A', cap', rfl, hsl''⟩
      obtain ⟨hob, hok⟩ := okF.at_ kids j HK.out hdr
      have HNX := Lib.hid (kids.drop_next j hdr)
      have HST := Lib.hid (show Lj ++ (((if decide (j = 0) then [] else sepT 4) ++ brkT (brkB 4 k') (nodeT a k' t' r' l' v' kids')) ++ txtF a rest' 4 false) = txtF a kids 4 true by have := HLJ.out; rw [hdr, txtF_step] at this; exact this)
      have hle := brkT_le (brkB 4 k') (nodeT a k' t' r' l' v' kids')
      have hlb : Lj.length + (brkT (brkB 4 k') (nodeT a k' t' r' l' v' kids')).length ≤ 1000000 := by
        have h1 := congrArg List.length HST.out
        have h2 := HL.out
        simp only [List.length_append] at h1
        omega
      have hbk : brkB 4 k' = ((k' == 4 && true) || k' == 5) := by simp [brkB]
      have HC : Hid (∀ x, Below wr.heap.size wr x → Calls Tryz.prog 75 #[.int .i64 a, nodeV k' t' r' l' v' (.slice A' kids'.len cap'), .bool true, .bool true] x fun e w' => e = .returned (.string ⟨(brkT (brkB 4 k') (nodeT a k' t' r' l' v' kids')).toArray⟩) ∧ Below x.heap.size x w') := Lib.hid (fun x hx => by
        rw [hbk]
        exact kidR (AllT.at_ kids j HN.out hdr) true x _ (HE.out.mono (below_trans hlow hx)) hob hok (by omega) (((hsl'.up (by omega)).below (Nat.le_refl _) hx).up hx.size))
      generalize brkT (brkB 4 k') (nodeT a k' t' r' l' v' kids') = N at HC HST hlb hle
      clear hrow hrow' hat hsl'' hsl' hdr hob hok hlow hle hbk
      have m1 : ¬ (9223372036854775807 < Lj.length + 4) := by omega
      have m2 : ¬ (9223372036854775807 < Lj.length + 4 + N.length) := by omega
      have m3 : ¬ (9223372036854775807 < Lj.length + N.length) := by omega
      have HS : Hid (∀ x, Below wr.heap.size wr x → x.cell? ⟨w.heap.size, 0, none⟩ = some (.int .i64 4) ∧ x.cell? ⟨w.heap.size, 5, none⟩ = some (.slice (some ⟨bb, o, none⟩) kids.len cap) ∧ x.cell? ⟨bb, o + j * 6, none⟩ = some (.int .i64 k') ∧ x.cell? ⟨bb, o + j * 6 + 1, none⟩ = some (.int .i64 t') ∧ x.cell? ⟨bb, o + j * 6 + 2, none⟩ = some (.int .i64 r') ∧ x.cell? ⟨bb, o + j * 6 + 3, none⟩ = some (.string ⟨l'.toArray⟩) ∧ x.cell? ⟨bb, o + j * 6 + 4, none⟩ = some (.int .i64 v') ∧ x.cell? ⟨bb, o + j * 6 + 5, none⟩ = some (.slice A' kids'.len cap')) :=
        Lib.hid (fun x hx => ⟨cell_go' x0 hx hzr, cell_go' x5 hx hzr, cell_go' q0 hx (by omega), cell_go' q1 hx (by omega), cell_go' q2 hx (by omega), cell_go' q3 hx (by omega), cell_go' q4 hx (by omega), cell_go' q5 hx (by omega)⟩)
      by_cases hj0 : j = 0
      · have hd0 : decide (0 < j) = false := by simp; omega
        have HJ0 := Lib.hid hj0
        clear hj0
        go_wp2_with fail
        go_region_held3 (fun x => x.cell? ⟨w.heap.size, 0, none⟩ = some (.int .i64 4) ∧ x.cell? ⟨w.heap.size, 5, none⟩ = some (.slice (some ⟨bb, o, none⟩) kids.len cap) ∧ x.cell? ⟨bb, o + j * 6, none⟩ = some (.int .i64 k') ∧ x.cell? ⟨bb, o + j * 6 + 1, none⟩ = some (.int .i64 t') ∧ x.cell? ⟨bb, o + j * 6 + 2, none⟩ = some (.int .i64 r') ∧ x.cell? ⟨bb, o + j * 6 + 3, none⟩ = some (.string ⟨l'.toArray⟩) ∧ x.cell? ⟨bb, o + j * 6 + 4, none⟩ = some (.int .i64 v') ∧ x.cell? ⟨bb, o + j * 6 + 5, none⟩ = some (.slice A' kids'.len cap'))
          (first | exact HS.out _ (Below.refl _ _).drew | exact HS.out _ (below_of_drew hb1))
          (first | (go_at_call 75; refine (HC.out _ (Below.refl _ _).drew).mono ?_; rintro e x1 ⟨rfl, hb1⟩))
        go_wp2_with fail
        go_roundw
        case rel => exact ⟨j + 1, Lj ++ N, by omega, by go_num, val_ba (by rw [ba_append]), by rw [← HST.out, HNX.out, show decide (j + 1 = 0) = false by simp]; simp [HJ0.out], below_trans HB.out (below_of_drew hb1)⟩
        case measure => simp [intOf]; omega
      · have hd0 : decide (j = 0) = false := by simpa using hj0
        have hgt : 0 < j := by omega
        have hgt' : decide (0 < j) = true := by simp; omega
        have HD0 := Lib.hid hd0
        clear hj0 hd0
        go_wp2_with fail
        go_region_held3 (fun x => x.cell? ⟨w.heap.size, 0, none⟩ = some (.int .i64 4) ∧ x.cell? ⟨w.heap.size, 5, none⟩ = some (.slice (some ⟨bb, o, none⟩) kids.len cap) ∧ x.cell? ⟨bb, o + j * 6, none⟩ = some (.int .i64 k') ∧ x.cell? ⟨bb, o + j * 6 + 1, none⟩ = some (.int .i64 t') ∧ x.cell? ⟨bb, o + j * 6 + 2, none⟩ = some (.int .i64 r') ∧ x.cell? ⟨bb, o + j * 6 + 3, none⟩ = some (.string ⟨l'.toArray⟩) ∧ x.cell? ⟨bb, o + j * 6 + 4, none⟩ = some (.int .i64 v') ∧ x.cell? ⟨bb, o + j * 6 + 5, none⟩ = some (.slice A' kids'.len cap'))
          (first | exact HS.out _ (Below.refl _ _).drew | exact HS.out _ (below_of_drew hb1))
          (first | (go_at_call 75; refine (HC.out _ (Below.refl _ _).drew).mono ?_; rintro e x1 ⟨rfl, hb1⟩))
        go_wp2_with fail
        go_roundw
        case rel => exact ⟨j + 1, Lj ++ sepT 4 ++ N, by omega, by go_num, val_ba (by rw [ba_append, ba_append]; rfl), by rw [← HST.out, HNX.out, show decide (j + 1 = 0) = false by simp, HD0.out]; simp, below_trans HB.out (below_of_drew hb1)⟩
        case measure => simp [intOf]; omega
    · obtain rfl : j = kids.len := by omega
      have hdn : txtF a (kids.drop kids.len) 4 (decide (kids.len = 0)) = [] := by rw [Fr.drop_ge _ _ (Nat.le_refl _)]; rfl
      have HF := Lib.hid (show Lj = txtF a kids 4 true by have := HLJ.out; rw [hdn, List.append_nil] at this; exact this)
      go_wp2_with fail
      go_ret
      exact ⟨ret_str (by rw [HV.out, HF.out]), below_trans HB1.out HB.out⟩
end

section
variable {a k t r v : Int} {l : List UInt8} {kids : Fr}
set_option maxHeartbeats 4000000 in
set_option maxRecDepth 100000 in
theorem textR_5 (hN : AllT a kids) : TextW a 5 t r l v kids := by
  intro w kv hE ho hk hlen hs
  obtain ⟨A, cap, rfl, s1, s2, s3⟩ := hs
  have HB0 := Lib.hid (alloc_b w (nodeBox 5 t r l v A kids.len cap))
  have HX := Lib.hid (Blk.new w 26 #[.int .i64 5, .int .i64 t, .int .i64 r, .string ⟨l.toArray⟩, .int .i64 v, .slice A kids.len cap])
  have HV := Lib.hid (show nodeT a 5 t r l v kids = txtF a kids 5 true from rfl)
  have HL := Lib.hid (show (txtF a kids 5 true).length ≤ 1000000 from hlen)
  have S3 := Lib.hid s3
  have HN := Lib.hid hN
  have HK := Lib.hid hk
  have HE := Lib.hid hE
  clear s3 hN hk hlen ho hE
  go_enter Tryz.func40, Tryz.ntmps40
  go_wp2_with fail
  generalize hW : w.alloc (nodeBox 5 t r l v A kids.len cap) = W
  have hX := HX.out
  have hB0 := HB0.out
  rw [hW] at hX hB0
  have HX1 := Lib.hid hX
  have HB1 := Lib.hid hB0
  have hlt0 : w.heap.size < W.heap.size := hX.lt
  clear hX hB0 hW HX HB0
  go_loopw [5, 6] (fun s i wr => ∃ (j : Nat) (Lj : List UInt8), j ≤ kids.len ∧ i = .int .i64 j ∧ s = .string ⟨Lj.toArray⟩ ∧ Lj ++ txtF a (kids.drop j) 5 (decide (j = 0)) = txtF a kids 5 true ∧ Below W.heap.size W wr) (fun _ i _ => kids.len - (intOf i).toNat)
  case atStart => exact ⟨0, [], Nat.zero_le _, rfl, rfl, rfl, Below.refl _ _⟩
  case round =>
    obtain ⟨j, Lj, hj, rfl, rfl, hL, hb⟩ := hrel
    have HLJ := Lib.hid hL
    have HB := Lib.hid hb
    have hbx := HX1.out.go hb
    have x0 := hbx.cell 0
    have x5 := hbx.cell 5
    have hzr : w.heap.size < wr.heap.size := hbx.lt
    clear hL hb hbx
    by_cases hlt : j < kids.len
    · obtain ⟨bb, o, rfl, hbb, hrow⟩ := S3.out (by omega)
      obtain ⟨k', t', r', l', v', kids', rest', hdr⟩ := kids.drop_lt j hlt
      have hlow := below_trans HB1.out HB.out
      have hrow' := RowAt.keep (w' := wr) (fun b o hb => hlow.cell (p := ⟨b, o, none⟩) (show b < w.heap.size from hb)) kids bb o hbb hrow
      have hat := RowAt.at_ kids bb o j hrow'
      rw [hdr] at hat
      obtain ⟨kv', q0, q1, q2, q3, q4, q5, hl', hsl'⟩ := hat.head
      obtain ⟨A', cap', rfl, hsl''⟩ := hsl'
      have hsl' : SlAt wr w.heap.size (.slice A' kids'.len cap') kids' := ⟨A', cap', rfl, hsl''⟩
      obtain ⟨hob, hok⟩ := okF.at_ kids j HK.out hdr
      have HNX := Lib.hid (kids.drop_next j hdr)
      have HST := Lib.hid (show Lj ++ (((if decide (j = 0) then [] else sepT 5) ++ brkT (brkB 5 k') (nodeT a k' t' r' l' v' kids')) ++ txtF a rest' 5 false) = txtF a kids 5 true by have := HLJ.out; rw [hdr, txtF_step] at this; exact this)
      have hle := brkT_le (brkB 5 k') (nodeT a k' t' r' l' v' kids')
      have hlb : Lj.length + (brkT (brkB 5 k') (nodeT a k' t' r' l' v' kids')).length ≤ 1000000 := by
        have h1 := congrArg List.length HST.out
        have h2 := HL.out
        simp only [List.length_append] at h1
        omega
      have hbk : brkB 5 k' = ((k' == 4 && false) || k' == 5) := by simp [brkB]
      have HC : Hid (∀ x, Below wr.heap.size wr x → Calls Tryz.prog 75 #[.int .i64 a, nodeV k' t' r' l' v' (.slice A' kids'.len cap'), .bool false, .bool true] x fun e w' => e = .returned (.string ⟨(brkT (brkB 5 k') (nodeT a k' t' r' l' v' kids')).toArray⟩) ∧ Below x.heap.size x w') := Lib.hid (fun x hx => by
        rw [hbk]
        exact kidR (AllT.at_ kids j HN.out hdr) false x _ (HE.out.mono (below_trans hlow hx)) hob hok (by omega) (((hsl'.up (by omega)).below (Nat.le_refl _) hx).up hx.size))
      generalize brkT (brkB 5 k') (nodeT a k' t' r' l' v' kids') = N at HC HST hlb hle
      clear hrow hrow' hat hsl'' hsl' hdr hob hok hlow hle hbk
      have m1 : ¬ (9223372036854775807 < Lj.length + 4) := by omega
      have m2 : ¬ (9223372036854775807 < Lj.length + 4 + N.length) := by omega
      have m3 : ¬ (9223372036854775807 < Lj.length + N.length) := by omega
      have HS : Hid (∀ x, Below wr.heap.size wr x → x.cell? ⟨w.heap.size, 0, none⟩ = some (.int .i64 5) ∧ x.cell? ⟨w.heap.size, 5, none⟩ = some (.slice (some ⟨bb, o, none⟩) kids.len cap) ∧ x.cell? ⟨bb, o + j * 6, none⟩ = some (.int .i64 k') ∧ x.cell? ⟨bb, o + j * 6 + 1, none⟩ = some (.int .i64 t') ∧ x.cell? ⟨bb, o + j * 6 + 2, none⟩ = some (.int .i64 r') ∧ x.cell? ⟨bb, o + j * 6 + 3, none⟩ = some (.string ⟨l'.toArray⟩) ∧ x.cell? ⟨bb, o + j * 6 + 4, none⟩ = some (.int .i64 v') ∧ x.cell? ⟨bb, o + j * 6 + 5, none⟩ = some (.slice A' kids'.len cap')) :=
        Lib.hid (fun x hx => ⟨cell_go' x0 hx hzr, cell_go' x5 hx hzr, cell_go' q0 hx (by omega), cell_go' q1 hx (by omega), cell_go' q2 hx (by omega), cell_go' q3 hx (by omega), cell_go' q4 hx (by omega), cell_go' q5 hx (by omega)⟩)
      by_cases hj0 : j = 0
      · have hd0 : decide (0 < j) = false := by simp; omega
        have HJ0 := Lib.hid hj0
        clear hj0
        go_wp2_with fail
        go_region_held3 (fun x => x.cell? ⟨w.heap.size, 0, none⟩ = some (.int .i64 5) ∧ x.cell? ⟨w.heap.size, 5, none⟩ = some (.slice (some ⟨bb, o, none⟩) kids.len cap) ∧ x.cell? ⟨bb, o + j * 6, none⟩ = some (.int .i64 k') ∧ x.cell? ⟨bb, o + j * 6 + 1, none⟩ = some (.int .i64 t') ∧ x.cell? ⟨bb, o + j * 6 + 2, none⟩ = some (.int .i64 r') ∧ x.cell? ⟨bb, o + j * 6 + 3, none⟩ = some (.string ⟨l'.toArray⟩) ∧ x.cell? ⟨bb, o + j * 6 + 4, none⟩ = some (.int .i64 v') ∧ x.cell? ⟨bb, o + j * 6 + 5, none⟩ = some (.slice A' kids'.len cap'))
          (first | exact HS.out _ (Below.refl _ _).drew | exact HS.out _ (below_of_drew hb1))
          (first | (go_at_call 75; refine (HC.out _ (Below.refl _ _).drew).mono ?_; rintro e x1 ⟨rfl, hb1⟩))
        go_wp2_with fail
        go_roundw
        case rel => exact ⟨j + 1, Lj ++ N, by omega, by go_num, val_ba (by rw [ba_append]), by rw [← HST.out, HNX.out, show decide (j + 1 = 0) = false by simp]; simp [HJ0.out], below_trans HB.out (below_of_drew hb1)⟩
        case measure => simp [intOf]; omega
      · have hd0 : decide (j = 0) = false := by simpa using hj0
        have hgt : 0 < j := by omega
        have hgt' : decide (0 < j) = true := by simp; omega
        have HD0 := Lib.hid hd0
        clear hj0 hd0
        go_wp2_with fail
        go_region_held3 (fun x => x.cell? ⟨w.heap.size, 0, none⟩ = some (.int .i64 5) ∧ x.cell? ⟨w.heap.size, 5, none⟩ = some (.slice (some ⟨bb, o, none⟩) kids.len cap) ∧ x.cell? ⟨bb, o + j * 6, none⟩ = some (.int .i64 k') ∧ x.cell? ⟨bb, o + j * 6 + 1, none⟩ = some (.int .i64 t') ∧ x.cell? ⟨bb, o + j * 6 + 2, none⟩ = some (.int .i64 r') ∧ x.cell? ⟨bb, o + j * 6 + 3, none⟩ = some (.string ⟨l'.toArray⟩) ∧ x.cell? ⟨bb, o + j * 6 + 4, none⟩ = some (.int .i64 v') ∧ x.cell? ⟨bb, o + j * 6 + 5, none⟩ = some (.slice A' kids'.len cap'))
          (first | exact HS.out _ (Below.refl _ _).drew | exact HS.out _ (below_of_drew hb1))
          (first | (go_at_call 75; refine (HC.out _ (Below.refl _ _).drew).mono ?_; rintro e x1 ⟨rfl, hb1⟩))
        go_wp2_with fail
        go_roundw
        case rel => exact ⟨j + 1, Lj ++ sepT 5 ++ N, by omega, by go_num, val_ba (by rw [ba_append, ba_append]; rfl), by rw [← HST.out, HNX.out, show decide (j + 1 = 0) = false by simp, HD0.out]; simp, below_trans HB.out (below_of_drew hb1)⟩
        case measure => simp [intOf]; omega
    · obtain rfl : j = kids.len := by omega
      have hdn : txtF a (kids.drop kids.len) 5 (decide (kids.len = 0)) = [] := by rw [Fr.drop_ge _ _ (Nat.le_refl _)]; rfl
      have HF := Lib.hid (show Lj = txtF a kids 5 true by have := HLJ.out; rw [hdn, List.append_nil] at this; exact this)
      go_wp2_with fail
      go_ret
      exact ⟨ret_str (by rw [HV.out, HF.out]), below_trans HB1.out HB.out⟩
end

theorem textR_step {a k t r v : Int} {l : List UInt8} {kids : Fr} (hN : AllT a kids) : TextW a k t r l v kids := by
  intro w kv hE ho hk hlen hs
  have hkk : k = 1 ∨ k = 2 ∨ k = 3 ∨ k = 4 ∨ k = 5 := by
    unfold ownB at ho
    split at ho
    · omega
    · simp only [Bool.and_eq_true] at ho
      have := ho.2
      split at this
      · omega
      · split at this
        · omega
        · split at this
          · omega
          · cases this
  rcases hkk with rfl | rfl | rfl | rfl | rfl
  · exact textR_1 w kv hE ho hk hlen hs
  · exact textR_2 w kv hE ho hk hlen hs
  · exact textR_3 hN w kv hE ho hk hlen hs
  · exact textR_4 hN w kv hE ho hk hlen hs
  · exact textR_5 hN w kv hE ho hk hlen hs
theorem allT (a : Int) : ∀ f, AllT a f
  | .nil => trivial
  | .cons _ _ _ _ _ kids rest => ⟨textR_step (allT a kids), allT a rest⟩
end Go.Proofs.YtmlnibjnacfanaaGreatDoor
