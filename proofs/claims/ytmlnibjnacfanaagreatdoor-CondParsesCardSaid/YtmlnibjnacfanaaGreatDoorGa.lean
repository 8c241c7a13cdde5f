/- Layer 8: the reference's texts. Layer 8: Alike of the reference: two conditions of the same trees are alike. -/
import Derived.Test.YtmlnibjnacfanaaGreatDoorCp
import Derived.Test.YtmlnibjnacfanaaGreatDoorCk
namespace Go.Proofs.YtmlnibjnacfanaaGreatDoor
open Go.RowKit

theorem below_tr {W a b : World} (h : Below W.heap.size W a) (k : Below a.heap.size a b) : Below W.heap.size W b := below_trans h k
def thOK (a t r : Int) : Prop := t = -1 ∨ (0 ≤ t ∧ t ≤ 9223372036854775807 ∧ 0 ≤ r ∧ r < regs a)
set_option maxHeartbeats 2000000 in
theorem thingTextR (a t r : Int) (l : List UInt8) (w : World) (hE : Env w) (ht : thOK a t r) :
    Calls Tryz.prog 74 #[.int .i64 a, .agg #[.int .i64 t, .int .i64 r, .string ⟨l.toArray⟩]] w fun e w' => e = .returned (.string ⟨(thT a t r l).toArray⟩) ∧ Below w.heap.size w w' := by
  rcases ht with rfl | ⟨h0, h1, h2, h3⟩
  · have HV := Lib.hid (show thT a (-1) r l = l by simp [thT])
    go_enter Tryz.func74, Tryz.ntmps74
    go_wp2_with fail
    go_ret
    exact ⟨by rw [HV.out]; rfl, alloc_b _ _⟩
  have HV := Lib.hid (show thT a t r l = Lib.itoa t ++ 58 :: regT a r by simp [thT, h0])
  have ht1 : (t == -1) = false := beq_eq_false_iff_ne.2 (by omega)
  have HI := Lib.hid (fun x (hx : Env x) => itoa_c t x hx (by omega) h1)
  have HR := Lib.hid (fun x (hx : Env x) => registerR a r h2 h3 x hx)
  have hit := Lib.itoa_length_le t (by omega) (by omega)
  have hrt := regT_len h2 h3
  have m1 : ¬ (9223372036854775807 < (Lib.itoa t).length + 1) := by omega
  have m2 : ¬ (9223372036854775807 < (Lib.itoa t).length + 1 + (regT a r).length) := by omega
  clear h0 h1 h2 h3
  have HX := Lib.hid (Blk.new w 23 #[.int .i64 t, .int .i64 r, .string ⟨l.toArray⟩])
  have HB0 := Lib.hid (alloc_b w (.cells #[.int .i64 t, .int .i64 r, .string ⟨l.toArray⟩] 23 (0, 0)))
  generalize hW : w.alloc (.cells #[.int .i64 t, .int .i64 r, .string ⟨l.toArray⟩] 23 (0, 0)) = W at HX HB0
  have HK : Hid (∀ x, Below W.heap.size W x → x.cell? ⟨w.heap.size, 0, none⟩ = some (.int .i64 t) ∧ x.cell? ⟨w.heap.size, 1, none⟩ = some (.int .i64 r) ∧ Below W.heap.size W x) := Lib.hid (fun x hx => ⟨(HX.out.go hx).cell 0, (HX.out.go hx).cell 1, hx⟩)
  have HE := Lib.hid (fun x (hx : Below W.heap.size W x) => hE.mono (below_trans HB0.out hx))
  have hc0 := HX.out.cell 0
  go_enter Tryz.func74, Tryz.ntmps74
  go_wp2_with fail
  go_region_held3 (fun x => x.cell? ⟨w.heap.size, 0, none⟩ = some (.int .i64 t) ∧ x.cell? ⟨w.heap.size, 1, none⟩ = some (.int .i64 r) ∧ Below W.heap.size W x)
    (first | exact HK.out _ (Below.refl _ _).drew | exact HK.out _ (below_of_drew (below_trans hb1 hb2)) | exact HK.out _ (below_of_drew hb1))
    (first
      | (go_at_call 69; refine (HI.out _ (HE.out _ (Below.refl _ _).drew)).mono ?_; rintro e x1 ⟨rfl, hb1⟩)
      | (go_at_call 105; refine (HR.out _ (HE.out _ (below_of_drew hb1))).mono ?_; rintro e x2 ⟨rfl, hb2⟩))
  go_wp2_with fail
  go_ret
  exact ⟨ret_ba (by rw [HV.out, ba_append, ba_append]; simp), below_trans HB0.out (below_of_drew (below_trans hb1 hb2))⟩

def TextW (a k t r : Int) (l : List UInt8) (v : Int) (kids : Fr) : Prop :=
  ∀ (w : World) (kv : Value), Env w → ownB a k t r l v kids.len = true → okF a kids → (nodeT a k t r l v kids).length ≤ 1000000 → SlAt w w.heap.size kv kids →
    Calls Tryz.prog 40 #[.int .i64 a, nodeV k t r l v kv] w fun e w' => e = .returned (.string ⟨(nodeT a k t r l v kids).toArray⟩) ∧ Below w.heap.size w w'
section
variable {a k t r v : Int} {l : List UInt8} {kids : Fr}
set_option maxHeartbeats 2000000 in
theorem kidR (hT : TextW a k t r l v kids) (b : Bool) (w : World) (kv : Value) (hE : Env w) (ho : ownB a k t r l v kids.len = true) (hk : okF a kids) (hlen : (nodeT a k t r l v kids).length ≤ 1000000) (hs : SlAt w w.heap.size kv kids) :
    Calls Tryz.prog 75 #[.int .i64 a, nodeV k t r l v kv, .bool b, .bool true] w fun e w' => e = .returned (.string ⟨(brkT ((k == 4 && b) || k == 5) (nodeT a k t r l v kids)).toArray⟩) ∧ Below w.heap.size w w' := by
  obtain ⟨A, cap, rfl, hs'⟩ := hs
  have hs2 : SlAt w w.heap.size (.slice A kids.len cap) kids := ⟨A, cap, rfl, hs'⟩
  have HB0 := Lib.hid (alloc_b w (.cells #[.int .i64 k, .int .i64 t, .int .i64 r, .string ⟨l.toArray⟩, .int .i64 v, .slice A kids.len cap] 26 (0, 0)))
  have HX := Lib.hid (Blk.new w 26 #[.int .i64 k, .int .i64 t, .int .i64 r, .string ⟨l.toArray⟩, .int .i64 v, .slice A kids.len cap])
  have HS := Lib.hid ((hs2.below (Nat.le_refl _) HB0.out).up HB0.out.size)
  have HE := Lib.hid (hE.mono HB0.out)
  have HT := Lib.hid (hT _ _ HE.out ho hk hlen HS.out)
  generalize hN : nodeT a k t r l v kids = N at hlen HT
  have hm1 : ¬ (9223372036854775807 < 1 + N.length) := by omega
  have hm2 : ¬ (9223372036854775807 < 1 + N.length + 1) := by omega
  have HL := Lib.hid hlen
  clear hs' hs2 hT ho hk hE hN hlen
  by_cases h4 : k = 4
  · subst h4
    cases b with
    | true =>
      have HV := Lib.hid (show brkT (((4 : Int) == 4 && true) || (4 : Int) == 5) N = [40] ++ N ++ [41] by simp [brkT])
      go_enter Tryz.func75, Tryz.ntmps75
      go_wp2_with fail
      refine HT.out.mono ?_
      rintro e w1 ⟨rfl, hb1⟩
      have q0 := (HX.out.go hb1).cell 0
      go_wp2_with fail
      go_ret
      exact ⟨ret_ba (by rw [HV.out, ba_append, ba_append]), below_trans HB0.out hb1⟩
    | false =>
      have HV := Lib.hid (show brkT (((4 : Int) == 4 && false) || (4 : Int) == 5) N = N by simp [brkT])
      go_enter Tryz.func75, Tryz.ntmps75
      go_wp2_with fail
      refine HT.out.mono ?_
      rintro e w1 ⟨rfl, hb1⟩
      have q0 := (HX.out.go hb1).cell 0
      go_wp2_with fail
      go_ret
      exact ⟨ret_ba (by rw [HV.out]), below_trans HB0.out hb1⟩
  by_cases h5 : k = 5
  · subst h5
    have HV := Lib.hid (show brkT (((5 : Int) == 4 && b) || (5 : Int) == 5) N = [40] ++ N ++ [41] by simp [brkT])
    go_enter Tryz.func75, Tryz.ntmps75
    go_wp2_with fail
    refine HT.out.mono ?_
    rintro e w1 ⟨rfl, hb1⟩
    have q0 := (HX.out.go hb1).cell 0
    go_wp2_with fail
    go_ret
    exact ⟨ret_ba (by rw [HV.out, ba_append, ba_append]), below_trans HB0.out hb1⟩
  · have HV := Lib.hid (show brkT ((k == 4 && b) || k == 5) N = N by simp [brkT, h4, h5])
    have h4' : (k == 4) = false := beq_eq_false_iff_ne.2 h4
    have h5' : (k == 5) = false := beq_eq_false_iff_ne.2 h5
    clear h4 h5
    go_enter Tryz.func75, Tryz.ntmps75
    go_wp2_with fail
    refine HT.out.mono ?_
    rintro e w1 ⟨rfl, hb1⟩
    have q0 := (HX.out.go hb1).cell 0
    go_wp2_with fail
    go_ret
    exact ⟨ret_ba (by rw [HV.out]), below_trans HB0.out hb1⟩
end

def LikeW (k t r : Int) (l : List UInt8) (v : Int) (kids : Fr) : Prop :=
  ∀ (w : World) (kv kv' : Value), SlAt w w.heap.size kv kids → SlAt w w.heap.size kv' kids →
    Calls Tryz.prog 52 #[nodeV k t r l v kv, nodeV k t r l v kv'] w fun e w' => e = .returned (.bool true) ∧ Below w.heap.size w w'
def AllL : Fr → Prop
  | .nil => True
  | .cons k t r l v kids rest => LikeW k t r l v kids ∧ AllL rest
theorem AllL.at_ : ∀ (f : Fr) (j : Nat) {k t r : Int} {l : List UInt8} {v : Int} {kids rest : Fr}, AllL f → f.drop j = .cons k t r l v kids rest → LikeW k t r l v kids
  | .nil, 0, _, _, _, _, _, _, _, _, h => by cases h
  | .nil, _ + 1, _, _, _, _, _, _, _, _, h => by cases h
  | .cons _ _ _ _ _ _ _, 0, _, _, _, _, _, _, _, h, e => by cases e; exact h.1
  | .cons _ _ _ _ _ _ rest, j + 1, _, _, _, _, _, _, _, h, e => AllL.at_ rest j h.2 e
section
variable {k t r v : Int} {l : List UInt8} {kids : Fr}
set_option maxHeartbeats 2000000 in
set_option maxRecDepth 100000 in
theorem likeW_step (hN : AllL kids) : LikeW k t r l v kids := by
  intro w kv kv' hs hs'
  obtain ⟨A, cap, rfl, s1, s2, s3⟩ := hs
  obtain ⟨B, cbp, rfl, u1, u2, u3⟩ := hs'
  generalize hW : (w.alloc (nodeBox k t r l v A kids.len cap)).alloc (nodeBox k t r l v B kids.len cbp) = W
  have hb0 : Below w.heap.size w W := by rw [← hW]; exact below_trans (alloc_b _ _) (alloc_b _ _)
  have hX : Blk W w.heap.size 26 #[.int .i64 k, .int .i64 t, .int .i64 r, .string ⟨l.toArray⟩, .int .i64 v, .slice A kids.len cap] := by rw [← hW]; exact (Blk.new w _ _).alloc _
  have hY : Blk W (w.heap.size + 1) 26 #[.int .i64 k, .int .i64 t, .int .i64 r, .string ⟨l.toArray⟩, .int .i64 v, .slice B kids.len cbp] := by
    rw [← hW]
    have := Blk.new (w.alloc (nodeBox k t r l v A kids.len cap)) 26 #[.int .i64 k, .int .i64 t, .int .i64 r, .string ⟨l.toArray⟩, .int .i64 v, .slice B kids.len cbp]
    rw [show (w.alloc (nodeBox k t r l v A kids.len cap)).heap.size = w.heap.size + 1 by simp [go_sem]] at this
    exact this
  have hsz : w.heap.size + 1 < W.heap.size := hY.lt
  have HX := Lib.hid hX
  have HY := Lib.hid hY
  have HB0 := Lib.hid hb0
  have S3 := Lib.hid s3
  have U3 := Lib.hid u3
  have HN := Lib.hid hN
  have HW := Lib.hid hW
  clear hW hX hY hb0 s3 u3 hN
  go_enter Tryz.func52, Tryz.ntmps52
  go_wp2_with fail
  rw [HW.out]
  clear HW
  go_loopw [5] (fun i wr => ∃ j : Nat, j ≤ kids.len ∧ i = .int .i64 j ∧ Below W.heap.size W wr) (fun i _ => kids.len - (intOf i).toNat)
  case atStart => exact ⟨0, Nat.zero_le _, rfl, Below.refl _ _⟩
  case round =>
    obtain ⟨j, hj, rfl, hb⟩ := hrel
    have HB := Lib.hid hb
    have hbx := HX.out.go hb
    have hby := HY.out.go hb
    have x5 := hbx.cell 5
    have y5 := hby.cell 5
    have hzr : w.heap.size + 1 < wr.heap.size := hby.lt
    have hzr0 : w.heap.size < wr.heap.size := hbx.lt
    clear hb hbx hby
    by_cases hlt : j < kids.len
    · obtain ⟨ba, oa, rfl, hba, hrow⟩ := S3.out (by omega)
      obtain ⟨bc, oc, rfl, hbc, hrow'⟩ := U3.out (by omega)
      obtain ⟨k', t', r', l', v', kids', rest', hdr⟩ := kids.drop_lt j hlt
      have hlow := below_trans HB0.out HB.out
      have hr1 := RowAt.keep (w' := wr) (fun b o hb => hlow.cell (p := ⟨b, o, none⟩) (show b < w.heap.size from hb)) kids ba oa hba hrow
      have hr2 := RowAt.keep (w' := wr) (fun b o hb => hlow.cell (p := ⟨b, o, none⟩) (show b < w.heap.size from hb)) kids bc oc hbc hrow'
      have ha1 := RowAt.at_ kids ba oa j hr1
      have ha2 := RowAt.at_ kids bc oc j hr2
      rw [hdr] at ha1 ha2
      obtain ⟨kv1, q0, q1, q2, q3, q4, q5, hl', hs1⟩ := ha1.head
      obtain ⟨kv2, p0, p1, p2, p3, p4, p5, _, hs2⟩ := ha2.head
      have HC : Hid (∀ x, Below wr.heap.size wr x → Calls Tryz.prog 52 #[nodeV k' t' r' l' v' kv1, nodeV k' t' r' l' v' kv2] x fun e w' => e = .returned (.bool true) ∧ Below x.heap.size x w') := Lib.hid (fun x hx =>
        AllL.at_ kids j HN.out hdr x kv1 kv2 (((hs1.up (by omega)).below (Nat.le_refl _) hx).up hx.size) (((hs2.up (by omega)).below (Nat.le_refl _) hx).up hx.size))
      clear hrow hrow' hr1 hr2 ha1 ha2 hs1 hs2 hdr hlow
      have HS : Hid (∀ x, Below wr.heap.size wr x → x.cell? ⟨w.heap.size, 5, none⟩ = some (.slice (some ⟨ba, oa, none⟩) kids.len cap) ∧ x.cell? ⟨w.heap.size + 1, 5, none⟩ = some (.slice (some ⟨bc, oc, none⟩) kids.len cbp) ∧ x.cell? ⟨ba, oa + j * 6, none⟩ = some (.int .i64 k') ∧ x.cell? ⟨ba, oa + j * 6 + 1, none⟩ = some (.int .i64 t') ∧ x.cell? ⟨ba, oa + j * 6 + 2, none⟩ = some (.int .i64 r') ∧ x.cell? ⟨ba, oa + j * 6 + 3, none⟩ = some (.string ⟨l'.toArray⟩) ∧ x.cell? ⟨ba, oa + j * 6 + 4, none⟩ = some (.int .i64 v') ∧ x.cell? ⟨ba, oa + j * 6 + 5, none⟩ = some kv1 ∧
          x.cell? ⟨bc, oc + j * 6, none⟩ = some (.int .i64 k') ∧ x.cell? ⟨bc, oc + j * 6 + 1, none⟩ = some (.int .i64 t') ∧ x.cell? ⟨bc, oc + j * 6 + 2, none⟩ = some (.int .i64 r') ∧ x.cell? ⟨bc, oc + j * 6 + 3, none⟩ = some (.string ⟨l'.toArray⟩) ∧ x.cell? ⟨bc, oc + j * 6 + 4, none⟩ = some (.int .i64 v') ∧ x.cell? ⟨bc, oc + j * 6 + 5, none⟩ = some kv2) :=
        Lib.hid (fun x hx => ⟨cell_go' x5 hx hzr0, cell_go' y5 hx hzr, cell_go' q0 hx (by omega), cell_go' q1 hx (by omega), cell_go' q2 hx (by omega), cell_go' q3 hx (by omega), cell_go' q4 hx (by omega), cell_go' q5 hx (by omega), cell_go' p0 hx (by omega), cell_go' p1 hx (by omega), cell_go' p2 hx (by omega), cell_go' p3 hx (by omega), cell_go' p4 hx (by omega), cell_go' p5 hx (by omega)⟩)
      go_wp2_with fail
      go_region_held3 (fun x => x.cell? ⟨w.heap.size, 5, none⟩ = some (.slice (some ⟨ba, oa, none⟩) kids.len cap) ∧ x.cell? ⟨w.heap.size + 1, 5, none⟩ = some (.slice (some ⟨bc, oc, none⟩) kids.len cbp) ∧ x.cell? ⟨ba, oa + j * 6, none⟩ = some (.int .i64 k') ∧ x.cell? ⟨ba, oa + j * 6 + 1, none⟩ = some (.int .i64 t') ∧ x.cell? ⟨ba, oa + j * 6 + 2, none⟩ = some (.int .i64 r') ∧ x.cell? ⟨ba, oa + j * 6 + 3, none⟩ = some (.string ⟨l'.toArray⟩) ∧ x.cell? ⟨ba, oa + j * 6 + 4, none⟩ = some (.int .i64 v') ∧ x.cell? ⟨ba, oa + j * 6 + 5, none⟩ = some kv1 ∧
          x.cell? ⟨bc, oc + j * 6, none⟩ = some (.int .i64 k') ∧ x.cell? ⟨bc, oc + j * 6 + 1, none⟩ = some (.int .i64 t') ∧ x.cell? ⟨bc, oc + j * 6 + 2, none⟩ = some (.int .i64 r') ∧ x.cell? ⟨bc, oc + j * 6 + 3, none⟩ = some (.string ⟨l'.toArray⟩) ∧ x.cell? ⟨bc, oc + j * 6 + 4, none⟩ = some (.int .i64 v') ∧ x.cell? ⟨bc, oc + j * 6 + 5, none⟩ = some kv2)
        (first | exact HS.out _ (Below.refl _ _).drew | exact HS.out _ (below_of_drew hb1))
        (first | (go_at_call 52; refine (HC.out _ (Below.refl _ _).drew).mono ?_; rintro e x1 ⟨rfl, hb1⟩))
      go_wp2_with fail
      go_roundw
      case rel => exact ⟨j + 1, by omega, by go_num, below_trans HB.out (below_of_drew hb1)⟩
      case measure => simp [intOf]; omega
    · go_wp2_with fail
      go_ret
      exact ⟨rfl, below_trans HB0.out HB.out⟩
end
theorem allL : ∀ f : Fr, AllL f
  | .nil => trivial
  | .cons _ _ _ _ _ kids rest => ⟨likeW_step (allL kids), allL rest⟩
set_option maxHeartbeats 2000000 in
set_option maxRecDepth 100000 in
theorem alikeR (q k t r : Int) (l : List UInt8) (v : Int) (kids : Fr) (w : World) (kv kv' : Value) (hs : SlAt w w.heap.size kv kids) (hs' : SlAt w w.heap.size kv' kids) :
    Calls Tryz.prog 19 #[condV q k t r l v kv, condV q k t r l v kv'] w fun e w' => e = .returned (.bool true) ∧ Below w.heap.size w w' := by
  obtain ⟨A, cap, rfl, s'⟩ := hs
  have hs : SlAt w w.heap.size (.slice A kids.len cap) kids := ⟨A, cap, rfl, s'⟩
  obtain ⟨B, cbp, rfl, u'⟩ := hs'
  have hs' : SlAt w w.heap.size (.slice B kids.len cbp) kids := ⟨B, cbp, rfl, u'⟩
  have hb := below_trans (alloc_b w (.cells #[.int .i64 q, .int .i64 k, .int .i64 t, .int .i64 r, .string ⟨l.toArray⟩, .int .i64 v, .slice A kids.len cap] 28 (0, 0))) (alloc_b _ (.cells #[.int .i64 q, .int .i64 k, .int .i64 t, .int .i64 r, .string ⟨l.toArray⟩, .int .i64 v, .slice B kids.len cbp] 28 (0, 0)))
  have HC := Lib.hid ((allL (.cons k t r l v kids .nil)).1 _ _ _ ((hs.below (Nat.le_refl _) hb).up hb.size) ((hs'.below (Nat.le_refl _) hb).up hb.size))
  have HB := Lib.hid hb
  clear hs hs' s' u' hb
  go_enter Tryz.func19, Tryz.ntmps19
  go_wp2_with (go_at_call 52; refine HC.out.mono ?_; rintro e w1 ⟨rfl, hb1⟩)
  go_ret
  exact ⟨rfl, below_trans HB.out hb1⟩
end Go.Proofs.YtmlnibjnacfanaaGreatDoor
