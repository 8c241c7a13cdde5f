/- Layer 8: the reference's texts. -/
import Derived.Test.YtmlnibjnacfanaaGreatDoorCp
namespace Go.Proofs.YtmlnibjnacfanaaGreatDoor
open Go.RowKit

theorem below_tr {W a b : World} (h : Below W.heap.size W a) (k : Below a.heap.size a b) : Below W.heap.size W b := below_trans h k
def thOK (a t r : Int) : Prop := t = -1 ∨ (0 ≤ t ∧ t ≤ 9223372036854775807 ∧ 0 ≤ r ∧ r < regs a)
set_option maxHeartbeats 2000000 in
theorem thingTextR (a t r : Int) (l : List UInt8) (w : World) (hE : Env w) (ht : thOK a t r) :
    Calls Tryz.prog 74 #[.int .i64 a, .agg #[.int .i64 t, .int .i64 r, .string ⟨l.toArray⟩]] w fun e w' => e = .returned (.string ⟨(thT a t r l).toArray⟩) ∧ Below w.heap.size w w' := by
  rcases ht with rfl | ⟨h0, h1, h2, h3⟩
  · have HV := Lib.hid (show thT a (-1) r l = l by simp [thT])
    go_enter Tryz.func74, Tryz.ntmps74
    go_wp2_with fail
    go_ret
    exact ⟨by rw [HV.out]; rfl, alloc_b _ _⟩
  have HV := Lib.hid (show thT a t r l = Lib.itoa t ++ 58 :: regT a r by simp [thT, h0])
  have ht1 : (t == -1) = false := beq_eq_false_iff_ne.2 (by omega)
  have HI := Lib.hid (fun x (hx : Env x) => itoa_c t x hx (by omega) h1)
  have HR := Lib.hid (fun x (hx : Env x) => registerR a r h2 h3 x hx)
  have hit := Lib.itoa_length_le t (by omega) (by omega)
  have hrt := regT_len h2 h3
  have m1 : ¬ (9223372036854775807 < (Lib.itoa t).length + 1) := by omega
  have m2 : ¬ (9223372036854775807 < (Lib.itoa t).length + 1 + (regT a r).length) := by omega
  clear h0 h1 h2 h3
  have HX := Lib.hid (Blk.new w 23 #[.int .i64 t, .int .i64 r, .string ⟨l.toArray⟩])
  have HB0 := Lib.hid (alloc_b w (.cells #[.int .i64 t, .int .i64 r, .string ⟨l.toArray⟩] 23 (0, 0)))
  generalize hW : w.alloc (.cells #[.int .i64 t, .int .i64 r, .string ⟨l.toArray⟩] 23 (0, 0)) = W at HX HB0
  have HK : Hid (∀ x, Below W.heap.size W x → x.cell? ⟨w.heap.size, 0, none⟩ = some (.int .i64 t) ∧ x.cell? ⟨w.heap.size, 1, none⟩ = some (.int .i64 r) ∧ Below W.heap.size W x) := Lib.hid (fun x hx => ⟨(HX.out.go hx).cell 0, (HX.out.go hx).cell 1, hx⟩)
  have HE := Lib.hid (fun x (hx : Below W.heap.size W x) => hE.mono (below_trans HB0.out hx))
  have hc0 := HX.out.cell 0
  go_enter Tryz.func74, Tryz.ntmps74
  go_wp2_with fail
  go_region_held3 (fun x => x.cell? ⟨w.heap.size, 0, none⟩ = some (.int .i64 t) ∧ x.cell? ⟨w.heap.size, 1, none⟩ = some (.int .i64 r) ∧ Below W.heap.size W x)
    (first | exact HK.out _ (Below.refl _ _).drew | exact HK.out _ (below_of_drew (below_trans hb1 hb2)) | exact HK.out _ (below_of_drew hb1))
    (first
      | (go_at_call 69; refine (HI.out _ (HE.out _ (Below.refl _ _).drew)).mono ?_; rintro e x1 ⟨rfl, hb1⟩)
      | (go_at_call 105; refine (HR.out _ (HE.out _ (below_of_drew hb1))).mono ?_; rintro e x2 ⟨rfl, hb2⟩))
  go_wp2_with fail
  go_ret
  exact ⟨ret_ba (by rw [HV.out, ba_append, ba_append]; simp), below_trans HB0.out (below_of_drew (below_trans hb1 hb2))⟩

def TextW (a k t r : Int) (l : List UInt8) (v : Int) (kids : Fr) : Prop :=
  ∀ (w : World) (kv : Value), Env w → ownB a k t r l v kids.len = true → okF a kids → (nodeT a k t r l v kids).length ≤ 1000000 → SlAt w w.heap.size kv kids →
    Calls Tryz.prog 40 #[.int .i64 a, nodeV k t r l v kv] w fun e w' => e = .returned (.string ⟨(nodeT a k t r l v kids).toArray⟩) ∧ Below w.heap.size w w'
section
variable {a k t r v : Int} {l : List UInt8} {kids : Fr}
set_option maxHeartbeats 2000000 in
theorem kidR (hT : TextW a k t r l v kids) (b : Bool) (w : World) (kv : Value) (hE : Env w) (ho : ownB a k t r l v kids.len = true) (hk : okF a kids) (hlen : (nodeT a k t r l v kids).length ≤ 1000000) (hs : SlAt w w.heap.size kv kids) :
    Calls Tryz.prog 75 #[.int .i64 a, nodeV k t r l v kv, .bool b, .bool true] w fun e w' => e = .returned (.string ⟨(brkT ((k == 4 && b) || k == 5) (nodeT a k t r l v kids)).toArray⟩) ∧ Below w.heap.size w w' := by
  obtain ⟨A, cap, rfl, hs'⟩ := hs
  have hs2 : SlAt w w.heap.size (.slice A kids.len cap) kids := ⟨A, cap, rfl, hs'⟩
  have HB0 := Lib.hid (alloc_b w (.cells #[.int .i64 k, .int .i64 t, .int .i64 r, .string ⟨l.toArray⟩, .int .i64 v, .slice A kids.len cap] 26 (0, 0)))
  have HX := Lib.hid (Blk.new w 26 #[.int .i64 k, .int .i64 t, .int .i64 r, .string ⟨l.toArray⟩, .int .i64 v, .slice A kids.len cap])
  have HS := Lib.hid ((hs2.below (Nat.le_refl _) HB0.out).up HB0.out.size)
  have HE := Lib.hid (hE.mono HB0.out)
  have HT := Lib.hid (hT _ _ HE.out ho hk hlen HS.out)
  generalize hN : nodeT a k t r l v kids = N at hlen HT
  have hm1 : ¬ (9223372036854775807 < 1 + N.length) := by omega
  have hm2 : ¬ (9223372036854775807 < 1 + N.length + 1) := by omega
  have HL := Lib.hid hlen
  clear hs' hs2 hT ho hk hE hN hlen
  by_cases h4 : k = 4
  · subst h4
    cases b with
    | true =>
      have HV := Lib.hid (show brkT (((4 : Int) == 4 && true) || (4 : Int) == 5) N = [40] ++ N ++ [41] by simp [brkT])
      go_enter Tryz.func75, Tryz.ntmps75
      go_wp2_with fail
      refine HT.out.mono ?_
      rintro e w1 ⟨rfl, hb1⟩
      have q0 := (HX.out.go hb1).cell 0
      go_wp2_with fail
      go_ret
      exact ⟨ret_ba (by rw [HV.out, ba_append, ba_append]), below_trans HB0.out hb1⟩
    | false =>
      have HV := Lib.hid (show brkT (((4 : Int) == 4 && false) || (4 : Int) == 5) N = N by simp [brkT])
      go_enter Tryz.func75, Tryz.ntmps75
      go_wp2_with fail
      refine HT.out.mono ?_
      rintro e w1 ⟨rfl, hb1⟩
      have q0 := (HX.out.go hb1).cell 0
      go_wp2_with fail
      go_ret
      exact ⟨ret_ba (by rw [HV.out]), below_trans HB0.out hb1⟩
  by_cases h5 : k = 5
  · subst h5
    have HV := Lib.hid (show brkT (((5 : Int) == 4 && b) || (5 : Int) == 5) N = [40] ++ N ++ [41] by simp [brkT])
    go_enter Tryz.func75, Tryz.ntmps75
    go_wp2_with fail
    refine HT.out.mono ?_
    rintro e w1 ⟨rfl, hb1⟩
    have q0 := (HX.out.go hb1).cell 0
    go_wp2_with fail
    go_ret
    exact ⟨ret_ba (by rw [HV.out, ba_append, ba_append]), below_trans HB0.out hb1⟩
  · have HV := Lib.hid (show brkT ((k == 4 && b) || k == 5) N = N by simp [brkT, h4, h5])
    have h4' : (k == 4) = false := beq_eq_false_iff_ne.2 h4
    have h5' : (k == 5) = false := beq_eq_false_iff_ne.2 h5
    clear h4 h5
    go_enter Tryz.func75, Tryz.ntmps75
    go_wp2_with fail
    refine HT.out.mono ?_
    rintro e w1 ⟨rfl, hb1⟩
    have q0 := (HX.out.go hb1).cell 0
    go_wp2_with fail
    go_ret
    exact ⟨ret_ba (by rw [HV.out]), below_trans HB0.out hb1⟩
end
end Go.Proofs.YtmlnibjnacfanaaGreatDoor
