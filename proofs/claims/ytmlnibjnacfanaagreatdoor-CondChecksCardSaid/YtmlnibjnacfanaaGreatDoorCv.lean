/- Layer 8: the reference's Print. -/
import Derived.Test.YtmlnibjnacfanaaGreatDoorCr
namespace Go.Proofs.YtmlnibjnacfanaaGreatDoor
open Go.RowKit
theorem ba_eq {b : ByteArray} {l : List UInt8} (h : b.data.toList = l) : b = ⟨l.toArray⟩ := by subst h; simp
set_option maxHeartbeats 2000000 in
set_option maxRecDepth 100000 in
theorem printR (a q k t r : Int) (l : List UInt8) (v : Int) (kv : Value) (kids : Fr) (w : World) (hE : Env w) (hl : l.length ≤ 9223372036854775807) (hs : SlAt w w.heap.size kv kids) :
    Calls Tryz.prog 14 #[.int .i64 a, condV q k t r l v kv] w fun e w' => e = .returned (printC a q k t r l v kids) ∧ Below w.heap.size w w' := by
  obtain ⟨A, cap, rfl, hs'⟩ := hs
  have hs : SlAt w w.heap.size (.slice A kids.len cap) kids := ⟨A, cap, rfl, hs'⟩
  have HB0 := Lib.hid (alloc_b w (.cells #[.int .i64 q, .int .i64 k, .int .i64 t, .int .i64 r, .string ⟨l.toArray⟩, .int .i64 v, .slice A kids.len cap] 28 (0, 0)))
  have HS0 := Lib.hid ((hs.below (Nat.le_refl _) HB0.out).up (show w.heap.size ≤ _ from HB0.out.size))
  have HBX := Lib.hid (Blk.new w 28 #[.int .i64 q, .int .i64 k, .int .i64 t, .int .i64 r, .string ⟨l.toArray⟩, .int .i64 v, .slice A kids.len cap])
  clear hs' hs
  obtain ⟨ee, hee⟩ : ∃ ee, checkC a q k t r l v kids = ee := ⟨_, rfl⟩
  by_cases h0 : ee = 0
  case neg =>
    have HV := Lib.hid (show printC a q k t r l v kids = .tuple #[.string ⟨#[]⟩, .int .i64 ee] by rw [printC, hee, if_neg h0])
    have HEE := Lib.hid hee
    have h0' : (ee != 0) = true := by simpa using h0
    clear hee h0
    go_enter Tryz.func14, Tryz.ntmps14
    go_wp2_with fail
    refine (checkR a q k t r l v _ kids _ hl HS0.out).mono ?_
    rw [HEE.out]
    rintro e w1 ⟨rfl, hb1⟩
    go_wp2_with fail
    go_ret2
    exact ⟨by rw [HV.out]; rfl, below_trans HB0.out hb1⟩
  subst h0
  have hlen := condT_len hee
  obtain ⟨_, hq1, hq2, hob, hok, _⟩ := checkC_ok hee
  have HV := Lib.hid (show printC a q k t r l v kids = .tuple #[.string ⟨(condT a q k t r l v kids).toArray⟩, .int .i64 0] by rw [printC, hee, if_pos rfl])
  have HEE := Lib.hid hee
  unfold condT at hlen HV
  simp only [List.length_append] at hlen
  have HT := Lib.hid (fun x hx => textR_step (t := t) (r := r) (l := l) (v := v) (k := k) (allT a kids) x (.slice A kids.len cap) (hE.mono (below_trans HB0.out hx)) hob hok (by omega) ((HS0.out.below (Nat.le_refl _) hx).up hx.size))
  clear hee hob hok
  generalize nodeT a k t r l v kids = N at HV HT hlen
  have m1 : ¬ (9223372036854775807 < 8 + N.length) := by omega
  have m2 : ¬ (9223372036854775807 < 8 + N.length + 1) := by omega
  have m3 : ¬ (9223372036854775807 < 9 + N.length) := by omega
  have m4 : ¬ (9223372036854775807 < 9 + N.length + 1) := by omega
  clear hlen
  obtain rfl | rfl | rfl : q = 1 ∨ q = 2 ∨ q = 3 := by omega
  all_goals
    go_enter Tryz.func14, Tryz.ntmps14
    go_wp2_with fail
    refine (checkR a _ k t r l v _ kids _ hl HS0.out).mono ?_
    rw [HEE.out]
    rintro e w1 ⟨rfl, hb1⟩
    have bx := HBX.out.go hb1
    have c0 := bx.cell 0
    have c1 := bx.cell 1
    have c2 := bx.cell 2
    have c3 := bx.cell 3
    have c4 := bx.cell 4
    have c5 := bx.cell 5
    have c6 := bx.cell 6
    clear bx
    go_wp2_with fail
    refine (HT.out _ hb1).mono ?_
    rintro e w2 ⟨rfl, hb2⟩
    go_wp2_with fail
    go_ret2
    exact ⟨by rw [HV.out]; simp [quantT]; exact ba_eq (by rw [ba_append, ba_append]; simp), below_trans HB0.out (below_trans hb1 hb2)⟩
end Go.Proofs.YtmlnibjnacfanaaGreatDoor
