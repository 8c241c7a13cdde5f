/- Layer 8: the walk of CondChecks. -/
import Derived.Test.YtmlnibjnacfanaaGreatDoorCv
import Derived.Test.YtmlnibjnacfanaaGreatDoorEp
namespace Go.Proofs.YtmlnibjnacfanaaGreatDoor
open Go.RowKit
set_option maxHeartbeats 2000000 in
set_option maxRecDepth 100000 in
theorem walkChecks (a q k t r : Int) (l : List UInt8) (v : Int) (kv : Value) (kids : Fr) (w : World) (hE : Env w) (hl : l.length ≤ 9223372036854775807) (hs : SlAt w w.heap.size kv kids) :
    Calls Tryz.prog 3 #[.int .i64 a, condV q k t r l v kv] w fun e w' => e = .returned (.bool true) ∧ Below w.heap.size w w' := by
  obtain ⟨A, cap, rfl, s'⟩ := hs
  have hs2 : SlAt w w.heap.size (.slice A kids.len cap) kids := ⟨A, cap, rfl, s'⟩
  have hb1 := alloc_b w (.cells #[.int .i64 q, .int .i64 k, .int .i64 t, .int .i64 r, .string ⟨l.toArray⟩, .int .i64 v, .slice A kids.len cap] 28 (0, 0))
  have HS1 := Lib.hid ((hs2.below (Nat.le_refl _) hb1).up hb1.size)
  have HBN1 := Lib.hid (Blk.new w 28 #[.int .i64 q, .int .i64 k, .int .i64 t, .int .i64 r, .string ⟨l.toArray⟩, .int .i64 v, .slice A kids.len cap])
  have HT1 := Lib.hid hb1
  have HE1 := Lib.hid (hE.mono hb1)
  obtain ⟨E, hEc⟩ : ∃ E, checkC a q k t r l v kids = E := ⟨_, rfl⟩
  obtain ⟨X, hX⟩ : ∃ X : ByteArray, printC a q k t r l v kids = .tuple #[.string X, .int .i64 E] := ⟨_, by rw [← hEc]; rfl⟩
  have HX := Lib.hid hX
  have HC := Lib.hid hEc
  clear s' hs2 hb1 hE hEc hX
  go_enter Tryz.func3, Tryz.ntmps3
  go_wp2_with (first
    | (go_at_call 12; refine (checkP a q k t r l v _ kids _ hl HS1.out).mono ?_; rw [HC.out]; rintro e w2 ⟨rfl, hbx⟩; have hB := HBN1.out.go hbx; have c0 := hB.cell 0; have c1 := hB.cell 1; have c2' := hB.cell 2; have c3 := hB.cell 3; have c4 := hB.cell 4; have c5 := hB.cell 5; have c6 := hB.cell 6; have HBN2 := Lib.hid hB; have HT2 := Lib.hid (below_trans HT1.out hbx); have HE2 := Lib.hid (HE1.out.mono hbx); have HS2 := Lib.hid ((HS1.out.below (Nat.le_refl _) hbx).up hbx.size); clear hB hbx)
    | (go_at_call 13; refine (printP a q k t r l v _ kids _ HE2.out hl HS2.out).mono ?_; rw [HX.out]; rintro e w3 ⟨rfl, hbx⟩; have hB := HBN2.out.go hbx; have c0 := hB.cell 0; have c1 := hB.cell 1; have c2' := hB.cell 2; have c3 := hB.cell 3; have c4 := hB.cell 4; have c5 := hB.cell 5; have c6 := hB.cell 6; have HBN3 := Lib.hid hB; have HT3 := Lib.hid (below_trans HT2.out hbx); have HE3 := Lib.hid (HE2.out.mono hbx); have HS3 := Lib.hid ((HS2.out.below (Nat.le_refl _) hbx).up hbx.size); clear hB hbx)
    | (go_at_call 14; refine (printR a q k t r l v _ kids _ HE3.out hl HS3.out).mono ?_; rw [HX.out]; rintro e w4 ⟨rfl, hbx⟩; have hB := HBN3.out.go hbx; have c0 := hB.cell 0; have c1 := hB.cell 1; have c2' := hB.cell 2; have c3 := hB.cell 3; have c4 := hB.cell 4; have c5 := hB.cell 5; have c6 := hB.cell 6; have HBN4 := Lib.hid hB; have HT4 := Lib.hid (below_trans HT3.out hbx); have HE4 := Lib.hid (HE3.out.mono hbx); have HS4 := Lib.hid ((HS3.out.below (Nat.le_refl _) hbx).up hbx.size); clear hB hbx)
    | (go_at_call 15; refine (checkR a q k t r l v _ kids _ hl HS4.out).mono ?_; rw [HC.out]; rintro e w5 ⟨rfl, hbx⟩; have hB := HBN4.out.go hbx; have c0 := hB.cell 0; have c1 := hB.cell 1; have c2' := hB.cell 2; have c3 := hB.cell 3; have c4 := hB.cell 4; have c5 := hB.cell 5; have c6 := hB.cell 6; have HBN5 := Lib.hid hB; have HT5 := Lib.hid (below_trans HT4.out hbx); have HE5 := Lib.hid (HE4.out.mono hbx); have HS5 := Lib.hid ((HS4.out.below (Nat.le_refl _) hbx).up hbx.size); clear hB hbx)
    | (go_at_call 16; refine (awakeP HE5.out).mono ?_; rintro e w6 ⟨rfl, hbx⟩))
  go_ret
  exact ⟨rfl, below_trans HT5.out hbx⟩
theorem walkChecksW (a q k t r : Int) (l : List UInt8) (v : Int) (kv : Value) (kids : Fr) (w : World) (hl : l.length ≤ 9223372036854775807) (hs : SlAt w w.heap.size kv kids) (hE : Env w) :
    Calls Tryz.prog 3 #[.int .i64 a, condV q k t r l v kv] w fun e w' => e = .returned (.bool true) ∧ Below w.heap.size w w' := walkChecks a q k t r l v kv kids w hE hl hs
end Go.Proofs.YtmlnibjnacfanaaGreatDoor
