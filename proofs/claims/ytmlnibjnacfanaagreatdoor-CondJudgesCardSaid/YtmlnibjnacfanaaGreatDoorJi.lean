/- Layer 8: the walk of CondJudges. -/
import Derived.Test.YtmlnibjnacfanaaGreatDoorJh
import Derived.Test.YtmlnibjnacfanaaGreatDoorEp
namespace Go.Proofs.YtmlnibjnacfanaaGreatDoor
open Go.RowKit
set_option maxHeartbeats 2000000 in
set_option maxRecDepth 100000 in
theorem walkJudges (q k t r : Int) (l : List UInt8) (v : Int) (kv : Value) (kids : Fr) (As : Option Addr) (cs : Nat) (sts : List (List Int)) (w : World) (hl : l.length ≤ 9223372036854775807) (hs : SlAt w w.heap.size kv kids) (hst : sts.length ≤ 9223372036854775806) (hA : StsAt w As sts) (hE : Env w) :
    Calls Tryz.prog 10 #[condV q k t r l v kv, .slice As sts.length cs] w fun e w' => e = .returned (.bool true) ∧ Below w.heap.size w w' := by
  obtain ⟨A, cap, rfl, s'⟩ := hs
  have hs2 : SlAt w w.heap.size (.slice A kids.len cap) kids := ⟨A, cap, rfl, s'⟩
  have hb1 := alloc_b w (.cells #[.int .i64 q, .int .i64 k, .int .i64 t, .int .i64 r, .string ⟨l.toArray⟩, .int .i64 v, .slice A kids.len cap] 28 (0, 0))
  have HS1 := Lib.hid (hs2.below (Nat.le_refl _) hb1)
  have HA1 := Lib.hid (hA.below hb1)
  have HBN1 := Lib.hid (Blk.new w 28 #[.int .i64 q, .int .i64 k, .int .i64 t, .int .i64 r, .string ⟨l.toArray⟩, .int .i64 v, .slice A kids.len cap])
  have HT1 := Lib.hid hb1
  have HE1 := Lib.hid (hE.mono hb1)
  obtain ⟨X, hX⟩ : ∃ X, judgeU q k t r l v kids sts = X := ⟨_, rfl⟩
  obtain ⟨b, E⟩ := X
  have HX := Lib.hid hX
  clear s' hs2 hb1 hE hA hX
  go_enter Tryz.func10, Tryz.ntmps10
  go_wp2_with (first
    | (go_at_call 33; refine (judgeG w.heap.size _ sts As cs (by simp) HS1.out hl hst HA1.out).mono ?_; rw [HX.out]; rintro e w2 ⟨rfl, hbx⟩; have hB := HBN1.out.go hbx; have c0 := hB.cell 0; have c1 := hB.cell 1; have c2' := hB.cell 2; have c3 := hB.cell 3; have c4 := hB.cell 4; have c5 := hB.cell 5; have c6 := hB.cell 6; have HT2 := Lib.hid (below_trans HT1.out hbx); have HE2 := Lib.hid (HE1.out.mono hbx); have HS2 := Lib.hid (HS1.out.below (by simp) hbx); have HA2 := Lib.hid (HA1.out.below hbx); have hz2 := HT2.out.size; clear hB hbx)
    | (go_at_call 34; refine (judgeR w.heap.size _ sts As cs hz2 HS2.out hl hst HA2.out).mono ?_; rw [HX.out]; rintro e w3 ⟨rfl, hbx⟩; have HT3 := Lib.hid (below_trans HT2.out hbx); have HE3 := Lib.hid (HE2.out.mono hbx); clear hbx)
    | (go_at_call 16; refine (awakeP HE3.out).mono ?_; rintro e w6 ⟨rfl, hbx⟩))
  go_ret
  exact ⟨by simp, below_trans HT3.out hbx⟩
end Go.Proofs.YtmlnibjnacfanaaGreatDoor
