/- BufferNil walked: for every pick true is returned, and what was there stays. -/
import Derived.Test.YtjhafgnmahhacaaGreatDoorTe49

namespace Go.Proofs.YtjhafgnmahhacaaGreatDoor
open Go.RowKit
section
set_option maxHeartbeats 4000000
set_option maxRecDepth 100000
theorem walkBNil (pick : Int) (w : World) : Calls Tryz.prog 5 #[.int .i64 pick] w fun e w' => e = .returned (.bool true) ∧ Below w.heap.size w w' := by
  have H0 := Lib.hid (fun z : World => DoN (w := z) (p := .pointer none) (.inl rfl) pick)
  have HB := Lib.hid (Below.refl w.heap.size w)
  go_enter Tryz.func5, Tryz.ntmps5
  go_wp2_with fail
  refine (H0.out _).mono ?_
  rintro e w1 ⟨rfl, hb⟩
  have HX := Lib.hid (alloc_b w1 (.cells #[.int .i64 0, .int .i64 0] 79 (0, 0)))
  have HV := Lib.hid (Blk.new w1 79 #[.int .i64 0, .int .i64 0])
  have HX1 := Lib.hid (alloc_b (w1.alloc (.cells #[.int .i64 0, .int .i64 0] 79 (0, 0))) (.cells #[.int .i64 0, .slice none 0 0, .slice none 0 0, .slice none 0 0, .slice none 0 0, .slice none 0 0] 84 (0, 0)))
  have HM := Lib.hid (show NilM ((w1.alloc (.cells #[.int .i64 0, .int .i64 0] 79 (0, 0))).alloc (.cells #[.int .i64 0, .slice none 0 0, .slice none 0 0, .slice none 0 0, .slice none 0 0, .slice none 0 0] 84 (0, 0))) (.pointer (some ⟨w1.heap.size + 1, 0, none⟩)) from by
    have h := Blk.new (w1.alloc (.cells #[.int .i64 0, .int .i64 0] 79 (0, 0))) 84 #[.int .i64 0, .slice none 0 0, .slice none 0 0, .slice none 0 0, .slice none 0 0, .slice none 0 0]
    rw [World.size_alloc] at h
    exact .inr ⟨_, _, rfl, h⟩)
  have HB1 := Lib.hid (below_trans (below_trans hb HX.out) HX1.out)
  have HD := Lib.hid (DoN HM.out pick)
  clear hb H0 HB
  go_wp2_with fail
  refine HD.out.mono ?_
  rintro e w2 ⟨rfl, hb2⟩
  have HB2 := Lib.hid (below_trans HB1.out hb2)
  have HV2 := Lib.hid ((HV.out.go HX1.out).go hb2)
  have HM2 := Lib.hid (HM.out.below hb2)
  have HX2 := Lib.hid (alloc_b w2 (.cells #[.int .i64 0, .int .i64 0] 79 (0, 0)))
  have HY := Lib.hid (Blk.new w2 79 #[.int .i64 0, .int .i64 0])
  have HV3 := Lib.hid (HV2.out.go HX2.out)
  have HM3 := Lib.hid (HM2.out.below HX2.out)
  have v0 := HV3.out.cl 0
  have v1 := HV3.out.cl 1
  have y0 := HY.out.cl 0
  have y1 := HY.out.cl 1
  have HB := Lib.hid (below_trans HB2.out HX2.out)
  clear hb2 HD HB1 HV HM HX1 HX HB2 HV2 HM2
  go_wp2_with fail
  refine (MovesN (.inl rfl)).mono ?_
  rintro e wn ⟨rfl, hb9⟩
  have HB := Lib.hid (below_trans HB.out hb9)
  have HM3 := Lib.hid (HM3.out.below hb9)
  have y0 := cell_go y0 hb9
  have y1 := cell_go y1 hb9
  clear hb9
  go_wp2_with fail
  refine (MemoryN (.inl rfl)).mono ?_
  rintro e wn ⟨rfl, hb9⟩
  have HB := Lib.hid (below_trans HB.out hb9)
  have HM3 := Lib.hid (HM3.out.below hb9)
  have y0 := cell_go y0 hb9
  have y1 := cell_go y1 hb9
  clear hb9
  go_wp2_with fail
  refine (BufferN (.inl rfl) pick).mono ?_
  rintro e wn ⟨rfl, hb9⟩
  have HB := Lib.hid (below_trans HB.out hb9)
  have HM3 := Lib.hid (HM3.out.below hb9)
  have y0 := cell_go y0 hb9
  have y1 := cell_go y1 hb9
  clear hb9
  go_wp2_with fail
  refine (StateN (.inl rfl)).mono ?_
  rintro e wn ⟨rfl, hb9⟩
  have HB := Lib.hid (below_trans HB.out hb9)
  have HM3 := Lib.hid (HM3.out.below hb9)
  have y0 := cell_go y0 hb9
  have y1 := cell_go y1 hb9
  clear hb9
  go_wp2_with fail
  refine (CopyN (.inl rfl)).mono ?_
  rintro e wn ⟨rfl, hb9⟩
  have HB := Lib.hid (below_trans HB.out hb9)
  have HM3 := Lib.hid (HM3.out.below hb9)
  have y0 := cell_go y0 hb9
  have y1 := cell_go y1 hb9
  clear hb9
  go_wp2_with fail
  refine (KeyN (.inl rfl)).mono ?_
  rintro e wn ⟨rfl, hb9⟩
  have HB := Lib.hid (below_trans HB.out hb9)
  have HM3 := Lib.hid (HM3.out.below hb9)
  have y0 := cell_go y0 hb9
  have y1 := cell_go y1 hb9
  clear hb9
  go_wp2_with fail
  refine (CopyN HM3.out).mono ?_
  rintro e wn ⟨rfl, hb9⟩
  have HB := Lib.hid (below_trans HB.out hb9)
  have HM3 := Lib.hid (HM3.out.below hb9)
  have y0 := cell_go y0 hb9
  have y1 := cell_go y1 hb9
  clear hb9
  go_wp2_with fail
  refine (MovesN HM3.out).mono ?_
  rintro e wn ⟨rfl, hb9⟩
  have HB := Lib.hid (below_trans HB.out hb9)
  have HM3 := Lib.hid (HM3.out.below hb9)
  have y0 := cell_go y0 hb9
  have y1 := cell_go y1 hb9
  clear hb9
  go_wp2_with fail
  refine (awakeB _).mono ?_
  rintro e wn ⟨rfl, hb9⟩
  have HB := Lib.hid (below_trans HB.out hb9)
  clear hb9
  go_wp2_with fail
  go_ret
  exact ⟨rfl, HB.out⟩
end
end Go.Proofs.YtjhafgnmahhacaaGreatDoor
