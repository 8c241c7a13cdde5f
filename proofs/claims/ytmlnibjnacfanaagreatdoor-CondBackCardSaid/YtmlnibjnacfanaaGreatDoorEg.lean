/- Layer 8: whether a node holds, at each kind. -/
import Derived.Test.YtmlnibjnacfanaaGreatDoorEf
namespace Go.Proofs.YtmlnibjnacfanaaGreatDoor
open Go.RowKit
open Go.Maps

theorem still_all {P : Program} {id : Nat} {Q : Exit → Act → World → Prop} {a : Act} {w : World} {l : List Oper} (hm : P.follows .mixedOrders = true) (hB : Region.lexB .any l.toArray = true)
    (h : wpStill P l.toArray w.drew (fun a' => Q .normal a' w.drew) l a) : (Code.region id l.toArray true).wp P Q a w := wp_region_still_lit hm hB h
section
variable {f : Th → Int} {k t r v : Int} {l : List UInt8} {kids : Fr}
set_option maxHeartbeats 2000000 in
set_option maxRecDepth 100000 in
theorem conIs (hH : AllH f kids) (w : World) (hi bm n p : Nat) (A : Option Addr) (cap : Nat) (hhi : hi ≤ w.heap.size) (hm : MapIs w bm n f) (hs : SlAt w hi (.slice A kids.len cap) kids) (hk : okF 2 kids) (hp : w.cell? ⟨p, 0, none⟩ = some (.map (some bm))) :
    Calls Tryz.prog 95 #[.slice A kids.len cap, .func (.func 93) #[] #[.pointer (some ⟨p, 0, none⟩)]] w fun e w' => e = .returned (.bool ((hL f kids).any (fun b => b))) ∧ Below w.heap.size w w' := by
  have HC := Lib.hid (idxIs hH w hi bm n p A cap hhi hm hs hk hp)
  obtain ⟨c, hc⟩ : ∃ c, (hL f kids).any (fun b => b) = c := ⟨_, rfl⟩
  rw [hc] at HC ⊢
  clear hH hm hs hk hp hc
  go_enter Tryz.func95, Tryz.ntmps95
  go_wp2_with (go_at_call 118; refine HC.out.mono ?_; rintro e w2 ⟨i, rfl, hci, hb2⟩; have HCI := Lib.hid hci; clear hci)
  go_ret
  exact ⟨ret_bool HCI.out, hb2⟩
set_option maxHeartbeats 2000000 in
set_option maxRecDepth 100000 in
theorem conNot (hH : AllH f kids) (w : World) (hi bm n p : Nat) (A : Option Addr) (cap : Nat) (hhi : hi ≤ w.heap.size) (hm : MapIs w bm n f) (hs : SlAt w hi (.slice A kids.len cap) kids) (hk : okF 2 kids) (hp : w.cell? ⟨p, 0, none⟩ = some (.map (some bm))) :
    Calls Tryz.prog 95 #[.slice A kids.len cap, .func (.func 94) #[] #[.pointer (some ⟨p, 0, none⟩)]] w fun e w' => e = .returned (.bool ((hL f kids).any (fun b => !b))) ∧ Below w.heap.size w w' := by
  have HC := Lib.hid (idxNot hH w hi bm n p A cap hhi hm hs hk hp)
  obtain ⟨c, hc⟩ : ∃ c, (hL f kids).any (fun b => !b) = c := ⟨_, rfl⟩
  rw [hc] at HC ⊢
  clear hH hm hs hk hp hc
  go_enter Tryz.func95, Tryz.ntmps95
  go_wp2_with (go_at_call 118; refine HC.out.mono ?_; rintro e w2 ⟨i, rfl, hci, hb2⟩; have HCI := Lib.hid hci; clear hci)
  go_ret
  exact ⟨ret_bool HCI.out, hb2⟩
theorem thing_ok {t r : Int} {l : List UInt8} (h : thingB 2 t r l = true) : okT (t, r, l) := by
  rcases vth_parts ⟨(t, r, l), h⟩ with ⟨a, b, c⟩ | ⟨a, b, c, d, e⟩
  · simp only at a b c
    refine ⟨?_, ?_, ?_, ?_, ?_⟩ <;> dsimp only <;> omega
  · simp only at a b c d e
    subst e
    refine ⟨?_, ?_, ?_, ?_, ?_⟩ <;> dsimp only [List.length_nil] <;> omega
set_option maxHeartbeats 2000000 in
set_option maxRecDepth 100000 in
theorem nodeH_1 : NodeH f 1 t r l v kids := by
  intro w hi bm n kv hhi hm hs hl ho hk
  obtain ⟨A, cap, rfl, s1, s2, s3⟩ := hs
  have hs' : SlAt w hi (.slice A kids.len cap) kids := ⟨A, cap, rfl, s1, s2, s3⟩
  have HB := Lib.hid (below_alloc (alloc_b w (.cells #[.int .i64 1, .int .i64 t, .int .i64 r, .string ⟨l.toArray⟩, .int .i64 v, .slice A kids.len cap] 26 (0, 0))) (.cells #[.map (some bm)] 104 (0, 0)))
  have HM := Lib.hid (hm.below HB.out)
  have HS := Lib.hid (hs'.below hhi HB.out)
  have HP := Lib.hid (show ((w.alloc (.cells #[.int .i64 1, .int .i64 t, .int .i64 r, .string ⟨l.toArray⟩, .int .i64 v, .slice A kids.len cap] 26 (0, 0))).alloc (.cells #[.map (some bm)] 104 (0, 0))).cell? ⟨w.heap.size + 1, 0, none⟩ = some (.map (some bm)) by
    have := cell_new (w.alloc (.cells #[.int .i64 1, .int .i64 t, .int .i64 r, .string ⟨l.toArray⟩, .int .i64 v, .slice A kids.len cap] 26 (0, 0))) #[.map (some bm)] 104 (0, 0) 0
    simp)
  have HO := Lib.hid ho
  have HK := Lib.hid hk
  have S3 := Lib.hid s3
  clear hm hs' ho hk s3
  go_enter Tryz.func57, Tryz.ntmps57
  go_wp2_with fail
  go_ret
  exact ⟨rfl, HB.out⟩
set_option maxHeartbeats 2000000 in
set_option maxRecDepth 100000 in
theorem nodeH_4 (hH : AllH f kids) : NodeH f 4 t r l v kids := by
  intro w hi bm n kv hhi hm hs hl ho hk
  obtain ⟨A, cap, rfl, s1, s2, s3⟩ := hs
  have hs' : SlAt w hi (.slice A kids.len cap) kids := ⟨A, cap, rfl, s1, s2, s3⟩
  have HB := Lib.hid (below_alloc (alloc_b w (.cells #[.int .i64 4, .int .i64 t, .int .i64 r, .string ⟨l.toArray⟩, .int .i64 v, .slice A kids.len cap] 26 (0, 0))) (.cells #[.map (some bm)] 104 (0, 0)))
  have HM := Lib.hid (hm.below HB.out)
  have HS := Lib.hid (hs'.below hhi HB.out)
  have HP := Lib.hid (show ((w.alloc (.cells #[.int .i64 4, .int .i64 t, .int .i64 r, .string ⟨l.toArray⟩, .int .i64 v, .slice A kids.len cap] 26 (0, 0))).alloc (.cells #[.map (some bm)] 104 (0, 0))).cell? ⟨w.heap.size + 1, 0, none⟩ = some (.map (some bm)) by
    have := cell_new (w.alloc (.cells #[.int .i64 4, .int .i64 t, .int .i64 r, .string ⟨l.toArray⟩, .int .i64 v, .slice A kids.len cap] 26 (0, 0))) #[.map (some bm)] 104 (0, 0) 0
    simp)
  have HO := Lib.hid ho
  have HK := Lib.hid hk
  have S3 := Lib.hid s3
  clear hm hs' ho hk s3
  have HV := Lib.hid (show hOf f 4 t r l v (hL f kids) = !((hL f kids).any (fun b => !b)) by simp only [hOf, List.not_any_eq_all_not, Bool.not_not]; rfl)
  have HH := Lib.hid hH
  obtain ⟨c, hc⟩ : ∃ c, (hL f kids).any (fun b => !b) = c := ⟨_, rfl⟩
  have HC := Lib.hid hc
  clear hH hc
  go_enter Tryz.func57, Tryz.ntmps57
  go_wp2_with (go_at_call 95; refine (conNot HH.out _ hi bm n (w.heap.size + 1) A cap (by simp; omega) HM.out HS.out HK.out HP.out).mono ?_; rw [HC.out]; rintro e w2 ⟨rfl, hb2⟩)
  go_ret
  exact ⟨ret_bool (by rw [HV.out, HC.out]), below_trans HB.out hb2⟩
set_option maxHeartbeats 2000000 in
set_option maxRecDepth 100000 in
theorem nodeH_5 (hH : AllH f kids) : NodeH f 5 t r l v kids := by
  intro w hi bm n kv hhi hm hs hl ho hk
  obtain ⟨A, cap, rfl, s1, s2, s3⟩ := hs
  have hs' : SlAt w hi (.slice A kids.len cap) kids := ⟨A, cap, rfl, s1, s2, s3⟩
  have HB := Lib.hid (below_alloc (alloc_b w (.cells #[.int .i64 5, .int .i64 t, .int .i64 r, .string ⟨l.toArray⟩, .int .i64 v, .slice A kids.len cap] 26 (0, 0))) (.cells #[.map (some bm)] 104 (0, 0)))
  have HM := Lib.hid (hm.below HB.out)
  have HS := Lib.hid (hs'.below hhi HB.out)
  have HP := Lib.hid (show ((w.alloc (.cells #[.int .i64 5, .int .i64 t, .int .i64 r, .string ⟨l.toArray⟩, .int .i64 v, .slice A kids.len cap] 26 (0, 0))).alloc (.cells #[.map (some bm)] 104 (0, 0))).cell? ⟨w.heap.size + 1, 0, none⟩ = some (.map (some bm)) by
    have := cell_new (w.alloc (.cells #[.int .i64 5, .int .i64 t, .int .i64 r, .string ⟨l.toArray⟩, .int .i64 v, .slice A kids.len cap] 26 (0, 0))) #[.map (some bm)] 104 (0, 0) 0
    simp)
  have HO := Lib.hid ho
  have HK := Lib.hid hk
  have S3 := Lib.hid s3
  clear hm hs' ho hk s3
  have HV := Lib.hid (show hOf f 5 t r l v (hL f kids) = (hL f kids).any (fun b => b) by simp [hOf]; rfl)
  have HH := Lib.hid hH
  obtain ⟨c, hc⟩ : ∃ c, (hL f kids).any (fun b => b) = c := ⟨_, rfl⟩
  have HC := Lib.hid hc
  clear hH hc
  go_enter Tryz.func57, Tryz.ntmps57
  go_wp2_with (go_at_call 95; refine (conIs HH.out _ hi bm n (w.heap.size + 1) A cap (by simp; omega) HM.out HS.out HK.out HP.out).mono ?_; rw [HC.out]; rintro e w2 ⟨rfl, hb2⟩)
  go_ret
  exact ⟨ret_bool (by rw [HV.out, HC.out]), below_trans HB.out hb2⟩
set_option maxHeartbeats 2000000 in
set_option maxRecDepth 100000 in
theorem nodeH_2 : NodeH f 2 t r l v kids := by
  intro w hi bm n kv hhi hm hs hl ho hk
  obtain ⟨A, cap, rfl, s1, s2, s3⟩ := hs
  have hs' : SlAt w hi (.slice A kids.len cap) kids := ⟨A, cap, rfl, s1, s2, s3⟩
  have HB := Lib.hid (below_alloc (alloc_b w (.cells #[.int .i64 2, .int .i64 t, .int .i64 r, .string ⟨l.toArray⟩, .int .i64 v, .slice A kids.len cap] 26 (0, 0))) (.cells #[.map (some bm)] 104 (0, 0)))
  have HM := Lib.hid (hm.below HB.out)
  have HS := Lib.hid (hs'.below hhi HB.out)
  have HP := Lib.hid (show ((w.alloc (.cells #[.int .i64 2, .int .i64 t, .int .i64 r, .string ⟨l.toArray⟩, .int .i64 v, .slice A kids.len cap] 26 (0, 0))).alloc (.cells #[.map (some bm)] 104 (0, 0))).cell? ⟨w.heap.size + 1, 0, none⟩ = some (.map (some bm)) by
    have := cell_new (w.alloc (.cells #[.int .i64 2, .int .i64 t, .int .i64 r, .string ⟨l.toArray⟩, .int .i64 v, .slice A kids.len cap] 26 (0, 0))) #[.map (some bm)] 104 (0, 0) 0
    simp)
  have HO := Lib.hid ho
  have HK := Lib.hid hk
  have S3 := Lib.hid s3
  clear hm hs' ho hk s3
  have hth : thingB 2 t r l = true := by
    have := HO.out
    simp [ownB] at this
    exact this.1.1
  have HL := Lib.hid (HM.out.look (w := _) (thing_ok hth))
  have HV := Lib.hid (show hOf f 2 t r l v (hL f kids) = decide (f (t, r, l) = v) by simp [hOf])
  obtain ⟨c, hc⟩ : ∃ c, f (t, r, l) = c := ⟨_, rfl⟩
  have HC := Lib.hid hc
  have HMD : Hid (MapIs ((w.alloc (.cells #[.int .i64 2, .int .i64 t, .int .i64 r, .string ⟨l.toArray⟩, .int .i64 v, .slice A kids.len cap] 26 (0, 0))).alloc (.cells #[.map (some bm)] 104 (0, 0))).drew bm n f) := HM
  have hlk := HMD.out.look (thing_ok hth)
  simp only [hc] at hlk
  clear hth hc
  go_enter Tryz.func57, Tryz.ntmps57
  go_wp2_with fail
  refine still_all (by kernel_rfl) (by kernel_rfl) ?_
  repeat still_step
  refine wpStill_nil ?_
  go_wp2_with fail
  go_ret
  exact ⟨ret_bool (by rw [HV.out, HC.out, Bool.eq_iff_iff]; simp), HB.out.drew⟩
set_option maxHeartbeats 2000000 in
set_option maxRecDepth 100000 in
theorem nodeH_3 (hH : AllH f kids) : NodeH f 3 t r l v kids := by
  intro w hi bm n kv hhi hm hs hl ho hk
  obtain ⟨A, cap, rfl, s1, s2, s3⟩ := hs
  have hs' : SlAt w hi (.slice A kids.len cap) kids := ⟨A, cap, rfl, s1, s2, s3⟩
  have HB := Lib.hid (below_alloc (alloc_b w (.cells #[.int .i64 3, .int .i64 t, .int .i64 r, .string ⟨l.toArray⟩, .int .i64 v, .slice A kids.len cap] 26 (0, 0))) (.cells #[.map (some bm)] 104 (0, 0)))
  have HM := Lib.hid (hm.below HB.out)
  have HS := Lib.hid (hs'.below hhi HB.out)
  have HP := Lib.hid (show ((w.alloc (.cells #[.int .i64 3, .int .i64 t, .int .i64 r, .string ⟨l.toArray⟩, .int .i64 v, .slice A kids.len cap] 26 (0, 0))).alloc (.cells #[.map (some bm)] 104 (0, 0))).cell? ⟨w.heap.size + 1, 0, none⟩ = some (.map (some bm)) by
    have := cell_new (w.alloc (.cells #[.int .i64 3, .int .i64 t, .int .i64 r, .string ⟨l.toArray⟩, .int .i64 v, .slice A kids.len cap] 26 (0, 0))) #[.map (some bm)] 104 (0, 0) 0
    simp)
  have HO := Lib.hid ho
  have HK := Lib.hid hk
  have S3 := Lib.hid s3
  clear hm hs' ho hk s3
  have hk1 : kids.len = 1 := by
    have := HO.out
    simp [ownB] at this
    exact this.2
  obtain ⟨b, o, rfl, hb, hrow⟩ := S3.out (by omega)
  obtain ⟨k', t', r', l', v', kids', rest', hdr⟩ := kids.drop_lt 0 (by omega)
  have hbw : b < w.heap.size := by omega
  have hat := RowAt.at_ kids b o 0 hrow
  rw [hdr] at hat
  obtain ⟨kv', q0, q1, q2, q3, q4, q5, hl', hsl'⟩ := hat.head
  obtain ⟨A', cap', rfl, hsl''⟩ := hsl'
  have hsl3 : SlAt w hi (.slice A' kids'.len cap') kids' := ⟨A', cap', rfl, hsl''⟩
  have HSL := Lib.hid (hsl3.below hhi (HB.out.drew))
  have HC := Lib.hid (AllH.at_ kids 0 hH hdr)
  have HOK := Lib.hid (okF.at_ kids 0 HK.out hdr)
  have hbj := hL_at f kids 0 hdr
  have hV : hOf f 3 t r l v (hL f kids) = !(hOf f k' t' r' l' v' (hL f kids')) := by
    cases hh : hL f kids with
    | nil => rw [hh] at hbj; simp at hbj
    | cons x xs =>
      rw [hh] at hbj
      simp at hbj
      simp [hOf, hbj]
  obtain ⟨c, hc⟩ : ∃ c, hOf f k' t' r' l' v' (hL f kids') = c := ⟨_, rfl⟩
  rw [hc] at hV
  have HV := Lib.hid hV
  have HCC := Lib.hid hc
  have hmv : ∀ (i : Nat) (u : Value), w.cell? ⟨b, o + i, none⟩ = some u → (((w.alloc (.cells #[.int .i64 3, .int .i64 t, .int .i64 r, .string ⟨l.toArray⟩, .int .i64 v, .slice (some ⟨b, o, none⟩) kids.len cap] 26 (0, 0))).alloc (.cells #[.map (some bm)] 104 (0, 0))).drew).cell? ⟨b, o + i, none⟩ = some u := fun i u h => cell_dr (cell_al (cell_al h _) _)
  simp only [Nat.zero_mul, Nat.add_zero] at q0 q1 q2 q3 q4 q5
  have m0 := hmv 0 _ q0
  have m1 := hmv 1 _ q1
  have m2 := hmv 2 _ q2
  have m3 := hmv 3 _ q3
  have m4 := hmv 4 _ q4
  have m5 := hmv 5 _ q5
  have HMD : Hid (MapIs ((w.alloc (.cells #[.int .i64 3, .int .i64 t, .int .i64 r, .string ⟨l.toArray⟩, .int .i64 v, .slice (some ⟨b, o, none⟩) kids.len cap] 26 (0, 0))).alloc (.cells #[.map (some bm)] 104 (0, 0))).drew bm n f) := HM
  have hl1 : (0 : Int) < (kids.len : Int) := by omega
  have hl2 : 0 < kids.len := by omega
  clear hk1
  simp only [Nat.add_zero] at m0
  clear hrow hat hsl'' hsl3 hdr hbj hV hc hmv hH q0 q1 q2 q3 q4 q5
  go_enter Tryz.func57, Tryz.ntmps57
  go_wp2_with fail
  refine still_tail 5 (by kernel_rfl) (by kernel_rfl) ?_
  simp only [List.take_succ_cons, List.take_zero, List.drop_succ_cons, List.drop_zero]
  repeat still_step
  refine wpStill_nil ?_
  go_wp2_with (go_at_call 57; refine (HC.out _ hi bm n _ (by simp; omega) HMD.out HSL.out hl' HOK.out.1 HOK.out.2).mono ?_; rw [HCC.out]; rintro e w2 ⟨rfl, hb2⟩)
  all_goals
    go_ret
    exact ⟨ret_bool (by rw [HV.out]), below_trans HB.out (below_of_drew hb2)⟩
theorem nodeH_step (hH : AllH f kids) : NodeH f k t r l v kids := by
  intro w hi bm n kv hhi hm hs hl ho hk
  have hk5 : k = 1 ∨ k = 2 ∨ k = 3 ∨ k = 4 ∨ k = 5 := by
    by_cases h1 : k = 2
    · omega
    · have := ho
      simp only [ownB, if_neg h1, Bool.and_eq_true] at this
      have h3 := this.2
      by_cases a1 : k = 1
      · omega
      by_cases a3 : k = 3
      · omega
      by_cases a4 : k = 4
      · omega
      by_cases a5 : k = 5
      · omega
      simp [a1, a3, a4, a5] at h3
  rcases hk5 with rfl | rfl | rfl | rfl | rfl
  · exact nodeH_1 w hi bm n kv hhi hm hs hl ho hk
  · exact nodeH_2 w hi bm n kv hhi hm hs hl ho hk
  · exact nodeH_3 hH w hi bm n kv hhi hm hs hl ho hk
  · exact nodeH_4 hH w hi bm n kv hhi hm hs hl ho hk
  · exact nodeH_5 hH w hi bm n kv hhi hm hs hl ho hk
theorem allH (f : Th → Int) : ∀ g, AllH f g
  | .nil => trivial
  | .cons _ _ _ _ _ kids rest => ⟨nodeH_step (allH f kids), allH f rest⟩
theorem nodeH_all : NodeH f k t r l v kids := nodeH_step (allH f kids)
end
end Go.Proofs.YtmlnibjnacfanaaGreatDoor
