/- Layer 8: the program's reader: thing, at a number. -/
import Derived.Test.YtmlnibjnacfanaaGreatDoorDh
namespace Go.Proofs.YtmlnibjnacfanaaGreatDoor
open Go.RowKit

section
variable {w : World} {g : Nat} {a : Int} {s : ByteArray} {A : Option Addr} {cap : Nat} {all : List Tok} {k : Nat}
theorem regOfI_none' {a : Int} {l : List UInt8} (h : regOf a l = none) : regOfI a l = -1 := by simp [regOfI, h]
theorem regOfI_some' {a : Int} {l : List UInt8} {m : Nat} (h : regOf a l = some m) : regOfI a l = m := by simp [regOfI, h]
theorem regOf_ne {a : Int} {l : List UInt8} {m : Nat} (h : regOf a l = some m) : l ≠ [] := by
  unfold regOf at h
  have h1 := List.find?_some h
  rintro rfl
  have h2 := List.mem_of_find?_eq_some h
  have hr := regs_pos a
  simp at h2
  have h3 : regT a m = [] := by simpa using h1
  unfold regT at h3
  split at h3
  · rename_i ha
    subst ha
    simp only [regs, if_true] at h2
    have h4 : m < 15 := by omega
    have : ∀ j : Fin 15, regL.getD j.val [] ≠ [] := by decide
    exact this ⟨m, h4⟩ (by simpa using h3)
  · simp at h3
set_option maxHeartbeats 2000000 in
set_option maxRecDepth 100000 in
theorem thingP_num (h : Rd w g a s A cap all k) (hE : Env w) (hg : 6 ≤ g) (hb1 : minB (hd (all.drop k)) = true) :
    Calls Tryz.prog 138 #[.pointer (some ⟨g, 0, none⟩)] w (Pst g a s A cap all k w (PV thV) (pThing s.size a (all.drop k))) := by
  obtain ⟨t, ht⟩ : ∃ t, hd (all.drop k) = t := ⟨_, rfl⟩
  rw [ht] at hb1
  have h0 : t ≠ [] := by rintro rfl; simp [minB] at hb1
  have hkl : k < all.length := h.hd_ne (by rw [ht]; exact h0)
  have h91 : t ≠ [91] := by rintro rfl; exact absurd hb1 (by decide)
  have hR : pThing s.size a (all.drop k) = (pInt s.size 0 15 (all.drop k)).go fun n L => (pTake s.size [58] L).go fun _ L => (pReg s.size a L).go fun k L => .ok (n, (k : Int), []) L := by simp [pThing, ht, hb1, h91]
  have HT := Lib.hid ht
  have hsz0 : 0 < (⟨t.toArray⟩ : ByteArray).size := by rw [str_size]; exact List.length_pos_iff.2 h0
  have hmb := minB_ba hsz0
  rw [hb1] at hmb
  have hq : (t == []) = false := by simpa using h0
  have hq9 : (t == [91]) = false := by simpa using h91
  obtain ⟨r, hr⟩ : ∃ r, pInt s.size 0 15 (all.drop k) = r := ⟨_, rfl⟩
  have HR := Lib.hid hr
  rw [hR, hr]
  clear hR hr hb1 ht h0 h91
  obtain ⟨bd, hbd⟩ : ∃ b, digitB (⟨t.toArray⟩ : ByteArray)[0] = b := ⟨_, rfl⟩
  rw [hbd] at hmb
  have HDG := Lib.hid hbd
  have h45 : bd = false → (((⟨t.toArray⟩ : ByteArray)[0].toNat : Int) == 45) = true := by
    rintro rfl
    rw [Bool.false_or] at hmb
    exact beq_iff_eq.2 (of_decide_eq_true hmb.symm)
  clear hmb hbd
  cases bd
  all_goals
    try (have h45' := h45 rfl)
    clear h45
    cases r with
    | bad p =>
      simp only [Rs.go_bad]
      have hlt := h.lt
      have H0 := Lib.hid h
      have BK := Lib.hid (Blk.new w 23 #[.int .i64 0, .int .i64 0, .string ⟨#[]⟩])
      have HD := Lib.hid (h.alloc (.cells #[.int .i64 0, .int .i64 0, .string ⟨#[]⟩] 23 (0, 0)))
      have HE := Lib.hid (hE.mono (alloc_b w (.cells #[.int .i64 0, .int .i64 0, .string ⟨#[]⟩] 23 (0, 0))))
      have HO := Lib.hid ((Only.refl g w).alloc (.cells #[.int .i64 0, .int .i64 0, .string ⟨#[]⟩] 23 (0, 0)))
      have hk2 := h.len
      have hk3 := h.le
      have q3 := HD.out.c3
      have qf := HD.out.blk.frozen 3
      clear h hE
      go_enter Tryz.func138, Tryz.ntmps138
      go_wp2_with (first | (go_at_call 79; (with_reducible refine (peek0P HD.out).mono ?_); rw [HT.out]; rintro e w1 ⟨rfl, n, rfl⟩; have HE := Lib.hid (HE.out.mono (below_drewN (Below.refl _ _) n)); have HO := Lib.hid (only_drewN HO.out n); have HD := Lib.hid (HD.out.drewN n); have BK := Lib.hid (Blk.drewN BK.out n)) | (go_at_call 108; refine (digitP _ _).mono ?_; rw [HDG.out]; rintro e w' ⟨rfl, rfl⟩) | (go_at_call 139; refine (intP HD.out HE.out hg 0 15).mono ?_; rw [HR.out]; rintro e w2 ⟨rfl, ho⟩))
      exact panic_end rfl (Pst.bad_of (HO.out.trans ho))
    | ok x L =>
      simp only [Rs.go_ok]
      obtain ⟨r2, hr2⟩ : ∃ r, pTake s.size [58] L = r := ⟨_, rfl⟩
      have HR2 := Lib.hid hr2
      rw [hr2]
      clear hr2
      have hT0 := Lib.hid (fun (L2 : List Tok) (hL : r2 = .ok () L2) => (⟨L2, hL⟩ : ∃ L2, r2 = .ok () L2))
      cases r2 with
      | bad p =>
        simp only [Rs.go_bad]
        have hlt := h.lt
        have H0 := Lib.hid h
        have BK := Lib.hid (Blk.new w 23 #[.int .i64 0, .int .i64 0, .string ⟨#[]⟩])
        have HD := Lib.hid (h.alloc (.cells #[.int .i64 0, .int .i64 0, .string ⟨#[]⟩] 23 (0, 0)))
        have HE := Lib.hid (hE.mono (alloc_b w (.cells #[.int .i64 0, .int .i64 0, .string ⟨#[]⟩] 23 (0, 0))))
        have HO := Lib.hid ((Only.refl g w).alloc (.cells #[.int .i64 0, .int .i64 0, .string ⟨#[]⟩] 23 (0, 0)))
        have hk2 := h.len
        have hk3 := h.le
        have q3 := HD.out.c3
        have qf := HD.out.blk.frozen 3
        clear h hE
        go_enter Tryz.func138, Tryz.ntmps138
        go_wp2_with (first | (go_at_call 79; (with_reducible refine (peek0P HD.out).mono ?_); rw [HT.out]; rintro e w1 ⟨rfl, n, rfl⟩; have HE := Lib.hid (HE.out.mono (below_drewN (Below.refl _ _) n)); have HO := Lib.hid (only_drewN HO.out n); have HD := Lib.hid (HD.out.drewN n); have BK := Lib.hid (Blk.drewN BK.out n)) | (go_at_call 108; refine (digitP _ _).mono ?_; rw [HDG.out]; rintro e w' ⟨rfl, rfl⟩) | (go_at_call 139; refine (intP HD.out HE.out hg 0 15).mono ?_; rw [HR.out]; rintro e w2 ⟨v, k1, rfl, rfl, hrd, hL, hk, ho⟩; have HD := Lib.hid hrd; have HE := Lib.hid (HE.out.only ho hg); have HO := Lib.hid (HO.out.trans ho); have hsz := ho.size; have q3 := HD.out.c3; have qf := HD.out.blk.frozen 3; have hkb := HD.out.le; have BK := Lib.hid (BK.out.only ho (by omega)); have b0 := BK.out.cell 0; have b1 := BK.out.cell 1; have b2 := BK.out.cell 2; have g0 := BK.out.frozen 0; have g1 := BK.out.frozen 1; have g2 := BK.out.frozen 2) | (go_at_call 80; refine (takeP (HD.out.alloc _) [58] (by decide)).mono ?_; rw [hL, HR2.out]; rintro e w3 ⟨rfl, ho3⟩))
        exact panic_end rfl (Pst.bad_of ((Only.alloc HO.out _).trans ho3))
      | ok _u L2 =>
        simp only [Rs.go_ok]
        obtain ⟨ri, r3, hri, hr3, hcase⟩ : ∃ ri r3, regOfI a (hd L2) = ri ∧ pReg s.size a L2 = r3 ∧ ((ri = -1 ∧ r3 = .bad (ps s.size L2)) ∨ ∃ m : Nat, ri = m ∧ hd L2 ≠ [] ∧ r3 = .ok m L2.tail) := by
          refine ⟨_, _, rfl, rfl, ?_⟩
          rcases ho : regOf a (hd L2) with _ | m
          · exact .inl ⟨regOfI_none' ho, by simp [pReg, ho]⟩
          · exact .inr ⟨m, regOfI_some' ho, regOf_ne ho, by simp [pReg, ho]⟩
        have HRI := Lib.hid hri
        have HC := Lib.hid hcase
        rw [hr3]
        clear hr3 hri hcase
        have hlt := h.lt
        have H0 := Lib.hid h
        have BK := Lib.hid (Blk.new w 23 #[.int .i64 0, .int .i64 0, .string ⟨#[]⟩])
        have HD := Lib.hid (h.alloc (.cells #[.int .i64 0, .int .i64 0, .string ⟨#[]⟩] 23 (0, 0)))
        have HE := Lib.hid (hE.mono (alloc_b w (.cells #[.int .i64 0, .int .i64 0, .string ⟨#[]⟩] 23 (0, 0))))
        have HO := Lib.hid ((Only.refl g w).alloc (.cells #[.int .i64 0, .int .i64 0, .string ⟨#[]⟩] 23 (0, 0)))
        have hk2 := h.len
        have hk3 := h.le
        have q3 := HD.out.c3
        have qf := HD.out.blk.frozen 3
        clear h hE
        go_enter Tryz.func138, Tryz.ntmps138
        go_wp2_with (first | (go_at_call 79; (with_reducible refine (peek0P HD.out).mono ?_); rw [HT.out]; rintro e w1 ⟨rfl, n, rfl⟩; have HE := Lib.hid (HE.out.mono (below_drewN (Below.refl _ _) n)); have HO := Lib.hid (only_drewN HO.out n); have HD := Lib.hid (HD.out.drewN n); have BK := Lib.hid (Blk.drewN BK.out n)) | (go_at_call 108; refine (digitP _ _).mono ?_; rw [HDG.out]; rintro e w' ⟨rfl, rfl⟩) | (go_at_call 139; refine (intP HD.out HE.out hg 0 15).mono ?_; rw [HR.out]; rintro e w2 ⟨v, k1, rfl, rfl, hrd, hL, hk, ho⟩; have HD := Lib.hid hrd; have HE := Lib.hid (HE.out.only ho hg); have HO := Lib.hid (HO.out.trans ho); have hsz := ho.size; have q3 := HD.out.c3; have qf := HD.out.blk.frozen 3; have hkb := HD.out.le; have BK := Lib.hid (BK.out.only ho (by omega)); have b0 := BK.out.cell 0; have b1 := BK.out.cell 1; have b2 := BK.out.cell 2; have g0 := BK.out.frozen 0; have g1 := BK.out.frozen 1; have g2 := BK.out.frozen 2; have hz2 := BK.out.lt; clear b0 b1 b2 g0 g1 g2 q3 qf; have BX := Lib.hid (Blk.new w2 23 #[.int .i64 x, .int .i64 0, .string ⟨#[]⟩]); have HO := Lib.hid (Only.alloc HO.out (.cells #[.int .i64 x, .int .i64 0, .string ⟨#[]⟩] 23 (0, 0))); have HE := Lib.hid (HE.out.mono (alloc_b w2 (.cells #[.int .i64 x, .int .i64 0, .string ⟨#[]⟩] 23 (0, 0)))); have HD := Lib.hid (HD.out.alloc (.cells #[.int .i64 x, .int .i64 0, .string ⟨#[]⟩] 23 (0, 0))); have BK := Lib.hid (BK.out.alloc (.cells #[.int .i64 x, .int .i64 0, .string ⟨#[]⟩] 23 (0, 0)))) | (go_at_call 80; refine (takeP HD.out [58] (by decide)).mono ?_; rw [hL, HR2.out]; rintro e w3 ⟨v3, k2, rfl, rfl, hrd3, hL3, hk3, ho3⟩; have HD := Lib.hid hrd3; have HE := Lib.hid (HE.out.only ho3 hg); have HO := Lib.hid (HO.out.trans ho3); have hsz := ho3.size; have q3 := HD.out.c3; have qf := HD.out.blk.frozen 3; have hkb := HD.out.le; have BX := Lib.hid (BX.out.only ho3 (by omega)); have BK := Lib.hid (BK.out.only ho3 (by omega)); have b0 := BK.out.cell 0; have b1 := BK.out.cell 1; have b2 := BK.out.cell 2; have g0 := BK.out.frozen 0; have g1 := BK.out.frozen 1; have g2 := BK.out.frozen 2; clear b0 b1 b2 g0 g1 g2 q3 qf))
        have HRJ : Hid (regOfI a (⟨(hd L2).toArray⟩ : ByteArray).data.toList = ri) := Lib.hid HRI.out
        have HS : Hid (∀ y, Below w3.heap.size w3 y → y.cell? ⟨g, 0, none⟩ = some (.int .i64 a)) := by
          have h1 := HD.out
          exact Lib.hid (fun y hy => (h1.below hy).c0)
        have hb0 : Below w3.heap.size w3 w3.drew := (Below.refl _ _).drew
        go_region_held3 (fun y => y.cell? ⟨g, 0, none⟩ = some (.int .i64 a))
          (first | exact HS.out _ hb0 | exact HS.out _ hb1 | exact HS.out _ hb2 | exact cell_set (HS.out _ hb2) (by dsimp only; omega) _)
          (first | (go_at_call 79; refine (peekP HD.out.drew 0 (by omega)).mono ?_; simp only [Nat.add_zero]; rintro e y1 ⟨rfl, n1, rfl⟩; have hb1 : Below w3.heap.size w3 (w3.drewN (1 + n1)) := below_drewN (Below.refl _ _) _) | (go_at_call 151; refine (regOfP a _ _ (HE.out.mono hb1)).mono ?_; rw [HRJ.out]; rintro e y2 ⟨rfl, hb2'⟩; have hb2 : Below w3.heap.size w3 y2 := below_trans hb1 hb2'; have x1 := (BX.out.go hb2).cell 1; have x2 := (BX.out.go hb2).frozen 1))
        clear x1 x2
        have BX : Hid (Blk (y2.setCell ⟨w2.heap.size, 1, none⟩ (.int .i64 ri)) w2.heap.size 23 #[.int .i64 x, .int .i64 ri, .string ⟨#[]⟩]) := Lib.hid ((BX.out.go hb2).set_ 1 _)
        have BK := Lib.hid ((BK.out.go hb2).far (p := ⟨w2.heap.size, 1, none⟩) (by dsimp only; omega) (.int .i64 ri))
        have HD := Lib.hid (Rd.new H0.out (HD.out.below hb2) (p := ⟨w2.heap.size, 1, none⟩) (by dsimp only; omega) (.int .i64 ri))
        have HO := Lib.hid (only_setCell (HO.out.trans (Only.of_below hb2)) (p := ⟨w2.heap.size, 1, none⟩) (.inr (by dsimp only; omega)) (.int .i64 ri))
        have x1 := BX.out.cell 1
        have q3 := HD.out.c3
        have qf := HD.out.blk.frozen 3
        rcases HC.out with ⟨rfl, rfl⟩ | ⟨m, rfl, hne, rfl⟩
        · go_wp2_with (go_at_call 82; refine (failP HD.out).mono ?_; rw [hL3]; rintro e w9 ⟨rfl, hb9⟩)
          exact panic_end rfl (Pst.bad_of (HO.out.trans (Only.of_below hb9)))
        · have hkl2 : k2 < all.length := HD.out.hd_ne (by rw [hL3]; exact hne)
          have BX2 := Lib.hid (BX.out.far (p := ⟨g, 3, none⟩) (by dsimp only; omega) (.int .i64 ((k2 : Int) + 1)))
          have BK2 := Lib.hid (BK.out.far (p := ⟨g, 3, none⟩) (by dsimp only; omega) (.int .i64 ((k2 : Int) + 1)))
          have y0 := BX2.out.cell 0
          have y1 := BX2.out.cell 1
          have y2' := BX2.out.cell 2
          have b0 := BK2.out.cell 0
          have b1 := BK2.out.cell 1
          have b2 := BK2.out.cell 2
          have g0 := BK2.out.frozen 0
          have g1 := BK2.out.frozen 1
          have g2 := BK2.out.frozen 2
          have hlt2 : all.drop (k2 + 1) = L2.tail := by rw [← hL3, tail_drop]
          go_wp2_with fail
          refine bodyPost_ret (v := thV (x, (m : Int), [])) (by simp [results, Tryz.results138, go_sem, b0, b1, b2, thV]) rfl ⟨_, k2 + 1, rfl, rfl, ?_, hlt2, by omega, ?_⟩
          · (repeat (first | (with_reducible exact HD.out) | (with_reducible exact HD.out.next1 (by assumption)) | (with_reducible refine Rd.drewN ?_ _) | (with_reducible refine Rd.drew ?_) | (with_reducible refine Rd.alloc ?_ _) | (with_reducible refine Rd.new H0.out ?_ ?_ _; rotate_left; (show _ ≤ _; dsimp only; omega))))
          · (repeat (first | (with_reducible exact HO.out) | (with_reducible refine Only.set ?_ _ _) | (with_reducible refine only_drewN ?_ _) | (with_reducible refine only_drew ?_) | (with_reducible refine Only.alloc ?_ _) | (with_reducible refine only_setCell ?_ ?_ _; rotate_left; exact .inr (by dsimp only; omega))))
theorem rthingP (h : Rd w g a s A cap all k) (hE : Env w) (hg : 6 ≤ g) :
    Calls Tryz.prog 138 #[.pointer (some ⟨g, 0, none⟩)] w (Pst g a s A cap all k w (PV thV) (pThing s.size a (all.drop k))) := by
  by_cases h1 : hd (all.drop k) = [91]
  · exact thingP_sq h hE hg h1
  · cases h2 : minB (hd (all.drop k)) with
    | true => exact thingP_num h hE hg h2
    | false => exact thingP_loc h hE hg h1 h2
end
end Go.Proofs.YtmlnibjnacfanaaGreatDoor
