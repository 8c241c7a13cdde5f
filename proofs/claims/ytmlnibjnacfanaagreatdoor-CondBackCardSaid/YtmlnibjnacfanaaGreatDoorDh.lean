/- Layer 8: the program's reader: thing. -/
import Derived.Test.YtmlnibjnacfanaaGreatDoorDg
namespace Go.Proofs.YtmlnibjnacfanaaGreatDoor
open Go.RowKit

abbrev thV (x : Int × Int × List UInt8) : Value := .agg #[.int .i64 x.1, .int .i64 x.2.1, .string ⟨x.2.2.toArray⟩]
theorem Blk.drewN {w : World} {g : Nat} {t : TypeId} {cs : Array Value} (h : Blk w g t cs) (n : Nat) : Blk (w.drewN n) g t cs := h
theorem cells_only {q g : Nat} {t : TypeId} {cs : Array Value} {x x' : World} (h : Blk x g t cs) (hb : Only q x x') (hg : g ≠ q) : Blk x' g t cs := h.only hb hg
section
variable {w : World} {g : Nat} {a : Int} {s : ByteArray} {A : Option Addr} {cap : Nat} {all : List Tok} {k : Nat}
theorem minB_ba {t : List UInt8} (h : 0 < (⟨t.toArray⟩ : ByteArray).size) : minB t = (digitB (⟨t.toArray⟩ : ByteArray)[0] || decide (((⟨t.toArray⟩ : ByteArray)[0].toNat : Int) = 45)) := by
  obtain ⟨r, e, _⟩ := ba_cons h
  have e' : t = (⟨t.toArray⟩ : ByteArray)[0] :: r := e
  conv => lhs; rw [e']
  rfl
set_option maxHeartbeats 2000000 in
set_option maxRecDepth 100000 in
theorem thingP_loc (h : Rd w g a s A cap all k) (hE : Env w) (hg : 6 ≤ g) (hb1 : hd (all.drop k) ≠ [91]) (hb2 : minB (hd (all.drop k)) = false) :
    Calls Tryz.prog 138 #[.pointer (some ⟨g, 0, none⟩)] w (Pst g a s A cap all k w (PV thV) (pThing s.size a (all.drop k))) := by
  have hR : pThing s.size a (all.drop k) = (pLoc s.size (all.drop k)).go fun x L => .ok (-1, 0, x) L := by simp [pThing, hb1, hb2]
  obtain ⟨t, ht⟩ : ∃ t, hd (all.drop k) = t := ⟨_, rfl⟩
  rw [ht] at hb1 hb2
  have HT := Lib.hid ht
  have n91 : (t == [91]) = false := by simpa using hb1
  obtain ⟨r, hr⟩ : ∃ r, pLoc s.size (all.drop k) = r := ⟨_, rfl⟩
  have HR := Lib.hid hr
  rw [hR, hr]
  have HB2 := Lib.hid hb2
  clear hR hr ht hb1 hb2
  cases r with
  | bad p =>
    simp only [Rs.go_bad]
    have hlt := h.lt
    have H0 := Lib.hid h
    have BK := Lib.hid (Blk.new w 23 #[.int .i64 0, .int .i64 0, .string ⟨#[]⟩])
    have HD := Lib.hid (h.alloc (.cells #[.int .i64 0, .int .i64 0, .string ⟨#[]⟩] 23 (0, 0)))
    have HE := Lib.hid (hE.mono (alloc_b w (.cells #[.int .i64 0, .int .i64 0, .string ⟨#[]⟩] 23 (0, 0))))
    have HO := Lib.hid ((Only.refl g w).alloc (.cells #[.int .i64 0, .int .i64 0, .string ⟨#[]⟩] 23 (0, 0)))
    have hk2 := h.len
    have hk3 := h.le
    have q3 := HD.out.c3
    have qf := HD.out.blk.frozen 3
    clear h hE
    by_cases h0 : t = []
    · subst h0
      go_enter Tryz.func138, Tryz.ntmps138
      go_wp2_with (first | (go_at_call 79; (with_reducible refine (peek0P HD.out).mono ?_); rw [HT.out]; rintro e w1 ⟨rfl, n, rfl⟩; have HE := Lib.hid (HE.out.mono (below_drewN (Below.refl _ _) n)); have HO := Lib.hid (only_drewN HO.out n); have HD := Lib.hid (HD.out.drewN n); have BK := Lib.hid (Blk.drewN BK.out n)) | (go_at_call 150; refine (locP HD.out HE.out).mono ?_; rw [HR.out]; rintro e w2 ⟨rfl, ho⟩))
      exact panic_end rfl (Pst.bad_of (HO.out.trans ho))
    · have hsz0 : 0 < (⟨t.toArray⟩ : ByteArray).size := by rw [str_size]; exact List.length_pos_iff.2 h0
      have hmb := minB_ba hsz0
      rw [HB2.out] at hmb
      have hmb' := Bool.or_eq_false_iff.1 hmb.symm
      have HDG := Lib.hid hmb'.1
      have h45 : (((⟨t.toArray⟩ : ByteArray)[0].toNat : Int) == 45) = false := beq_eq_false_iff_ne.2 (of_decide_eq_false hmb'.2)
      have hq : (t == []) = false := by simpa using h0
      clear hmb hmb'
      go_enter Tryz.func138, Tryz.ntmps138
      go_wp2_with (first | (go_at_call 79; (with_reducible refine (peek0P HD.out).mono ?_); rw [HT.out]; rintro e w1 ⟨rfl, n, rfl⟩; have HE := Lib.hid (HE.out.mono (below_drewN (Below.refl _ _) n)); have HO := Lib.hid (only_drewN HO.out n); have HD := Lib.hid (HD.out.drewN n); have BK := Lib.hid (Blk.drewN BK.out n)) | (go_at_call 108; refine (digitP _ _).mono ?_; rw [HDG.out]; rintro e w' ⟨rfl, rfl⟩) | (go_at_call 150; refine (locP HD.out HE.out).mono ?_; rw [HR.out]; rintro e w2 ⟨rfl, ho⟩))
      exact panic_end rfl (Pst.bad_of (HO.out.trans ho))
  | ok x L =>
    simp only [Rs.go_ok]
    have hlt := h.lt
    have H0 := Lib.hid h
    have BK := Lib.hid (Blk.new w 23 #[.int .i64 0, .int .i64 0, .string ⟨#[]⟩])
    have HD := Lib.hid (h.alloc (.cells #[.int .i64 0, .int .i64 0, .string ⟨#[]⟩] 23 (0, 0)))
    have HE := Lib.hid (hE.mono (alloc_b w (.cells #[.int .i64 0, .int .i64 0, .string ⟨#[]⟩] 23 (0, 0))))
    have HO := Lib.hid ((Only.refl g w).alloc (.cells #[.int .i64 0, .int .i64 0, .string ⟨#[]⟩] 23 (0, 0)))
    have hk2 := h.len
    have hk3 := h.le
    have q3 := HD.out.c3
    have qf := HD.out.blk.frozen 3
    clear h hE
    by_cases h0 : t = []
    · subst h0
      go_enter Tryz.func138, Tryz.ntmps138
      go_wp2_with (first | (go_at_call 79; (with_reducible refine (peek0P HD.out).mono ?_); rw [HT.out]; rintro e w1 ⟨rfl, n, rfl⟩; have HE := Lib.hid (HE.out.mono (below_drewN (Below.refl _ _) n)); have HO := Lib.hid (only_drewN HO.out n); have HD := Lib.hid (HD.out.drewN n); have BK := Lib.hid (Blk.drewN BK.out n)) | (go_at_call 150; refine (locP HD.out HE.out).mono ?_; rw [HR.out]; rintro e w2 ⟨v, k1, rfl, rfl, hrd, hL, hk, ho⟩; have HD := Lib.hid hrd; have HE := Lib.hid (HE.out.only ho hg); have HO := Lib.hid (HO.out.trans ho); have hsz := ho.size; have q3 := HD.out.c3; have qf := HD.out.blk.frozen 3; have hkb := HD.out.le; have BK := Lib.hid (BK.out.only ho (by omega)); have b0 := BK.out.cell 0; have b1 := BK.out.cell 1; have b2 := BK.out.cell 2; have g0 := BK.out.frozen 0; have g1 := BK.out.frozen 1; have g2 := BK.out.frozen 2))
      refine bodyPost_ret (v := thV (-1, 0, x)) (by simp [results, Tryz.results138, go_sem, b0, b1, b2, thV]) rfl ⟨_, k1, rfl, rfl, ?_, hL, by omega, ?_⟩
      · (repeat (first | (with_reducible exact HD.out) | (with_reducible exact HD.out.next1 (by assumption)) | (with_reducible refine Rd.drewN ?_ _) | (with_reducible refine Rd.drew ?_) | (with_reducible refine Rd.alloc ?_ _) | (with_reducible refine Rd.new H0.out ?_ ?_ _; rotate_left; (show _ ≤ _; dsimp only; omega))))
      · (repeat (first | (with_reducible exact HO.out) | (with_reducible refine Only.set ?_ _ _) | (with_reducible refine only_drewN ?_ _) | (with_reducible refine only_drew ?_) | (with_reducible refine Only.alloc ?_ _) | (with_reducible refine only_setCell ?_ ?_ _; rotate_left; exact .inr (by dsimp only; omega))))
    · have hsz0 : 0 < (⟨t.toArray⟩ : ByteArray).size := by rw [str_size]; exact List.length_pos_iff.2 h0
      have hmb := minB_ba hsz0
      rw [HB2.out] at hmb
      have hmb' := Bool.or_eq_false_iff.1 hmb.symm
      have HDG := Lib.hid hmb'.1
      have h45 : (((⟨t.toArray⟩ : ByteArray)[0].toNat : Int) == 45) = false := beq_eq_false_iff_ne.2 (of_decide_eq_false hmb'.2)
      have hq : (t == []) = false := by simpa using h0
      clear hmb hmb'
      go_enter Tryz.func138, Tryz.ntmps138
      go_wp2_with (first | (go_at_call 79; (with_reducible refine (peek0P HD.out).mono ?_); rw [HT.out]; rintro e w1 ⟨rfl, n, rfl⟩; have HE := Lib.hid (HE.out.mono (below_drewN (Below.refl _ _) n)); have HO := Lib.hid (only_drewN HO.out n); have HD := Lib.hid (HD.out.drewN n); have BK := Lib.hid (Blk.drewN BK.out n)) | (go_at_call 108; refine (digitP _ _).mono ?_; rw [HDG.out]; rintro e w' ⟨rfl, rfl⟩) | (go_at_call 150; refine (locP HD.out HE.out).mono ?_; rw [HR.out]; rintro e w2 ⟨v, k1, rfl, rfl, hrd, hL, hk, ho⟩; have HD := Lib.hid hrd; have HE := Lib.hid (HE.out.only ho hg); have HO := Lib.hid (HO.out.trans ho); have hsz := ho.size; have q3 := HD.out.c3; have qf := HD.out.blk.frozen 3; have hkb := HD.out.le; have BK := Lib.hid (BK.out.only ho (by omega)); have b0 := BK.out.cell 0; have b1 := BK.out.cell 1; have b2 := BK.out.cell 2; have g0 := BK.out.frozen 0; have g1 := BK.out.frozen 1; have g2 := BK.out.frozen 2))
      refine bodyPost_ret (v := thV (-1, 0, x)) (by simp [results, Tryz.results138, go_sem, b0, b1, b2, thV]) rfl ⟨_, k1, rfl, rfl, ?_, hL, by omega, ?_⟩
      · (repeat (first | (with_reducible exact HD.out) | (with_reducible exact HD.out.next1 (by assumption)) | (with_reducible refine Rd.drewN ?_ _) | (with_reducible refine Rd.drew ?_) | (with_reducible refine Rd.alloc ?_ _) | (with_reducible refine Rd.new H0.out ?_ ?_ _; rotate_left; (show _ ≤ _; dsimp only; omega))))
      · (repeat (first | (with_reducible exact HO.out) | (with_reducible refine Only.set ?_ _ _) | (with_reducible refine only_drewN ?_ _) | (with_reducible refine only_drew ?_) | (with_reducible refine Only.alloc ?_ _) | (with_reducible refine only_setCell ?_ ?_ _; rotate_left; exact .inr (by dsimp only; omega))))
set_option maxHeartbeats 2000000 in
set_option maxRecDepth 100000 in
theorem thingP_sq (h : Rd w g a s A cap all k) (hE : Env w) (hg : 6 ≤ g) (hb1 : hd (all.drop k) = [91]) :
    Calls Tryz.prog 138 #[.pointer (some ⟨g, 0, none⟩)] w (Pst g a s A cap all k w (PV thV) (pThing s.size a (all.drop k))) := by
  have hkl : k < all.length := h.hd_ne (by rw [hb1]; simp)
  have hR : pThing s.size a (all.drop k) = (pLoc s.size (all.drop (k + 1))).go fun x L => (pTake s.size [93] L).go fun _ L => .ok (-1, 0, x) L := by simp [pThing, hb1]
  have HT := Lib.hid hb1
  obtain ⟨r, hr⟩ : ∃ r, pLoc s.size (all.drop (k + 1)) = r := ⟨_, rfl⟩
  have HR := Lib.hid hr
  rw [hR, hr]
  clear hR hr hb1
  cases r with
  | bad p =>
    simp only [Rs.go_bad]
    have hlt := h.lt
    have H0 := Lib.hid h
    have BK := Lib.hid (Blk.new w 23 #[.int .i64 0, .int .i64 0, .string ⟨#[]⟩])
    have HD := Lib.hid (h.alloc (.cells #[.int .i64 0, .int .i64 0, .string ⟨#[]⟩] 23 (0, 0)))
    have HE := Lib.hid (hE.mono (alloc_b w (.cells #[.int .i64 0, .int .i64 0, .string ⟨#[]⟩] 23 (0, 0))))
    have HO := Lib.hid ((Only.refl g w).alloc (.cells #[.int .i64 0, .int .i64 0, .string ⟨#[]⟩] 23 (0, 0)))
    have hk2 := h.len
    have hk3 := h.le
    have q3 := HD.out.c3
    have qf := HD.out.blk.frozen 3
    clear h hE
    go_enter Tryz.func138, Tryz.ntmps138
    go_wp2_with (first | (go_at_call 79; (with_reducible refine (peek0P HD.out).mono ?_); rw [HT.out]; rintro e w1 ⟨rfl, n, rfl⟩; have HE := Lib.hid (HE.out.mono (below_drewN (Below.refl _ _) n)); have HO := Lib.hid (only_drewN HO.out n); have HD := Lib.hid (HD.out.drewN n); have BK := Lib.hid (Blk.drewN BK.out n)) | (go_at_call 150; have HE := Lib.hid (HE.out.only (Only.set (Only.refl g _) 3 (.int .i64 ((k : Int) + 1))) hg); have HO := Lib.hid (Only.set HO.out 3 (.int .i64 ((k : Int) + 1))); have BK := Lib.hid (BK.out.far (p := ⟨g, 3, none⟩) (by dsimp only; omega) (.int .i64 ((k : Int) + 1))); have HD := Lib.hid (HD.out.next1 hkl); refine (locP HD.out HE.out).mono ?_; rw [HR.out]; rintro e w2 ⟨rfl, ho⟩))
    exact panic_end rfl (Pst.bad_of (HO.out.trans ho))
  | ok x L =>
    simp only [Rs.go_ok]
    obtain ⟨r2, hr2⟩ : ∃ r, pTake s.size [93] L = r := ⟨_, rfl⟩
    have HR2 := Lib.hid hr2
    rw [hr2]
    clear hr2
    have hlt := h.lt
    have H0 := Lib.hid h
    have BK := Lib.hid (Blk.new w 23 #[.int .i64 0, .int .i64 0, .string ⟨#[]⟩])
    have HD := Lib.hid (h.alloc (.cells #[.int .i64 0, .int .i64 0, .string ⟨#[]⟩] 23 (0, 0)))
    have HE := Lib.hid (hE.mono (alloc_b w (.cells #[.int .i64 0, .int .i64 0, .string ⟨#[]⟩] 23 (0, 0))))
    have HO := Lib.hid ((Only.refl g w).alloc (.cells #[.int .i64 0, .int .i64 0, .string ⟨#[]⟩] 23 (0, 0)))
    have hk2 := h.len
    have hk3 := h.le
    have q3 := HD.out.c3
    have qf := HD.out.blk.frozen 3
    clear h hE
    go_enter Tryz.func138, Tryz.ntmps138
    go_wp2_with (first | (go_at_call 79; (with_reducible refine (peek0P HD.out).mono ?_); rw [HT.out]; rintro e w1 ⟨rfl, n, rfl⟩; have HE := Lib.hid (HE.out.mono (below_drewN (Below.refl _ _) n)); have HO := Lib.hid (only_drewN HO.out n); have HD := Lib.hid (HD.out.drewN n); have BK := Lib.hid (Blk.drewN BK.out n)) | (go_at_call 150; have HE := Lib.hid (HE.out.only (Only.set (Only.refl g _) 3 (.int .i64 ((k : Int) + 1))) hg); have HO := Lib.hid (Only.set HO.out 3 (.int .i64 ((k : Int) + 1))); have BK := Lib.hid (BK.out.far (p := ⟨g, 3, none⟩) (by dsimp only; omega) (.int .i64 ((k : Int) + 1))); have HD := Lib.hid (HD.out.next1 hkl); refine (locP HD.out HE.out).mono ?_; rw [HR.out]; rintro e w2 ⟨v, k1, rfl, rfl, hrd, hL, hk, ho⟩; have HD := Lib.hid hrd; have HE := Lib.hid (HE.out.only ho hg); have HO := Lib.hid (HO.out.trans ho); have hsz := ho.size; have q3 := HD.out.c3; have qf := HD.out.blk.frozen 3; have hkb := HD.out.le; have BK := Lib.hid (BK.out.only ho (by omega)); have b0 := BK.out.cell 0; have b1 := BK.out.cell 1; have b2 := BK.out.cell 2; have g0 := BK.out.frozen 0; have g1 := BK.out.frozen 1; have g2 := BK.out.frozen 2))
    have BX := Lib.hid (Blk.new w2 23 #[.int .i64 (-1), .int .i64 0, .string ⟨x.toArray⟩])
    have HD := Lib.hid (HD.out.alloc (.cells #[.int .i64 (-1), .int .i64 0, .string ⟨x.toArray⟩] 23 (0, 0)))
    have HO := Lib.hid (HO.out.alloc (.cells #[.int .i64 (-1), .int .i64 0, .string ⟨x.toArray⟩] 23 (0, 0)))
    have BK := Lib.hid (BK.out.alloc (.cells #[.int .i64 (-1), .int .i64 0, .string ⟨x.toArray⟩] 23 (0, 0)))
    have hlt2 := BK.out.lt
    clear b0 b1 b2 g0 g1 g2 q3 qf
    cases r2 with
    | bad p =>
      go_wp2_with (go_at_call 80; refine (takeP HD.out [93] (by decide)).mono ?_; rw [hL, HR2.out]; rintro e w3 ⟨rfl, ho3⟩)
      exact panic_end rfl (Pst.bad_of (HO.out.trans ho3))
    | ok _u L2 =>
      go_wp2_with (go_at_call 80; refine (takeP HD.out [93] (by decide)).mono ?_; rw [hL, HR2.out]; rintro e w3 ⟨v3, k2, rfl, rfl, hrd3, hL3, hk3, ho3⟩; have HD := Lib.hid hrd3; have HO := Lib.hid (HO.out.trans ho3); have BX := Lib.hid (BX.out.only ho3 (by simp at hsz; omega)); have BK := Lib.hid (BK.out.only ho3 (by omega)); have b0 := BK.out.cell 0; have b1 := BK.out.cell 1; have b2 := BK.out.cell 2; have g0 := BK.out.frozen 0; have g1 := BK.out.frozen 1; have g2 := BK.out.frozen 2; have x0 := BX.out.cell 0; have x1 := BX.out.cell 1; have x2 := BX.out.cell 2)
      refine bodyPost_ret (v := thV (-1, 0, x)) (by simp [results, Tryz.results138, go_sem, b0, b1, b2, thV]) rfl ⟨_, k2, rfl, rfl, ?_, hL3, by omega, ?_⟩
      · (repeat (first | (with_reducible exact HD.out) | (with_reducible exact HD.out.next1 (by assumption)) | (with_reducible refine Rd.drewN ?_ _) | (with_reducible refine Rd.drew ?_) | (with_reducible refine Rd.alloc ?_ _) | (with_reducible refine Rd.new H0.out ?_ ?_ _; rotate_left; (show _ ≤ _; dsimp only; omega))))
      · (repeat (first | (with_reducible exact HO.out) | (with_reducible refine Only.set ?_ _ _) | (with_reducible refine only_drewN ?_ _) | (with_reducible refine only_drew ?_) | (with_reducible refine Only.alloc ?_ _) | (with_reducible refine only_setCell ?_ ?_ _; rotate_left; exact .inr (by dsimp only; omega))))
end
end Go.Proofs.YtmlnibjnacfanaaGreatDoor
