/- Layer 8: the program's reader: int, loc. Layer 8: the program's reader: thing. Layer 8: the program's reader: thing, at a number. Layer 8: forests in memory that the call itself made. -/
import Derived.Test.YtmlnibjnacfanaaGreatDoorDd
import Derived.ArgAppend
namespace Go.Proofs.YtmlnibjnacfanaaGreatDoor
open Go.RowKit

section
variable {w : World} {g : Nat} {a : Int} {s : ByteArray} {A : Option Addr} {cap : Nat} {all : List Tok} {k : Nat}
set_option maxHeartbeats 2000000 in
set_option maxRecDepth 100000 in
theorem intP (h : Rd w g a s A cap all k) (hE : Env w) (_hg : 6 ≤ g) (lo hi : Int) : Calls Tryz.prog 139 #[.pointer (some ⟨g, 0, none⟩), .int .i64 lo, .int .i64 hi] w (Pst g a s A cap all k w (PV fun n => .int .i64 n) (pInt s.size lo hi (all.drop k))) := by
  obtain ⟨t, ht⟩ : ∃ t, hd (all.drop k) = t := ⟨_, rfl⟩
  have htl : t.length ≤ 262144 := by rw [← ht]; exact h.hd_len k
  have HT := Lib.hid ht
  have HTS := Lib.hid (show (⟨t.toArray⟩ : ByteArray).size ≤ 281474976710656 by rw [str_size]; omega)
  have hne : atoiB t = true → k < all.length := fun ha => h.hd_ne (by
    rw [ht]
    rintro rfl
    exact absurd ha (by decide))
  have HNE := Lib.hid hne
  clear hne
  cases h1 : atoiB t with
  | false =>
    rw [show pInt s.size lo hi (all.drop k) = .bad (ps s.size (all.drop k)) by simp [pInt, numIn, ht, h1]]
    have H1 := Lib.hid h1
    clear h1 ht
    have hk2 := h.len
    have hk3 := h.le
    have q3 := h.c3
    have qf := h.blk.frozen 3
    have HD := Lib.hid h
    have HE := Lib.hid hE
    have HO := Lib.hid (Only.refl g w)
    clear h hE
    go_enter Tryz.func139, Tryz.ntmps139
    go_wp2_with (first | (go_at_call 79; (with_reducible refine (peek0P HD.out).mono ?_); rw [HT.out]; rintro e w1 ⟨rfl, n, rfl⟩; have HE := Lib.hid (HE.out.mono (below_drewN (Below.refl _ _) n)); have HO := Lib.hid (only_drewN HO.out n); have HD := Lib.hid (HD.out.drewN n)) | (go_at_call 152; refine (atoi_no _ _ HE.out HTS.out H1.out).mono ?_; rintro e w2 ⟨ty, ad, rfl, hb2⟩; have HE := Lib.hid (HE.out.mono hb2); have HO := Lib.hid (HO.out.trans (Only.of_below hb2)); have HD := Lib.hid (HD.out.below hb2); have q3 := HD.out.c3; have qf := HD.out.blk.frozen 3) | (go_at_call 82; refine (failP HD.out).mono ?_; rintro e w9 ⟨rfl, hb9⟩))
    exact panic_end rfl (Pst.bad_of (HO.out.trans (Only.of_below hb9)))
  | true =>
    have hab := atoiN_bounds t h1
    obtain ⟨m, hm⟩ : ∃ m, atoiN t = m := ⟨_, rfl⟩
    rw [hm] at hab
    have HM := Lib.hid hm
    have H1 := Lib.hid h1
    obtain ⟨u, hu⟩ : ∃ u, Lib.itoa m = u := ⟨_, rfl⟩
    have HU := Lib.hid hu
    have hkl := HNE.out h1
    obtain ⟨hab1, hab2⟩ := hab
    by_cases hut : u = t
    · subst hut
      by_cases hlo : m < lo
      · rw [show pInt s.size lo hi (all.drop k) = .bad (ps s.size (all.drop k)) by
          have : ¬ lo ≤ m := by omega
          simp [pInt, numIn, ht, hm, this]]
        clear h1 ht hm hu
        have hk2 := h.len
        have hk3 := h.le
        have q3 := h.c3
        have qf := h.blk.frozen 3
        have HD := Lib.hid h
        have HE := Lib.hid hE
        have HO := Lib.hid (Only.refl g w)
        clear h hE
        go_enter Tryz.func139, Tryz.ntmps139
        go_wp2_with (first | (go_at_call 79; (with_reducible refine (peek0P HD.out).mono ?_); rw [HT.out]; rintro e w1 ⟨rfl, n, rfl⟩; have HE := Lib.hid (HE.out.mono (below_drewN (Below.refl _ _) n)); have HO := Lib.hid (only_drewN HO.out n); have HD := Lib.hid (HD.out.drewN n)) | (go_at_call 152; refine (atoi_yes _ _ HTS.out H1.out).mono ?_; rw [HM.out]; rintro e w2 ⟨rfl, hb2⟩; have HE := Lib.hid (HE.out.mono hb2); have HO := Lib.hid (HO.out.trans (Only.of_below hb2)); have HD := Lib.hid (HD.out.below hb2); have q3 := HD.out.c3; have qf := HD.out.blk.frozen 3) | (go_at_call 69; refine (itoa_c m _ HE.out hab1 hab2).mono ?_; rw [HU.out]; rintro e w3 ⟨rfl, hb3⟩; have HE := Lib.hid (HE.out.mono hb3); have HO := Lib.hid (HO.out.trans (Only.of_below hb3)); have HD := Lib.hid (HD.out.below hb3); have q3 := HD.out.c3; have qf := HD.out.blk.frozen 3) | (go_at_call 82; refine (failP HD.out).mono ?_; rintro e w9 ⟨rfl, hb9⟩))
        exact panic_end rfl (Pst.bad_of (HO.out.trans (Only.of_below hb9)))
      · by_cases hhi : hi < m
        · rw [show pInt s.size lo hi (all.drop k) = .bad (ps s.size (all.drop k)) by
            have : ¬ m ≤ hi := by omega
            simp [pInt, numIn, ht, hm, this]]
          clear h1 ht hm hu
          have hk2 := h.len
          have hk3 := h.le
          have q3 := h.c3
          have qf := h.blk.frozen 3
          have HD := Lib.hid h
          have HE := Lib.hid hE
          have HO := Lib.hid (Only.refl g w)
          clear h hE
          go_enter Tryz.func139, Tryz.ntmps139
          go_wp2_with (first | (go_at_call 79; (with_reducible refine (peek0P HD.out).mono ?_); rw [HT.out]; rintro e w1 ⟨rfl, n, rfl⟩; have HE := Lib.hid (HE.out.mono (below_drewN (Below.refl _ _) n)); have HO := Lib.hid (only_drewN HO.out n); have HD := Lib.hid (HD.out.drewN n)) | (go_at_call 152; refine (atoi_yes _ _ HTS.out H1.out).mono ?_; rw [HM.out]; rintro e w2 ⟨rfl, hb2⟩; have HE := Lib.hid (HE.out.mono hb2); have HO := Lib.hid (HO.out.trans (Only.of_below hb2)); have HD := Lib.hid (HD.out.below hb2); have q3 := HD.out.c3; have qf := HD.out.blk.frozen 3) | (go_at_call 69; refine (itoa_c m _ HE.out hab1 hab2).mono ?_; rw [HU.out]; rintro e w3 ⟨rfl, hb3⟩; have HE := Lib.hid (HE.out.mono hb3); have HO := Lib.hid (HO.out.trans (Only.of_below hb3)); have HD := Lib.hid (HD.out.below hb3); have q3 := HD.out.c3; have qf := HD.out.blk.frozen 3) | (go_at_call 82; refine (failP HD.out).mono ?_; rintro e w9 ⟨rfl, hb9⟩))
          exact panic_end rfl (Pst.bad_of (HO.out.trans (Only.of_below hb9)))
        · rw [show pInt s.size lo hi (all.drop k) = .ok m (all.drop (k + 1)) by
            have a1 : lo ≤ m := by omega
            have a2 : m ≤ hi := by omega
            simp [pInt, numIn, ht, hm, hu, h1, a1, a2]]
          clear h1 ht hm hu
          have hk2 := h.len
          have hk3 := h.le
          have q3 := h.c3
          have qf := h.blk.frozen 3
          have HD := Lib.hid h
          have HE := Lib.hid hE
          have HO := Lib.hid (Only.refl g w)
          clear h hE
          go_enter Tryz.func139, Tryz.ntmps139
          go_wp2_with (first | (go_at_call 79; (with_reducible refine (peek0P HD.out).mono ?_); rw [HT.out]; rintro e w1 ⟨rfl, n, rfl⟩; have HE := Lib.hid (HE.out.mono (below_drewN (Below.refl _ _) n)); have HO := Lib.hid (only_drewN HO.out n); have HD := Lib.hid (HD.out.drewN n)) | (go_at_call 152; refine (atoi_yes _ _ HTS.out H1.out).mono ?_; rw [HM.out]; rintro e w2 ⟨rfl, hb2⟩; have HE := Lib.hid (HE.out.mono hb2); have HO := Lib.hid (HO.out.trans (Only.of_below hb2)); have HD := Lib.hid (HD.out.below hb2); have q3 := HD.out.c3; have qf := HD.out.blk.frozen 3) | (go_at_call 69; refine (itoa_c m _ HE.out hab1 hab2).mono ?_; rw [HU.out]; rintro e w3 ⟨rfl, hb3⟩; have HE := Lib.hid (HE.out.mono hb3); have HO := Lib.hid (HO.out.trans (Only.of_below hb3)); have HD := Lib.hid (HD.out.below hb3); have q3 := HD.out.c3; have qf := HD.out.blk.frozen 3) | (go_at_call 82; refine (failP HD.out).mono ?_; rintro e w9 ⟨rfl, hb9⟩))
          go_ret
          exact ⟨_, k + 1, rfl, rfl, HD.out.next1 hkl, rfl, by omega, Only.set HO.out 3 _⟩
    · rw [show pInt s.size lo hi (all.drop k) = .bad (ps s.size (all.drop k)) by simp [pInt, numIn, ht, hm, hu, hut]]
      have hut' : (u == t) = false := by simpa using hut
      clear h1 ht hm hu hut
      have hk2 := h.len
      have hk3 := h.le
      have q3 := h.c3
      have qf := h.blk.frozen 3
      have HD := Lib.hid h
      have HE := Lib.hid hE
      have HO := Lib.hid (Only.refl g w)
      clear h hE
      go_enter Tryz.func139, Tryz.ntmps139
      go_wp2_with (first | (go_at_call 79; (with_reducible refine (peek0P HD.out).mono ?_); rw [HT.out]; rintro e w1 ⟨rfl, n, rfl⟩; have HE := Lib.hid (HE.out.mono (below_drewN (Below.refl _ _) n)); have HO := Lib.hid (only_drewN HO.out n); have HD := Lib.hid (HD.out.drewN n)) | (go_at_call 152; refine (atoi_yes _ _ HTS.out H1.out).mono ?_; rw [HM.out]; rintro e w2 ⟨rfl, hb2⟩; have HE := Lib.hid (HE.out.mono hb2); have HO := Lib.hid (HO.out.trans (Only.of_below hb2)); have HD := Lib.hid (HD.out.below hb2); have q3 := HD.out.c3; have qf := HD.out.blk.frozen 3) | (go_at_call 69; refine (itoa_c m _ HE.out hab1 hab2).mono ?_; rw [HU.out]; rintro e w3 ⟨rfl, hb3⟩; have HE := Lib.hid (HE.out.mono hb3); have HO := Lib.hid (HO.out.trans (Only.of_below hb3)); have HD := Lib.hid (HD.out.below hb3); have q3 := HD.out.c3; have qf := HD.out.blk.frozen 3) | (go_at_call 82; refine (failP HD.out).mono ?_; rintro e w9 ⟨rfl, hb9⟩))
      exact panic_end rfl (Pst.bad_of (HO.out.trans (Only.of_below hb9)))
set_option maxHeartbeats 2000000 in
set_option maxRecDepth 100000 in
theorem locP (h : Rd w g a s A cap all k) (hE : Env w) : Calls Tryz.prog 150 #[.pointer (some ⟨g, 0, none⟩)] w (Pst g a s A cap all k w (PV fun l => .string ⟨l.toArray⟩) (pLoc s.size (all.drop k))) := by
  obtain ⟨t, ht⟩ : ∃ t, hd (all.drop k) = t := ⟨_, rfl⟩
  have htl : t.length ≤ 262144 := by rw [← ht]; exact h.hd_len k
  have HT := Lib.hid ht
  have HTS := Lib.hid (show (⟨t.toArray⟩ : ByteArray).size ≤ 9223372036854775807 by rw [str_size]; omega)
  cases h1 : nameB t with
  | false =>
    rw [show pLoc s.size (all.drop k) = .bad (ps s.size (all.drop k)) by simp [pLoc, ht, h1]]
    have H1 := Lib.hid h1
    clear h1 ht
    have hk2 := h.len
    have hk3 := h.le
    have q3 := h.c3
    have qf := h.blk.frozen 3
    have HD := Lib.hid h
    have HE := Lib.hid hE
    have HO := Lib.hid (Only.refl g w)
    clear h hE
    go_enter Tryz.func150, Tryz.ntmps150
    go_wp2_with (first | (go_at_call 79; (with_reducible refine (peek0P HD.out).mono ?_); rw [HT.out]; rintro e w1 ⟨rfl, n, rfl⟩; have HE := Lib.hid (HE.out.mono (below_drewN (Below.refl _ _) n)); have HO := Lib.hid (only_drewN HO.out n); have HD := Lib.hid (HD.out.drewN n)) | (go_at_call 98; refine (namedP _ _ HTS.out).mono ?_; rw [H1.out]; rintro e w2 ⟨rfl, rfl⟩) | (go_at_call 82; refine (failP HD.out).mono ?_; rintro e w9 ⟨rfl, hb9⟩))
    exact panic_end rfl (Pst.bad_of (HO.out.trans (Only.of_below hb9)))
  | true =>
    have hkl : k < all.length := h.hd_ne (by
      rw [ht]
      rintro rfl
      exact absurd h1 (by decide))
    rw [show pLoc s.size (all.drop k) = .ok t (all.drop (k + 1)) by simp [pLoc, ht, h1]]
    have e := List.getElem?_eq_getElem hkl
    obtain ⟨gt, rfl, hne, c0, _⟩ := h.tok _ _ e
    have e2 : all[k].1 = t := by rw [← (hd_at e).1, ht]
    rw [e2] at c0
    have q2 := h.c2
    have hgt := World.block_lt_of_cell? w _ c0
    have H1 := Lib.hid h1
    clear h1 ht e e2
    have hi1 : ((k : Int) + 1 - 1) = (k : Int) := by omega
    have f2 : (w.setCell ⟨g, 3, none⟩ (.int .i64 ((k : Int) + 1))).cell? ⟨g, 2, none⟩ = some (.slice (some ⟨gt, 0, none⟩) all.length cap) := (h.next1 hkl).c2
    have f3 : (w.setCell ⟨g, 3, none⟩ (.int .i64 ((k : Int) + 1))).cell? ⟨g, 3, none⟩ = some (.int .i64 ((k : Int) + 1)) := by have := (h.next1 hkl).c3; simpa using this
    have f0 : (w.setCell ⟨g, 3, none⟩ (.int .i64 ((k : Int) + 1))).cell? ⟨gt, k * 2, none⟩ = some (.string ⟨t.toArray⟩) := cell_set c0 (fun e => hne e.symm) _
    have hk2 := h.len
    have hk3 := h.le
    have q3 := h.c3
    have qf := h.blk.frozen 3
    have HD := Lib.hid h
    have HE := Lib.hid hE
    have HO := Lib.hid (Only.refl g w)
    clear h hE
    go_enter Tryz.func150, Tryz.ntmps150
    go_wp2_with (first | (go_at_call 79; (with_reducible refine (peek0P HD.out).mono ?_); rw [HT.out]; rintro e w1 ⟨rfl, n, rfl⟩; have HE := Lib.hid (HE.out.mono (below_drewN (Below.refl _ _) n)); have HO := Lib.hid (only_drewN HO.out n); have HD := Lib.hid (HD.out.drewN n)) | (go_at_call 98; refine (namedP _ _ HTS.out).mono ?_; rw [H1.out]; rintro e w2 ⟨rfl, rfl⟩) | (go_at_call 82; refine (failP HD.out).mono ?_; rintro e w9 ⟨rfl, hb9⟩))
    go_quiet (fail)
    go_wp2
    go_ret
    exact ⟨_, k + 1, rfl, rfl, (HD.out.next1 hkl).drewN _, rfl, by omega, only_drewN (Only.set HO.out 3 _) _⟩
end

abbrev thV (x : Int × Int × List UInt8) : Value := .agg #[.int .i64 x.1, .int .i64 x.2.1, .string ⟨x.2.2.toArray⟩]
theorem Blk.drewN {w : World} {g : Nat} {t : TypeId} {cs : Array Value} (h : Blk w g t cs) (n : Nat) : Blk (w.drewN n) g t cs := h
theorem cells_only {q g : Nat} {t : TypeId} {cs : Array Value} {x x' : World} (h : Blk x g t cs) (hb : Only q x x') (hg : g ≠ q) : Blk x' g t cs := h.only hb hg
section
variable {w : World} {g : Nat} {a : Int} {s : ByteArray} {A : Option Addr} {cap : Nat} {all : List Tok} {k : Nat}
theorem minB_ba {t : List UInt8} (h : 0 < (⟨t.toArray⟩ : ByteArray).size) : minB t = (digitB (⟨t.toArray⟩ : ByteArray)[0] || decide (((⟨t.toArray⟩ : ByteArray)[0].toNat : Int) = 45)) := by
  obtain ⟨r, e, _⟩ := ba_cons h
  have e' : t = (⟨t.toArray⟩ : ByteArray)[0] :: r := e
  conv => lhs; rw [e']
  rfl
set_option maxHeartbeats 2000000 in
set_option maxRecDepth 100000 in
theorem thingP_loc (h : Rd w g a s A cap all k) (hE : Env w) (hg : 6 ≤ g) (hb1 : hd (all.drop k) ≠ [91]) (hb2 : minB (hd (all.drop k)) = false) :
    Calls Tryz.prog 138 #[.pointer (some ⟨g, 0, none⟩)] w (Pst g a s A cap all k w (PV thV) (pThing s.size a (all.drop k))) := by
  have hR : pThing s.size a (all.drop k) = (pLoc s.size (all.drop k)).go fun x L => .ok (-1, 0, x) L := by simp [pThing, hb1, hb2]
  obtain ⟨t, ht⟩ : ∃ t, hd (all.drop k) = t := ⟨_, rfl⟩
  rw [ht] at hb1 hb2
  have HT := Lib.hid ht
  have n91 : (t == [91]) = false := by simpa using hb1
  obtain ⟨r, hr⟩ : ∃ r, pLoc s.size (all.drop k) = r := ⟨_, rfl⟩
  have HR := Lib.hid hr
  rw [hR, hr]
  have HB2 := Lib.hid hb2
  clear hR hr ht hb1 hb2
  cases r with
  | bad p =>
    simp only [Rs.go_bad]
    have hlt := h.lt
    have H0 := Lib.hid h
    have BK := Lib.hid (Blk.new w 23 #[.int .i64 0, .int .i64 0, .string ⟨#[]⟩])
    have HD := Lib.hid (h.alloc (.cells #[.int .i64 0, .int .i64 0, .string ⟨#[]⟩] 23 (0, 0)))
    have HE := Lib.hid (hE.mono (alloc_b w (.cells #[.int .i64 0, .int .i64 0, .string ⟨#[]⟩] 23 (0, 0))))
    have HO := Lib.hid ((Only.refl g w).alloc (.cells #[.int .i64 0, .int .i64 0, .string ⟨#[]⟩] 23 (0, 0)))
    have hk2 := h.len
    have hk3 := h.le
    have q3 := HD.out.c3
    have qf := HD.out.blk.frozen 3
    clear h hE
    by_cases h0 : t = []
    · subst h0
      go_enter Tryz.func138, Tryz.ntmps138
      go_wp2_with (first | (go_at_call 79; (with_reducible refine (peek0P HD.out).mono ?_); rw [HT.out]; rintro e w1 ⟨rfl, n, rfl⟩; have HE := Lib.hid (HE.out.mono (below_drewN (Below.refl _ _) n)); have HO := Lib.hid (only_drewN HO.out n); have HD := Lib.hid (HD.out.drewN n); have BK := Lib.hid (Blk.drewN BK.out n)) | (go_at_call 150; refine (locP HD.out HE.out).mono ?_; rw [HR.out]; rintro e w2 ⟨rfl, ho⟩))
      exact panic_end rfl (Pst.bad_of (HO.out.trans ho))
    · have hsz0 : 0 < (⟨t.toArray⟩ : ByteArray).size := by rw [str_size]; exact List.length_pos_iff.2 h0
      have hmb := minB_ba hsz0
      rw [HB2.out] at hmb
      have hmb' := Bool.or_eq_false_iff.1 hmb.symm
      have HDG := Lib.hid hmb'.1
      have h45 : (((⟨t.toArray⟩ : ByteArray)[0].toNat : Int) == 45) = false := beq_eq_false_iff_ne.2 (of_decide_eq_false hmb'.2)
      have hq : (t == []) = false := by simpa using h0
      clear hmb hmb'
      go_enter Tryz.func138, Tryz.ntmps138
      go_wp2_with (first | (go_at_call 79; (with_reducible refine (peek0P HD.out).mono ?_); rw [HT.out]; rintro e w1 ⟨rfl, n, rfl⟩; have HE := Lib.hid (HE.out.mono (below_drewN (Below.refl _ _) n)); have HO := Lib.hid (only_drewN HO.out n); have HD := Lib.hid (HD.out.drewN n); have BK := Lib.hid (Blk.drewN BK.out n)) | (go_at_call 108; refine (digitP _ _).mono ?_; rw [HDG.out]; rintro e w' ⟨rfl, rfl⟩) | (go_at_call 150; refine (locP HD.out HE.out).mono ?_; rw [HR.out]; rintro e w2 ⟨rfl, ho⟩))
      exact panic_end rfl (Pst.bad_of (HO.out.trans ho))
  | ok x L =>
    simp only [Rs.go_ok]
    have hlt := h.lt
    have H0 := Lib.hid h
    have BK := Lib.hid (Blk.new w 23 #[.int .i64 0, .int .i64 0, .string ⟨#[]⟩])
    have HD := Lib.hid (h.alloc (.cells #[.int .i64 0, .int .i64 0, .string ⟨#[]⟩] 23 (0, 0)))
    have HE := Lib.hid (hE.mono (alloc_b w (.cells #[.int .i64 0, .int .i64 0, .string ⟨#[]⟩] 23 (0, 0))))
    have HO := Lib.hid ((Only.refl g w).alloc (.cells #[.int .i64 0, .int .i64 0, .string ⟨#[]⟩] 23 (0, 0)))
    have hk2 := h.len
    have hk3 := h.le
    have q3 := HD.out.c3
    have qf := HD.out.blk.frozen 3
    clear h hE
    by_cases h0 : t = []
    · subst h0
      go_enter Tryz.func138, Tryz.ntmps138
      go_wp2_with (first | (go_at_call 79; (with_reducible refine (peek0P HD.out).mono ?_); rw [HT.out]; rintro e w1 ⟨rfl, n, rfl⟩; have HE := Lib.hid (HE.out.mono (below_drewN (Below.refl _ _) n)); have HO := Lib.hid (only_drewN HO.out n); have HD := Lib.hid (HD.out.drewN n); have BK := Lib.hid (Blk.drewN BK.out n)) | (go_at_call 150; refine (locP HD.out HE.out).mono ?_; rw [HR.out]; rintro e w2 ⟨v, k1, rfl, rfl, hrd, hL, hk, ho⟩; have HD := Lib.hid hrd; have HE := Lib.hid (HE.out.only ho hg); have HO := Lib.hid (HO.out.trans ho); have hsz := ho.size; have q3 := HD.out.c3; have qf := HD.out.blk.frozen 3; have hkb := HD.out.le; have BK := Lib.hid (BK.out.only ho (by omega)); have b0 := BK.out.cell 0; have b1 := BK.out.cell 1; have b2 := BK.out.cell 2; have g0 := BK.out.frozen 0; have g1 := BK.out.frozen 1; have g2 := BK.out.frozen 2))
      refine bodyPost_ret (v := thV (-1, 0, x)) (by simp [results, Tryz.results138, go_sem, b0, b1, b2, thV]) rfl ⟨_, k1, rfl, rfl, ?_, hL, by omega, ?_⟩
      · (repeat (first | (with_reducible exact HD.out) | (with_reducible exact HD.out.next1 (by assumption)) | (with_reducible refine Rd.drewN ?_ _) | (with_reducible refine Rd.drew ?_) | (with_reducible refine Rd.alloc ?_ _) | (with_reducible refine Rd.new H0.out ?_ ?_ _; rotate_left; (show _ ≤ _; dsimp only; omega))))
      · (repeat (first | (with_reducible exact HO.out) | (with_reducible refine Only.set ?_ _ _) | (with_reducible refine only_drewN ?_ _) | (with_reducible refine only_drew ?_) | (with_reducible refine Only.alloc ?_ _) | (with_reducible refine only_setCell ?_ ?_ _; rotate_left; exact .inr (by dsimp only; omega))))
    · have hsz0 : 0 < (⟨t.toArray⟩ : ByteArray).size := by rw [str_size]; exact List.length_pos_iff.2 h0
      have hmb := minB_ba hsz0
      rw [HB2.out] at hmb
      have hmb' := Bool.or_eq_false_iff.1 hmb.symm
      have HDG := Lib.hid hmb'.1
      have h45 : (((⟨t.toArray⟩ : ByteArray)[0].toNat : Int) == 45) = false := beq_eq_false_iff_ne.2 (of_decide_eq_false hmb'.2)
      have hq : (t == []) = false := by simpa using h0
      clear hmb hmb'
      go_enter Tryz.func138, Tryz.ntmps138
      go_wp2_with (first | (go_at_call 79; (with_reducible refine (peek0P HD.out).mono ?_); rw [HT.out]; rintro e w1 ⟨rfl, n, rfl⟩; have HE := Lib.hid (HE.out.mono (below_drewN (Below.refl _ _) n)); have HO := Lib.hid (only_drewN HO.out n); have HD := Lib.hid (HD.out.drewN n); have BK := Lib.hid (Blk.drewN BK.out n)) | (go_at_call 108; refine (digitP _ _).mono ?_; rw [HDG.out]; rintro e w' ⟨rfl, rfl⟩) | (go_at_call 150; refine (locP HD.out HE.out).mono ?_; rw [HR.out]; rintro e w2 ⟨v, k1, rfl, rfl, hrd, hL, hk, ho⟩; have HD := Lib.hid hrd; have HE := Lib.hid (HE.out.only ho hg); have HO := Lib.hid (HO.out.trans ho); have hsz := ho.size; have q3 := HD.out.c3; have qf := HD.out.blk.frozen 3; have hkb := HD.out.le; have BK := Lib.hid (BK.out.only ho (by omega)); have b0 := BK.out.cell 0; have b1 := BK.out.cell 1; have b2 := BK.out.cell 2; have g0 := BK.out.frozen 0; have g1 := BK.out.frozen 1; have g2 := BK.out.frozen 2))
      refine bodyPost_ret (v := thV (-1, 0, x)) (by simp [results, Tryz.results138, go_sem, b0, b1, b2, thV]) rfl ⟨_, k1, rfl, rfl, ?_, hL, by omega, ?_⟩
      · (repeat (first | (with_reducible exact HD.out) | (with_reducible exact HD.out.next1 (by assumption)) | (with_reducible refine Rd.drewN ?_ _) | (with_reducible refine Rd.drew ?_) | (with_reducible refine Rd.alloc ?_ _) | (with_reducible refine Rd.new H0.out ?_ ?_ _; rotate_left; (show _ ≤ _; dsimp only; omega))))
      · (repeat (first | (with_reducible exact HO.out) | (with_reducible refine Only.set ?_ _ _) | (with_reducible refine only_drewN ?_ _) | (with_reducible refine only_drew ?_) | (with_reducible refine Only.alloc ?_ _) | (with_reducible refine only_setCell ?_ ?_ _; rotate_left; exact .inr (by dsimp only; omega))))
set_option maxHeartbeats 2000000 in
set_option maxRecDepth 100000 in
theorem thingP_sq (h : Rd w g a s A cap all k) (hE : Env w) (hg : 6 ≤ g) (hb1 : hd (all.drop k) = [91]) :
    Calls Tryz.prog 138 #[.pointer (some ⟨g, 0, none⟩)] w (Pst g a s A cap all k w (PV thV) (pThing s.size a (all.drop k))) := by
  have hkl : k < all.length := h.hd_ne (by rw [hb1]; simp)
  have hR : pThing s.size a (all.drop k) = (pLoc s.size (all.drop (k + 1))).go fun x L => (pTake s.size [93] L).go fun _ L => .ok (-1, 0, x) L := by simp [pThing, hb1]
  have HT := Lib.hid hb1
  obtain ⟨r, hr⟩ : ∃ r, pLoc s.size (all.drop (k + 1)) = r := ⟨_, rfl⟩
  have HR := Lib.hid hr
  rw [hR, hr]
  clear hR hr hb1
  cases r with
  | bad p =>
    simp only [Rs.go_bad]
    have hlt := h.lt
    have H0 := Lib.hid h
    have BK := Lib.hid (Blk.new w 23 #[.int .i64 0, .int .i64 0, .string ⟨#[]⟩])
    have HD := Lib.hid (h.alloc (.cells #[.int .i64 0, .int .i64 0, .string ⟨#[]⟩] 23 (0, 0)))
    have HE := Lib.hid (hE.mono (alloc_b w (.cells #[.int .i64 0, .int .i64 0, .string ⟨#[]⟩] 23 (0, 0))))
    have HO := Lib.hid ((Only.refl g w).alloc (.cells #[.int .i64 0, .int .i64 0, .string ⟨#[]⟩] 23 (0, 0)))
    have hk2 := h.len
    have hk3 := h.le
    have q3 := HD.out.c3
    have qf := HD.out.blk.frozen 3
    clear h hE
    go_enter Tryz.func138, Tryz.ntmps138
    go_wp2_with (first | (go_at_call 79; (with_reducible refine (peek0P HD.out).mono ?_); rw [HT.out]; rintro e w1 ⟨rfl, n, rfl⟩; have HE := Lib.hid (HE.out.mono (below_drewN (Below.refl _ _) n)); have HO := Lib.hid (only_drewN HO.out n); have HD := Lib.hid (HD.out.drewN n); have BK := Lib.hid (Blk.drewN BK.out n)) | (go_at_call 150; have HE := Lib.hid (HE.out.only (Only.set (Only.refl g _) 3 (.int .i64 ((k : Int) + 1))) hg); have HO := Lib.hid (Only.set HO.out 3 (.int .i64 ((k : Int) + 1))); have BK := Lib.hid (BK.out.far (p := ⟨g, 3, none⟩) (by dsimp only; omega) (.int .i64 ((k : Int) + 1))); have HD := Lib.hid (HD.out.next1 hkl); refine (locP HD.out HE.out).mono ?_; rw [HR.out]; rintro e w2 ⟨rfl, ho⟩))
    exact panic_end rfl (Pst.bad_of (HO.out.trans ho))
  | ok x L =>
    simp only [Rs.go_ok]
    obtain ⟨r2, hr2⟩ : ∃ r, pTake s.size [93] L = r := ⟨_, rfl⟩
    have HR2 := Lib.hid hr2
    rw [hr2]
    clear hr2
    have hlt := h.lt
    have H0 := Lib.hid h
    have BK := Lib.hid (Blk.new w 23 #[.int .i64 0, .int .i64 0, .string ⟨#[]⟩])
    have HD := Lib.hid (h.alloc (.cells #[.int .i64 0, .int .i64 0, .string ⟨#[]⟩] 23 (0, 0)))
    have HE := Lib.hid (hE.mono (alloc_b w (.cells #[.int .i64 0, .int .i64 0, .string ⟨#[]⟩] 23 (0, 0))))
    have HO := Lib.hid ((Only.refl g w).alloc (.cells #[.int .i64 0, .int .i64 0, .string ⟨#[]⟩] 23 (0, 0)))
    have hk2 := h.len
    have hk3 := h.le
    have q3 := HD.out.c3
    have qf := HD.out.blk.frozen 3
    clear h hE
    go_enter Tryz.func138, Tryz.ntmps138
    go_wp2_with (first | (go_at_call 79; (with_reducible refine (peek0P HD.out).mono ?_); rw [HT.out]; rintro e w1 ⟨rfl, n, rfl⟩; have HE := Lib.hid (HE.out.mono (below_drewN (Below.refl _ _) n)); have HO := Lib.hid (only_drewN HO.out n); have HD := Lib.hid (HD.out.drewN n); have BK := Lib.hid (Blk.drewN BK.out n)) | (go_at_call 150; have HE := Lib.hid (HE.out.only (Only.set (Only.refl g _) 3 (.int .i64 ((k : Int) + 1))) hg); have HO := Lib.hid (Only.set HO.out 3 (.int .i64 ((k : Int) + 1))); have BK := Lib.hid (BK.out.far (p := ⟨g, 3, none⟩) (by dsimp only; omega) (.int .i64 ((k : Int) + 1))); have HD := Lib.hid (HD.out.next1 hkl); refine (locP HD.out HE.out).mono ?_; rw [HR.out]; rintro e w2 ⟨v, k1, rfl, rfl, hrd, hL, hk, ho⟩; have HD := Lib.hid hrd; have HE := Lib.hid (HE.out.only ho hg); have HO := Lib.hid (HO.out.trans ho); have hsz := ho.size; have q3 := HD.out.c3; have qf := HD.out.blk.frozen 3; have hkb := HD.out.le; have BK := Lib.hid (BK.out.only ho (by omega)); have b0 := BK.out.cell 0; have b1 := BK.out.cell 1; have b2 := BK.out.cell 2; have g0 := BK.out.frozen 0; have g1 := BK.out.frozen 1; have g2 := BK.out.frozen 2))
    have BX := Lib.hid (Blk.new w2 23 #[.int .i64 (-1), .int .i64 0, .string ⟨x.toArray⟩])
    have HD := Lib.hid (HD.out.alloc (.cells #[.int .i64 (-1), .int .i64 0, .string ⟨x.toArray⟩] 23 (0, 0)))
    have HO := Lib.hid (HO.out.alloc (.cells #[.int .i64 (-1), .int .i64 0, .string ⟨x.toArray⟩] 23 (0, 0)))
    have BK := Lib.hid (BK.out.alloc (.cells #[.int .i64 (-1), .int .i64 0, .string ⟨x.toArray⟩] 23 (0, 0)))
    have hlt2 := BK.out.lt
    clear b0 b1 b2 g0 g1 g2 q3 qf
    cases r2 with
    | bad p =>
      go_wp2_with (go_at_call 80; refine (takeP HD.out [93] (by decide)).mono ?_; rw [hL, HR2.out]; rintro e w3 ⟨rfl, ho3⟩)
      exact panic_end rfl (Pst.bad_of (HO.out.trans ho3))
    | ok _u L2 =>
      go_wp2_with (go_at_call 80; refine (takeP HD.out [93] (by decide)).mono ?_; rw [hL, HR2.out]; rintro e w3 ⟨v3, k2, rfl, rfl, hrd3, hL3, hk3, ho3⟩; have HD := Lib.hid hrd3; have HO := Lib.hid (HO.out.trans ho3); have BX := Lib.hid (BX.out.only ho3 (by simp at hsz; omega)); have BK := Lib.hid (BK.out.only ho3 (by omega)); have b0 := BK.out.cell 0; have b1 := BK.out.cell 1; have b2 := BK.out.cell 2; have g0 := BK.out.frozen 0; have g1 := BK.out.frozen 1; have g2 := BK.out.frozen 2; have x0 := BX.out.cell 0; have x1 := BX.out.cell 1; have x2 := BX.out.cell 2)
      refine bodyPost_ret (v := thV (-1, 0, x)) (by simp [results, Tryz.results138, go_sem, b0, b1, b2, thV]) rfl ⟨_, k2, rfl, rfl, ?_, hL3, by omega, ?_⟩
      · (repeat (first | (with_reducible exact HD.out) | (with_reducible exact HD.out.next1 (by assumption)) | (with_reducible refine Rd.drewN ?_ _) | (with_reducible refine Rd.drew ?_) | (with_reducible refine Rd.alloc ?_ _) | (with_reducible refine Rd.new H0.out ?_ ?_ _; rotate_left; (show _ ≤ _; dsimp only; omega))))
      · (repeat (first | (with_reducible exact HO.out) | (with_reducible refine Only.set ?_ _ _) | (with_reducible refine only_drewN ?_ _) | (with_reducible refine only_drew ?_) | (with_reducible refine Only.alloc ?_ _) | (with_reducible refine only_setCell ?_ ?_ _; rotate_left; exact .inr (by dsimp only; omega))))
end

section
variable {w : World} {g : Nat} {a : Int} {s : ByteArray} {A : Option Addr} {cap : Nat} {all : List Tok} {k : Nat}
theorem regOfI_none' {a : Int} {l : List UInt8} (h : regOf a l = none) : regOfI a l = -1 := by simp [regOfI, h]
theorem regOfI_some' {a : Int} {l : List UInt8} {m : Nat} (h : regOf a l = some m) : regOfI a l = m := by simp [regOfI, h]
theorem regOf_ne {a : Int} {l : List UInt8} {m : Nat} (h : regOf a l = some m) : l ≠ [] := by
  unfold regOf at h
  have h1 := List.find?_some h
  rintro rfl
  have h2 := List.mem_of_find?_eq_some h
  have hr := regs_pos a
  simp at h2
  have h3 : regT a m = [] := by simpa using h1
  unfold regT at h3
  split at h3
  · rename_i ha
    subst ha
    simp only [regs, if_true] at h2
    have h4 : m < 15 := by omega
    have : ∀ j : Fin 15, regL.getD j.val [] ≠ [] := by decide
    exact this ⟨m, h4⟩ (by simpa using h3)
  · simp at h3
set_option maxHeartbeats 2000000 in
set_option maxRecDepth 100000 in
theorem thingP_num (h : Rd w g a s A cap all k) (hE : Env w) (hg : 6 ≤ g) (hb1 : minB (hd (all.drop k)) = true) :
    Calls Tryz.prog 138 #[.pointer (some ⟨g, 0, none⟩)] w (Pst g a s A cap all k w (PV thV) (pThing s.size a (all.drop k))) := by
  obtain ⟨t, ht⟩ : ∃ t, hd (all.drop k) = t := ⟨_, rfl⟩
  rw [ht] at hb1
  have h0 : t ≠ [] := by rintro rfl; simp [minB] at hb1
  have hkl : k < all.length := h.hd_ne (by rw [ht]; exact h0)
  have h91 : t ≠ [91] := by rintro rfl; exact absurd hb1 (by decide)
  have hR : pThing s.size a (all.drop k) = (pInt s.size 0 15 (all.drop k)).go fun n L => (pTake s.size [58] L).go fun _ L => (pReg s.size a L).go fun k L => .ok (n, (k : Int), []) L := by simp [pThing, ht, hb1, h91]
  have HT := Lib.hid ht
  have hsz0 : 0 < (⟨t.toArray⟩ : ByteArray).size := by rw [str_size]; exact List.length_pos_iff.2 h0
  have hmb := minB_ba hsz0
  rw [hb1] at hmb
  have hq : (t == []) = false := by simpa using h0
  have hq9 : (t == [91]) = false := by simpa using h91
  obtain ⟨r, hr⟩ : ∃ r, pInt s.size 0 15 (all.drop k) = r := ⟨_, rfl⟩
  have HR := Lib.hid hr
  rw [hR, hr]
  clear hR hr hb1 ht h0 h91
  obtain ⟨bd, hbd⟩ : ∃ b, digitB (⟨t.toArray⟩ : ByteArray)[0] = b := ⟨_, rfl⟩
  rw [hbd] at hmb
  have HDG := Lib.hid hbd
  have h45 : bd = false → (((⟨t.toArray⟩ : ByteArray)[0].toNat : Int) == 45) = true := by
    rintro rfl
    rw [Bool.false_or] at hmb
    exact beq_iff_eq.2 (of_decide_eq_true hmb.symm)
  clear hmb hbd
  cases bd
  all_goals
    try (have h45' := h45 rfl)
    clear h45
    cases r with
    | bad p =>
      simp only [Rs.go_bad]
      have hlt := h.lt
      have H0 := Lib.hid h
      have BK := Lib.hid (Blk.new w 23 #[.int .i64 0, .int .i64 0, .string ⟨#[]⟩])
      have HD := Lib.hid (h.alloc (.cells #[.int .i64 0, .int .i64 0, .string ⟨#[]⟩] 23 (0, 0)))
      have HE := Lib.hid (hE.mono (alloc_b w (.cells #[.int .i64 0, .int .i64 0, .string ⟨#[]⟩] 23 (0, 0))))
      have HO := Lib.hid ((Only.refl g w).alloc (.cells #[.int .i64 0, .int .i64 0, .string ⟨#[]⟩] 23 (0, 0)))
      have hk2 := h.len
      have hk3 := h.le
      have q3 := HD.out.c3
      have qf := HD.out.blk.frozen 3
      clear h hE
      go_enter Tryz.func138, Tryz.ntmps138
      go_wp2_with (first | (go_at_call 79; (with_reducible refine (peek0P HD.out).mono ?_); rw [HT.out]; rintro e w1 ⟨rfl, n, rfl⟩; have HE := Lib.hid (HE.out.mono (below_drewN (Below.refl _ _) n)); have HO := Lib.hid (only_drewN HO.out n); have HD := Lib.hid (HD.out.drewN n); have BK := Lib.hid (Blk.drewN BK.out n)) | (go_at_call 108; refine (digitP _ _).mono ?_; rw [HDG.out]; rintro e w' ⟨rfl, rfl⟩) | (go_at_call 139; refine (intP HD.out HE.out hg 0 15).mono ?_; rw [HR.out]; rintro e w2 ⟨rfl, ho⟩))
      exact panic_end rfl (Pst.bad_of (HO.out.trans ho))
    | ok x L =>
      simp only [Rs.go_ok]
      obtain ⟨r2, hr2⟩ : ∃ r, pTake s.size [58] L = r := ⟨_, rfl⟩
      have HR2 := Lib.hid hr2
      rw [hr2]
      clear hr2
      have hT0 := Lib.hid (fun (L2 : List Tok) (hL : r2 = .ok () L2) => (⟨L2, hL⟩ : ∃ L2, r2 = .ok () L2))
      cases r2 with
      | bad p =>
        simp only [Rs.go_bad]
        have hlt := h.lt
        have H0 := Lib.hid h
        have BK := Lib.hid (Blk.new w 23 #[.int .i64 0, .int .i64 0, .string ⟨#[]⟩])
        have HD := Lib.hid (h.alloc (.cells #[.int .i64 0, .int .i64 0, .string ⟨#[]⟩] 23 (0, 0)))
        have HE := Lib.hid (hE.mono (alloc_b w (.cells #[.int .i64 0, .int .i64 0, .string ⟨#[]⟩] 23 (0, 0))))
        have HO := Lib.hid ((Only.refl g w).alloc (.cells #[.int .i64 0, .int .i64 0, .string ⟨#[]⟩] 23 (0, 0)))
        have hk2 := h.len
        have hk3 := h.le
        have q3 := HD.out.c3
        have qf := HD.out.blk.frozen 3
        clear h hE
        go_enter Tryz.func138, Tryz.ntmps138
        go_wp2_with (first | (go_at_call 79; (with_reducible refine (peek0P HD.out).mono ?_); rw [HT.out]; rintro e w1 ⟨rfl, n, rfl⟩; have HE := Lib.hid (HE.out.mono (below_drewN (Below.refl _ _) n)); have HO := Lib.hid (only_drewN HO.out n); have HD := Lib.hid (HD.out.drewN n); have BK := Lib.hid (Blk.drewN BK.out n)) | (go_at_call 108; refine (digitP _ _).mono ?_; rw [HDG.out]; rintro e w' ⟨rfl, rfl⟩) | (go_at_call 139; refine (intP HD.out HE.out hg 0 15).mono ?_; rw [HR.out]; rintro e w2 ⟨v, k1, rfl, rfl, hrd, hL, hk, ho⟩; have HD := Lib.hid hrd; have HE := Lib.hid (HE.out.only ho hg); have HO := Lib.hid (HO.out.trans ho); have hsz := ho.size; have q3 := HD.out.c3; have qf := HD.out.blk.frozen 3; have hkb := HD.out.le; have BK := Lib.hid (BK.out.only ho (by omega)); have b0 := BK.out.cell 0; have b1 := BK.out.cell 1; have b2 := BK.out.cell 2; have g0 := BK.out.frozen 0; have g1 := BK.out.frozen 1; have g2 := BK.out.frozen 2) | (go_at_call 80; refine (takeP (HD.out.alloc _) [58] (by decide)).mono ?_; rw [hL, HR2.out]; rintro e w3 ⟨rfl, ho3⟩))
        exact panic_end rfl (Pst.bad_of ((Only.alloc HO.out _).trans ho3))
      | ok _u L2 =>
        simp only [Rs.go_ok]
        obtain ⟨ri, r3, hri, hr3, hcase⟩ : ∃ ri r3, regOfI a (hd L2) = ri ∧ pReg s.size a L2 = r3 ∧ ((ri = -1 ∧ r3 = .bad (ps s.size L2)) ∨ ∃ m : Nat, ri = m ∧ hd L2 ≠ [] ∧ r3 = .ok m L2.tail) := by
          refine ⟨_, _, rfl, rfl, ?_⟩
          rcases ho : regOf a (hd L2) with _ | m
          · exact .inl ⟨regOfI_none' ho, by simp [pReg, ho]⟩
          · exact .inr ⟨m, regOfI_some' ho, regOf_ne ho, by simp [pReg, ho]⟩
        have HRI := Lib.hid hri
        have HC := Lib.hid hcase
        rw [hr3]
        clear hr3 hri hcase
        have hlt := h.lt
        have H0 := Lib.hid h
        have BK := Lib.hid (Blk.new w 23 #[.int .i64 0, .int .i64 0, .string ⟨#[]⟩])
        have HD := Lib.hid (h.alloc (.cells #[.int .i64 0, .int .i64 0, .string ⟨#[]⟩] 23 (0, 0)))
        have HE := Lib.hid (hE.mono (alloc_b w (.cells #[.int .i64 0, .int .i64 0, .string ⟨#[]⟩] 23 (0, 0))))
        have HO := Lib.hid ((Only.refl g w).alloc (.cells #[.int .i64 0, .int .i64 0, .string ⟨#[]⟩] 23 (0, 0)))
        have hk2 := h.len
        have hk3 := h.le
        have q3 := HD.out.c3
        have qf := HD.out.blk.frozen 3
        clear h hE
        go_enter Tryz.func138, Tryz.ntmps138
        go_wp2_with (first | (go_at_call 79; (with_reducible refine (peek0P HD.out).mono ?_); rw [HT.out]; rintro e w1 ⟨rfl, n, rfl⟩; have HE := Lib.hid (HE.out.mono (below_drewN (Below.refl _ _) n)); have HO := Lib.hid (only_drewN HO.out n); have HD := Lib.hid (HD.out.drewN n); have BK := Lib.hid (Blk.drewN BK.out n)) | (go_at_call 108; refine (digitP _ _).mono ?_; rw [HDG.out]; rintro e w' ⟨rfl, rfl⟩) | (go_at_call 139; refine (intP HD.out HE.out hg 0 15).mono ?_; rw [HR.out]; rintro e w2 ⟨v, k1, rfl, rfl, hrd, hL, hk, ho⟩; have HD := Lib.hid hrd; have HE := Lib.hid (HE.out.only ho hg); have HO := Lib.hid (HO.out.trans ho); have hsz := ho.size; have q3 := HD.out.c3; have qf := HD.out.blk.frozen 3; have hkb := HD.out.le; have BK := Lib.hid (BK.out.only ho (by omega)); have b0 := BK.out.cell 0; have b1 := BK.out.cell 1; have b2 := BK.out.cell 2; have g0 := BK.out.frozen 0; have g1 := BK.out.frozen 1; have g2 := BK.out.frozen 2; have hz2 := BK.out.lt; clear b0 b1 b2 g0 g1 g2 q3 qf; have BX := Lib.hid (Blk.new w2 23 #[.int .i64 x, .int .i64 0, .string ⟨#[]⟩]); have HO := Lib.hid (Only.alloc HO.out (.cells #[.int .i64 x, .int .i64 0, .string ⟨#[]⟩] 23 (0, 0))); have HE := Lib.hid (HE.out.mono (alloc_b w2 (.cells #[.int .i64 x, .int .i64 0, .string ⟨#[]⟩] 23 (0, 0)))); have HD := Lib.hid (HD.out.alloc (.cells #[.int .i64 x, .int .i64 0, .string ⟨#[]⟩] 23 (0, 0))); have BK := Lib.hid (BK.out.alloc (.cells #[.int .i64 x, .int .i64 0, .string ⟨#[]⟩] 23 (0, 0)))) | (go_at_call 80; refine (takeP HD.out [58] (by decide)).mono ?_; rw [hL, HR2.out]; rintro e w3 ⟨v3, k2, rfl, rfl, hrd3, hL3, hk3, ho3⟩; have HD := Lib.hid hrd3; have HE := Lib.hid (HE.out.only ho3 hg); have HO := Lib.hid (HO.out.trans ho3); have hsz := ho3.size; have q3 := HD.out.c3; have qf := HD.out.blk.frozen 3; have hkb := HD.out.le; have BX := Lib.hid (BX.out.only ho3 (by omega)); have BK := Lib.hid (BK.out.only ho3 (by omega)); have b0 := BK.out.cell 0; have b1 := BK.out.cell 1; have b2 := BK.out.cell 2; have g0 := BK.out.frozen 0; have g1 := BK.out.frozen 1; have g2 := BK.out.frozen 2; clear b0 b1 b2 g0 g1 g2 q3 qf))
        have HRJ : Hid (regOfI a (⟨(hd L2).toArray⟩ : ByteArray).data.toList = ri) := Lib.hid HRI.out
        have HS : Hid (∀ y, Below w3.heap.size w3 y → y.cell? ⟨g, 0, none⟩ = some (.int .i64 a)) := by
          have h1 := HD.out
          exact Lib.hid (fun y hy => (h1.below hy).c0)
        have hb0 : Below w3.heap.size w3 w3.drew := (Below.refl _ _).drew
        go_region_held3 (fun y => y.cell? ⟨g, 0, none⟩ = some (.int .i64 a))
          (first | exact HS.out _ hb0 | exact HS.out _ hb1 | exact HS.out _ hb2 | exact cell_set (HS.out _ hb2) (by dsimp only; omega) _)
          (first | (go_at_call 79; refine (peekP HD.out.drew 0 (by omega)).mono ?_; simp only [Nat.add_zero]; rintro e y1 ⟨rfl, n1, rfl⟩; have hb1 : Below w3.heap.size w3 (w3.drewN (1 + n1)) := below_drewN (Below.refl _ _) _) | (go_at_call 151; refine (regOfP a _ _ (HE.out.mono hb1)).mono ?_; rw [HRJ.out]; rintro e y2 ⟨rfl, hb2'⟩; have hb2 : Below w3.heap.size w3 y2 := below_trans hb1 hb2'; have x1 := (BX.out.go hb2).cell 1; have x2 := (BX.out.go hb2).frozen 1))
        clear x1 x2
        have BX : Hid (Blk (y2.setCell ⟨w2.heap.size, 1, none⟩ (.int .i64 ri)) w2.heap.size 23 #[.int .i64 x, .int .i64 ri, .string ⟨#[]⟩]) := Lib.hid ((BX.out.go hb2).set_ 1 _)
        have BK := Lib.hid ((BK.out.go hb2).far (p := ⟨w2.heap.size, 1, none⟩) (by dsimp only; omega) (.int .i64 ri))
        have HD := Lib.hid (Rd.new H0.out (HD.out.below hb2) (p := ⟨w2.heap.size, 1, none⟩) (by dsimp only; omega) (.int .i64 ri))
        have HO := Lib.hid (only_setCell (HO.out.trans (Only.of_below hb2)) (p := ⟨w2.heap.size, 1, none⟩) (.inr (by dsimp only; omega)) (.int .i64 ri))
        have x1 := BX.out.cell 1
        have q3 := HD.out.c3
        have qf := HD.out.blk.frozen 3
        rcases HC.out with ⟨rfl, rfl⟩ | ⟨m, rfl, hne, rfl⟩
        · go_wp2_with (go_at_call 82; refine (failP HD.out).mono ?_; rw [hL3]; rintro e w9 ⟨rfl, hb9⟩)
          exact panic_end rfl (Pst.bad_of (HO.out.trans (Only.of_below hb9)))
        · have hkl2 : k2 < all.length := HD.out.hd_ne (by rw [hL3]; exact hne)
          have BX2 := Lib.hid (BX.out.far (p := ⟨g, 3, none⟩) (by dsimp only; omega) (.int .i64 ((k2 : Int) + 1)))
          have BK2 := Lib.hid (BK.out.far (p := ⟨g, 3, none⟩) (by dsimp only; omega) (.int .i64 ((k2 : Int) + 1)))
          have y0 := BX2.out.cell 0
          have y1 := BX2.out.cell 1
          have y2' := BX2.out.cell 2
          have b0 := BK2.out.cell 0
          have b1 := BK2.out.cell 1
          have b2 := BK2.out.cell 2
          have g0 := BK2.out.frozen 0
          have g1 := BK2.out.frozen 1
          have g2 := BK2.out.frozen 2
          have hlt2 : all.drop (k2 + 1) = L2.tail := by rw [← hL3, tail_drop]
          go_wp2_with fail
          refine bodyPost_ret (v := thV (x, (m : Int), [])) (by simp [results, Tryz.results138, go_sem, b0, b1, b2, thV]) rfl ⟨_, k2 + 1, rfl, rfl, ?_, hlt2, by omega, ?_⟩
          · (repeat (first | (with_reducible exact HD.out) | (with_reducible exact HD.out.next1 (by assumption)) | (with_reducible refine Rd.drewN ?_ _) | (with_reducible refine Rd.drew ?_) | (with_reducible refine Rd.alloc ?_ _) | (with_reducible refine Rd.new H0.out ?_ ?_ _; rotate_left; (show _ ≤ _; dsimp only; omega))))
          · (repeat (first | (with_reducible exact HO.out) | (with_reducible refine Only.set ?_ _ _) | (with_reducible refine only_drewN ?_ _) | (with_reducible refine only_drew ?_) | (with_reducible refine Only.alloc ?_ _) | (with_reducible refine only_setCell ?_ ?_ _; rotate_left; exact .inr (by dsimp only; omega))))
theorem rthingP (h : Rd w g a s A cap all k) (hE : Env w) (hg : 6 ≤ g) :
    Calls Tryz.prog 138 #[.pointer (some ⟨g, 0, none⟩)] w (Pst g a s A cap all k w (PV thV) (pThing s.size a (all.drop k))) := by
  by_cases h1 : hd (all.drop k) = [91]
  · exact thingP_sq h hE hg h1
  · cases h2 : minB (hd (all.drop k)) with
    | true => exact thingP_num h hE hg h2
    | false => exact thingP_loc h hE hg h1 h2
end

/-- A forest's cells, one behind the other; the kids in blocks of S, each as append leaves it. -/
def FrC (w : World) (S : Nat → Prop) : Fr → List Value → Prop
  | .nil, cs => cs = []
  | .cons k t r l v kids rest, cs => ∃ kv ck cr, cs = .int .i64 k :: .int .i64 t :: .int .i64 r :: .string ⟨l.toArray⟩ :: .int .i64 v :: kv :: cr ∧ l.length ≤ 262144 ∧
      w.ownsRow 0 26 6 kv kids.len ck ∧ kids.len ≤ 300000 ∧ (∀ b, kv.ownBlock = some b → S b) ∧ FrC w S kids ck ∧ FrC w S rest cr
/-- A slice of nodes that the call made. -/
def KidC (w : World) (S : Nat → Prop) (kv : Value) (f : Fr) : Prop :=
  ∃ ck, w.ownsRow 0 26 6 kv f.len ck ∧ f.len ≤ 300000 ∧ (∀ b, kv.ownBlock = some b → S b) ∧ FrC w S f ck
theorem own_keep {w w' : World} {B : Nat} {t : TypeId} {z n : Nat} {v : Value} {cs : List Value} (h : w.ownsRow B t z v n cs) (hk : ∀ b, v.ownBlock = some b → w'.heap[b]? = w.heap[b]?) : w'.ownsRow B t z v n cs := by
  obtain ⟨h1, h2⟩ := h
  refine ⟨h1, ?_⟩
  rcases h2 with h2 | ⟨g, cap, cur, rfl, h3, h4, h5⟩
  · exact .inl h2
  · exact .inr ⟨g, cap, cur, rfl, h3, (hk g rfl).trans h4, h5⟩
theorem own_zero {w : World} {B : Nat} {t : TypeId} {z n : Nat} {v : Value} {cs : List Value} (h : w.ownsRow B t z v n cs) : w.ownsRow 0 t z v n cs := by
  obtain ⟨h1, h2⟩ := h
  refine ⟨h1, ?_⟩
  rcases h2 with h2 | ⟨g, cap, cur, rfl, _, h4, h5⟩
  · exact .inl h2
  · exact .inr ⟨g, cap, cur, rfl, Nat.zero_le _, h4, h5⟩
theorem own_nil {w : World} {B : Nat} {t : TypeId} {z : Nat} {v : Value} {cs : List Value} (h : w.ownsRow B t z v 0 cs) : cs = [] := List.eq_nil_of_length_eq_zero (by rw [h.1]; simp)
theorem FrC.keep {w w' : World} {S : Nat → Prop} (hk : ∀ b, S b → w'.heap[b]? = w.heap[b]?) : ∀ (f : Fr) (cs : List Value), FrC w S f cs → FrC w' S f cs
  | .nil, _, h => h
  | .cons _k _t _r _l _v kids rest, _, ⟨kv, ck, cr, e, hl, ho, hn, hs, h1, h2⟩ => ⟨kv, ck, cr, e, hl, own_keep ho (fun b hb => hk b (hs b hb)), hn, hs, FrC.keep hk kids ck h1, FrC.keep hk rest cr h2⟩
theorem FrC.mono {w : World} {S S' : Nat → Prop} (hk : ∀ b, S b → S' b) : ∀ (f : Fr) (cs : List Value), FrC w S f cs → FrC w S' f cs
  | .nil, _, h => h
  | .cons _k _t _r _l _v kids rest, _, ⟨kv, ck, cr, e, hl, ho, hn, hs, h1, h2⟩ => ⟨kv, ck, cr, e, hl, ho, hn, fun b hb => hk b (hs b hb), FrC.mono hk kids ck h1, FrC.mono hk rest cr h2⟩
theorem KidC.keep {w w' : World} {S : Nat → Prop} {kv : Value} {f : Fr} (h : KidC w S kv f) (hk : ∀ b, S b → w'.heap[b]? = w.heap[b]?) : KidC w' S kv f := by
  obtain ⟨ck, ho, hn, hs, hf⟩ := h
  exact ⟨ck, own_keep ho (fun b hb => hk b (hs b hb)), hn, hs, hf.keep hk f ck⟩
theorem KidC.mono {w : World} {S S' : Nat → Prop} {kv : Value} {f : Fr} (h : KidC w S kv f) (hk : ∀ b, S b → S' b) : KidC w S' kv f := by
  obtain ⟨ck, ho, hn, hs, hf⟩ := h
  exact ⟨ck, ho, hn, fun b hb => hk b (hs b hb), hf.mono hk f ck⟩
theorem KidC.shape {w : World} {S : Nat → Prop} {kv : Value} {f : Fr} (h : KidC w S kv f) : ∃ A cap, kv = .slice A f.len cap := by
  obtain ⟨ck, ho, _⟩ := h
  rcases ho.2 with ⟨rfl, h0⟩ | ⟨g, cap, cur, rfl, _⟩
  · exact ⟨none, 0, by rw [h0]⟩
  · exact ⟨_, _, rfl⟩
theorem KidC.nil (w : World) (S : Nat → Prop) : KidC w S (.slice none 0 0) .nil := ⟨[], World.ownsRow_nil _ _ _ _, by simp [Fr.len], fun b h => by simp [Value.ownBlock] at h, rfl⟩
theorem FrC.len {w : World} {S : Nat → Prop} : ∀ (f : Fr) (cs : List Value), FrC w S f cs → cs.length = f.len * 6
  | .nil, _, h => by rw [show _ = [] from h]; simp [Fr.len]
  | .cons k t r l v kids rest, _, ⟨kv, ck, cr, e, hl, ho, hn, hs, h1, h2⟩ => by
    subst e
    have := h2.len
    simp [Fr.len, this]; omega
def nodeCs (n : Nd) (kv : Value) : List Value := [.int .i64 n.k, .int .i64 n.t, .int .i64 n.r, .string ⟨n.l.toArray⟩, .int .i64 n.v, kv]
theorem FrC.snoc {w : World} {S : Nat → Prop} {n : Nd} {kv : Value} (hl : n.l.length ≤ 262144) (hk : KidC w S kv n.kids) : ∀ (l : List Nd) (cs : List Value), FrC w S (frOf l) cs → FrC w S (frOf (l ++ [n])) (cs ++ nodeCs n kv)
  | [], cs, h => by
    obtain ⟨ck, ho, hn, hs, hf⟩ := hk
    rw [show cs = [] from h]
    exact ⟨kv, ck, [], rfl, hl, ho, hn, hs, hf, rfl⟩
  | m :: r, cs, ⟨kv', ck, cr, e, hl', ho, hn, hs, h1, h2⟩ => by
    subst e
    exact ⟨kv', ck, cr ++ nodeCs n kv, rfl, hl', ho, hn, hs, h1, FrC.snoc hl hk r cr h2⟩
theorem FrC.one {w : World} {S : Nat → Prop} {n : Nd} {cs : List Value} (h : FrC w S (frOf [n]) cs) : n.l.length ≤ 262144 ∧ ∃ kv, cs = nodeCs n kv ∧ KidC w S kv n.kids := by
  obtain ⟨kv, ck, cr, e, hl, ho, hn, hs, h1, h2⟩ := h
  rw [show cr = [] from h2] at e
  exact ⟨hl, kv, e, ck, ho, hn, hs, h1⟩
/-- Such a forest reads as one that came in. -/
theorem FrC.row {w : World} {S : Nat → Prop} {hi : Nat} (hS : ∀ b, S b → b < hi) : ∀ (f : Fr) (cs : List Value) (b o : Nat), FrC w S f cs → (∀ j u, cs[j]? = some u → w.cell? ⟨b, o + j, none⟩ = some u) → RowAt w hi b o f
  | .nil, _, _, _, _, _ => trivial
  | .cons k t r l v kids rest, _, b, o, ⟨kv, ck, cr, e, hl, ho, hn, hs, h1, h2⟩, hc => by
    subst e
    refine ⟨hc 0 _ rfl, hc 1 _ rfl, hc 2 _ rfl, hc 3 _ rfl, hc 4 _ rfl, by omega, ?_, ?_⟩
    · have h5 := hc 5 _ rfl
      rcases ho.2 with ⟨rfl, h0⟩ | ⟨g, cap, cur, rfl, _, hg, hc1, hc2, hc3, htk⟩
      · exact ⟨none, 0, by rw [h0]; exact h5, by omega, ⟨by omega, by omega⟩, fun h => by omega⟩
      · refine ⟨some ⟨g, 0, none⟩, cap, h5, hc1, ⟨by omega, by unfold maxLen at hc2; omega⟩, fun _ => ⟨g, 0, rfl, hS g (hs g rfl), FrC.row hS kids ck g 0 h1 fun j u hu => ?_⟩⟩
        rw [Nat.zero_add, ho.cellAt j (by rw [← ho.1]; exact (List.getElem?_eq_some_iff.1 hu).1)]
        exact hu
    · refine FrC.row hS rest cr b (o + 6) h2 fun j u hu => ?_
      have := hc (j + 6) u (by simpa using hu)
      rw [show o + 6 + j = o + (j + 6) by omega]
      exact this
theorem KidC.sl {w : World} {S : Nat → Prop} {hi : Nat} {kv : Value} {f : Fr} (hS : ∀ b, S b → b < hi) (h : KidC w S kv f) : SlAt w hi kv f := by
  obtain ⟨ck, ho, hn, hs, hf⟩ := h
  rcases ho.2 with ⟨rfl, h0⟩ | ⟨g, cap, cur, rfl, _, hg, hc1, hc2, hc3, htk⟩
  · exact ⟨none, 0, by rw [h0], by omega, ⟨by omega, by omega⟩, fun h => by omega⟩
  · refine ⟨some ⟨g, 0, none⟩, cap, rfl, hc1, ⟨by omega, by unfold maxLen at hc2; omega⟩, fun _ => ⟨g, 0, rfl, hS g (hs g rfl), FrC.row hS f ck g 0 hf fun j u hu => ?_⟩⟩
    rw [Nat.zero_add, ho.cellAt j (by rw [← ho.1]; exact (List.getElem?_eq_some_iff.1 hu).1)]
    exact hu
/-- A node that a reader hands back: its kids lie in memory made since w0. -/
def NV (w0 : World) (n : Nd) (w' : World) (v : Value) : Prop := n.l.length ≤ 262144 ∧ ∃ kv, v = nodeV n.k n.t n.r n.l n.v kv ∧ KidC w' (fun b => w0.heap.size ≤ b ∧ b < w'.heap.size) kv n.kids
def nextOf (w : World) (g : Nat) : Nat := match w.cell? ⟨g, 3, none⟩ with
  | some (.int _ n) => n.toNat
  | _ => 0
theorem Rd.nextOf {w : World} {g : Nat} {a : Int} {s : ByteArray} {A : Option Addr} {cap : Nat} {all : List Tok} {k : Nat} (h : Rd w g a s A cap all k) : nextOf w g = k := by
  unfold Go.Proofs.YtmlnibjnacfanaaGreatDoor.nextOf
  rw [h.c3]
  simp
/-- What a function that reads one node does. -/
def OneP (fid : Nat) (one : List Tok → Rs Nd) (g : Nat) (a : Int) (s : ByteArray) (A : Option Addr) (cap : Nat) (all : List Tok) (N : Nat) : Prop :=
  ∀ (w : World) (k : Nat), Rd w g a s A cap all k → Env w → 6 ≤ g → all.length - k < N → Calls Tryz.prog fid #[.pointer (some ⟨g, 0, none⟩)] w (Pst g a s A cap all k w (NV w) (one (all.drop k)))
theorem grown_some {w w' : World} {g : Nat} (h : w.grownBy w' none) : w.grownBy w' (some g) := ⟨h.os, h.tape, h.output, h.size, fun i hi _ => h.block i hi (by simp)⟩
/-- One more at the end of a row of one's own: it stays where it was, or moves to a new block. -/
theorem append_more {P : Program} (w : World) {ops : Array Oper} {rest : List Oper} {o : Oper} {a : Act} {Q : Exit → Act → World → Prop}
    (hg : o.guard = none) (s x : Operand) (t : TypeId) (hop : o.op = Op.call { callee := Callee.builtin Builtin.append, args := #[s, x], argTypes := #[t, t] })
    (base : Nat) (e : TypeId) (i : TypeInfo) (z : Value) (size bytes : Nat) (h1 : P.underlying t = some (.slice e)) (h2 : P.info? e = some i) (h3 : i.zero = some z) (h4 : i.size = size) (h5 : i.bytes = bytes) (h6 : z.cells.size = size) (h7 : 0 < size)
    (g n cap : Nat) (xs : List Value) (hs : a.eval s = .slice (some ⟨g, 0, none⟩) n cap) (hown : w.ownsRow base e size (.slice (some ⟨g, 0, none⟩) n cap) n xs) (ad : Addr) (m c : Nat) (news : List Value) (hx : a.eval x = .slice (some ad) m c) (hn : news.length = m * size)
    (hc : ∀ j u, news[j]? = some u → w.cell? (ad.add j) = some u) (h1c : ∀ u ∈ news, u.oneCell' = true) (b1 : n + m ≤ maxLen) (b2 : (n + m) * bytes ≤ 140737488355328) (hb : base ≤ w.heap.size)
    (hK : ∀ g' cap' w', w'.ownsRow base e size (.slice (some ⟨g', 0, none⟩) (n + m) cap') (n + m) (xs ++ news) → w.grownBy w' (some g) → (g' = g ∨ w.heap.size ≤ g') → wpList P ops Q rest (a.put o.dst (.slice (some ⟨g', 0, none⟩) (n + m) cap')) w') :
    0 < m → wpList P ops Q (o :: rest) a w := by
  intro hm
  by_cases hcap : n + m ≤ cap
  · exact wpList_append_fits w hg s x t hop base e i size h1 h2 h4 g n cap xs hs hown ad m c news hx hn hc h1c hcap fun w' r1 r2 => hK g cap w' r1 r2 (.inl rfl)
  · refine wpList_append_grows w hg s x t hop e i z size bytes h1 h2 h3 h4 h5 h6 h7 (some ⟨g, 0, none⟩) n cap xs hs (fun h => by cases h) hown.1 (fun b hb j u hu => ?_) ad m c news hx hn hc h1c (by omega) b1 b2 fun v' w' r1 r2 => ?_
    · cases hb
      exact hown.cells rfl j u hu
    · have r1' := r1
      rcases r1.2 with ⟨_, h0⟩ | ⟨g', cap', cur, rfl, hg', r⟩
      · omega
      · refine hK g' cap' w' ⟨r1'.1, .inr ⟨g', cap', cur, rfl, Nat.le_trans hb hg', r⟩⟩ (grown_some r2) (.inr hg')
theorem Only.grow {w x y : World} {g q : Nat} (h : Only g w x) (hg : x.grownBy y (some q)) (hq : w.heap.size ≤ q) : Only g w y :=
  ⟨hg.os.trans h.os, hg.tape.trans h.tape, hg.output.trans h.output, Nat.le_trans h.size hg.size, fun i hi hne => (hg.block i (Nat.lt_of_lt_of_le hi h.size) (fun e => by injection e; omega)).trans (h.block i hi hne)⟩
theorem Rd.grow {w0 x y : World} {g : Nat} {a : Int} {s : ByteArray} {A : Option Addr} {cap : Nat} {all : List Tok} {k0 k q : Nat} (h0 : Rd w0 g a s A cap all k0) (h : Rd x g a s A cap all k) (hg : x.grownBy y (some q)) (hq : w0.heap.size ≤ q) : Rd y g a s A cap all k := by
  have hlt := h0.blk.lt
  refine ⟨h.blk.only hg (by omega), fun i t ht => ?_, h.len, h.size, h.le, h.txt⟩
  obtain ⟨gt, e, hne, c0, c1⟩ := h.tok i t ht
  obtain ⟨gt', e', _, c0', _⟩ := h0.tok i t ht
  rw [e] at e'
  simp only [Option.some.injEq, Addr.mk.injEq, and_true] at e'
  subst e'
  have hlt2 := World.block_lt_of_cell? w0 ⟨gt, i * 2, none⟩ c0'
  simp only at hlt2
  exact ⟨gt, e, hne, Only.cell c0 hg (by omega), Only.cell c1 hg (by omega)⟩
theorem infoNode : (Tryz.prog.info? 26).map (fun i => (i.zero, i.size, i.bytes)) = some (some (.agg #[.int .i64 0, .int .i64 0, .int .i64 0, .string ⟨#[]⟩, .int .i64 0, .slice none 0 0]), 6, 72) := by kernel_rfl
end Go.Proofs.YtmlnibjnacfanaaGreatDoor
