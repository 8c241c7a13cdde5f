/- Layer 8: the program's reader: int, loc. -/
import Derived.Test.YtmlnibjnacfanaaGreatDoorDd
namespace Go.Proofs.YtmlnibjnacfanaaGreatDoor
open Go.RowKit

section
variable {w : World} {g : Nat} {a : Int} {s : ByteArray} {A : Option Addr} {cap : Nat} {all : List Tok} {k : Nat}
set_option maxHeartbeats 2000000 in
set_option maxRecDepth 100000 in
theorem intP (h : Rd w g a s A cap all k) (hE : Env w) (_hg : 6 ≤ g) (lo hi : Int) : Calls Tryz.prog 139 #[.pointer (some ⟨g, 0, none⟩), .int .i64 lo, .int .i64 hi] w (Pst g a s A cap all k w (PV fun n => .int .i64 n) (pInt s.size lo hi (all.drop k))) := by
  obtain ⟨t, ht⟩ : ∃ t, hd (all.drop k) = t := ⟨_, rfl⟩
  have htl : t.length ≤ 262144 := by rw [← ht]; exact h.hd_len k
  have HT := Lib.hid ht
  have HTS := Lib.hid (show (⟨t.toArray⟩ : ByteArray).size ≤ 281474976710656 by rw [str_size]; omega)
  have hne : atoiB t = true → k < all.length := fun ha => h.hd_ne (by
    rw [ht]
    rintro rfl
    exact absurd ha (by decide))
  have HNE := Lib.hid hne
  clear hne
  cases h1 : atoiB t with
  | false =>
    rw [show pInt s.size lo hi (all.drop k) = .bad (ps s.size (all.drop k)) by simp [pInt, numIn, ht, h1]]
    have H1 := Lib.hid h1
    clear h1 ht
    have hk2 := h.len
    have hk3 := h.le
    have q3 := h.c3
    have qf := h.blk.frozen 3
    have HD := Lib.hid h
    have HE := Lib.hid hE
    have HO := Lib.hid (Only.refl g w)
    clear h hE
    go_enter Tryz.func139, Tryz.ntmps139
    go_wp2_with (first | (go_at_call 79; (with_reducible refine (peek0P HD.out).mono ?_); rw [HT.out]; rintro e w1 ⟨rfl, n, rfl⟩; have HE := Lib.hid (HE.out.mono (below_drewN (Below.refl _ _) n)); have HO := Lib.hid (only_drewN HO.out n); have HD := Lib.hid (HD.out.drewN n)) | (go_at_call 152; refine (atoi_no _ _ HE.out HTS.out H1.out).mono ?_; rintro e w2 ⟨ty, ad, rfl, hb2⟩; have HE := Lib.hid (HE.out.mono hb2); have HO := Lib.hid (HO.out.trans (Only.of_below hb2)); have HD := Lib.hid (HD.out.below hb2); have q3 := HD.out.c3; have qf := HD.out.blk.frozen 3) | (go_at_call 82; refine (failP HD.out).mono ?_; rintro e w9 ⟨rfl, hb9⟩))
    exact panic_end rfl (Pst.bad_of (HO.out.trans (Only.of_below hb9)))
  | true =>
    have hab := atoiN_bounds t h1
    obtain ⟨m, hm⟩ : ∃ m, atoiN t = m := ⟨_, rfl⟩
    rw [hm] at hab
    have HM := Lib.hid hm
    have H1 := Lib.hid h1
    obtain ⟨u, hu⟩ : ∃ u, Lib.itoa m = u := ⟨_, rfl⟩
    have HU := Lib.hid hu
    have hkl := HNE.out h1
    obtain ⟨hab1, hab2⟩ := hab
    by_cases hut : u = t
    · subst hut
      by_cases hlo : m < lo
      · rw [show pInt s.size lo hi (all.drop k) = .bad (ps s.size (all.drop k)) by
          have : ¬ lo ≤ m := by omega
          simp [pInt, numIn, ht, hm, this]]
        clear h1 ht hm hu
        have hk2 := h.len
        have hk3 := h.le
        have q3 := h.c3
        have qf := h.blk.frozen 3
        have HD := Lib.hid h
        have HE := Lib.hid hE
        have HO := Lib.hid (Only.refl g w)
        clear h hE
        go_enter Tryz.func139, Tryz.ntmps139
        go_wp2_with (first | (go_at_call 79; (with_reducible refine (peek0P HD.out).mono ?_); rw [HT.out]; rintro e w1 ⟨rfl, n, rfl⟩; have HE := Lib.hid (HE.out.mono (below_drewN (Below.refl _ _) n)); have HO := Lib.hid (only_drewN HO.out n); have HD := Lib.hid (HD.out.drewN n)) | (go_at_call 152; refine (atoi_yes _ _ HTS.out H1.out).mono ?_; rw [HM.out]; rintro e w2 ⟨rfl, hb2⟩; have HE := Lib.hid (HE.out.mono hb2); have HO := Lib.hid (HO.out.trans (Only.of_below hb2)); have HD := Lib.hid (HD.out.below hb2); have q3 := HD.out.c3; have qf := HD.out.blk.frozen 3) | (go_at_call 69; refine (itoa_c m _ HE.out hab1 hab2).mono ?_; rw [HU.out]; rintro e w3 ⟨rfl, hb3⟩; have HE := Lib.hid (HE.out.mono hb3); have HO := Lib.hid (HO.out.trans (Only.of_below hb3)); have HD := Lib.hid (HD.out.below hb3); have q3 := HD.out.c3; have qf := HD.out.blk.frozen 3) | (go_at_call 82; refine (failP HD.out).mono ?_; rintro e w9 ⟨rfl, hb9⟩))
        exact panic_end rfl (Pst.bad_of (HO.out.trans (Only.of_below hb9)))
      · by_cases hhi : hi < m
        · rw [show pInt s.size lo hi (all.drop k) = .bad (ps s.size (all.drop k)) by
            have : ¬ m ≤ hi := by omega
            simp [pInt, numIn, ht, hm, this]]
          clear h1 ht hm hu
          have hk2 := h.len
          have hk3 := h.le
          have q3 := h.c3
          have qf := h.blk.frozen 3
          have HD := Lib.hid h
          have HE := Lib.hid hE
          have HO := Lib.hid (Only.refl g w)
          clear h hE
          go_enter Tryz.func139, Tryz.ntmps139
          go_wp2_with (first | (go_at_call 79; (with_reducible refine (peek0P HD.out).mono ?_); rw [HT.out]; rintro e w1 ⟨rfl, n, rfl⟩; have HE := Lib.hid (HE.out.mono (below_drewN (Below.refl _ _) n)); have HO := Lib.hid (only_drewN HO.out n); have HD := Lib.hid (HD.out.drewN n)) | (go_at_call 152; refine (atoi_yes _ _ HTS.out H1.out).mono ?_; rw [HM.out]; rintro e w2 ⟨rfl, hb2⟩; have HE := Lib.hid (HE.out.mono hb2); have HO := Lib.hid (HO.out.trans (Only.of_below hb2)); have HD := Lib.hid (HD.out.below hb2); have q3 := HD.out.c3; have qf := HD.out.blk.frozen 3) | (go_at_call 69; refine (itoa_c m _ HE.out hab1 hab2).mono ?_; rw [HU.out]; rintro e w3 ⟨rfl, hb3⟩; have HE := Lib.hid (HE.out.mono hb3); have HO := Lib.hid (HO.out.trans (Only.of_below hb3)); have HD := Lib.hid (HD.out.below hb3); have q3 := HD.out.c3; have qf := HD.out.blk.frozen 3) | (go_at_call 82; refine (failP HD.out).mono ?_; rintro e w9 ⟨rfl, hb9⟩))
          exact panic_end rfl (Pst.bad_of (HO.out.trans (Only.of_below hb9)))
        · rw [show pInt s.size lo hi (all.drop k) = .ok m (all.drop (k + 1)) by
            have a1 : lo ≤ m := by omega
            have a2 : m ≤ hi := by omega
            simp [pInt, numIn, ht, hm, hu, h1, a1, a2]]
          clear h1 ht hm hu
          have hk2 := h.len
          have hk3 := h.le
          have q3 := h.c3
          have qf := h.blk.frozen 3
          have HD := Lib.hid h
          have HE := Lib.hid hE
          have HO := Lib.hid (Only.refl g w)
          clear h hE
          go_enter Tryz.func139, Tryz.ntmps139
          go_wp2_with (first | (go_at_call 79; (with_reducible refine (peek0P HD.out).mono ?_); rw [HT.out]; rintro e w1 ⟨rfl, n, rfl⟩; have HE := Lib.hid (HE.out.mono (below_drewN (Below.refl _ _) n)); have HO := Lib.hid (only_drewN HO.out n); have HD := Lib.hid (HD.out.drewN n)) | (go_at_call 152; refine (atoi_yes _ _ HTS.out H1.out).mono ?_; rw [HM.out]; rintro e w2 ⟨rfl, hb2⟩; have HE := Lib.hid (HE.out.mono hb2); have HO := Lib.hid (HO.out.trans (Only.of_below hb2)); have HD := Lib.hid (HD.out.below hb2); have q3 := HD.out.c3; have qf := HD.out.blk.frozen 3) | (go_at_call 69; refine (itoa_c m _ HE.out hab1 hab2).mono ?_; rw [HU.out]; rintro e w3 ⟨rfl, hb3⟩; have HE := Lib.hid (HE.out.mono hb3); have HO := Lib.hid (HO.out.trans (Only.of_below hb3)); have HD := Lib.hid (HD.out.below hb3); have q3 := HD.out.c3; have qf := HD.out.blk.frozen 3) | (go_at_call 82; refine (failP HD.out).mono ?_; rintro e w9 ⟨rfl, hb9⟩))
          go_ret
          exact ⟨_, k + 1, rfl, rfl, HD.out.next1 hkl, rfl, by omega, Only.set HO.out 3 _⟩
    · rw [show pInt s.size lo hi (all.drop k) = .bad (ps s.size (all.drop k)) by simp [pInt, numIn, ht, hm, hu, hut]]
      have hut' : (u == t) = false := by simpa using hut
      clear h1 ht hm hu hut
      have hk2 := h.len
      have hk3 := h.le
      have q3 := h.c3
      have qf := h.blk.frozen 3
      have HD := Lib.hid h
      have HE := Lib.hid hE
      have HO := Lib.hid (Only.refl g w)
      clear h hE
      go_enter Tryz.func139, Tryz.ntmps139
      go_wp2_with (first | (go_at_call 79; (with_reducible refine (peek0P HD.out).mono ?_); rw [HT.out]; rintro e w1 ⟨rfl, n, rfl⟩; have HE := Lib.hid (HE.out.mono (below_drewN (Below.refl _ _) n)); have HO := Lib.hid (only_drewN HO.out n); have HD := Lib.hid (HD.out.drewN n)) | (go_at_call 152; refine (atoi_yes _ _ HTS.out H1.out).mono ?_; rw [HM.out]; rintro e w2 ⟨rfl, hb2⟩; have HE := Lib.hid (HE.out.mono hb2); have HO := Lib.hid (HO.out.trans (Only.of_below hb2)); have HD := Lib.hid (HD.out.below hb2); have q3 := HD.out.c3; have qf := HD.out.blk.frozen 3) | (go_at_call 69; refine (itoa_c m _ HE.out hab1 hab2).mono ?_; rw [HU.out]; rintro e w3 ⟨rfl, hb3⟩; have HE := Lib.hid (HE.out.mono hb3); have HO := Lib.hid (HO.out.trans (Only.of_below hb3)); have HD := Lib.hid (HD.out.below hb3); have q3 := HD.out.c3; have qf := HD.out.blk.frozen 3) | (go_at_call 82; refine (failP HD.out).mono ?_; rintro e w9 ⟨rfl, hb9⟩))
      exact panic_end rfl (Pst.bad_of (HO.out.trans (Only.of_below hb9)))
set_option maxHeartbeats 2000000 in
set_option maxRecDepth 100000 in
theorem locP (h : Rd w g a s A cap all k) (hE : Env w) : Calls Tryz.prog 150 #[.pointer (some ⟨g, 0, none⟩)] w (Pst g a s A cap all k w (PV fun l => .string ⟨l.toArray⟩) (pLoc s.size (all.drop k))) := by
  obtain ⟨t, ht⟩ : ∃ t, hd (all.drop k) = t := ⟨_, rfl⟩
  have htl : t.length ≤ 262144 := by rw [← ht]; exact h.hd_len k
  have HT := Lib.hid ht
  have HTS := Lib.hid (show (⟨t.toArray⟩ : ByteArray).size ≤ 9223372036854775807 by rw [str_size]; omega)
  cases h1 : nameB t with
  | false =>
    rw [show pLoc s.size (all.drop k) = .bad (ps s.size (all.drop k)) by simp [pLoc, ht, h1]]
    have H1 := Lib.hid h1
    clear h1 ht
    have hk2 := h.len
    have hk3 := h.le
    have q3 := h.c3
    have qf := h.blk.frozen 3
    have HD := Lib.hid h
    have HE := Lib.hid hE
    have HO := Lib.hid (Only.refl g w)
    clear h hE
    go_enter Tryz.func150, Tryz.ntmps150
    go_wp2_with (first | (go_at_call 79; (with_reducible refine (peek0P HD.out).mono ?_); rw [HT.out]; rintro e w1 ⟨rfl, n, rfl⟩; have HE := Lib.hid (HE.out.mono (below_drewN (Below.refl _ _) n)); have HO := Lib.hid (only_drewN HO.out n); have HD := Lib.hid (HD.out.drewN n)) | (go_at_call 98; refine (namedP _ _ HTS.out).mono ?_; rw [H1.out]; rintro e w2 ⟨rfl, rfl⟩) | (go_at_call 82; refine (failP HD.out).mono ?_; rintro e w9 ⟨rfl, hb9⟩))
    exact panic_end rfl (Pst.bad_of (HO.out.trans (Only.of_below hb9)))
  | true =>
    have hkl : k < all.length := h.hd_ne (by
      rw [ht]
      rintro rfl
      exact absurd h1 (by decide))
    rw [show pLoc s.size (all.drop k) = .ok t (all.drop (k + 1)) by simp [pLoc, ht, h1]]
    have e := List.getElem?_eq_getElem hkl
    obtain ⟨gt, rfl, hne, c0, _⟩ := h.tok _ _ e
    have e2 : all[k].1 = t := by rw [← (hd_at e).1, ht]
    rw [e2] at c0
    have q2 := h.c2
    have hgt := World.block_lt_of_cell? w _ c0
    have H1 := Lib.hid h1
    clear h1 ht e e2
    have hi1 : ((k : Int) + 1 - 1) = (k : Int) := by omega
    have f2 : (w.setCell ⟨g, 3, none⟩ (.int .i64 ((k : Int) + 1))).cell? ⟨g, 2, none⟩ = some (.slice (some ⟨gt, 0, none⟩) all.length cap) := (h.next1 hkl).c2
    have f3 : (w.setCell ⟨g, 3, none⟩ (.int .i64 ((k : Int) + 1))).cell? ⟨g, 3, none⟩ = some (.int .i64 ((k : Int) + 1)) := by have := (h.next1 hkl).c3; simpa using this
    have f0 : (w.setCell ⟨g, 3, none⟩ (.int .i64 ((k : Int) + 1))).cell? ⟨gt, k * 2, none⟩ = some (.string ⟨t.toArray⟩) := cell_set c0 (fun e => hne e.symm) _
    have hk2 := h.len
    have hk3 := h.le
    have q3 := h.c3
    have qf := h.blk.frozen 3
    have HD := Lib.hid h
    have HE := Lib.hid hE
    have HO := Lib.hid (Only.refl g w)
    clear h hE
    go_enter Tryz.func150, Tryz.ntmps150
    go_wp2_with (first | (go_at_call 79; (with_reducible refine (peek0P HD.out).mono ?_); rw [HT.out]; rintro e w1 ⟨rfl, n, rfl⟩; have HE := Lib.hid (HE.out.mono (below_drewN (Below.refl _ _) n)); have HO := Lib.hid (only_drewN HO.out n); have HD := Lib.hid (HD.out.drewN n)) | (go_at_call 98; refine (namedP _ _ HTS.out).mono ?_; rw [H1.out]; rintro e w2 ⟨rfl, rfl⟩) | (go_at_call 82; refine (failP HD.out).mono ?_; rintro e w9 ⟨rfl, hb9⟩))
    go_quiet (fail)
    go_wp2
    go_ret
    exact ⟨_, k + 1, rfl, rfl, (HD.out.next1 hkl).drewN _, rfl, by omega, only_drewN (Only.set HO.out 3 _) _⟩
end
end Go.Proofs.YtmlnibjnacfanaaGreatDoor
