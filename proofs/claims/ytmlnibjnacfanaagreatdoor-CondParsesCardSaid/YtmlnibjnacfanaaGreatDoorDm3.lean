/- Layer 8: the program's reader: the whole condition (exists). -/
import Derived.Test.YtmlnibjnacfanaaGreatDoorDn
namespace Go.Proofs.YtmlnibjnacfanaaGreatDoor
open Go.RowKit

section
variable {w : World} {g : Nat} {a : Int} {s : ByteArray} {A : Option Addr} {cap : Nat} {all : List Tok} {k : Nat}
set_option maxHeartbeats 2000000 in
set_option maxRecDepth 100000 in
theorem condP_exists {N : Nat} (h : Rd w g a s A cap all k) (hE : Env w) (hg : 6 ≤ g) (hN : all.length ≤ N) (hb1 : hd (all.drop k) ≠ [126]) (hb2 : hd (all.drop k) ≠ [102, 111, 114, 97, 108, 108]) :
    Calls Tryz.prog 45 #[.pointer (some ⟨g, 0, none⟩)] w (Pst g a s A cap all k w (CV w) (pCond s.size a (N + 1) (all.drop k))) := by
  obtain ⟨r1, hr1⟩ : ∃ r, pTake s.size [101, 120, 105, 115, 116, 115] (all.drop k) = r := ⟨_, rfl⟩
  rw [pCond, show pHead s.size (all.drop k) = r1.go fun _ L => .ok 1 L by simp [pHead, hb1, hb2, ← hr1, existsT]]
  obtain ⟨t, ht⟩ : ∃ t, hd (all.drop k) = t := ⟨_, rfl⟩
  rw [ht] at hb1 hb2
  have n1 : (t == [126]) = false := by simpa using hb1
  have n2 : (t == [102, 111, 114, 97, 108, 108]) = false := by simpa using hb2
  have HT := Lib.hid ht
  have HR1 := Lib.hid hr1
  clear hb1 hb2 hr1 ht
  have hlt := h.lt
  have H0 := Lib.hid h
  have HE0 := Lib.hid hE
  have HD := Lib.hid ((h.alloc (.cells #[.int .i64 0, .int .i64 0, .int .i64 0, .int .i64 0, .string ⟨#[]⟩, .int .i64 0, .slice none 0 0] 28 (0, 0))).alloc (.cells #[.int .i64 1, .int .i64 0, .int .i64 0, .int .i64 0, .string ⟨#[]⟩, .int .i64 0, .slice none 0 0] 28 (0, 0)))
  have HE := Lib.hid ((hE.mono (alloc_b w (.cells #[.int .i64 0, .int .i64 0, .int .i64 0, .int .i64 0, .string ⟨#[]⟩, .int .i64 0, .slice none 0 0] 28 (0, 0)))).mono (alloc_b _ (.cells #[.int .i64 1, .int .i64 0, .int .i64 0, .int .i64 0, .string ⟨#[]⟩, .int .i64 0, .slice none 0 0] 28 (0, 0))))
  have HO := Lib.hid (Only.alloc ((Only.refl g w).alloc (.cells #[.int .i64 0, .int .i64 0, .int .i64 0, .int .i64 0, .string ⟨#[]⟩, .int .i64 0, .slice none 0 0] 28 (0, 0))) (.cells #[.int .i64 1, .int .i64 0, .int .i64 0, .int .i64 0, .string ⟨#[]⟩, .int .i64 0, .slice none 0 0] 28 (0, 0)))
  have BK := Lib.hid ((Blk.new w 28 #[.int .i64 0, .int .i64 0, .int .i64 0, .int .i64 0, .string ⟨#[]⟩, .int .i64 0, .slice none 0 0]).alloc (.cells #[.int .i64 1, .int .i64 0, .int .i64 0, .int .i64 0, .string ⟨#[]⟩, .int .i64 0, .slice none 0 0] 28 (0, 0)))
  have BC : Hid (Blk ((w.alloc (.cells #[.int .i64 0, .int .i64 0, .int .i64 0, .int .i64 0, .string ⟨#[]⟩, .int .i64 0, .slice none 0 0] 28 (0, 0))).alloc (.cells #[.int .i64 1, .int .i64 0, .int .i64 0, .int .i64 0, .string ⟨#[]⟩, .int .i64 0, .slice none 0 0] 28 (0, 0))) (w.heap.size + 1) 28 #[.int .i64 1, .int .i64 0, .int .i64 0, .int .i64 0, .string ⟨#[]⟩, .int .i64 0, .slice none 0 0]) := Lib.hid (by have := Blk.new (w.alloc (.cells #[.int .i64 0, .int .i64 0, .int .i64 0, .int .i64 0, .string ⟨#[]⟩, .int .i64 0, .slice none 0 0] 28 (0, 0))) 28 #[.int .i64 1, .int .i64 0, .int .i64 0, .int .i64 0, .string ⟨#[]⟩, .int .i64 0, .slice none 0 0]; simpa using this)
  have hk2 := h.len
  have hk3 := h.le
  have q3 := HD.out.c3
  have qf := HD.out.blk.frozen 3
  have c0 := BC.out.cell 0
  have c0f := BC.out.frozen 0
  clear h hE
  cases r1 with
  | bad p =>
    go_enter Tryz.func45, Tryz.ntmps45
    go_wp2_with (first | (go_at_call 79; (with_reducible refine (peek0B HD.out).mono ?_); rw [HT.out]; rintro e w1 ⟨rfl, hb⟩; have HE := Lib.hid (HE.out.mono hb); have HO := Lib.hid (HO.out.trans (Only.of_below hb)); have HD := Lib.hid (HD.out.below hb); have q3 := HD.out.c3; have qf := HD.out.blk.frozen 3; have BK := Lib.hid (BK.out.go hb); have BC := Lib.hid (BC.out.go hb); have c0 := BC.out.cell 0; have c0f := BC.out.frozen 0) | (go_at_call 80; refine (takeP HD.out [101, 120, 105, 115, 116, 115] (by decide)).mono ?_; rw [HR1.out]; rintro e w2 ⟨rfl, ho⟩))
    exact panic_end rfl (Pst.bad_of (HO.out.trans ho))
  | ok _u L1 =>
    go_enter Tryz.func45, Tryz.ntmps45
    go_wp2_with (first | (go_at_call 79; (with_reducible refine (peek0B HD.out).mono ?_); rw [HT.out]; rintro e w1 ⟨rfl, hb⟩; have HE := Lib.hid (HE.out.mono hb); have HO := Lib.hid (HO.out.trans (Only.of_below hb)); have HD := Lib.hid (HD.out.below hb); have q3 := HD.out.c3; have qf := HD.out.blk.frozen 3; have BK := Lib.hid (BK.out.go hb); have BC := Lib.hid (BC.out.go hb); have c0 := BC.out.cell 0; have c0f := BC.out.frozen 0) | (go_at_call 80; (with_reducible refine (takeP HD.out [101, 120, 105, 115, 116, 115] (by decide)).mono ?_); rw [HR1.out]; rintro e w2 ⟨v2, k1, rfl, rfl, hrd2, hL1, hk1, ho2⟩; have HD := Lib.hid hrd2; have BK := Lib.hid (BK.out.only ho2 (by omega)); have BC := Lib.hid (BC.out.only ho2 (by omega)); have HO := Lib.hid (HO.out.trans ho2); have HL1 := Lib.hid hL1; have hkb1 := hrd2.le; clear q3 qf c0 c0f hL1))
    obtain ⟨r2, hr2⟩ : ∃ r, pTake s.size [40] L1 = r := ⟨_, rfl⟩
    have HR2 := Lib.hid hr2
    clear hr2
    cases r2 with
    | bad p =>
      go_wp2_with (go_at_call 80; refine (takeP HD.out [40] (by decide)).mono ?_; rw [HL1.out, HR2.out]; rintro e w3 ⟨rfl, ho3⟩)
      refine panic_end rfl ?_
      show Pst g a s A cap all k w (CV w) ((pTake s.size [40] L1).go _) _ _
      rw [HR2.out]
      exact Pst.bad_of (HO.out.trans ho3)
    | ok _u L2 =>
      go_wp2_with (go_at_call 80; refine (takeP HD.out [40] (by decide)).mono ?_; rw [HL1.out, HR2.out]; rintro e w3 ⟨v3, k3, rfl, rfl, hrd3, hL3, hk3', ho3⟩; have BK := Lib.hid (BK.out.only ho3 (by omega)); have BC := Lib.hid (BC.out.only ho3 (by omega)); have HO := Lib.hid (HO.out.trans ho3); have HD := Lib.hid hrd3; have hkb := hrd3.le; have hzc := BC.out.lt)
      obtain ⟨r4, hr4⟩ : ∃ r, pOr s.size a (N + 1) L2 = r := ⟨_, rfl⟩
      have HR4 := Lib.hid hr4
      clear hr4
      cases r4 with
      | bad p =>
        go_wp2_with (go_at_call 81; refine (orAll g a s A cap all (N + 1) w3 k3 HD.out (HE0.out.only HO.out hg) hg (by omega)).mono ?_; rw [hL3, HR4.out]; rintro e w4 ⟨rfl, ho4⟩)
        refine panic_end rfl ?_
        show Pst g a s A cap all k w (CV w) ((pTake s.size [40] L1).go _) _ _
        rw [HR2.out]
        show Pst g a s A cap all k w (CV w) ((pOr s.size a (N + 1) L2).go _) _ _
        rw [HR4.out]
        exact Pst.bad_of (HO.out.trans ho4)
      | ok n L4 =>
        go_wp2_with (go_at_call 81; refine (orAll g a s A cap all (N + 1) w3 k3 HD.out (HE0.out.only HO.out hg) hg (by omega)).mono ?_; rw [hL3, HR4.out]; rintro e w4 ⟨v4, k4, rfl, ⟨hnl, kv, rfl, hkc⟩, hrd4, hL4, hk4, ho4⟩; obtain ⟨Ak, ck, rfl⟩ := hkc.shape; have HKC := Lib.hid hkc; have BK := Lib.hid (BK.out.only ho4 (by omega)); have BC := Lib.hid (BC.out.only ho4 (by omega)); have HO := Lib.hid (HO.out.trans ho4); have HD := Lib.hid hrd4; have hkb4 := hrd4.le; have x1 := BC.out.cell 1; have x2 := BC.out.cell 2; have x3 := BC.out.cell 3; have x4 := BC.out.cell 4; have x5 := BC.out.cell 5; have x6 := BC.out.cell 6; have y1 := BC.out.frozen 1; have y2 := BC.out.frozen 2; have y3 := BC.out.frozen 3; have y4 := BC.out.frozen 4; have y5 := BC.out.frozen 5; have y6 := BC.out.frozen 6; clear hkc)
        obtain ⟨r5, hr5⟩ : ∃ r, pTake s.size [41] L4 = r := ⟨_, rfl⟩
        have HR5 := Lib.hid hr5
        clear hr5
        have hs4 := ho4.size
        have HS : Hid (Rd ((((((w4.setCell ⟨w.heap.size + 1, 1, none⟩ (.int .i64 n.k)).setCell ⟨w.heap.size + 1, 2, none⟩ (.int .i64 n.t)).setCell ⟨w.heap.size + 1, 3, none⟩ (.int .i64 n.r)).setCell ⟨w.heap.size + 1, 4, none⟩ (.string ⟨n.l.toArray⟩)).setCell ⟨w.heap.size + 1, 5, none⟩ (.int .i64 n.v)).setCell ⟨w.heap.size + 1, 6, none⟩ (.slice Ak n.kids.len ck)) g a s A cap all k4) := by
          have h1 := HD.out
          refine Lib.hid ?_
          repeat (first | exact h1 | (with_reducible refine Rd.new H0.out ?_ ?_ _; rotate_left; (show _ ≤ _; dsimp only; omega)))
        have HD := HS
        have HO := Lib.hid (only_setCell (only_setCell (only_setCell (only_setCell (only_setCell (only_setCell HO.out (p := ⟨w.heap.size + 1, 1, none⟩) (.inr (by dsimp only; omega)) (.int .i64 n.k)) (p := ⟨w.heap.size + 1, 2, none⟩) (.inr (by dsimp only; omega)) (.int .i64 n.t)) (p := ⟨w.heap.size + 1, 3, none⟩) (.inr (by dsimp only; omega)) (.int .i64 n.r)) (p := ⟨w.heap.size + 1, 4, none⟩) (.inr (by dsimp only; omega)) (.string ⟨n.l.toArray⟩)) (p := ⟨w.heap.size + 1, 5, none⟩) (.inr (by dsimp only; omega)) (.int .i64 n.v)) (p := ⟨w.heap.size + 1, 6, none⟩) (.inr (by dsimp only; omega)) (.slice Ak n.kids.len ck))
        have BC : Hid (Blk _ (w.heap.size + 1) 28 #[.int .i64 1, .int .i64 n.k, .int .i64 n.t, .int .i64 n.r, .string ⟨n.l.toArray⟩, .int .i64 n.v, .slice Ak n.kids.len ck]) := Lib.hid ((((((BC.out.set_ 1 (.int .i64 n.k)).set_ 2 (.int .i64 n.t)).set_ 3 (.int .i64 n.r)).set_ 4 (.string ⟨n.l.toArray⟩)).set_ 5 (.int .i64 n.v)).set_ 6 (.slice Ak n.kids.len ck))
        have BK := Lib.hid ((((((BK.out.far (p := ⟨w.heap.size + 1, 1, none⟩) (by dsimp only; omega) (.int .i64 n.k)).far (p := ⟨w.heap.size + 1, 2, none⟩) (by dsimp only; omega) (.int .i64 n.t)).far (p := ⟨w.heap.size + 1, 3, none⟩) (by dsimp only; omega) (.int .i64 n.r)).far (p := ⟨w.heap.size + 1, 4, none⟩) (by dsimp only; omega) (.string ⟨n.l.toArray⟩)).far (p := ⟨w.heap.size + 1, 5, none⟩) (by dsimp only; omega) (.int .i64 n.v)).far (p := ⟨w.heap.size + 1, 6, none⟩) (by dsimp only; omega) (.slice Ak n.kids.len ck))
        clear x1 x2 x3 x4 x5 x6 y1 y2 y3 y4 y5 y6
        cases r5 with
        | bad p =>
          go_wp2_with (go_at_call 80; refine (takeP HD.out [41] (by decide)).mono ?_; rw [hL4, HR5.out]; rintro e w5 ⟨rfl, ho5⟩)
          refine panic_end rfl ?_
          show Pst g a s A cap all k w (CV w) ((pTake s.size [40] L1).go _) _ _
          rw [HR2.out]
          show Pst g a s A cap all k w (CV w) ((pOr s.size a (N + 1) L2).go _) _ _
          rw [HR4.out]
          show Pst g a s A cap all k w (CV w) ((pTake s.size [41] L4).go _) _ _
          rw [HR5.out]
          exact Pst.bad_of (HO.out.trans ho5)
        | ok _u L5 =>
          go_wp2_with (go_at_call 80; refine (takeP HD.out [41] (by decide)).mono ?_; rw [hL4, HR5.out]; rintro e w5 ⟨v5, k5, rfl, rfl, hrd5, hL5, hk5, ho5⟩; have HD := Lib.hid hrd5; have BK := Lib.hid (BK.out.only ho5 (by omega)); have BC := Lib.hid (BC.out.only ho5 (by omega)); have HO := Lib.hid (HO.out.trans ho5))
          have q2 := HD.out.c2
          have q3 := HD.out.c3
          have hkb5 := HD.out.le
          by_cases hend : k5 < all.length
          · have e := List.getElem?_eq_getElem hend
            have hE5 : pEnd L5 = .bad (ps s.size L5) := by
              rw [← hL5, List.drop_eq_getElem_cons hend]; rfl
            have HE5 := Lib.hid hE5
            clear e hE5
            go_quiet (fail)
            have HD2 := Lib.hid (HD.out.drewN nq)
            go_wp2_with (go_at_call 82; refine (failP HD2.out).mono ?_; rintro e w9 ⟨rfl, hb9⟩)
            refine panic_end rfl ?_
            show Pst g a s A cap all k w (CV w) ((pTake s.size [40] L1).go _) _ _
            rw [HR2.out]
            show Pst g a s A cap all k w (CV w) ((pOr s.size a (N + 1) L2).go _) _ _
            rw [HR4.out]
            show Pst g a s A cap all k w (CV w) ((pTake s.size [41] L4).go _) _ _
            rw [HR5.out]
            show Pst g a s A cap all k w (CV w) ((pEnd L5).go _) _ _
            rw [HE5.out]
            exact Pst.bad_of ((only_drewN HO.out _).trans (Only.of_below hb9))
          · have hL5' : L5 = [] := by rw [← hL5]; exact List.drop_of_length_le (by omega)
            subst hL5'
            have z0 := BC.out.cell 0
            have z1 := BC.out.cell 1
            have z2 := BC.out.cell 2
            have z3 := BC.out.cell 3
            have z4 := BC.out.cell 4
            have z5 := BC.out.cell 5
            have z6 := BC.out.cell 6
            have b0 := BK.out.cell 0
            have b1 := BK.out.cell 1
            have b2 := BK.out.cell 2
            have b3 := BK.out.cell 3
            have b4 := BK.out.cell 4
            have b5 := BK.out.cell 5
            have b6 := BK.out.cell 6
            have g0 := BK.out.frozen 0
            have g1 := BK.out.frozen 1
            have g2 := BK.out.frozen 2
            have g3 := BK.out.frozen 3
            have g4 := BK.out.frozen 4
            have g5 := BK.out.frozen 5
            have g6 := BK.out.frozen 6
            go_quiet (fail)
            go_wp2_with fail
            refine bodyPost_ret (v := condV 1 n.k n.t n.r n.l n.v (.slice Ak n.kids.len ck)) (by simp [results, Tryz.results45, go_sem, b0, b1, b2, b3, b4, b5, b6]) rfl ?_
            show Pst g a s A cap all k w (CV w) ((pTake s.size [40] L1).go _) _ _
            rw [HR2.out]
            show Pst g a s A cap all k w (CV w) ((pOr s.size a (N + 1) L2).go _) _ _
            rw [HR4.out]
            show Pst g a s A cap all k w (CV w) ((pTake s.size [41] L4).go _) _ _
            rw [HR5.out]
            have hs5 := ho5.size
            refine ⟨_, k5, rfl, ⟨hnl, _, rfl, ?_⟩, ?_, hL5, by omega, ?_⟩
            · have hn1 : ∀ b, w.heap.size + 1 < b → ∀ (x : World) (o : Nat) (u : Value), (x.setCell ⟨w.heap.size + 1, o, none⟩ u).heap[b]? = x.heap[b]? := fun b hb x o u => Below.heap_setCell x _ u b (by dsimp only; omega)
              have hn2 : ∀ b, w.heap.size + 1 < b → ∀ (x : World) (o : Nat) (u : Value), (x.setCell ⟨w.heap.size, o, none⟩ u).heap[b]? = x.heap[b]? := fun b hb x o u => Below.heap_setCell x _ u b (by dsimp only; omega)
              refine (HKC.out.keep fun b hb => ?_).mono fun b hb => ?_
              · have h1 : w.heap.size + 1 < b := by have := hb.1; omega
                have h2 := hb.2
                rw [hn2 b h1, hn2 b h1, hn2 b h1, hn2 b h1, hn2 b h1, hn2 b h1, hn2 b h1]
                refine (ho5.block b (by simp only [size_set]; exact h2) (fun e => by injection e; omega)).trans ?_
                rw [hn1 b h1, hn1 b h1, hn1 b h1, hn1 b h1, hn1 b h1, hn1 b h1]
              · have h1 := hb.1
                have h2 := hb.2
                simp at hs5 ⊢
                omega
            · (repeat (first | (with_reducible exact HD.out) | (with_reducible exact HD.out.next1 (by assumption)) | (with_reducible refine Rd.drewN ?_ _) | (with_reducible refine Rd.drew ?_) | (with_reducible refine Rd.alloc ?_ _) | (with_reducible refine Rd.new H0.out ?_ ?_ _; rotate_left; (show _ ≤ _; dsimp only; omega))))
            · (repeat (first | (with_reducible exact HO.out) | (with_reducible refine Only.set ?_ _ _) | (with_reducible refine only_drewN ?_ _) | (with_reducible refine only_drew ?_) | (with_reducible refine Only.alloc ?_ _) | (with_reducible refine only_setCell ?_ ?_ _; rotate_left; exact .inr (by dsimp only; omega))))
end
end Go.Proofs.YtmlnibjnacfanaaGreatDoor
