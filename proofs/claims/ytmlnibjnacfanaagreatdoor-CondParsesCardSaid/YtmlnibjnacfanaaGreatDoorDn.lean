/- Layer 8: the program's reader: and, or, not. Layer 8: the program's reader: what a whole condition is. -/
import Derived.Test.YtmlnibjnacfanaaGreatDoorDk
namespace Go.Proofs.YtmlnibjnacfanaaGreatDoor
open Go.RowKit

theorem KidC.sets {x : World} {S : Nat → Prop} {kv : Value} {f : Fr} {B : Nat} (h : KidC x S kv f) (hS : ∀ b, S b → b ≠ B) (u0 u1 u2 u3 u4 u5 : Value) :
    KidC ((((((x.setCell ⟨B, 0, none⟩ u0).setCell ⟨B, 1, none⟩ u1).setCell ⟨B, 2, none⟩ u2).setCell ⟨B, 3, none⟩ u3).setCell ⟨B, 4, none⟩ u4).setCell ⟨B, 5, none⟩ u5) S kv f := by
  refine h.keep fun b hb => ?_
  have hn : ∀ (x : World) (o : Nat) (u : Value), (x.setCell ⟨B, o, none⟩ u).heap[b]? = x.heap[b]? := fun x o u => Below.heap_setCell x _ u b (hS b hb)
  rw [hn, hn, hn, hn, hn, hn]
section
variable {w : World} {g : Nat} {a : Int} {s : ByteArray} {A : Option Addr} {cap : Nat} {all : List Tok} {k : Nat}
set_option maxHeartbeats 2000000 in
set_option maxRecDepth 100000 in
theorem andP {N : Nat} {one : List Tok → Rs Nd} (hone : OneP 121 one g a s A cap all N) : OneP 111 (rowN 4 [47, 92] one N) g a s A cap all N := by
  intro w k h hE hg hN
  obtain ⟨r, hr⟩ : ∃ r, rowN 4 [47, 92] one N (all.drop k) = r := ⟨_, rfl⟩
  rw [hr]
  have HR := Lib.hid hr
  have HON := Lib.hid hone
  clear hr hone
  have hlt := h.lt
  have H0 := Lib.hid h
  have BK := Lib.hid (Blk.new w 26 #[.int .i64 0, .int .i64 0, .int .i64 0, .string ⟨#[]⟩, .int .i64 0, .slice none 0 0])
  have HD := Lib.hid (h.alloc (.cells #[.int .i64 0, .int .i64 0, .int .i64 0, .string ⟨#[]⟩, .int .i64 0, .slice none 0 0] 26 (0, 0)))
  have HE := Lib.hid (hE.mono (alloc_b w (.cells #[.int .i64 0, .int .i64 0, .int .i64 0, .string ⟨#[]⟩, .int .i64 0, .slice none 0 0] 26 (0, 0))))
  have HO := Lib.hid ((Only.refl g w).alloc (.cells #[.int .i64 0, .int .i64 0, .int .i64 0, .string ⟨#[]⟩, .int .i64 0, .slice none 0 0] 26 (0, 0)))
  have hk2 := h.len
  have hk3 := h.le
  have q3 := HD.out.c3
  have qf := HD.out.blk.frozen 3
  clear h hE
  cases r with
  | bad p =>
    go_enter Tryz.func111, Tryz.ntmps111
    go_wp2_with (go_at_call 110; refine (rowP_not 4 [47, 92] (by decide) HON.out HD.out HE.out hg hN).mono ?_; rw [HR.out]; rintro e w2 ⟨rfl, ho⟩)
    exact panic_end rfl (Pst.bad_of (HO.out.trans ho))
  | ok n L =>
    go_enter Tryz.func111, Tryz.ntmps111
    go_wp2_with (go_at_call 110; refine (rowP_not 4 [47, 92] (by decide) HON.out HD.out HE.out hg hN).mono ?_; rw [HR.out]; rintro e w2 ⟨v, k1, rfl, ⟨hnl, kv, rfl, hkc⟩, hrd, hL, hk, ho⟩; obtain ⟨Ak, ck, rfl⟩ := hkc.shape; have HKC := Lib.hid hkc; have HD := Lib.hid hrd; have HO := Lib.hid (HO.out.trans ho); have BK := Lib.hid (BK.out.only ho (by omega)); have b0 := BK.out.cell 0; have b1 := BK.out.cell 1; have b2 := BK.out.cell 2; have b3 := BK.out.cell 3; have b4 := BK.out.cell 4; have b5 := BK.out.cell 5; have g0 := BK.out.frozen 0; have g1 := BK.out.frozen 1; have g2 := BK.out.frozen 2; have g3 := BK.out.frozen 3; have g4 := BK.out.frozen 4; have g5 := BK.out.frozen 5; have hs2 := ho.size; clear hkc)
    refine bodyPost_ret (v := nodeV n.k n.t n.r n.l n.v (.slice Ak n.kids.len ck)) (by simp [results, Tryz.results111, go_sem, b0, b1, b2, b3, b4, b5]) rfl ?_
    refine ⟨_, k1, rfl, ⟨hnl, _, rfl, ((HKC.out.sets (B := w.heap.size) (fun b hb => by have := hb.1; simp at this; omega) _ _ _ _ _ _).mono fun b hb => ?_)⟩, ?_, hL, hk, ?_⟩
    · have h1 := hb.1
      have h2 := hb.2
      simp at h1 h2 ⊢
      omega
    · (repeat (first | (with_reducible exact HD.out) | (with_reducible exact HD.out.next1 (by assumption)) | (with_reducible refine Rd.drewN ?_ _) | (with_reducible refine Rd.drew ?_) | (with_reducible refine Rd.alloc ?_ _) | (with_reducible refine Rd.new H0.out ?_ ?_ _; rotate_left; (show _ ≤ _; dsimp only; omega))))
    · (repeat (first | (with_reducible exact HO.out) | (with_reducible refine Only.set ?_ _ _) | (with_reducible refine only_drewN ?_ _) | (with_reducible refine only_drew ?_) | (with_reducible refine Only.alloc ?_ _) | (with_reducible refine only_setCell ?_ ?_ _; rotate_left; exact .inr (by dsimp only; omega))))
set_option maxHeartbeats 2000000 in
set_option maxRecDepth 100000 in
theorem orP {N : Nat} {one : List Tok → Rs Nd} (hone : OneP 111 one g a s A cap all N) : OneP 81 (rowN 5 [92, 47] one N) g a s A cap all N := by
  intro w k h hE hg hN
  obtain ⟨r, hr⟩ : ∃ r, rowN 5 [92, 47] one N (all.drop k) = r := ⟨_, rfl⟩
  rw [hr]
  have HR := Lib.hid hr
  have HON := Lib.hid hone
  clear hr hone
  have hlt := h.lt
  have H0 := Lib.hid h
  have BK := Lib.hid (Blk.new w 26 #[.int .i64 0, .int .i64 0, .int .i64 0, .string ⟨#[]⟩, .int .i64 0, .slice none 0 0])
  have HD := Lib.hid (h.alloc (.cells #[.int .i64 0, .int .i64 0, .int .i64 0, .string ⟨#[]⟩, .int .i64 0, .slice none 0 0] 26 (0, 0)))
  have HE := Lib.hid (hE.mono (alloc_b w (.cells #[.int .i64 0, .int .i64 0, .int .i64 0, .string ⟨#[]⟩, .int .i64 0, .slice none 0 0] 26 (0, 0))))
  have HO := Lib.hid ((Only.refl g w).alloc (.cells #[.int .i64 0, .int .i64 0, .int .i64 0, .string ⟨#[]⟩, .int .i64 0, .slice none 0 0] 26 (0, 0)))
  have hk2 := h.len
  have hk3 := h.le
  have q3 := HD.out.c3
  have qf := HD.out.blk.frozen 3
  clear h hE
  cases r with
  | bad p =>
    go_enter Tryz.func81, Tryz.ntmps81
    go_wp2_with (go_at_call 110; refine (rowP_and 5 [92, 47] (by decide) HON.out HD.out HE.out hg hN).mono ?_; rw [HR.out]; rintro e w2 ⟨rfl, ho⟩)
    exact panic_end rfl (Pst.bad_of (HO.out.trans ho))
  | ok n L =>
    go_enter Tryz.func81, Tryz.ntmps81
    go_wp2_with (go_at_call 110; refine (rowP_and 5 [92, 47] (by decide) HON.out HD.out HE.out hg hN).mono ?_; rw [HR.out]; rintro e w2 ⟨v, k1, rfl, ⟨hnl, kv, rfl, hkc⟩, hrd, hL, hk, ho⟩; obtain ⟨Ak, ck, rfl⟩ := hkc.shape; have HKC := Lib.hid hkc; have HD := Lib.hid hrd; have HO := Lib.hid (HO.out.trans ho); have BK := Lib.hid (BK.out.only ho (by omega)); have b0 := BK.out.cell 0; have b1 := BK.out.cell 1; have b2 := BK.out.cell 2; have b3 := BK.out.cell 3; have b4 := BK.out.cell 4; have b5 := BK.out.cell 5; have g0 := BK.out.frozen 0; have g1 := BK.out.frozen 1; have g2 := BK.out.frozen 2; have g3 := BK.out.frozen 3; have g4 := BK.out.frozen 4; have g5 := BK.out.frozen 5; have hs2 := ho.size; clear hkc)
    refine bodyPost_ret (v := nodeV n.k n.t n.r n.l n.v (.slice Ak n.kids.len ck)) (by simp [results, Tryz.results81, go_sem, b0, b1, b2, b3, b4, b5]) rfl ?_
    refine ⟨_, k1, rfl, ⟨hnl, _, rfl, ((HKC.out.sets (B := w.heap.size) (fun b hb => by have := hb.1; simp at this; omega) _ _ _ _ _ _).mono fun b hb => ?_)⟩, ?_, hL, hk, ?_⟩
    · have h1 := hb.1
      have h2 := hb.2
      simp at h1 h2 ⊢
      omega
    · (repeat (first | (with_reducible exact HD.out) | (with_reducible exact HD.out.next1 (by assumption)) | (with_reducible refine Rd.drewN ?_ _) | (with_reducible refine Rd.drew ?_) | (with_reducible refine Rd.alloc ?_ _) | (with_reducible refine Rd.new H0.out ?_ ?_ _; rotate_left; (show _ ≤ _; dsimp only; omega))))
    · (repeat (first | (with_reducible exact HO.out) | (with_reducible refine Only.set ?_ _ _) | (with_reducible refine only_drewN ?_ _) | (with_reducible refine only_drew ?_) | (with_reducible refine Only.alloc ?_ _) | (with_reducible refine only_setCell ?_ ?_ _; rotate_left; exact .inr (by dsimp only; omega))))
set_option maxHeartbeats 2000000 in
set_option maxRecDepth 100000 in
theorem notP_neg {f : Nat} (hone : OneP 121 (pNot s.size a f) g a s A cap all f) (h : Rd w g a s A cap all k) (hE : Env w) (hg : 6 ≤ g) (hN : all.length - k < f + 1) (hb1 : hd (all.drop k) = [126]) :
    Calls Tryz.prog 121 #[.pointer (some ⟨g, 0, none⟩)] w (Pst g a s A cap all k w (NV w) (pNot s.size a (f + 1) (all.drop k))) := by
  have hkl : k < all.length := h.hd_ne (by rw [hb1]; simp)
  have hR : pNot s.size a (f + 1) (all.drop k) = (pNot s.size a f (all.drop (k + 1))).go fun n L => .ok ⟨3, 0, 0, [], 0, n.on .nil⟩ L := by simp [pNot, hb1]
  have HT := Lib.hid hb1
  obtain ⟨r, hr⟩ : ∃ r, pNot s.size a f (all.drop (k + 1)) = r := ⟨_, rfl⟩
  have HR := Lib.hid hr
  have HON := Lib.hid hone
  rw [hR, hr]
  clear hR hr hb1 hone
  have hlt := h.lt
  have H0 := Lib.hid h
  have BK := Lib.hid (Blk.new w 26 #[.int .i64 0, .int .i64 0, .int .i64 0, .string ⟨#[]⟩, .int .i64 0, .slice none 0 0])
  have HD := Lib.hid (h.alloc (.cells #[.int .i64 0, .int .i64 0, .int .i64 0, .string ⟨#[]⟩, .int .i64 0, .slice none 0 0] 26 (0, 0)))
  have HE := Lib.hid (hE.mono (alloc_b w (.cells #[.int .i64 0, .int .i64 0, .int .i64 0, .string ⟨#[]⟩, .int .i64 0, .slice none 0 0] 26 (0, 0))))
  have HO := Lib.hid ((Only.refl g w).alloc (.cells #[.int .i64 0, .int .i64 0, .int .i64 0, .string ⟨#[]⟩, .int .i64 0, .slice none 0 0] 26 (0, 0)))
  have hk2 := h.len
  have hk3 := h.le
  have q3 := HD.out.c3
  have qf := HD.out.blk.frozen 3
  clear h hE
  cases r with
  | bad p =>
    simp only [Rs.go_bad]
    go_enter Tryz.func121, Tryz.ntmps121
    go_wp2_with (first | (go_at_call 79; (with_reducible refine (peek0P HD.out).mono ?_); rw [HT.out]; rintro e w1 ⟨rfl, n, rfl⟩; have HE := Lib.hid (HE.out.mono (below_drewN (Below.refl _ _) n)); have HO := Lib.hid (only_drewN HO.out n); have HD := Lib.hid (HD.out.drewN n); have BK := Lib.hid (Blk.drewN BK.out n)) | (go_at_call 121; have HE := Lib.hid (HE.out.only (Only.set (Only.refl g _) 3 (.int .i64 ((k : Int) + 1))) hg); have HO := Lib.hid (Only.set HO.out 3 (.int .i64 ((k : Int) + 1))); have BK := Lib.hid (BK.out.far (p := ⟨g, 3, none⟩) (by dsimp only; omega) (.int .i64 ((k : Int) + 1))); have HD := Lib.hid (HD.out.next1 hkl); have hzW := BK.out.lt; refine (HON.out _ (k + 1) HD.out HE.out hg (by omega)).mono ?_; rw [HR.out]; rintro e w2 ⟨rfl, ho⟩))
    exact panic_end rfl (Pst.bad_of (HO.out.trans ho))
  | ok m L =>
    simp only [Rs.go_ok]
    go_enter Tryz.func121, Tryz.ntmps121
    go_wp2_with (first | (go_at_call 79; (with_reducible refine (peek0P HD.out).mono ?_); rw [HT.out]; rintro e w1 ⟨rfl, n, rfl⟩; have HE := Lib.hid (HE.out.mono (below_drewN (Below.refl _ _) n)); have HO := Lib.hid (only_drewN HO.out n); have HD := Lib.hid (HD.out.drewN n); have BK := Lib.hid (Blk.drewN BK.out n)) | (go_at_call 121; have HE := Lib.hid (HE.out.only (Only.set (Only.refl g _) 3 (.int .i64 ((k : Int) + 1))) hg); have HO := Lib.hid (Only.set HO.out 3 (.int .i64 ((k : Int) + 1))); have BK := Lib.hid (BK.out.far (p := ⟨g, 3, none⟩) (by dsimp only; omega) (.int .i64 ((k : Int) + 1))); have HD := Lib.hid (HD.out.next1 hkl); have hzW := BK.out.lt; refine (HON.out _ (k + 1) HD.out HE.out hg (by omega)).mono ?_; rw [HR.out]; rintro e w2 ⟨v, k1, rfl, ⟨hnl, kv, rfl, hkc⟩, hrd, hL, hk, ho⟩; obtain ⟨Ak, ck, rfl⟩ := hkc.shape; have HKC := Lib.hid hkc; have HD := Lib.hid hrd; have HO := Lib.hid (HO.out.trans ho); have BK := Lib.hid ((BK.out.only ho (by omega)).alloc (.cells #[.int .i64 m.k, .int .i64 m.t, .int .i64 m.r, .string ⟨m.l.toArray⟩, .int .i64 m.v, .slice Ak m.kids.len ck] 26 (0, 0))); have b0 := BK.out.cell 0; have b1 := BK.out.cell 1; have b2 := BK.out.cell 2; have b3 := BK.out.cell 3; have b4 := BK.out.cell 4; have b5 := BK.out.cell 5; have g0 := BK.out.frozen 0; have g1 := BK.out.frozen 1; have g2 := BK.out.frozen 2; have g3 := BK.out.frozen 3; have g4 := BK.out.frozen 4; have g5 := BK.out.frozen 5; have hs2 := ho.size; have hz2 := BK.out.lt; clear hkc q3 qf))
    refine bodyPost_ret (v := nodeV 3 0 0 [] 0 (.slice (some ⟨w2.heap.size, 0, none⟩) 1 1)) (by simp [results, Tryz.results121, go_sem, b0, b1, b2, b3, b4, b5]) rfl ?_
    refine ⟨_, k1, rfl, ⟨by simp, _, rfl, ?_⟩, ?_, hL, by omega, ?_⟩
    · have h1 : KidC (w2.alloc (.cells #[.int .i64 m.k, .int .i64 m.t, .int .i64 m.r, .string ⟨m.l.toArray⟩, .int .i64 m.v, .slice Ak m.kids.len ck] 26 (0, 0))) (fun b => w.heap.size < b ∧ b ≤ w2.heap.size) (.slice (some ⟨w2.heap.size, 0, none⟩) 1 1) (m.on .nil) := by
        refine ⟨nodeCs m (.slice Ak m.kids.len ck), World.ownsRow_lit w2 (nodeCs m (.slice Ak m.kids.len ck)).toArray 1 (Nat.zero_le _) (by decide) rfl, by simp [Nd.on, Fr.len], fun b hb => ?_, FrC.snoc hnl ((HKC.out.keep (fun b hb => Below.heap_alloc _ _ _ hb.2)).mono fun b hb => ?_) [] [] rfl⟩
        · simp only [Value.ownBlock, Option.some.injEq] at hb
          simp at hs2
          exact ⟨by omega, by omega⟩
        · have h1 := hb.1
          have h2 := hb.2
          simp at h1
          exact ⟨by omega, by omega⟩
      refine ((h1.sets (B := w.heap.size) (fun b hb => by have := hb.1; omega) _ _ _ _ _ _).mono fun b hb => ?_)
      have h2 := hb.1
      have h3 := hb.2
      simp
      omega
    · (repeat (first | (with_reducible exact HD.out) | (with_reducible exact HD.out.next1 (by assumption)) | (with_reducible refine Rd.drewN ?_ _) | (with_reducible refine Rd.drew ?_) | (with_reducible refine Rd.alloc ?_ _) | (with_reducible refine Rd.new H0.out ?_ ?_ _; rotate_left; (show _ ≤ _; dsimp only; omega))))
    · (repeat (first | (with_reducible exact HO.out) | (with_reducible refine Only.set ?_ _ _) | (with_reducible refine only_drewN ?_ _) | (with_reducible refine only_drew ?_) | (with_reducible refine Only.alloc ?_ _) | (with_reducible refine only_setCell ?_ ?_ _; rotate_left; exact .inr (by dsimp only; omega))))
set_option maxHeartbeats 2000000 in
set_option maxRecDepth 100000 in
theorem notP_br {f : Nat} (hone : OneP 81 (rowN 5 [92, 47] (rowN 4 [47, 92] (pNot s.size a f) f) f) g a s A cap all f) (h : Rd w g a s A cap all k) (hE : Env w) (hg : 6 ≤ g) (hN : all.length - k < f + 1) (hb1 : hd (all.drop k) = [40]) :
    Calls Tryz.prog 121 #[.pointer (some ⟨g, 0, none⟩)] w (Pst g a s A cap all k w (NV w) (pNot s.size a (f + 1) (all.drop k))) := by
  have hkl : k < all.length := h.hd_ne (by rw [hb1]; simp)
  have hR : pNot s.size a (f + 1) (all.drop k) = (rowN 5 [92, 47] (rowN 4 [47, 92] (pNot s.size a f) f) f (all.drop (k + 1))).go fun n L' => (pTake s.size [41] L').go fun _ L'' => .ok n L'' := by simp [pNot, hb1]
  have HT := Lib.hid hb1
  obtain ⟨r, hr⟩ : ∃ r, rowN 5 [92, 47] (rowN 4 [47, 92] (pNot s.size a f) f) f (all.drop (k + 1)) = r := ⟨_, rfl⟩
  have HR := Lib.hid hr
  have HON := Lib.hid hone
  rw [hR, hr]
  clear hR hr hb1 hone
  cases r with
  | bad p =>
    simp only [Rs.go_bad]
    have hlt := h.lt
    have H0 := Lib.hid h
    have BK := Lib.hid (Blk.new w 26 #[.int .i64 0, .int .i64 0, .int .i64 0, .string ⟨#[]⟩, .int .i64 0, .slice none 0 0])
    have HD := Lib.hid (h.alloc (.cells #[.int .i64 0, .int .i64 0, .int .i64 0, .string ⟨#[]⟩, .int .i64 0, .slice none 0 0] 26 (0, 0)))
    have HE := Lib.hid (hE.mono (alloc_b w (.cells #[.int .i64 0, .int .i64 0, .int .i64 0, .string ⟨#[]⟩, .int .i64 0, .slice none 0 0] 26 (0, 0))))
    have HO := Lib.hid ((Only.refl g w).alloc (.cells #[.int .i64 0, .int .i64 0, .int .i64 0, .string ⟨#[]⟩, .int .i64 0, .slice none 0 0] 26 (0, 0)))
    have hk2 := h.len
    have hk3 := h.le
    have q3 := HD.out.c3
    have qf := HD.out.blk.frozen 3
    clear h hE
    go_enter Tryz.func121, Tryz.ntmps121
    go_wp2_with (first | (go_at_call 79; (with_reducible refine (peek0B HD.out).mono ?_); rw [HT.out]; rintro e w1 ⟨rfl, hb⟩; have HE := Lib.hid (HE.out.mono hb); have HO := Lib.hid (HO.out.trans (Only.of_below hb)); have HD := Lib.hid (HD.out.below hb); have q3 := HD.out.c3; have qf := HD.out.blk.frozen 3; have BK := Lib.hid (BK.out.go hb); have hsz := hb.size) | (go_at_call 81; (have HE := Lib.hid (HE.out.only (Only.set (Only.refl g _) 3 (.int .i64 ((k : Int) + 1))) hg); have HO := Lib.hid (Only.set HO.out 3 (.int .i64 ((k : Int) + 1))); have BK := Lib.hid (BK.out.far (p := ⟨g, 3, none⟩) (by dsimp only; omega) (.int .i64 ((k : Int) + 1))); have HD := Lib.hid (HD.out.next1 hkl); have hzW := BK.out.lt; refine (HON.out _ (k + 1) HD.out HE.out hg (by omega)).mono ?_; rw [HR.out]; rintro e w2 ⟨rfl, ho⟩)))
    exact panic_end rfl (Pst.bad_of (HO.out.trans ho))
  | ok m L =>
    simp only [Rs.go_ok]
    obtain ⟨r2, hr2⟩ : ∃ r, pTake s.size [41] L = r := ⟨_, rfl⟩
    have HR2 := Lib.hid hr2
    rw [hr2]
    clear hr2
    have hlt := h.lt
    have H0 := Lib.hid h
    have BK := Lib.hid (Blk.new w 26 #[.int .i64 0, .int .i64 0, .int .i64 0, .string ⟨#[]⟩, .int .i64 0, .slice none 0 0])
    have HD := Lib.hid (h.alloc (.cells #[.int .i64 0, .int .i64 0, .int .i64 0, .string ⟨#[]⟩, .int .i64 0, .slice none 0 0] 26 (0, 0)))
    have HE := Lib.hid (hE.mono (alloc_b w (.cells #[.int .i64 0, .int .i64 0, .int .i64 0, .string ⟨#[]⟩, .int .i64 0, .slice none 0 0] 26 (0, 0))))
    have HO := Lib.hid ((Only.refl g w).alloc (.cells #[.int .i64 0, .int .i64 0, .int .i64 0, .string ⟨#[]⟩, .int .i64 0, .slice none 0 0] 26 (0, 0)))
    have hk2 := h.len
    have hk3 := h.le
    have q3 := HD.out.c3
    have qf := HD.out.blk.frozen 3
    clear h hE
    go_enter Tryz.func121, Tryz.ntmps121
    go_wp2_with (first | (go_at_call 79; (with_reducible refine (peek0B HD.out).mono ?_); rw [HT.out]; rintro e w1 ⟨rfl, hb⟩; have HE := Lib.hid (HE.out.mono hb); have HO := Lib.hid (HO.out.trans (Only.of_below hb)); have HD := Lib.hid (HD.out.below hb); have q3 := HD.out.c3; have qf := HD.out.blk.frozen 3; have BK := Lib.hid (BK.out.go hb); have hsz := hb.size) | (go_at_call 81; have HE := Lib.hid (HE.out.only (Only.set (Only.refl g _) 3 (.int .i64 ((k : Int) + 1))) hg); have HO := Lib.hid (Only.set HO.out 3 (.int .i64 ((k : Int) + 1))); have BK := Lib.hid (BK.out.far (p := ⟨g, 3, none⟩) (by dsimp only; omega) (.int .i64 ((k : Int) + 1))); have HD := Lib.hid (HD.out.next1 hkl); have hzW := BK.out.lt; refine (HON.out _ (k + 1) HD.out HE.out hg (by omega)).mono ?_; rw [HR.out]; rintro e w2 ⟨v, k1, rfl, ⟨hnl, kv, rfl, hkc⟩, hrd, hL, hk, ho⟩; obtain ⟨Ak, ck, rfl⟩ := hkc.shape; have HKC := Lib.hid hkc; have HD := Lib.hid (hrd.alloc (.cells #[.int .i64 m.k, .int .i64 m.t, .int .i64 m.r, .string ⟨m.l.toArray⟩, .int .i64 m.v, .slice Ak m.kids.len ck] 26 (0, 0))); have HO := Lib.hid (Only.alloc (HO.out.trans ho) (.cells #[.int .i64 m.k, .int .i64 m.t, .int .i64 m.r, .string ⟨m.l.toArray⟩, .int .i64 m.v, .slice Ak m.kids.len ck] 26 (0, 0))); have BK := Lib.hid ((BK.out.only ho (by omega)).alloc (.cells #[.int .i64 m.k, .int .i64 m.t, .int .i64 m.r, .string ⟨m.l.toArray⟩, .int .i64 m.v, .slice Ak m.kids.len ck] 26 (0, 0))); have hs2 := ho.size; have hz2 := BK.out.lt; have BX := Lib.hid (Blk.new w2 26 #[.int .i64 m.k, .int .i64 m.t, .int .i64 m.r, .string ⟨m.l.toArray⟩, .int .i64 m.v, .slice Ak m.kids.len ck]); clear hkc q3 qf hrd))
    simp only [World.size_alloc] at hz2
    cases r2 with
    | bad p =>
      go_wp2_with (go_at_call 80; refine (takeP HD.out [41] (by decide)).mono ?_; rw [hL, HR2.out]; rintro e w3 ⟨rfl, ho3⟩)
      exact panic_end rfl (Pst.bad_of (HO.out.trans ho3))
    | ok _u L2 =>
      go_wp2_with (go_at_call 80; refine (takeP HD.out [41] (by decide)).mono ?_; rw [hL, HR2.out]; rintro e w3 ⟨v3, k2, rfl, rfl, hrd3, hL3, hk3', ho3⟩; have HD := Lib.hid hrd3; have HO := Lib.hid (HO.out.trans ho3); have BX := Lib.hid (BX.out.only ho3 (by simp at hs2; omega)); have BK := Lib.hid (BK.out.only ho3 (by omega)); have b0 := BK.out.cell 0; have b1 := BK.out.cell 1; have b2 := BK.out.cell 2; have b3 := BK.out.cell 3; have b4 := BK.out.cell 4; have b5 := BK.out.cell 5; have g0 := BK.out.frozen 0; have g1 := BK.out.frozen 1; have g2 := BK.out.frozen 2; have g3 := BK.out.frozen 3; have g4 := BK.out.frozen 4; have g5 := BK.out.frozen 5; have x0 := BX.out.cell 0; have x1 := BX.out.cell 1; have x2 := BX.out.cell 2; have x3 := BX.out.cell 3; have x4 := BX.out.cell 4; have x5 := BX.out.cell 5)
      refine bodyPost_ret (v := nodeV m.k m.t m.r m.l m.v (.slice Ak m.kids.len ck)) (by simp [results, Tryz.results121, go_sem, b0, b1, b2, b3, b4, b5]) rfl ?_
      have hs3 := ho3.size
      simp at hs2 hs3
      refine ⟨_, k2, rfl, ⟨hnl, _, rfl, ?_⟩, ?_, hL3, by omega, ?_⟩
      · have h1 : KidC w3 (fun b => w.heap.size < b ∧ b < w2.heap.size) (.slice Ak m.kids.len ck) m.kids := by
          refine (HKC.out.keep fun b hb => ?_).mono fun b hb => ?_
          · have h1 := hb.1
            have h2 := hb.2
            simp at h1 hzW
            exact (ho3.block b (by simp; omega) (fun e => by injection e; omega)).trans (Below.heap_alloc _ _ _ h2)
          · have h1 := hb.1
            have h2 := hb.2
            simp at h1 hzW
            exact ⟨by omega, h2⟩
        refine ((h1.sets (B := w.heap.size) (fun b hb => by have := hb.1; omega) _ _ _ _ _ _).mono fun b hb => ?_)
        have h2 := hb.1
        have h3 := hb.2
        simp
        omega
      · (repeat (first | (with_reducible exact HD.out) | (with_reducible exact HD.out.next1 (by assumption)) | (with_reducible refine Rd.drewN ?_ _) | (with_reducible refine Rd.drew ?_) | (with_reducible refine Rd.alloc ?_ _) | (with_reducible refine Rd.new H0.out ?_ ?_ _; rotate_left; (show _ ≤ _; dsimp only; omega))))
      · (repeat (first | (with_reducible exact HO.out) | (with_reducible refine Only.set ?_ _ _) | (with_reducible refine only_drewN ?_ _) | (with_reducible refine only_drew ?_) | (with_reducible refine Only.alloc ?_ _) | (with_reducible refine only_setCell ?_ ?_ _; rotate_left; exact .inr (by dsimp only; omega))))
set_option maxHeartbeats 2000000 in
set_option maxRecDepth 100000 in
theorem notP_true {f : Nat} (h : Rd w g a s A cap all k) (hE : Env w) (_hg : 6 ≤ g) (hb1 : hd (all.drop k) = [116, 114, 117, 101]) (hb2 : hd (all.drop (k + 1)) ≠ [61]) :
    Calls Tryz.prog 121 #[.pointer (some ⟨g, 0, none⟩)] w (Pst g a s A cap all k w (NV w) (pNot s.size a (f + 1) (all.drop k))) := by
  have hkl : k < all.length := h.hd_ne (by rw [hb1]; simp)
  have hR : pNot s.size a (f + 1) (all.drop k) = .ok ⟨1, 0, 0, [], 0, .nil⟩ (all.drop (k + 1)) := by simp [pNot, hb1, hb2]
  have HT := Lib.hid hb1
  obtain ⟨u, hu⟩ : ∃ u, hd (all.drop (k + 1)) = u := ⟨_, rfl⟩
  rw [hu] at hb2
  have hq : (u == [61]) = false := by simpa using hb2
  have HU := Lib.hid hu
  rw [hR]
  clear hR hb1 hb2 hu
  have hlt := h.lt
  have H0 := Lib.hid h
  have BK := Lib.hid (Blk.new w 26 #[.int .i64 0, .int .i64 0, .int .i64 0, .string ⟨#[]⟩, .int .i64 0, .slice none 0 0])
  have HD := Lib.hid (h.alloc (.cells #[.int .i64 0, .int .i64 0, .int .i64 0, .string ⟨#[]⟩, .int .i64 0, .slice none 0 0] 26 (0, 0)))
  have HE := Lib.hid (hE.mono (alloc_b w (.cells #[.int .i64 0, .int .i64 0, .int .i64 0, .string ⟨#[]⟩, .int .i64 0, .slice none 0 0] 26 (0, 0))))
  have HO := Lib.hid ((Only.refl g w).alloc (.cells #[.int .i64 0, .int .i64 0, .int .i64 0, .string ⟨#[]⟩, .int .i64 0, .slice none 0 0] 26 (0, 0)))
  have hk2 := h.len
  have hk3 := h.le
  have q3 := HD.out.c3
  have qf := HD.out.blk.frozen 3
  clear h hE
  go_enter Tryz.func121, Tryz.ntmps121
  go_wp2_with (first | (go_at_call 79; (with_reducible refine (peek0B HD.out).mono ?_); rw [HT.out]; rintro e w1 ⟨rfl, hb⟩; have HE := Lib.hid (HE.out.mono hb); have HO := Lib.hid (HO.out.trans (Only.of_below hb)); have HD := Lib.hid (HD.out.below hb); have q3 := HD.out.c3; have qf := HD.out.blk.frozen 3; have BK := Lib.hid (BK.out.go hb); have hsz := hb.size) | ((go_at_call 79; (with_reducible refine (peek1B HD.out).mono ?_); rw [HU.out]; rintro e w1 ⟨rfl, hb⟩; have HE := Lib.hid (HE.out.mono hb); have HO := Lib.hid (HO.out.trans (Only.of_below hb)); have HD := Lib.hid (HD.out.below hb); have q3 := HD.out.c3; have qf := HD.out.blk.frozen 3; have BK := Lib.hid (BK.out.go hb); have hsz := hb.size); have BK2 := Lib.hid (BK.out.far (p := ⟨g, 3, none⟩) (by dsimp only; omega) (.int .i64 ((k : Int) + 1))); have b0 := BK2.out.cell 0; have b1 := BK2.out.cell 1; have b2 := BK2.out.cell 2; have b3 := BK2.out.cell 3; have b4 := BK2.out.cell 4; have b5 := BK2.out.cell 5; have g0 := BK2.out.frozen 0; have g1 := BK2.out.frozen 1; have g2 := BK2.out.frozen 2; have g3 := BK2.out.frozen 3; have g4 := BK2.out.frozen 4; have g5 := BK2.out.frozen 5))
  refine bodyPost_ret (v := nodeV 1 0 0 [] 0 (.slice none 0 0)) (by simp [results, Tryz.results121, go_sem, b0, b1, b2, b3, b4, b5]) rfl ?_
  refine ⟨_, k + 1, rfl, ⟨by simp, _, rfl, KidC.nil _ _⟩, ?_, rfl, by omega, ?_⟩
  · (repeat (first | (with_reducible exact HD.out) | (with_reducible exact HD.out.next1 (by assumption)) | (with_reducible refine Rd.drewN ?_ _) | (with_reducible refine Rd.drew ?_) | (with_reducible refine Rd.alloc ?_ _) | (with_reducible refine Rd.new H0.out ?_ ?_ _; rotate_left; (show _ ≤ _; dsimp only; omega))))
  · (repeat (first | (with_reducible exact HO.out) | (with_reducible refine Only.set ?_ _ _) | (with_reducible refine only_drewN ?_ _) | (with_reducible refine only_drew ?_) | (with_reducible refine Only.alloc ?_ _) | (with_reducible refine only_setCell ?_ ?_ _; rotate_left; exact .inr (by dsimp only; omega))))
theorem nameB_len {l : List UInt8} (h : nameB l = true) : l.length ≤ 32 := by
  cases l with
  | nil => simp
  | cons c r => simp [nameB] at h; simp; omega
theorem pLoc_len {e : Nat} {L L' : List Tok} {x : List UInt8} (h : pLoc e L = .ok x L') : x.length ≤ 32 := by
  unfold pLoc at h
  split at h
  · rename_i hn
    injection h with h1 h2
    subst h1
    exact nameB_len hn
  · cases h
theorem Rs.go_eq {α β : Type} {x : Rs α} {f : α → List Tok → Rs β} {b : β} {L : List Tok} (h : x.go f = .ok b L) : ∃ c M, x = .ok c M ∧ f c M = .ok b L := by
  cases x with
  | ok c M => exact ⟨c, M, rfl, h⟩
  | bad p => cases h
theorem pThing_len {e : Nat} {a : Int} {L L' : List Tok} {x : Int × Int × List UInt8} (h : pThing e a L = .ok x L') : x.2.2.length ≤ 32 := by
  unfold pThing at h
  split at h
  · obtain ⟨c, M, h1, h2⟩ := Rs.go_eq h
    obtain ⟨c2, M2, h3, h4⟩ := Rs.go_eq h2
    injection h4 with h5 h6
    subst h5
    exact pLoc_len h1
  · split at h
    · obtain ⟨c, M, h1, h2⟩ := Rs.go_eq h
      obtain ⟨c2, M2, h3, h4⟩ := Rs.go_eq h2
      obtain ⟨c3, M3, h5, h6⟩ := Rs.go_eq h4
      injection h6 with h7 h8
      subst h7
      simp
    · obtain ⟨c, M, h1, h2⟩ := Rs.go_eq h
      injection h2 with h5 h6
      subst h5
      exact pLoc_len h1
theorem pNot_atom {e : Nat} {f : Nat} {L : List Tok} (h1 : hd L ≠ [126]) (h2 : hd L ≠ [40]) (h3 : ¬ (hd L = [116, 114, 117, 101] ∧ hd L.tail ≠ [61])) : pNot e a (f + 1) L = pAtom e a L := by
  rw [pNot, if_neg h1, if_neg h2, if_neg h3]
set_option maxHeartbeats 2000000 in
set_option maxRecDepth 100000 in
theorem notP_atom {f : Nat} (h : Rd w g a s A cap all k) (hE : Env w) (hg : 6 ≤ g) (h1 : hd (all.drop k) ≠ [126]) (h2 : hd (all.drop k) ≠ [40]) (h3 : ¬ (hd (all.drop k) = [116, 114, 117, 101] ∧ hd (all.drop (k + 1)) ≠ [61])) :
    Calls Tryz.prog 121 #[.pointer (some ⟨g, 0, none⟩)] w (Pst g a s A cap all k w (NV w) (pNot s.size a (f + 1) (all.drop k))) := by
  rw [pNot_atom h1 h2 (by rw [tail_drop]; exact h3)]
  obtain ⟨t, ht⟩ : ∃ t, hd (all.drop k) = t := ⟨_, rfl⟩
  obtain ⟨u, hu⟩ : ∃ u, hd (all.drop (k + 1)) = u := ⟨_, rfl⟩
  rw [ht] at h1 h2 h3
  rw [hu] at h3
  have q1 : (t == [126]) = false := by simpa using h1
  have q2 : (t == [40]) = false := by simpa using h2
  have HT := Lib.hid ht
  have HU := Lib.hid hu
  have hcase : ((t == [116, 114, 117, 101]) = false) ∨ (t = [116, 114, 117, 101] ∧ u = [61]) := by
    by_cases e : t = [116, 114, 117, 101]
    · refine .inr ⟨e, ?_⟩
      by_cases e2 : u = [61]
      · exact e2
      · exact absurd ⟨e, e2⟩ h3
    · exact .inl (by simpa using e)
  obtain ⟨r1, hr1⟩ : ∃ r, pThing s.size a (all.drop k) = r := ⟨_, rfl⟩
  have HR1 := Lib.hid hr1
  rw [pAtom, hr1]
  clear h1 h2 h3 ht hu hr1
  rcases hcase with q3' | ⟨rfl, rfl⟩
  all_goals
    cases r1 with
    | bad p =>
      simp only [Rs.go_bad]
      have hlt := h.lt
      have H0 := Lib.hid h
      have BK := Lib.hid (Blk.new w 26 #[.int .i64 0, .int .i64 0, .int .i64 0, .string ⟨#[]⟩, .int .i64 0, .slice none 0 0])
      have HD := Lib.hid (h.alloc (.cells #[.int .i64 0, .int .i64 0, .int .i64 0, .string ⟨#[]⟩, .int .i64 0, .slice none 0 0] 26 (0, 0)))
      have HE := Lib.hid (hE.mono (alloc_b w (.cells #[.int .i64 0, .int .i64 0, .int .i64 0, .string ⟨#[]⟩, .int .i64 0, .slice none 0 0] 26 (0, 0))))
      have HO := Lib.hid ((Only.refl g w).alloc (.cells #[.int .i64 0, .int .i64 0, .int .i64 0, .string ⟨#[]⟩, .int .i64 0, .slice none 0 0] 26 (0, 0)))
      have hk2 := h.len
      have hk3 := h.le
      have q3 := HD.out.c3
      have qf := HD.out.blk.frozen 3
      clear h hE
      go_enter Tryz.func121, Tryz.ntmps121
      go_wp2_with (first | (go_at_call 79; (with_reducible refine (peek0B HD.out).mono ?_); rw [HT.out]; rintro e w1 ⟨rfl, hb⟩; have HE := Lib.hid (HE.out.mono hb); have HO := Lib.hid (HO.out.trans (Only.of_below hb)); have HD := Lib.hid (HD.out.below hb); have q3 := HD.out.c3; have qf := HD.out.blk.frozen 3; have BK := Lib.hid (BK.out.go hb); have hsz := hb.size) | (go_at_call 79; (with_reducible refine (peek1B HD.out).mono ?_); rw [HU.out]; rintro e w1 ⟨rfl, hb⟩; have HE := Lib.hid (HE.out.mono hb); have HO := Lib.hid (HO.out.trans (Only.of_below hb)); have HD := Lib.hid (HD.out.below hb); have q3 := HD.out.c3; have qf := HD.out.blk.frozen 3; have BK := Lib.hid (BK.out.go hb); have hsz := hb.size) | (go_at_call 138; refine (rthingP HD.out HE.out hg).mono ?_; rw [HR1.out]; rintro e w2 ⟨rfl, ho⟩))
      exact panic_end rfl (Pst.bad_of (HO.out.trans ho))
    | ok x L1 =>
      simp only [Rs.go_ok]
      obtain ⟨r2, hr2⟩ : ∃ r, pTake s.size [61] L1 = r := ⟨_, rfl⟩
      have HR2 := Lib.hid hr2
      rw [hr2]
      clear hr2
      have hlt := h.lt
      have H0 := Lib.hid h
      have BK := Lib.hid (Blk.new w 26 #[.int .i64 0, .int .i64 0, .int .i64 0, .string ⟨#[]⟩, .int .i64 0, .slice none 0 0])
      have HD := Lib.hid (h.alloc (.cells #[.int .i64 0, .int .i64 0, .int .i64 0, .string ⟨#[]⟩, .int .i64 0, .slice none 0 0] 26 (0, 0)))
      have HE := Lib.hid (hE.mono (alloc_b w (.cells #[.int .i64 0, .int .i64 0, .int .i64 0, .string ⟨#[]⟩, .int .i64 0, .slice none 0 0] 26 (0, 0))))
      have HO := Lib.hid ((Only.refl g w).alloc (.cells #[.int .i64 0, .int .i64 0, .int .i64 0, .string ⟨#[]⟩, .int .i64 0, .slice none 0 0] 26 (0, 0)))
      have hk2 := h.len
      have hk3 := h.le
      have q3 := HD.out.c3
      have qf := HD.out.blk.frozen 3
      clear h hE
      go_enter Tryz.func121, Tryz.ntmps121
      go_wp2_with (first | (go_at_call 79; (with_reducible refine (peek0B HD.out).mono ?_); rw [HT.out]; rintro e w1 ⟨rfl, hb⟩; have HE := Lib.hid (HE.out.mono hb); have HO := Lib.hid (HO.out.trans (Only.of_below hb)); have HD := Lib.hid (HD.out.below hb); have q3 := HD.out.c3; have qf := HD.out.blk.frozen 3; have BK := Lib.hid (BK.out.go hb); have hsz := hb.size) | (go_at_call 79; (with_reducible refine (peek1B HD.out).mono ?_); rw [HU.out]; rintro e w1 ⟨rfl, hb⟩; have HE := Lib.hid (HE.out.mono hb); have HO := Lib.hid (HO.out.trans (Only.of_below hb)); have HD := Lib.hid (HD.out.below hb); have q3 := HD.out.c3; have qf := HD.out.blk.frozen 3; have BK := Lib.hid (BK.out.go hb); have hsz := hb.size) | (go_at_call 138; refine (rthingP HD.out HE.out hg).mono ?_; rw [HR1.out]; rintro e w2 ⟨v, k1, rfl, rfl, hrd, hL, hk, ho⟩; have hzW := BK.out.lt; have hs2 := ho.size; have HE := Lib.hid ((HE.out.only ho hg).mono (alloc_b w2 (.cells #[.int .i64 2, .int .i64 x.1, .int .i64 x.2.1, .string ⟨x.2.2.toArray⟩, .int .i64 0, .slice none 0 0] 26 (0, 0)))); have HD := Lib.hid (hrd.alloc (.cells #[.int .i64 2, .int .i64 x.1, .int .i64 x.2.1, .string ⟨x.2.2.toArray⟩, .int .i64 0, .slice none 0 0] 26 (0, 0))); have HO := Lib.hid (Only.alloc (HO.out.trans ho) (.cells #[.int .i64 2, .int .i64 x.1, .int .i64 x.2.1, .string ⟨x.2.2.toArray⟩, .int .i64 0, .slice none 0 0] 26 (0, 0))); have BK := Lib.hid ((BK.out.only ho (by omega)).alloc (.cells #[.int .i64 2, .int .i64 x.1, .int .i64 x.2.1, .string ⟨x.2.2.toArray⟩, .int .i64 0, .slice none 0 0] 26 (0, 0))); have BX := Lib.hid (Blk.new w2 26 #[.int .i64 2, .int .i64 x.1, .int .i64 x.2.1, .string ⟨x.2.2.toArray⟩, .int .i64 0, .slice none 0 0]); clear q3 qf))
      have hz2 : w.heap.size < w2.heap.size := by omega
      cases r2 with
      | bad p =>
        go_wp2_with (go_at_call 80; refine (takeP HD.out [61] (by decide)).mono ?_; rw [hL, HR2.out]; rintro e w3 ⟨rfl, ho3⟩)
        exact panic_end rfl (Pst.bad_of (HO.out.trans ho3))
      | ok _u L2 =>
        obtain ⟨r3, hr3⟩ : ∃ r, pInt s.size (-2147483648) 2147483647 L2 = r := ⟨_, rfl⟩
        have HR3 := Lib.hid hr3
        clear hr3
        cases r3 with
        | bad p =>
          go_wp2_with (first | (go_at_call 80; refine (takeP HD.out [61] (by decide)).mono ?_; rw [hL, HR2.out]; rintro e w3 ⟨v3, k2, rfl, rfl, hrd3, hL3, hk3', ho3⟩; have HE := Lib.hid (HE.out.only ho3 hg); have HD := Lib.hid hrd3; have HO := Lib.hid (HO.out.trans ho3)) | (go_at_call 139; refine (intP HD.out HE.out hg (-2147483648) 2147483647).mono ?_; rw [hL3, HR3.out]; rintro e w4 ⟨rfl, ho4⟩))
          refine panic_end rfl ?_
          show Pst g a s A cap all k w (NV w) ((pInt s.size (-2147483648) 2147483647 L2).go _) _ _
          rw [HR3.out]
          exact Pst.bad_of (HO.out.trans ho4)
        | ok y L3 =>
          go_wp2_with (first | (go_at_call 80; refine (takeP HD.out [61] (by decide)).mono ?_; rw [hL, HR2.out]; rintro e w3 ⟨v3, k2, rfl, rfl, hrd3, hL3, hk3', ho3⟩; have HE := Lib.hid (HE.out.only ho3 hg); have HD := Lib.hid hrd3; have HO := Lib.hid (HO.out.trans ho3); have BX := Lib.hid (BX.out.only ho3 (by omega)); have BK := Lib.hid (BK.out.only ho3 (by omega))) | (go_at_call 139; refine (intP HD.out HE.out hg (-2147483648) 2147483647).mono ?_; rw [hL3, HR3.out]; rintro e w4 ⟨v4, k4, rfl, rfl, hrd4, hL4, hk4, ho4⟩; have HD := Lib.hid (Rd.new H0.out hrd4 (p := ⟨w2.heap.size, 4, none⟩) (by dsimp only; omega) (.int .i64 y)); have HO := Lib.hid (only_setCell (HO.out.trans ho4) (p := ⟨w2.heap.size, 4, none⟩) (.inr (by dsimp only; omega)) (.int .i64 y)); have BX0 := Lib.hid (BX.out.only ho4 (by omega)); have x4 := BX0.out.cell 4; have x4f := BX0.out.frozen 4; have BX : Hid (Blk (w4.setCell ⟨w2.heap.size, 4, none⟩ (.int .i64 y)) w2.heap.size 26 #[.int .i64 2, .int .i64 x.1, .int .i64 x.2.1, .string ⟨x.2.2.toArray⟩, .int .i64 y, .slice none 0 0]) := Lib.hid (BX0.out.set_ 4 _); have BK := Lib.hid ((BK.out.only ho4 (by omega)).far (p := ⟨w2.heap.size, 4, none⟩) (by dsimp only; omega) (.int .i64 y)); have b0 := BK.out.cell 0; have b1 := BK.out.cell 1; have b2 := BK.out.cell 2; have b3 := BK.out.cell 3; have b4 := BK.out.cell 4; have b5 := BK.out.cell 5; have g0 := BK.out.frozen 0; have g1 := BK.out.frozen 1; have g2 := BK.out.frozen 2; have g3 := BK.out.frozen 3; have g4 := BK.out.frozen 4; have g5 := BK.out.frozen 5; have y0 := BX.out.cell 0; have y1 := BX.out.cell 1; have y2 := BX.out.cell 2; have y3 := BX.out.cell 3; have y4 := BX.out.cell 4; have y5 := BX.out.cell 5))
          refine bodyPost_ret (v := nodeV 2 x.1 x.2.1 x.2.2 y (.slice none 0 0)) (by simp [results, Tryz.results121, go_sem, b0, b1, b2, b3, b4, b5]) rfl ?_
          show Pst g a s A cap all k w (NV w) ((pInt s.size (-2147483648) 2147483647 L2).go _) _ _
          rw [HR3.out]
          refine ⟨_, k4, rfl, ⟨by have := pThing_len HR1.out; dsimp only; omega, _, rfl, KidC.nil _ _⟩, ?_, hL4, by omega, ?_⟩
          · (repeat (first | (with_reducible exact HD.out) | (with_reducible exact HD.out.next1 (by assumption)) | (with_reducible refine Rd.drewN ?_ _) | (with_reducible refine Rd.drew ?_) | (with_reducible refine Rd.alloc ?_ _) | (with_reducible refine Rd.new H0.out ?_ ?_ _; rotate_left; (show _ ≤ _; dsimp only; omega))))
          · (repeat (first | (with_reducible exact HO.out) | (with_reducible refine Only.set ?_ _ _) | (with_reducible refine only_drewN ?_ _) | (with_reducible refine only_drew ?_) | (with_reducible refine Only.alloc ?_ _) | (with_reducible refine only_setCell ?_ ?_ _; rotate_left; exact .inr (by dsimp only; omega))))
theorem notAll (g : Nat) (a : Int) (s : ByteArray) (A : Option Addr) (cap : Nat) (all : List Tok) : ∀ f, OneP 121 (pNot s.size a f) g a s A cap all f
  | 0 => fun w k h hE hg hN => by omega
  | f + 1 => fun w k h hE hg hN => by
    have ih := notAll g a s A cap all f
    by_cases h1 : hd (all.drop k) = [126]
    · exact notP_neg ih h hE hg hN h1
    by_cases h2 : hd (all.drop k) = [40]
    · exact notP_br (orP (andP ih)) h hE hg hN h2
    by_cases h3 : hd (all.drop k) = [116, 114, 117, 101] ∧ hd (all.drop (k + 1)) ≠ [61]
    · exact notP_true h hE hg h3.1 h3.2
    · exact notP_atom h hE hg h1 h2 h3
theorem orAll (g : Nat) (a : Int) (s : ByteArray) (A : Option Addr) (cap : Nat) (all : List Tok) (f : Nat) : OneP 81 (pOr s.size a f) g a s A cap all f := orP (andP (notAll g a s A cap all f))
end

/-- A condition that a reader hands back: its kids lie in memory made since w0. -/
def CV (w0 : World) (x : Int × Nd) (w' : World) (v : Value) : Prop := x.2.l.length ≤ 262144 ∧ ∃ kv, v = condV x.1 x.2.k x.2.t x.2.r x.2.l x.2.v kv ∧ KidC w' (fun b => w0.heap.size ≤ b ∧ b < w'.heap.size) kv x.2.kids
end Go.Proofs.YtmlnibjnacfanaaGreatDoor
