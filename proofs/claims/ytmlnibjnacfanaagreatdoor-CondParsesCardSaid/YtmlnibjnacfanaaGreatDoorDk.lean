/- Layer 8: the program's reader: row, over not and over and. -/
import Derived.Test.YtmlnibjnacfanaaGreatDoorDj
namespace Go.Proofs.YtmlnibjnacfanaaGreatDoor
open Go.RowKit

theorem nodeCs_one {w : World} {S : Nat → Prop} {n : Nd} {kv : Value} (h : KidC w S kv n.kids) : ∀ u ∈ nodeCs n kv, u.oneCell' = true := by
  obtain ⟨ck, ho, _⟩ := h
  have hk : kv.oneCell' = true := by
    rcases ho.2 with ⟨rfl, _⟩ | ⟨g, cap, cur, rfl, _⟩ <;> rfl
  intro u hu
  simp only [nodeCs, List.mem_cons, List.not_mem_nil, or_false] at hu
  rcases hu with rfl | rfl | rfl | rfl | rfl | rfl
  · rfl
  · rfl
  · rfl
  · rfl
  · rfl
  · exact hk
theorem rowA_stop {one : List Tok → Rs Nd} {sign : List UInt8} {f : Nat} {acc : List Nd} {L : List Tok} (h : hd L ≠ sign) : rowA one sign (f + 1) acc L = .ok acc L := by simp [rowA, h]
theorem rowA_go {one : List Tok → Rs Nd} {sign : List UInt8} {f : Nat} {acc : List Nd} {L : List Tok} (h : hd L = sign) : rowA one sign (f + 1) acc L = (one L.tail).go fun n L' => rowA one sign f (acc ++ [n]) L' := by simp [rowA, h]
section
variable {w : World} {g : Nat} {a : Int} {s : ByteArray} {A : Option Addr} {cap : Nat} {all : List Tok} {k : Nat}
def zeroNode : Array Value := #[.int .i64 0, .int .i64 0, .int .i64 0, .string ⟨#[]⟩, .int .i64 0, .slice none 0 0]
/-- What holds at the head of row's loop. -/
def RowInv (w : World) (g : Nat) (a : Int) (s : ByteArray) (A : Option Addr) (cap : Nat) (all : List Tok) (k : Nat) (one : List Tok → Rs Nd) (sign : List UInt8) (R : Rs (List Nd)) (v : Value) (wr : World) : Prop :=
  ∃ (acc : List Nd) (kc f' : Nat) (cells : List Value) (gl cl : Nat), v = .slice (some ⟨gl, 0, none⟩) acc.length cl ∧ wr.ownsRow (w.heap.size + 1) 26 6 v acc.length cells ∧ FrC wr (fun b => w.heap.size < b ∧ b < wr.heap.size ∧ b ≠ gl) (frOf acc) cells ∧
    Rd wr g a s A cap all kc ∧ Env wr ∧ Only g w wr ∧ Blk wr w.heap.size 26 zeroNode ∧ R = rowA one sign f' acc (all.drop kc) ∧ all.length - kc < f' ∧ 1 ≤ acc.length ∧ acc.length ≤ kc + 1 ∧ k ≤ kc
set_option maxHeartbeats 2000000 in
set_option maxRecDepth 100000 in
theorem rowP_not {one : List Tok → Rs Nd} {N : Nat} (kind : Int) (sign : List UInt8) (hsg : sign ≠ []) (hone : OneP 121 one g a s A cap all N) (h : Rd w g a s A cap all k) (hE : Env w) (hg : 6 ≤ g) (hN : all.length - k < N) :
    Calls Tryz.prog 110 #[.pointer (some ⟨g, 0, none⟩), .int .i64 kind, .string ⟨sign.toArray⟩, .func (.func 121) #[.pointer (some ⟨g, 0, none⟩)] #[]] w (Pst g a s A cap all k w (NV w) (rowN kind sign one N (all.drop k))) := by
  obtain ⟨r1, hr1⟩ : ∃ r, one (all.drop k) = r := ⟨_, rfl⟩
  have HR1 := Lib.hid hr1
  have HON := Lib.hid hone
  obtain ⟨i0, hi, hi0, hi1, hi2⟩ := info_parts infoNode
  have hlt := h.lt
  have H0 := Lib.hid h
  have BK : Hid (Blk (w.alloc (.cells zeroNode 26 (0, 0))) w.heap.size 26 zeroNode) := Lib.hid (Blk.new w 26 zeroNode)
  have HD := Lib.hid (h.alloc (.cells zeroNode 26 (0, 0)))
  have HE := Lib.hid (hE.mono (alloc_b w (.cells zeroNode 26 (0, 0))))
  have HO := Lib.hid ((Only.refl g w).alloc (.cells zeroNode 26 (0, 0)))
  have hk2 := h.len
  have hk3 := h.le
  clear h hE hone
  cases r1 with
  | bad p =>
    rw [show rowN kind sign one N (all.drop k) = .bad p by rw [rowN, hr1]; rfl]
    clear hr1
    go_enter Tryz.func110, Tryz.ntmps110
    go_wp2_with (first | (go_at_call 121; refine (HON.out _ k HD.out HE.out hg hN).mono ?_; rw [HR1.out]; rintro e w2 ⟨rfl, ho⟩))
    exact panic_end rfl (Pst.bad_of (HO.out.trans ho))
  | ok n1 L1 =>
    obtain ⟨R, hR⟩ : ∃ R, rowA one sign N [n1] L1 = R := ⟨_, rfl⟩
    have hres : rowN kind sign one N (all.drop k) = R.go fun l L => .ok (rowE kind l) L := by rw [rowN, hr1, Rs.go_ok, hR]
    rw [hres]
    have HR := Lib.hid hR
    clear hr1 hres hR
    go_enter Tryz.func110, Tryz.ntmps110
    go_wp2_with (first | (go_at_call 121; refine (HON.out _ k HD.out HE.out hg hN).mono ?_; rw [HR1.out]; rintro e w2 ⟨v, k1, rfl, ⟨hnl, kv, rfl, hkc⟩, hrd, hL, hk, ho⟩))
    have hz2 : w.heap.size < w2.heap.size := by have := ho.size; simp at this; omega
    have hstart : RowInv w g a s A cap all k one sign R (.slice (some ⟨w2.heap.size, 0, none⟩) 1 1) (w2.alloc (.cells (nodeCs n1 kv).toArray 26 (0, 0))) := by
      refine ⟨[n1], k1, N, nodeCs n1 kv, _, _, rfl, World.ownsRow_lit w2 (nodeCs n1 kv).toArray 1 (by omega) (by decide) rfl, ?_, hrd.alloc _, (HE.out.only ho hg).mono (alloc_b _ _), Only.alloc (HO.out.trans ho) _, (BK.out.only ho (by omega)).alloc _, by rw [hL]; exact HR.out.symm, by omega, Nat.le_refl _, by simp, hk⟩
      refine FrC.snoc hnl ((hkc.keep (fun b hb => Below.heap_alloc _ _ _ hb.2)).mono fun b hb => ?_) [] [] rfl
      simp at hb ⊢
      omega
    have HST := Lib.hid hstart
    clear hstart hkc hrd hnl ho BK HD HE HO
    go_loopw [9] (fun v wr => RowInv w g a s A cap all k one sign R v wr) (fun _ wr => all.length - nextOf wr g)
    case atStart => exact HST.out
    case round =>
      obtain ⟨acc, kc, f', cells, gl, cl, rfl, hown, hfr, hrd, hEr, hor, hbk, hR, hf, ha1, ha2, hkk⟩ := hrel
      clear HST
      have HD := Lib.hid hrd
      have HDn0 := Lib.hid hrd
      have HE := Lib.hid hEr
      have HO := Lib.hid hor
      have BK := Lib.hid hbk
      have HRA := Lib.hid hR
      have HOW := Lib.hid hown
      have HFR := Lib.hid hfr
      have q3 := hrd.c3
      have qf := hrd.blk.frozen 3
      have hkl := hrd.le
      have hgl := (hown.lt gl rfl)
      have hzr : w.heap.size < wr.heap.size := hbk.lt
      obtain ⟨f, rfl⟩ : ∃ f, f' = f + 1 := ⟨f' - 1, by omega⟩
      obtain ⟨t, ht⟩ : ∃ t, hd (all.drop kc) = t := ⟨_, rfl⟩
      have HT := Lib.hid ht
      clear hrd hEr hor hbk hR hown hfr
      by_cases hts : t = sign
      · subst hts
        have hkcl : kc < all.length := HD.out.hd_ne (by rw [ht]; exact hsg)
        obtain ⟨r2, hr2⟩ : ∃ r, one (all.drop (kc + 1)) = r := ⟨_, rfl⟩
        have HR2 := Lib.hid hr2
        have HRB := Lib.hid (HRA.out.trans ((rowA_go ht).trans (by rw [tail_drop, hr2])))
        have HDn := Lib.hid (HD.out.next1 hkcl)
        clear ht hr2
        cases r2 with
        | bad p =>
          have HRC := Lib.hid (show (R.go fun l L => .ok (rowE kind l) L) = Rs.bad p by rw [HRB.out]; rfl)
          go_wp2_with (first | (go_at_call 79; (with_reducible refine (peek0P HD.out).mono ?_); rw [HT.out]; rintro e w1 ⟨rfl, n, rfl⟩; have HE := Lib.hid (HE.out.mono (below_drewN (Below.refl _ _) n)); have HO := Lib.hid (only_drewN HO.out n); have HD := Lib.hid (HD.out.drewN n); have BK := Lib.hid (Blk.drewN BK.out n)) | (go_at_call 121; have HE := Lib.hid (HE.out.only (Only.set (Only.refl g _) 3 (.int .i64 ((kc : Int) + 1))) hg); have HO := Lib.hid (Only.set HO.out 3 (.int .i64 ((kc : Int) + 1))); refine (HON.out _ (kc + 1) (HD.out.next1 hkcl) HE.out hg (by omega)).mono ?_; rw [HR2.out]; rintro e w3 ⟨rfl, ho3⟩))
          refine panic_end rfl ?_
          rw [HRC.out]
          exact Pst.bad_of (HO.out.trans ho3)
        | ok n2 L2 =>
          go_wp2_with (first | (go_at_call 79; (with_reducible refine (peek0P HD.out).mono ?_); rw [HT.out]; rintro e w1 ⟨rfl, n, rfl⟩; have HE := Lib.hid (HE.out.mono (below_drewN (Below.refl _ _) n)); have HO := Lib.hid (only_drewN HO.out n); have HD := Lib.hid (HD.out.drewN n); have BK := Lib.hid (Blk.drewN BK.out n)) | (go_at_call 121; have HE := Lib.hid (HE.out.only (Only.set (Only.refl g _) 3 (.int .i64 ((kc : Int) + 1))) hg); have HO := Lib.hid (Only.set HO.out 3 (.int .i64 ((kc : Int) + 1))); have HO2 := Lib.hid (Only.set (only_drewN (Only.refl g wr) n) 3 (.int .i64 ((kc : Int) + 1))); have BK := Lib.hid (BK.out.far (p := ⟨g, 3, none⟩) (by dsimp only; omega) (.int .i64 ((kc : Int) + 1))); refine (HON.out _ (kc + 1) (HD.out.next1 hkcl) HE.out hg (by omega)).mono ?_; rw [HR2.out]; rintro e w3 ⟨v2, k3, rfl, ⟨hnl, kv2, rfl, hkc⟩, hrd3, hL3, hk3', ho3⟩; clear q3 qf; have HOW3 := Lib.hid (HOW.out.kept (row := some g) (HO2.out.trans ho3) (.inr (fun e => by simp only [Value.ownBlock, Option.some.injEq] at e; omega))); have hz3 : wr.heap.size ≤ w3.heap.size := by have := (HO2.out.trans ho3).size; exact this) | (at_builtin; refine append_more _ rfl _ _ 24 rfl (w.heap.size + 1) 26 i0 (.agg #[.int .i64 0, .int .i64 0, .int .i64 0, .string ⟨#[]⟩, .int .i64 0, .slice none 0 0]) 6 72 Tryz.underlying24 hi hi0 hi1 hi2 rfl (by decide) gl acc.length cl cells rfl (HOW3.out.alloc _) ⟨w3.heap.size, 0, none⟩ 1 1 (nodeCs n2 kv2) rfl rfl ?c1 ?c2 ?c3 ?c4 ?c5 ?_ (by decide)))
          case c1 =>
            intro j u hj
            rw [show (⟨w3.heap.size, 0, none⟩ : Addr).add j = ⟨w3.heap.size, j, none⟩ by simp [Addr.add]; intro e; exact e.symm]
            exact (cell_new w3 (nodeCs n2 kv2).toArray 26 (0, 0) j).trans (by simpa using hj)
          case c2 => exact nodeCs_one hkc
          case c3 => unfold maxLen; omega
          case c4 => omega
          case c5 => simp; omega
          intro g' cap' w4 hown' hgrow hg'
          have HOX := Lib.hid (HO2.out.trans ho3)
          have HNEW : Hid (RowInv w g a s A cap all k one t R (.slice (some ⟨g', 0, none⟩) (acc.length + 1) cap') w4) := by
            have hs3 : ∀ o, (w3.alloc o).heap.size = w3.heap.size + 1 := fun o => by simp
            have hs4 := hgrow.size
            rw [hs3] at hs4
            have hkeep : ∀ b, b < w3.heap.size → b ≠ gl → w4.heap[b]? = w3.heap[b]? := fun b hb hne => (hgrow.block b (by rw [hs3]; omega) (fun e => by injection e with e; exact hne e)).trans (Below.heap_alloc _ _ _ hb)
            refine Lib.hid ⟨acc ++ [n2], k3, f, cells ++ nodeCs n2 kv2, g', cap', by simp, by simpa using hown', ?_, Rd.grow H0.out (hrd3.alloc _) hgrow (by omega), ((HE.out.only ho3 hg).mono (alloc_b _ _)).only hgrow (by omega), Only.grow (Only.alloc (HO.out.trans ho3) _) hgrow (by omega), ((BK.out.only ho3 (by omega)).alloc _).only hgrow (by omega), by rw [HRB.out, hL3]; rfl, by omega, by simp, by simp; omega, by omega⟩
            refine FrC.snoc hnl ((hkc.keep fun b hb => hkeep b hb.2 (by have := hb.1; simp at this; omega)).mono fun b hb => ?_) acc cells (((HFR.out).keep (fun b hb => (hkeep b (Nat.lt_of_lt_of_le hb.2.1 hz3) hb.2.2).trans (HOX.out.block b hb.2.1 (fun e => by have := hb.1; injection e with e; omega))) (frOf acc) cells).mono (fun b hb => ?_) (frOf acc) cells)
            · have h1 := hb.1
              have h2 := hb.2
              simp at h1
              exact ⟨by omega, by omega, by omega⟩
            · have h1 := hb.1
              have h2 := hb.2.1
              have h3 := hb.2.2
              exact ⟨h1, by omega, by omega⟩
          have HM := Lib.hid (show all.length - nextOf w4 g < all.length - nextOf wr g by
            obtain ⟨_, _, _, _, _, _, _⟩ := HNEW.out
            have e1 : nextOf w4 g = k3 := (Rd.grow H0.out (hrd3.alloc (.cells (nodeCs n2 kv2).toArray 26 (0, 0))) hgrow (by omega)).nextOf
            have e2 : nextOf wr g = kc := HDn0.out.nextOf
            omega)
          clear hown' hgrow hg' hkc hrd3 ho3
          go_wp2
          go_roundw
          case rel => exact HNEW.out
          case measure => exact HM.out
      · have HRC := Lib.hid (HRA.out.trans (rowA_stop (by rw [ht]; exact hts)))
        have hne : (t == sign) = false := by simpa using hts
        have z0 : wr.cell? ⟨w.heap.size, 0, none⟩ = some (.int .i64 0) := BK.out.cell 0
        have z1 : wr.cell? ⟨w.heap.size, 1, none⟩ = some (.int .i64 0) := BK.out.cell 1
        have z2 : wr.cell? ⟨w.heap.size, 2, none⟩ = some (.int .i64 0) := BK.out.cell 2
        have z3 : wr.cell? ⟨w.heap.size, 3, none⟩ = some (.string ⟨#[]⟩) := BK.out.cell 3
        have z4 : wr.cell? ⟨w.heap.size, 4, none⟩ = some (.int .i64 0) := BK.out.cell 4
        have z5 : wr.cell? ⟨w.heap.size, 5, none⟩ = some (.slice none 0 0) := BK.out.cell 5
        have f0 := BK.out.frozen 0
        have f1 := BK.out.frozen 1
        have f2 := BK.out.frozen 2
        have f3 := BK.out.frozen 3
        have f4 := BK.out.frozen 4
        have f5 := BK.out.frozen 5
        clear ht hts
        by_cases hone : acc.length = 1
        · obtain ⟨n0, rfl⟩ : ∃ n0, acc = [n0] := List.length_eq_one_iff.1 hone
          obtain ⟨hnl, kv, rfl, hkc⟩ := HFR.out.one
          obtain ⟨Ak, ck, rfl⟩ := hkc.shape
          have c0 : wr.cell? ⟨gl, 0, none⟩ = some (.int .i64 n0.k) := HOW.out.cellAt 0 (by simp)
          have c1 : wr.cell? ⟨gl, 1, none⟩ = some (.int .i64 n0.t) := HOW.out.cellAt 1 (by simp)
          have c2 : wr.cell? ⟨gl, 2, none⟩ = some (.int .i64 n0.r) := HOW.out.cellAt 2 (by simp)
          have c3 : wr.cell? ⟨gl, 3, none⟩ = some (.string ⟨n0.l.toArray⟩) := HOW.out.cellAt 3 (by simp)
          have c4 : wr.cell? ⟨gl, 4, none⟩ = some (.int .i64 n0.v) := HOW.out.cellAt 4 (by simp)
          have c5 : wr.cell? ⟨gl, 5, none⟩ = some (.slice Ak n0.kids.len ck) := HOW.out.cellAt 5 (by simp)
          have HKC := Lib.hid hkc
          clear hkc hone
          have HRD := Lib.hid (show (R.go fun l L => .ok (rowE kind l) L) = Rs.ok n0 (all.drop kc) by rw [HRC.out]; rfl)
          go_wp2_with (go_at_call 79; (with_reducible refine (peek0P HD.out).mono ?_); rw [HT.out]; rintro e w1 ⟨rfl, n, rfl⟩; have HE := Lib.hid (HE.out.mono (below_drewN (Below.refl _ _) n)); have HO := Lib.hid (only_drewN HO.out n); have HD := Lib.hid (HD.out.drewN n); have BK := Lib.hid (Blk.drewN BK.out n))
          refine bodyPost_ret (v := nodeV n0.k n0.t n0.r n0.l n0.v (.slice Ak n0.kids.len ck)) (by simp [results, Tryz.results110, go_sem, z0, z1, z2, z3, z4, z5]) rfl ?_
          rw [HRD.out]
          refine ⟨_, kc, rfl, ⟨hnl, _, rfl, ?_⟩, ?_, rfl, hkk, ?_⟩
          · refine (HKC.out.keep fun b hb => ?_).mono fun b hb => ?_
            · have h1 := hb.1
              have hn : ∀ (x : World) (o : Nat) (u : Value), (x.setCell ⟨w.heap.size, o, none⟩ u).heap[b]? = x.heap[b]? := fun x o u => Below.heap_setCell x _ u b (by dsimp only; omega)
              rw [hn, hn, hn, hn, hn, hn]
              rfl
            · have h1 := hb.1
              have h2 := hb.2.1
              simp
              omega
          · (repeat (first | (with_reducible exact HD.out) | (with_reducible exact HD.out.next1 (by assumption)) | (with_reducible refine Rd.drewN ?_ _) | (with_reducible refine Rd.drew ?_) | (with_reducible refine Rd.alloc ?_ _) | (with_reducible refine Rd.new H0.out ?_ ?_ _; rotate_left; (show _ ≤ _; dsimp only; omega))))
          · (repeat (first | (with_reducible exact HO.out) | (with_reducible refine Only.set ?_ _ _) | (with_reducible refine only_drewN ?_ _) | (with_reducible refine only_drew ?_) | (with_reducible refine Only.alloc ?_ _) | (with_reducible refine only_setCell ?_ ?_ _; rotate_left; exact .inr (by dsimp only; omega))))
        · have hmany : 2 ≤ acc.length := by omega
          have h1f : ((acc.length : Int) == 1) = false := beq_eq_false_iff_ne.2 (by omega)
          have HRD := Lib.hid (show (R.go fun l L => .ok (rowE kind l) L) = Rs.ok ⟨kind, 0, 0, [], 0, frOf acc⟩ (all.drop kc) by rw [HRC.out, ← rowE_many hmany]; rfl)
          have hfl := frOf_len acc
          clear hone
          go_wp2_with (go_at_call 79; (with_reducible refine (peek0P HD.out).mono ?_); rw [HT.out]; rintro e w1 ⟨rfl, n, rfl⟩; have HE := Lib.hid (HE.out.mono (below_drewN (Below.refl _ _) n)); have HO := Lib.hid (only_drewN HO.out n); have HD := Lib.hid (HD.out.drewN n); have BK := Lib.hid (Blk.drewN BK.out n))
          refine bodyPost_ret (v := nodeV kind 0 0 [] 0 (.slice (some ⟨gl, 0, none⟩) acc.length cl)) (by simp [results, Tryz.results110, go_sem, z0, z1, z2, z3, z4, z5]) rfl ?_
          rw [HRD.out]
          refine ⟨_, kc, rfl, ⟨by simp, _, rfl, cells, ?_⟩, ?_, rfl, hkk, ?_⟩
          · have hn : ∀ b, w.heap.size < b → ∀ (x : World) (o : Nat) (u : Value), (x.setCell ⟨w.heap.size, o, none⟩ u).heap[b]? = x.heap[b]? := fun b hb x o u => Below.heap_setCell x _ u b (by dsimp only; omega)
            refine ⟨?_, by dsimp only; omega, fun b hb => ?_, ?_⟩
            · dsimp only
              rw [hfl]
              refine own_keep (own_zero HOW.out) fun b hb => ?_
              simp only [Value.ownBlock, Option.some.injEq] at hb
              rw [hn b (by omega), hn b (by omega), hn b (by omega), hn b (by omega), hn b (by omega), hn b (by omega)]
              rfl
            · simp only [Value.ownBlock, Option.some.injEq] at hb
              simp
              omega
            · refine ((HFR.out).keep (fun b hb => ?_) (frOf acc) cells).mono (fun b hb => ?_) (frOf acc) cells
              · have h1 := hb.1
                rw [hn b h1, hn b h1, hn b h1, hn b h1, hn b h1, hn b h1]
                rfl
              · have h1 := hb.1
                have h2 := hb.2.1
                simp
                omega
          · (repeat (first | (with_reducible exact HD.out) | (with_reducible exact HD.out.next1 (by assumption)) | (with_reducible refine Rd.drewN ?_ _) | (with_reducible refine Rd.drew ?_) | (with_reducible refine Rd.alloc ?_ _) | (with_reducible refine Rd.new H0.out ?_ ?_ _; rotate_left; (show _ ≤ _; dsimp only; omega))))
          · (repeat (first | (with_reducible exact HO.out) | (with_reducible refine Only.set ?_ _ _) | (with_reducible refine only_drewN ?_ _) | (with_reducible refine only_drew ?_) | (with_reducible refine Only.alloc ?_ _) | (with_reducible refine only_setCell ?_ ?_ _; rotate_left; exact .inr (by dsimp only; omega))))
set_option maxHeartbeats 2000000 in
set_option maxRecDepth 100000 in
theorem rowP_and {one : List Tok → Rs Nd} {N : Nat} (kind : Int) (sign : List UInt8) (hsg : sign ≠ []) (hone : OneP 111 one g a s A cap all N) (h : Rd w g a s A cap all k) (hE : Env w) (hg : 6 ≤ g) (hN : all.length - k < N) :
    Calls Tryz.prog 110 #[.pointer (some ⟨g, 0, none⟩), .int .i64 kind, .string ⟨sign.toArray⟩, .func (.func 111) #[.pointer (some ⟨g, 0, none⟩)] #[]] w (Pst g a s A cap all k w (NV w) (rowN kind sign one N (all.drop k))) := by
  obtain ⟨r1, hr1⟩ : ∃ r, one (all.drop k) = r := ⟨_, rfl⟩
  have HR1 := Lib.hid hr1
  have HON := Lib.hid hone
  obtain ⟨i0, hi, hi0, hi1, hi2⟩ := info_parts infoNode
  have hlt := h.lt
  have H0 := Lib.hid h
  have BK : Hid (Blk (w.alloc (.cells zeroNode 26 (0, 0))) w.heap.size 26 zeroNode) := Lib.hid (Blk.new w 26 zeroNode)
  have HD := Lib.hid (h.alloc (.cells zeroNode 26 (0, 0)))
  have HE := Lib.hid (hE.mono (alloc_b w (.cells zeroNode 26 (0, 0))))
  have HO := Lib.hid ((Only.refl g w).alloc (.cells zeroNode 26 (0, 0)))
  have hk2 := h.len
  have hk3 := h.le
  clear h hE hone
  cases r1 with
  | bad p =>
    rw [show rowN kind sign one N (all.drop k) = .bad p by rw [rowN, hr1]; rfl]
    clear hr1
    go_enter Tryz.func110, Tryz.ntmps110
    go_wp2_with (first | (go_at_call 111; refine (HON.out _ k HD.out HE.out hg hN).mono ?_; rw [HR1.out]; rintro e w2 ⟨rfl, ho⟩))
    exact panic_end rfl (Pst.bad_of (HO.out.trans ho))
  | ok n1 L1 =>
    obtain ⟨R, hR⟩ : ∃ R, rowA one sign N [n1] L1 = R := ⟨_, rfl⟩
    have hres : rowN kind sign one N (all.drop k) = R.go fun l L => .ok (rowE kind l) L := by rw [rowN, hr1, Rs.go_ok, hR]
    rw [hres]
    have HR := Lib.hid hR
    clear hr1 hres hR
    go_enter Tryz.func110, Tryz.ntmps110
    go_wp2_with (first | (go_at_call 111; refine (HON.out _ k HD.out HE.out hg hN).mono ?_; rw [HR1.out]; rintro e w2 ⟨v, k1, rfl, ⟨hnl, kv, rfl, hkc⟩, hrd, hL, hk, ho⟩))
    have hz2 : w.heap.size < w2.heap.size := by have := ho.size; simp at this; omega
    have hstart : RowInv w g a s A cap all k one sign R (.slice (some ⟨w2.heap.size, 0, none⟩) 1 1) (w2.alloc (.cells (nodeCs n1 kv).toArray 26 (0, 0))) := by
      refine ⟨[n1], k1, N, nodeCs n1 kv, _, _, rfl, World.ownsRow_lit w2 (nodeCs n1 kv).toArray 1 (by omega) (by decide) rfl, ?_, hrd.alloc _, (HE.out.only ho hg).mono (alloc_b _ _), Only.alloc (HO.out.trans ho) _, (BK.out.only ho (by omega)).alloc _, by rw [hL]; exact HR.out.symm, by omega, Nat.le_refl _, by simp, hk⟩
      refine FrC.snoc hnl ((hkc.keep (fun b hb => Below.heap_alloc _ _ _ hb.2)).mono fun b hb => ?_) [] [] rfl
      simp at hb ⊢
      omega
    have HST := Lib.hid hstart
    clear hstart hkc hrd hnl ho BK HD HE HO
    go_loopw [9] (fun v wr => RowInv w g a s A cap all k one sign R v wr) (fun _ wr => all.length - nextOf wr g)
    case atStart => exact HST.out
    case round =>
      obtain ⟨acc, kc, f', cells, gl, cl, rfl, hown, hfr, hrd, hEr, hor, hbk, hR, hf, ha1, ha2, hkk⟩ := hrel
      clear HST
      have HD := Lib.hid hrd
      have HDn0 := Lib.hid hrd
      have HE := Lib.hid hEr
      have HO := Lib.hid hor
      have BK := Lib.hid hbk
      have HRA := Lib.hid hR
      have HOW := Lib.hid hown
      have HFR := Lib.hid hfr
      have q3 := hrd.c3
      have qf := hrd.blk.frozen 3
      have hkl := hrd.le
      have hgl := (hown.lt gl rfl)
      have hzr : w.heap.size < wr.heap.size := hbk.lt
      obtain ⟨f, rfl⟩ : ∃ f, f' = f + 1 := ⟨f' - 1, by omega⟩
      obtain ⟨t, ht⟩ : ∃ t, hd (all.drop kc) = t := ⟨_, rfl⟩
      have HT := Lib.hid ht
      clear hrd hEr hor hbk hR hown hfr
      by_cases hts : t = sign
      · subst hts
        have hkcl : kc < all.length := HD.out.hd_ne (by rw [ht]; exact hsg)
        obtain ⟨r2, hr2⟩ : ∃ r, one (all.drop (kc + 1)) = r := ⟨_, rfl⟩
        have HR2 := Lib.hid hr2
        have HRB := Lib.hid (HRA.out.trans ((rowA_go ht).trans (by rw [tail_drop, hr2])))
        have HDn := Lib.hid (HD.out.next1 hkcl)
        clear ht hr2
        cases r2 with
        | bad p =>
          have HRC := Lib.hid (show (R.go fun l L => .ok (rowE kind l) L) = Rs.bad p by rw [HRB.out]; rfl)
          go_wp2_with (first | (go_at_call 79; (with_reducible refine (peek0P HD.out).mono ?_); rw [HT.out]; rintro e w1 ⟨rfl, n, rfl⟩; have HE := Lib.hid (HE.out.mono (below_drewN (Below.refl _ _) n)); have HO := Lib.hid (only_drewN HO.out n); have HD := Lib.hid (HD.out.drewN n); have BK := Lib.hid (Blk.drewN BK.out n)) | (go_at_call 111; have HE := Lib.hid (HE.out.only (Only.set (Only.refl g _) 3 (.int .i64 ((kc : Int) + 1))) hg); have HO := Lib.hid (Only.set HO.out 3 (.int .i64 ((kc : Int) + 1))); refine (HON.out _ (kc + 1) (HD.out.next1 hkcl) HE.out hg (by omega)).mono ?_; rw [HR2.out]; rintro e w3 ⟨rfl, ho3⟩))
          refine panic_end rfl ?_
          rw [HRC.out]
          exact Pst.bad_of (HO.out.trans ho3)
        | ok n2 L2 =>
          go_wp2_with (first | (go_at_call 79; (with_reducible refine (peek0P HD.out).mono ?_); rw [HT.out]; rintro e w1 ⟨rfl, n, rfl⟩; have HE := Lib.hid (HE.out.mono (below_drewN (Below.refl _ _) n)); have HO := Lib.hid (only_drewN HO.out n); have HD := Lib.hid (HD.out.drewN n); have BK := Lib.hid (Blk.drewN BK.out n)) | (go_at_call 111; have HE := Lib.hid (HE.out.only (Only.set (Only.refl g _) 3 (.int .i64 ((kc : Int) + 1))) hg); have HO := Lib.hid (Only.set HO.out 3 (.int .i64 ((kc : Int) + 1))); have HO2 := Lib.hid (Only.set (only_drewN (Only.refl g wr) n) 3 (.int .i64 ((kc : Int) + 1))); have BK := Lib.hid (BK.out.far (p := ⟨g, 3, none⟩) (by dsimp only; omega) (.int .i64 ((kc : Int) + 1))); refine (HON.out _ (kc + 1) (HD.out.next1 hkcl) HE.out hg (by omega)).mono ?_; rw [HR2.out]; rintro e w3 ⟨v2, k3, rfl, ⟨hnl, kv2, rfl, hkc⟩, hrd3, hL3, hk3', ho3⟩; clear q3 qf; have HOW3 := Lib.hid (HOW.out.kept (row := some g) (HO2.out.trans ho3) (.inr (fun e => by simp only [Value.ownBlock, Option.some.injEq] at e; omega))); have hz3 : wr.heap.size ≤ w3.heap.size := by have := (HO2.out.trans ho3).size; exact this) | (at_builtin; refine append_more _ rfl _ _ 24 rfl (w.heap.size + 1) 26 i0 (.agg #[.int .i64 0, .int .i64 0, .int .i64 0, .string ⟨#[]⟩, .int .i64 0, .slice none 0 0]) 6 72 Tryz.underlying24 hi hi0 hi1 hi2 rfl (by decide) gl acc.length cl cells rfl (HOW3.out.alloc _) ⟨w3.heap.size, 0, none⟩ 1 1 (nodeCs n2 kv2) rfl rfl ?c1 ?c2 ?c3 ?c4 ?c5 ?_ (by decide)))
          case c1 =>
            intro j u hj
            rw [show (⟨w3.heap.size, 0, none⟩ : Addr).add j = ⟨w3.heap.size, j, none⟩ by simp [Addr.add]; intro e; exact e.symm]
            exact (cell_new w3 (nodeCs n2 kv2).toArray 26 (0, 0) j).trans (by simpa using hj)
          case c2 => exact nodeCs_one hkc
          case c3 => unfold maxLen; omega
          case c4 => omega
          case c5 => simp; omega
          intro g' cap' w4 hown' hgrow hg'
          have HOX := Lib.hid (HO2.out.trans ho3)
          have HNEW : Hid (RowInv w g a s A cap all k one t R (.slice (some ⟨g', 0, none⟩) (acc.length + 1) cap') w4) := by
            have hs3 : ∀ o, (w3.alloc o).heap.size = w3.heap.size + 1 := fun o => by simp
            have hs4 := hgrow.size
            rw [hs3] at hs4
            have hkeep : ∀ b, b < w3.heap.size → b ≠ gl → w4.heap[b]? = w3.heap[b]? := fun b hb hne => (hgrow.block b (by rw [hs3]; omega) (fun e => by injection e with e; exact hne e)).trans (Below.heap_alloc _ _ _ hb)
            refine Lib.hid ⟨acc ++ [n2], k3, f, cells ++ nodeCs n2 kv2, g', cap', by simp, by simpa using hown', ?_, Rd.grow H0.out (hrd3.alloc _) hgrow (by omega), ((HE.out.only ho3 hg).mono (alloc_b _ _)).only hgrow (by omega), Only.grow (Only.alloc (HO.out.trans ho3) _) hgrow (by omega), ((BK.out.only ho3 (by omega)).alloc _).only hgrow (by omega), by rw [HRB.out, hL3]; rfl, by omega, by simp, by simp; omega, by omega⟩
            refine FrC.snoc hnl ((hkc.keep fun b hb => hkeep b hb.2 (by have := hb.1; simp at this; omega)).mono fun b hb => ?_) acc cells (((HFR.out).keep (fun b hb => (hkeep b (Nat.lt_of_lt_of_le hb.2.1 hz3) hb.2.2).trans (HOX.out.block b hb.2.1 (fun e => by have := hb.1; injection e with e; omega))) (frOf acc) cells).mono (fun b hb => ?_) (frOf acc) cells)
            · have h1 := hb.1
              have h2 := hb.2
              simp at h1
              exact ⟨by omega, by omega, by omega⟩
            · have h1 := hb.1
              have h2 := hb.2.1
              have h3 := hb.2.2
              exact ⟨h1, by omega, by omega⟩
          have HM := Lib.hid (show all.length - nextOf w4 g < all.length - nextOf wr g by
            obtain ⟨_, _, _, _, _, _, _⟩ := HNEW.out
            have e1 : nextOf w4 g = k3 := (Rd.grow H0.out (hrd3.alloc (.cells (nodeCs n2 kv2).toArray 26 (0, 0))) hgrow (by omega)).nextOf
            have e2 : nextOf wr g = kc := HDn0.out.nextOf
            omega)
          clear hown' hgrow hg' hkc hrd3 ho3
          go_wp2
          go_roundw
          case rel => exact HNEW.out
          case measure => exact HM.out
      · have HRC := Lib.hid (HRA.out.trans (rowA_stop (by rw [ht]; exact hts)))
        have hne : (t == sign) = false := by simpa using hts
        have z0 : wr.cell? ⟨w.heap.size, 0, none⟩ = some (.int .i64 0) := BK.out.cell 0
        have z1 : wr.cell? ⟨w.heap.size, 1, none⟩ = some (.int .i64 0) := BK.out.cell 1
        have z2 : wr.cell? ⟨w.heap.size, 2, none⟩ = some (.int .i64 0) := BK.out.cell 2
        have z3 : wr.cell? ⟨w.heap.size, 3, none⟩ = some (.string ⟨#[]⟩) := BK.out.cell 3
        have z4 : wr.cell? ⟨w.heap.size, 4, none⟩ = some (.int .i64 0) := BK.out.cell 4
        have z5 : wr.cell? ⟨w.heap.size, 5, none⟩ = some (.slice none 0 0) := BK.out.cell 5
        have f0 := BK.out.frozen 0
        have f1 := BK.out.frozen 1
        have f2 := BK.out.frozen 2
        have f3 := BK.out.frozen 3
        have f4 := BK.out.frozen 4
        have f5 := BK.out.frozen 5
        clear ht hts
        by_cases hone : acc.length = 1
        · obtain ⟨n0, rfl⟩ : ∃ n0, acc = [n0] := List.length_eq_one_iff.1 hone
          obtain ⟨hnl, kv, rfl, hkc⟩ := HFR.out.one
          obtain ⟨Ak, ck, rfl⟩ := hkc.shape
          have c0 : wr.cell? ⟨gl, 0, none⟩ = some (.int .i64 n0.k) := HOW.out.cellAt 0 (by simp)
          have c1 : wr.cell? ⟨gl, 1, none⟩ = some (.int .i64 n0.t) := HOW.out.cellAt 1 (by simp)
          have c2 : wr.cell? ⟨gl, 2, none⟩ = some (.int .i64 n0.r) := HOW.out.cellAt 2 (by simp)
          have c3 : wr.cell? ⟨gl, 3, none⟩ = some (.string ⟨n0.l.toArray⟩) := HOW.out.cellAt 3 (by simp)
          have c4 : wr.cell? ⟨gl, 4, none⟩ = some (.int .i64 n0.v) := HOW.out.cellAt 4 (by simp)
          have c5 : wr.cell? ⟨gl, 5, none⟩ = some (.slice Ak n0.kids.len ck) := HOW.out.cellAt 5 (by simp)
          have HKC := Lib.hid hkc
          clear hkc hone
          have HRD := Lib.hid (show (R.go fun l L => .ok (rowE kind l) L) = Rs.ok n0 (all.drop kc) by rw [HRC.out]; rfl)
          go_wp2_with (go_at_call 79; (with_reducible refine (peek0P HD.out).mono ?_); rw [HT.out]; rintro e w1 ⟨rfl, n, rfl⟩; have HE := Lib.hid (HE.out.mono (below_drewN (Below.refl _ _) n)); have HO := Lib.hid (only_drewN HO.out n); have HD := Lib.hid (HD.out.drewN n); have BK := Lib.hid (Blk.drewN BK.out n))
          refine bodyPost_ret (v := nodeV n0.k n0.t n0.r n0.l n0.v (.slice Ak n0.kids.len ck)) (by simp [results, Tryz.results110, go_sem, z0, z1, z2, z3, z4, z5]) rfl ?_
          rw [HRD.out]
          refine ⟨_, kc, rfl, ⟨hnl, _, rfl, ?_⟩, ?_, rfl, hkk, ?_⟩
          · refine (HKC.out.keep fun b hb => ?_).mono fun b hb => ?_
            · have h1 := hb.1
              have hn : ∀ (x : World) (o : Nat) (u : Value), (x.setCell ⟨w.heap.size, o, none⟩ u).heap[b]? = x.heap[b]? := fun x o u => Below.heap_setCell x _ u b (by dsimp only; omega)
              rw [hn, hn, hn, hn, hn, hn]
              rfl
            · have h1 := hb.1
              have h2 := hb.2.1
              simp
              omega
          · (repeat (first | (with_reducible exact HD.out) | (with_reducible exact HD.out.next1 (by assumption)) | (with_reducible refine Rd.drewN ?_ _) | (with_reducible refine Rd.drew ?_) | (with_reducible refine Rd.alloc ?_ _) | (with_reducible refine Rd.new H0.out ?_ ?_ _; rotate_left; (show _ ≤ _; dsimp only; omega))))
          · (repeat (first | (with_reducible exact HO.out) | (with_reducible refine Only.set ?_ _ _) | (with_reducible refine only_drewN ?_ _) | (with_reducible refine only_drew ?_) | (with_reducible refine Only.alloc ?_ _) | (with_reducible refine only_setCell ?_ ?_ _; rotate_left; exact .inr (by dsimp only; omega))))
        · have hmany : 2 ≤ acc.length := by omega
          have h1f : ((acc.length : Int) == 1) = false := beq_eq_false_iff_ne.2 (by omega)
          have HRD := Lib.hid (show (R.go fun l L => .ok (rowE kind l) L) = Rs.ok ⟨kind, 0, 0, [], 0, frOf acc⟩ (all.drop kc) by rw [HRC.out, ← rowE_many hmany]; rfl)
          have hfl := frOf_len acc
          clear hone
          go_wp2_with (go_at_call 79; (with_reducible refine (peek0P HD.out).mono ?_); rw [HT.out]; rintro e w1 ⟨rfl, n, rfl⟩; have HE := Lib.hid (HE.out.mono (below_drewN (Below.refl _ _) n)); have HO := Lib.hid (only_drewN HO.out n); have HD := Lib.hid (HD.out.drewN n); have BK := Lib.hid (Blk.drewN BK.out n))
          refine bodyPost_ret (v := nodeV kind 0 0 [] 0 (.slice (some ⟨gl, 0, none⟩) acc.length cl)) (by simp [results, Tryz.results110, go_sem, z0, z1, z2, z3, z4, z5]) rfl ?_
          rw [HRD.out]
          refine ⟨_, kc, rfl, ⟨by simp, _, rfl, cells, ?_⟩, ?_, rfl, hkk, ?_⟩
          · have hn : ∀ b, w.heap.size < b → ∀ (x : World) (o : Nat) (u : Value), (x.setCell ⟨w.heap.size, o, none⟩ u).heap[b]? = x.heap[b]? := fun b hb x o u => Below.heap_setCell x _ u b (by dsimp only; omega)
            refine ⟨?_, by dsimp only; omega, fun b hb => ?_, ?_⟩
            · dsimp only
              rw [hfl]
              refine own_keep (own_zero HOW.out) fun b hb => ?_
              simp only [Value.ownBlock, Option.some.injEq] at hb
              rw [hn b (by omega), hn b (by omega), hn b (by omega), hn b (by omega), hn b (by omega), hn b (by omega)]
              rfl
            · simp only [Value.ownBlock, Option.some.injEq] at hb
              simp
              omega
            · refine ((HFR.out).keep (fun b hb => ?_) (frOf acc) cells).mono (fun b hb => ?_) (frOf acc) cells
              · have h1 := hb.1
                rw [hn b h1, hn b h1, hn b h1, hn b h1, hn b h1, hn b h1]
                rfl
              · have h1 := hb.1
                have h2 := hb.2.1
                simp
                omega
          · (repeat (first | (with_reducible exact HD.out) | (with_reducible exact HD.out.next1 (by assumption)) | (with_reducible refine Rd.drewN ?_ _) | (with_reducible refine Rd.drew ?_) | (with_reducible refine Rd.alloc ?_ _) | (with_reducible refine Rd.new H0.out ?_ ?_ _; rotate_left; (show _ ≤ _; dsimp only; omega))))
          · (repeat (first | (with_reducible exact HO.out) | (with_reducible refine Only.set ?_ _ _) | (with_reducible refine only_drewN ?_ _) | (with_reducible refine only_drew ?_) | (with_reducible refine Only.alloc ?_ _) | (with_reducible refine only_setCell ?_ ?_ _; rotate_left; exact .inr (by dsimp only; omega))))
end
end Go.Proofs.YtmlnibjnacfanaaGreatDoor
