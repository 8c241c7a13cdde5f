/- Layer 15: the program's Check of a trace that may be, without dependencies. -/
import Derived.Test.YtoegmdnfbemppaaGreatDoorKb42
import Derived.Test.YtoegmdnfbemppaaGreatDoorKb43
import Derived.Test.YtoegmdnfbemppaaGreatDoorKb44

namespace Go.Proofs.YtoegmdnfbemppaaGreatDoor
open Go.RowKit

section
set_option maxHeartbeats 4000000
set_option maxRecDepth 100000
theorem paired0P (V : TrcV) (A : Option Addr) (c : Nat) (b : Bool) (w : World) : Calls Tryz.prog 60 #[trcV V, .slice A 0 c, .bool b] w fun e w' => e = .returned (.bool true) ∧ Below w.heap.size w w' := by
  obtain ⟨⟨Al, nl, cl⟩, ⟨Ai, ni, ci⟩, ⟨Ae, ne, ce⟩, ⟨Ab, nb, cb⟩, ⟨Aa, na, ca⟩, ⟨Ad, nd, cd⟩, ⟨Ac, nc, cc⟩, ⟨At, nt, ct⟩, ⟨Ax, nx, cx⟩⟩ := V
  simp only [trcV, Sl.v]
  have HB0 := Lib.hid (alloc_b w (.cells #[.slice Al nl cl, .slice Ai ni ci, .slice Ae ne ce, .slice Ab nb cb, .slice Aa na ca, .slice Ad nd cd, .slice Ac nc cc, .slice At nt ct, .slice Ax nx cx] 41 (0, 0)))
  go_enter Tryz.func60, Tryz.ntmps60
  go_wp2_with fail
  go_loopw [15] (fun v wr => v = .int .i64 0 ∧ Below w.heap.size w wr) (fun _ _ => 0)
  case atStart => exact ⟨rfl, HB0.out⟩
  case round =>
    obtain ⟨rfl, hb⟩ := hrel
    have HB := Lib.hid hb
    clear hb HB0
    go_wp2_with fail
    go_ret
    exact ⟨rfl, HB.out⟩
theorem checkP0 (L : OutL) (V : TrcV) (w : World) (h : TrcAt w L V) (G : TrGood L) (h0 : L.a.addr = []) (h1 : L.a.data = []) (h2 : L.a.hang = []) (hth : L.th.length ≤ 1) : Calls Tryz.prog 17 #[trcV V] w fun e w' => e = .returned (.int .i64 0) ∧ Below w.heap.size w w' := by
  have hna : V.ad.n = 0 := by rw [h.nad, h0]; rfl
  have hnd : V.da.n = 0 := by rw [h.nda, h1]; rfl
  have hnc : V.ct.n = 0 := by rw [h.nct, h2]; rfl
  have H1 := Lib.hid (fun z (hz : Below w.heap.size w z) => locatedP L V z (h.below hz) G)
  have H2 := Lib.hid (fun z (hz : Below w.heap.size w z) => eventedP L V z (h.below hz) G)
  have H3 := Lib.hid (fun z (hz : Below w.heap.size w z) => barredP L V z (h.below hz) G)
  have H4 := Lib.hid (fun A c b z => paired0P V A c b z)
  have H5 := Lib.hid (fun x e z (hz : Below w.heap.size w z) (hx : EndOK L x e) => endedP L V z x e (h.below hz) G hx)
  obtain ⟨⟨Al, nl, cl⟩, ⟨Ai, ni, ci⟩, ⟨Ae, ne, ce⟩, ⟨Ab, nb, cb⟩, ⟨Aa, na, ca⟩, ⟨Ad, nd, cd⟩, ⟨Ac, nc, cc⟩, ⟨At, nt, ct⟩, ⟨Ax, nx, cx⟩⟩ := V
  simp only at hna hnd hnc
  subst hna hnd hnc
  simp only [trcV, Sl.v] at H1 H2 H3 H4 H5 ⊢
  have HT := Lib.hid h
  have hn8 : nt ≤ 1 := by have := h.nth; simp only at this; omega
  have HN8 := Lib.hid (show nt = L.th.length from h.nth)
  have hn9 : nx = nt := by have h8 := h.nth; have h9 := h.nen; simp only at h8 h9; rw [h8, h9]; exact G.nen
  have HG := Lib.hid G
  subst hn9
  have HB := Lib.hid (alloc_b w (.cells #[.slice Al nl cl, .slice Ai ni ci, .slice Ae ne ce, .slice Ab nb cb, .slice Aa 0 ca, .slice Ad 0 cd, .slice Ac 0 cc, .slice At nx ct, .slice Ax nx cx] 41 (0, 0)))
  have HK := Lib.hid (Blk.new w 41 #[.slice Al nl cl, .slice Ai ni ci, .slice Ae ne ce, .slice Ab nb cb, .slice Aa 0 ca, .slice Ad 0 cd, .slice Ac 0 cc, .slice At nx ct, .slice Ax nx cx])
  clear h G h0 h1 h2 hth
  go_enter Tryz.func17, Tryz.ntmps17
  go_wp2_with first | (go_at_call 57; refine (H1.out _ HB.out).mono ?_; rintro e w' ⟨rfl, hb9⟩; have HK := Lib.hid (HK.out.go hb9); have HB := Lib.hid (below_trans HB.out hb9); clear hb9; have k0 := HK.out.cell 0; have k1 := HK.out.cell 1; have k2 := HK.out.cell 2; have k3 := HK.out.cell 3; have k4 := HK.out.cell 4; have k5 := HK.out.cell 5; have k6 := HK.out.cell 6; have k7 := HK.out.cell 7; have k8 := HK.out.cell 8) | (go_at_call 58; refine (H2.out _ HB.out).mono ?_; rintro e w' ⟨rfl, hb9⟩; have HK := Lib.hid (HK.out.go hb9); have HB := Lib.hid (below_trans HB.out hb9); clear hb9; have k0 := HK.out.cell 0; have k1 := HK.out.cell 1; have k2 := HK.out.cell 2; have k3 := HK.out.cell 3; have k4 := HK.out.cell 4; have k5 := HK.out.cell 5; have k6 := HK.out.cell 6; have k7 := HK.out.cell 7; have k8 := HK.out.cell 8) | (go_at_call 59; refine (H3.out _ HB.out).mono ?_; rintro e w' ⟨rfl, hb9⟩; have HK := Lib.hid (HK.out.go hb9); have HB := Lib.hid (below_trans HB.out hb9); clear hb9; have k0 := HK.out.cell 0; have k1 := HK.out.cell 1; have k2 := HK.out.cell 2; have k3 := HK.out.cell 3; have k4 := HK.out.cell 4; have k5 := HK.out.cell 5; have k6 := HK.out.cell 6; have k7 := HK.out.cell 7; have k8 := HK.out.cell 8) | (go_at_call 60; refine (H4.out _ _ _ _).mono ?_; rintro e w' ⟨rfl, hb9⟩; have HK := Lib.hid (HK.out.go hb9); have HB := Lib.hid (below_trans HB.out hb9); clear hb9; have k0 := HK.out.cell 0; have k1 := HK.out.cell 1; have k2 := HK.out.cell 2; have k3 := HK.out.cell 3; have k4 := HK.out.cell 4; have k5 := HK.out.cell 5; have k6 := HK.out.cell 6; have k7 := HK.out.cell 7; have k8 := HK.out.cell 8)
  go_loopw [55] (fun v wr => ∃ i : Nat, i ≤ nx ∧ v = .int .i64 i ∧ Below w.heap.size w wr ∧ Blk wr w.heap.size 41 #[.slice Al nl cl, .slice Ai ni ci, .slice Ae ne ce, .slice Ab nb cb, .slice Aa 0 ca, .slice Ad 0 cd, .slice Ac 0 cc, .slice At nx ct, .slice Ax nx cx]) (fun v _ => nx - (intOf v).toNat)
  case atStart => exact ⟨0, Nat.zero_le _, rfl, HB.out, HK.out⟩
  case round =>
    obtain ⟨i, hi, rfl, hb, hk⟩ := hrel
    have HBR := Lib.hid hb
    have HKR := Lib.hid hk
    have k0 := hk.cell 0
    have k7 : wr.cell? ⟨w.heap.size, 7, none⟩ = some (.slice At nx ct) := hk.cell 7
    have hgw := hk.lt
    clear hb hk
    by_cases hlt : i < nx
    · have hi0 : i = 0 := by omega
      subst hi0
      obtain ⟨x, hx⟩ : ∃ x, L.th[0]? = some x := ⟨_, List.getElem?_eq_getElem (by rw [← HN8.out]; exact hlt)⟩
      obtain ⟨e, he⟩ : ∃ e, L.a.ends[0]? = some e := ⟨_, List.getElem?_eq_getElem (by rw [HG.out.nen, ← HN8.out]; exact hlt)⟩
      have hok := HG.out.en 0 x e hx he
      obtain ⟨tb, to, eA, c0, c1, c2⟩ := (HT.out.th.go HBR.out) 0 x hx
      simp only at eA
      subst eA
      obtain ⟨eb, eo, eA, d0, d1⟩ := prs_at (HT.out.en.below HBR.out) he
      simp only at eA
      subst eA
      have HEN := Lib.hid (fun z (hz : Below w.heap.size w z) => H5.out x e z hz hok)
      obtain ⟨xt, xr, xl⟩ := x
      obtain ⟨ek, en⟩ := e
      simp only [Nat.zero_mul, Nat.add_zero] at c0 c1 c2 d0 d1 HEN
      have hij : (0 : Int) < (nx : Int) := by omega
      have HT9 := Lib.hid (Blk.new wr 25 #[.int .i64 xt, .int .i64 xr, .string ⟨xl.toArray⟩])
      have HK9 := Lib.hid (HKR.out.alloc (.cells #[.int .i64 xt, .int .i64 xr, .string ⟨xl.toArray⟩] 25 (0, 0)))
      have HB9 := Lib.hid (below_alloc HBR.out (.cells #[.int .i64 xt, .int .i64 xr, .string ⟨xl.toArray⟩] 25 (0, 0)))
      have s12 := cell_al d0 (.cells #[.int .i64 xt, .int .i64 xr, .string ⟨xl.toArray⟩] 25 (0, 0))
      have s13 := cell_al d1 (.cells #[.int .i64 xt, .int .i64 xr, .string ⟨xl.toArray⟩] 25 (0, 0))
      clear hx he hok d0 d1
      go_wp2_with fail
      generalize wr.alloc (.cells #[.int .i64 xt, .int .i64 xr, .string ⟨xl.toArray⟩] 25 (0, 0)) = w9 at *
      have s0 : w9.cell? ⟨w.heap.size, 0, none⟩ = some (.slice Al nl cl) := HK9.out.cell 0
      have s1 : w9.cell? ⟨w.heap.size, 1, none⟩ = some (.slice Ai ni ci) := HK9.out.cell 1
      have s2 : w9.cell? ⟨w.heap.size, 2, none⟩ = some (.slice Ae ne ce) := HK9.out.cell 2
      have s3 : w9.cell? ⟨w.heap.size, 3, none⟩ = some (.slice Ab nb cb) := HK9.out.cell 3
      have s4 : w9.cell? ⟨w.heap.size, 4, none⟩ = some (.slice Aa 0 ca) := HK9.out.cell 4
      have s5 : w9.cell? ⟨w.heap.size, 5, none⟩ = some (.slice Ad 0 cd) := HK9.out.cell 5
      have s6 : w9.cell? ⟨w.heap.size, 6, none⟩ = some (.slice Ac 0 cc) := HK9.out.cell 6
      have s7 : w9.cell? ⟨w.heap.size, 7, none⟩ = some (.slice (some ⟨tb, to, none⟩) nx ct) := HK9.out.cell 7
      have s8 : w9.cell? ⟨w.heap.size, 8, none⟩ = some (.slice (some ⟨eb, eo, none⟩) nx cx) := HK9.out.cell 8
      have s9 : w9.cell? ⟨wr.heap.size, 0, none⟩ = some (.int .i64 xt) := HT9.out.cell 0
      have s10 : w9.cell? ⟨wr.heap.size, 1, none⟩ = some (.int .i64 xr) := HT9.out.cell 1
      have s11 : w9.cell? ⟨wr.heap.size, 2, none⟩ = some (.string ⟨xl.toArray⟩) := HT9.out.cell 2
      clear c0 c1 c2 k0 k7
      refine wpE_start (S := (fun y : World => y.cell? ⟨w.heap.size, 0, none⟩ = some (.slice Al nl cl) ∧ y.cell? ⟨w.heap.size, 1, none⟩ = some (.slice Ai ni ci) ∧ y.cell? ⟨w.heap.size, 2, none⟩ = some (.slice Ae ne ce) ∧ y.cell? ⟨w.heap.size, 3, none⟩ = some (.slice Ab nb cb) ∧ y.cell? ⟨w.heap.size, 4, none⟩ = some (.slice Aa 0 ca) ∧ y.cell? ⟨w.heap.size, 5, none⟩ = some (.slice Ad 0 cd) ∧ y.cell? ⟨w.heap.size, 6, none⟩ = some (.slice Ac 0 cc) ∧ y.cell? ⟨w.heap.size, 7, none⟩ = some (.slice (some ⟨tb, to, none⟩) nx ct) ∧ y.cell? ⟨w.heap.size, 8, none⟩ = some (.slice (some ⟨eb, eo, none⟩) nx cx) ∧ y.cell? ⟨wr.heap.size, 0, none⟩ = some (.int .i64 xt) ∧ y.cell? ⟨wr.heap.size, 1, none⟩ = some (.int .i64 xr) ∧ y.cell? ⟨wr.heap.size, 2, none⟩ = some (.string ⟨xl.toArray⟩) ∧ y.cell? ⟨eb, eo, none⟩ = some (.int .i64 ek) ∧ y.cell? ⟨eb, eo + 1, none⟩ = some (.int .i64 en))) (E := [0, 1, 3, 5, 6, 7]) (by kernel_rfl) ⟨s0, s1, s2, s3, s4, s5, s6, s7, s8, s9, s10, s11, s12, s13⟩ (fun hHeld => ?_)
      simp only [List.length_cons, List.length_nil, Nat.zero_add, Nat.reduceAdd]
      (refine wpP 2 (v := ?_) rfl (by kernel_rfl) ?_ ?_; rotate_left; (focus (intro x'; go_simp; try with_reducible rfl)); (try simp only [pa1, pa2, pa3, Act.put, pa4, pa5, pa6]))
      (refine wpP 4 (v := ?_) rfl (by kernel_rfl) ?_ ?_; rotate_left; (focus (intro x'; go_simp; try with_reducible rfl)); (try simp only [pa1, pa2, pa3, Act.put, pa4, pa5, pa6]))
      (refine wpT 0 (v := ?_) rfl (by kernel_rfl) ?_ (by assumption) ?_; rotate_left; (focus (intro x' hSx; (try dsimp only at hSx); go_simp; try with_reducible rfl)); (try simp only [pa1, pa3, Act.put, pa4, pa5, pa6]))
      (refine wpT 1 (v := ?_) rfl (by kernel_rfl) ?_ (by assumption) ?_; rotate_left; (focus (intro x' hSx; (try dsimp only at hSx); go_simp; try with_reducible rfl)); (try simp only [pa1, pa2, pa3, Act.put, pa4, pa5, pa6]))
      (refine wpT 3 (v := ?_) rfl (by kernel_rfl) ?_ (by assumption) ?_; rotate_left; (focus (intro x' hSx; (try dsimp only at hSx); go_simp; try with_reducible rfl)); (try simp only [pa1, pa2, pa3, Act.put, pa4, pa5, pa6]))
      (refine wpT 5 (v := ?_) rfl (by kernel_rfl) ?_ (by assumption) ?_; rotate_left; (focus (intro x' hSx; (try dsimp only at hSx); go_simp; try with_reducible rfl)); (try simp only [pa1, pa2, pa3, Act.put, pa4, pa5, pa6]))
      (refine wpT 6 (v := ?_) rfl (by kernel_rfl) ?_ (by assumption) ?_; rotate_left; (focus (intro x' hSx; (try dsimp only at hSx); go_simp; try with_reducible rfl)); (try simp only [pa1, pa2, pa3, Act.put, pa4, pa5, pa6]))
      refine wpE_one (i := 7) (by kernel_rfl) rfl (fun K hK => ?_)
      go_simp
      go_at_call 61
      refine (HEN.out _ HB9.out.drew).mono ?_
      rintro r w10 ⟨rfl, hb10⟩
      have hHeld10 := (And.intro (cell_go hHeld.1 hb10) (And.intro (cell_go hHeld.2.1 hb10) (And.intro (cell_go hHeld.2.2.1 hb10) (And.intro (cell_go hHeld.2.2.2.1 hb10) (And.intro (cell_go hHeld.2.2.2.2.1 hb10) (And.intro (cell_go hHeld.2.2.2.2.2.1 hb10) (And.intro (cell_go hHeld.2.2.2.2.2.2.1 hb10) (And.intro (cell_go hHeld.2.2.2.2.2.2.2.1 hb10) (And.intro (cell_go hHeld.2.2.2.2.2.2.2.2.1 hb10) (And.intro (cell_go hHeld.2.2.2.2.2.2.2.2.2.1 hb10) (And.intro (cell_go hHeld.2.2.2.2.2.2.2.2.2.2.1 hb10) (And.intro (cell_go hHeld.2.2.2.2.2.2.2.2.2.2.2.1 hb10) (And.intro (cell_go hHeld.2.2.2.2.2.2.2.2.2.2.2.2.1 hb10) (cell_go hHeld.2.2.2.2.2.2.2.2.2.2.2.2.2 hb10))))))))))))))
      have HB10 := Lib.hid (below_trans HB9.out.drew hb10)
      have HK10 := Lib.hid (show Blk w10 w.heap.size 41 _ from (show Blk w9.drew w.heap.size 41 _ from HK9.out).go hb10)
      refine hK.out _ _ hHeld10 ?_
      clear hK K hHeld hb10
      (try simp only [pa1, pa2, pa3, Act.put, pa4, pa5, pa6])
      (refine wpP 8 (v := ?_) rfl (by kernel_rfl) ?_ ?_; rotate_left; (focus (intro x'; go_simp; try with_reducible rfl)); (try simp only [pa1, pa2, pa3, Act.put, pa4, pa5, pa6]))
      (refine wpP 9 (v := ?_) rfl (by kernel_rfl) ?_ ?_; rotate_left; (focus (intro x'; go_simp; try with_reducible rfl)); (try simp only [pa1, pa2, pa3, Act.put, pa4, pa5, pa6]))
      (refine wpP 10 (v := ?_) rfl (by kernel_rfl) ?_ ?_; rotate_left; (focus (intro x'; go_simp; try with_reducible rfl)); (try simp only [pa1, pa2, pa3, Act.put, pa4, pa5, pa6]))
      (refine wpP 11 (v := ?_) rfl (by kernel_rfl) ?_ ?_; rotate_left; (focus (intro x'; go_simp; try with_reducible rfl)); (try simp only [pa1, pa2, pa3, Act.put, pa4, pa5, pa6]))
      (refine wpP 12 (v := ?_) rfl (by kernel_rfl) ?_ ?_; rotate_left; (focus (intro x'; go_simp; try with_reducible rfl)); (try simp only [pa1, pa2, pa3, Act.put, pa4, pa5, pa6]))
      (refine wpS 13 rfl (by kernel_rfl) ?_; (try simp only [pa1, pa2, pa3, Act.put, pa4, pa5, pa6]))
      (refine wpS 15 rfl (by kernel_rfl) ?_; (try simp only [pa1, pa2, pa3, Act.put, pa4, pa5, pa6]))
      (refine wpS 16 rfl (by kernel_rfl) ?_; (try simp only [pa1, pa2, pa3, Act.put, pa4, pa5, pa6]))
      (refine wpS 14 rfl (by kernel_rfl) ?_; (try simp only [pa1, pa2, pa3, Act.put, pa4, pa5, pa6]))
      (refine wpS 17 rfl (by kernel_rfl) ?_; (try simp only [pa1, pa2, pa3, Act.put, pa4, pa5, pa6]))
      (refine wpS 18 rfl (by kernel_rfl) ?_; (try simp only [pa1, pa2, pa3, Act.put, pa4, pa5, pa6]))
      (refine wpS 19 rfl (by kernel_rfl) ?_; (try simp only [pa1, pa2, pa3, Act.put, pa4, pa5, pa6]))
      refine wpE_one (i := 20) (by kernel_rfl) rfl (fun K hK => ?_)
      go_simp
      refine hK.out _ _ hHeld10 ?_
      clear hK K
      (try simp only [pa1, pa2, pa3, Act.put, pa4, pa5, pa6])
      (refine wpS 21 rfl (by kernel_rfl) ?_; (try simp only [pa1, pa2, pa3, Act.put, pa4, pa5, pa6]))
      (refine wpP 22 (v := ?_) rfl (by kernel_rfl) ?_ ?_; rotate_left; (focus (intro x'; go_simp; try with_reducible rfl)); (try simp only [pa1, pa2, pa3, Act.put, pa4, pa5, pa6]))
      refine wpE_tail 23 rfl (by kernel_rfl) ?_
      simp only [List.drop_succ_cons, List.drop_zero]
      clear hHeld10
      go_wp2_with fail
      go_roundw
      case rel => exact ⟨0 + 1, by omega, by go_num, HB10.out, HK10.out⟩
      case measure => simp [intOf]; omega
    · have hij : ¬ (i : Int) < (nx : Int) := by omega
      go_wp2_with fail
      go_ret
      exact ⟨rfl, HBR.out⟩
end
end Go.Proofs.YtoegmdnfbemppaaGreatDoor
