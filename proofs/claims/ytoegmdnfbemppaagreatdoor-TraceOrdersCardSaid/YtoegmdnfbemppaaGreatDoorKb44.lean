/- Layer 15: a thing's end that may be: the program's ended. -/
import Derived.Test.YtoegmdnfbemppaaGreatDoorKb11
import Derived.Test.YtoegmdnfbemppaaGreatDoorKb18
import Derived.Test.YtoegmdnfbemppaaGreatDoorKb41

namespace Go.Proofs.YtoegmdnfbemppaaGreatDoor
open Go.RowKit

theorem below_3 (w : World) (a b c : Obj) : Below w.heap.size w (((w.alloc a).alloc b).alloc c) := below_alloc (below_alloc (below_alloc (Below.refl _ _) _) _) _
section
set_option maxHeartbeats 4000000
set_option maxRecDepth 100000
theorem endedP (L : OutL) (V : TrcV) (w : World) (x : Th) (e : Int × Int) (h : TrcAt w L V) (G : TrGood L) (hx : EndOK L x e) :
    Calls Tryz.prog 61 #[trcV V, .agg #[.int .i64 x.1, .int .i64 x.2.1, .string ⟨x.2.2.toArray⟩], .agg #[.int .i64 e.1, .int .i64 e.2]] w fun r w' => r = .returned (.bool true) ∧ Below w.heap.size w w' := by
  obtain ⟨⟨Al, nl, cl⟩, ⟨Ai, ni, ci⟩, ⟨Ae, ne, ce⟩, ⟨Ab, nb, cb⟩, ⟨Aa, na, ca⟩, ⟨Ad, nd, cd⟩, ⟨Ac, nc, cc⟩, ⟨At, nt, ct⟩, ⟨Ax, nx, cx⟩⟩ := V
  simp only [trcV, Sl.v]
  have HT := Lib.hid h
  have hn1 := Lib.hid (show nl = L.lo.length from h.nlo)
  have hn2 := Lib.hid (show ni = L.ini.length from h.nini)
  have hn3 := Lib.hid (show ne = L.a.evs.length from h.nev)
  have hn4 := Lib.hid (show nb = L.a.bars.length from h.nbr)
  have hn8 := Lib.hid (show nt = L.th.length from h.nth)
  have hn9 := Lib.hid (show nx = L.a.ends.length from h.nen)
  have HB0 := Lib.hid (alloc_b w (.cells #[.slice Al nl cl, .slice Ai ni ci, .slice Ae ne ce, .slice Ab nb cb, .slice Aa na ca, .slice Ad nd cd, .slice Ac nc cc, .slice At nt ct, .slice Ax nx cx] 41 (0, 0)))
  have HTB := Lib.hid (Blk.new w 41 #[.slice Al nl cl, .slice Ai ni ci, .slice Ae ne ce, .slice Ab nb cb, .slice Aa na ca, .slice Ad nd cd, .slice Ac nc cc, .slice At nt ct, .slice Ax nx cx])
  have hl3 : ne ≤ 64 := by rw [hn3.out]; exact G.nev
  have hl1 : nl ≤ 64 := by rw [hn1.out]; exact G.nlo
  have HG := Lib.hid G
  clear h G
  obtain ⟨xt, xr, xl⟩ := x
  obtain ⟨ek, en⟩ := e
  unfold EndOK at hx
  simp only at hx ⊢
  have HBA := Lib.hid (below_3 w (.cells #[.slice Al nl cl, .slice Ai ni ci, .slice Ae ne ce, .slice Ab nb cb, .slice Aa na ca, .slice Ad nd cd, .slice Ac nc cc, .slice At nt ct, .slice Ax nx cx] 41 (0, 0)) (.cells #[.int .i64 xt, .int .i64 xr, .string ⟨xl.toArray⟩] 25 (0, 0)) (.cells #[.int .i64 ek, .int .i64 en] 54 (0, 0)))
  rcases hx with ⟨h1, h2, h3, h4, h5⟩ | ⟨h1, h2, h3, h4, h5, h6⟩
  · subst h1 h2 h4 h5
    have HS := Lib.hid (fun (y : World) (hy : encS.At y Al L.lo) => searchP Al cl L.lo xl y hy (by have := HG.out.nlo; omega) HG.out.str h3)
    rw [← hn1.out] at HS
    have HLA := Lib.hid HT.out.lo
    obtain ⟨j, hj⟩ : ∃ j, L.lo.idxOf xl = j := ⟨_, rfl⟩
    rw [hj] at HS ⊢
    rw [hj] at HBA
    clear hj h3
    go_enter Tryz.func61, Tryz.ntmps61
    go_wp2_with (go_at_call 30; refine (HS.out _ (HLA.out.below HBA.out)).mono ?_; rintro r w' ⟨rfl, q, rfl⟩)
    go_ret
    exact ⟨rfl, below_drewN HBA.out q⟩
  · subst h5
    have hxf : (xt == -1) = false := by simp; omega
    rcases h6 with ⟨rfl, h7⟩ | ⟨rfl, i, y, rfl, hy, h8, h9⟩
    · have HNU := Lib.hid (fun (z : World) => show Calls Tryz.prog 109 #[.int .i64 en] z fun r w' => r = .returned (.bool true) ∧ z = w' by
        have := numT z en
        rw [h7] at this
        exact this)
      clear h7
      go_enter Tryz.func61, Tryz.ntmps61
      go_wp2_with (go_at_call 109; refine (HNU.out _).mono ?_; rintro r w' ⟨rfl, rfl⟩)
      go_ret
      exact ⟨rfl, HBA.out⟩
    · obtain ⟨b, o, eA, c0, c1, c2, c3, c4, c5⟩ := evt_at (HT.out.ev.below HBA.out) hy
      simp only at eA
      subst eA
      obtain ⟨yt, yp, yd, yl, yv, yr⟩ := y
      simp only at c0 c1 c2 c3 c4 c5 h8 h9
      subst h8 h9
      have hil := (List.getElem?_eq_some_iff.1 hy).1
      rw [← hn3.out] at hil
      have hii : (0 : Int) ≤ (i : Int) := by omega
      have hij : (i : Int) < (ne : Int) := by omega
      have hd1 : decide ((i : Int) < (ne : Int)) = true := decide_eq_true hij
      have hd2 : decide (i < ne) = true := decide_eq_true hil
      clear hy hn1 hn2 hn3 hn4 hn8 hn9 HB0 HTB HT HG c1 c3 c4 c5
      go_enter Tryz.func61, Tryz.ntmps61
      go_wp2_with fail
      generalize hw9 : ((w.alloc (.cells #[.slice Al nl cl, .slice Ai ni ci, .slice (some ⟨b, o, none⟩) ne ce, .slice Ab nb cb, .slice Aa na ca, .slice Ad nd cd, .slice Ac nc cc, .slice At nt ct, .slice Ax nx cx] 41 (0, 0))).alloc (.cells #[.int .i64 yt, .int .i64 xr, .string ⟨#[]⟩] 25 (0, 0))).alloc (.cells #[.int .i64 2, .int .i64 (i : Int)] 54 (0, 0)) = w9 at *
      have k2 : w9.cell? ⟨w.heap.size, 2, none⟩ = some (.slice (some ⟨b, o, none⟩) ne ce) := by rw [← hw9]; exact (Blk.alloc (Blk.alloc (Blk.new w 41 #[.slice Al nl cl, .slice Ai ni ci, .slice (some ⟨b, o, none⟩) ne ce, .slice Ab nb cb, .slice Aa na ca, .slice Ad nd cd, .slice Ac nc cc, .slice At nt ct, .slice Ax nx cx]) _) _).cell 2
      have k3 : w9.cell? ⟨w.heap.size + 1 + 1, 1, none⟩ = some (.int .i64 (i : Int)) := by
        rw [← hw9]
        have := (Blk.new ((w.alloc (.cells #[.slice Al nl cl, .slice Ai ni ci, .slice (some ⟨b, o, none⟩) ne ce, .slice Ab nb cb, .slice Aa na ca, .slice Ad nd cd, .slice Ac nc cc, .slice At nt ct, .slice Ax nx cx] 41 (0, 0))).alloc (.cells #[.int .i64 yt, .int .i64 xr, .string ⟨#[]⟩] 25 (0, 0))) 54 #[.int .i64 2, .int .i64 (i : Int)]).cell 1
        simpa using this
      have k4 : w9.cell? ⟨w.heap.size + 1, 0, none⟩ = some (.int .i64 yt) := by
        rw [← hw9]
        have := (Blk.alloc (Blk.new (w.alloc (.cells #[.slice Al nl cl, .slice Ai ni ci, .slice (some ⟨b, o, none⟩) ne ce, .slice Ab nb cb, .slice Aa na ca, .slice Ad nd cd, .slice Ac nc cc, .slice At nt ct, .slice Ax nx cx] 41 (0, 0))) 25 #[.int .i64 yt, .int .i64 xr, .string ⟨#[]⟩]) (.cells #[.int .i64 2, .int .i64 (i : Int)] 54 (0, 0))).cell 0
        simpa using this
      clear hw9
      refine wpE_start (S := (fun y : World => y.cell? ⟨w.heap.size, 2, none⟩ = some (.slice (some ⟨b, o, none⟩) ne ce) ∧ y.cell? ⟨w.heap.size + 1 + 1, 1, none⟩ = some (.int .i64 (i : Int)) ∧ y.cell? ⟨w.heap.size + 1, 0, none⟩ = some (.int .i64 yt) ∧ y.cell? ⟨b, o + i * 6, none⟩ = some (.int .i64 yt) ∧ y.cell? ⟨b, o + i * 6 + 2, none⟩ = some (.int .i64 1))) (E := [1, 5, 7, 8, 13, 15, 18, 23, 25, 28, 30]) (by kernel_rfl) ⟨k2, k3, k4, c0, c2⟩ (fun hHeld => ?_)
      simp only [List.length_cons, List.length_nil, Nat.zero_add, Nat.reduceAdd]
      (refine wpP 0 (v := ?_) rfl (by kernel_rfl) ?_ ?_; rotate_left; (focus (intro x'; go_simp; try with_reducible rfl)); (try simp only [pa1, pa3, Act.put, pa4, pa5, pa6]))
      (refine wpT 1 (v := ?_) rfl (by kernel_rfl) ?_ (by assumption) ?_; rotate_left; (focus (intro x' hSx; (try dsimp only at hSx); go_simp; try with_reducible rfl)); (try simp only [pa1, pa2, pa3, Act.put, pa4, pa5, pa6]))
      (refine wpP 2 (v := ?_) rfl (by kernel_rfl) ?_ ?_; rotate_left; (focus (intro x'; go_simp; try with_reducible rfl)); (try simp only [pa1, pa2, pa3, Act.put, pa4, pa5, pa6]))
      (refine wpP 3 (v := ?_) rfl (by kernel_rfl) ?_ ?_; rotate_left; (focus (intro x'; go_simp; try with_reducible rfl)); (try simp only [pa1, pa2, pa3, Act.put, pa4, pa5, pa6]))
      (refine wpP 4 (v := ?_) rfl (by kernel_rfl) ?_ ?_; rotate_left; (focus (intro x'; go_simp; try with_reducible rfl)); (try simp only [pa1, pa2, pa3, Act.put, pa4, pa5, pa6]))
      (refine wpP 6 (v := ?_) rfl (by kernel_rfl) ?_ ?_; rotate_left; (focus (intro x'; go_simp; try with_reducible rfl)); (try simp only [pa1, pa2, pa3, Act.put, pa4, pa5, pa6]))
      (refine wpT 5 (v := ?_) rfl (by kernel_rfl) ?_ (by assumption) ?_; rotate_left; (focus (intro x' hSx; (try dsimp only at hSx); go_simp; try with_reducible rfl)); (try simp only [pa1, pa2, pa3, Act.put, pa4, pa5, pa6]))
      (refine wpT 7 (v := ?_) rfl (by kernel_rfl) ?_ (by assumption) ?_; rotate_left; (focus (intro x' hSx; (try dsimp only at hSx); go_simp; try with_reducible rfl)); (try simp only [pa1, pa2, pa3, Act.put, pa4, pa5, pa6]))
      refine wpE_one (i := 8) (by kernel_rfl) rfl (fun K hK => ?_)
      go_simp
      refine hK.out _ _ hHeld ?_
      clear hK K
      (try simp only [pa1, pa2, pa3, Act.put, pa4, pa5, pa6])
      (refine wpP 9 (v := ?_) rfl (by kernel_rfl) ?_ ?_; rotate_left; (focus (intro x'; go_simp; try with_reducible rfl)); (try simp only [pa1, pa2, pa3, Act.put, pa4, pa5, pa6]))
      (refine wpP 10 (v := ?_) rfl (by kernel_rfl) ?_ ?_; rotate_left; (focus (intro x'; go_simp; try with_reducible rfl)); (try simp only [pa1, pa2, pa3, Act.put, pa4, pa5, pa6]))
      (refine wpP 11 (v := ?_) rfl (by kernel_rfl) ?_ ?_; rotate_left; (focus (intro x'; go_simp; try with_reducible rfl)); (try simp only [pa1, pa2, pa3, Act.put, pa4, pa5, pa6]))
      (refine wpP 12 (v := ?_) rfl (by kernel_rfl) ?_ ?_; rotate_left; (focus (intro x'; go_simp; try with_reducible rfl)); (try simp only [pa1, pa2, pa3, Act.put, pa4, pa5, pa6]))
      (refine wpP 14 (v := ?_) rfl (by kernel_rfl) ?_ ?_; rotate_left; (focus (intro x'; go_simp; try with_reducible rfl)); (try simp only [pa1, pa2, pa3, Act.put, pa4, pa5, pa6]))
      (refine wpT 13 (v := ?_) rfl (by kernel_rfl) ?_ (by assumption) ?_; rotate_left; (focus (intro x' hSx; (try dsimp only at hSx); go_simp; try with_reducible rfl)); (try simp only [pa1, pa2, pa3, Act.put, pa4, pa5, pa6]))
      (refine wpT 15 (v := ?_) rfl (by kernel_rfl) ?_ (by assumption) ?_; rotate_left; (focus (intro x' hSx; (try dsimp only at hSx); go_simp; try with_reducible rfl)); (try simp only [pa1, pa2, pa3, Act.put, pa4, pa5, pa6]))
      (refine wpP 16 (v := ?_) rfl (by kernel_rfl) ?_ ?_; rotate_left; (focus (intro x'; go_simp; try with_reducible rfl)); (try simp only [pa1, pa2, pa3, Act.put, pa4, pa5, pa6]))
      (refine wpP 17 (v := ?_) rfl (by kernel_rfl) ?_ ?_; rotate_left; (focus (intro x'; go_simp; try with_reducible rfl)); (try simp only [pa1, pa2, pa3, Act.put, pa4, pa5, pa6]))
      (refine wpT 18 (v := ?_) rfl (by kernel_rfl) ?_ (by assumption) ?_; rotate_left; (focus (intro x' hSx; (try dsimp only at hSx); go_simp; try with_reducible rfl)); (try simp only [pa1, pa2, pa3, Act.put, pa4, pa5, pa6]))
      (refine wpP 19 (v := ?_) rfl (by kernel_rfl) ?_ ?_; rotate_left; (focus (intro x'; go_simp; try with_reducible rfl)); (try simp only [pa1, pa2, pa3, Act.put, pa4, pa5, pa6]))
      (refine wpP 20 (v := ?_) rfl (by kernel_rfl) ?_ ?_; rotate_left; (focus (intro x'; go_simp; try with_reducible rfl)); (try simp only [pa1, pa2, pa3, Act.put, pa4, pa5, pa6]))
      (refine wpP 21 (v := ?_) rfl (by kernel_rfl) ?_ ?_; rotate_left; (focus (intro x'; go_simp; try with_reducible rfl)); (try simp only [pa1, pa2, pa3, Act.put, pa4, pa5, pa6]))
      (refine wpP 22 (v := ?_) rfl (by kernel_rfl) ?_ ?_; rotate_left; (focus (intro x'; go_simp; try with_reducible rfl)); (try simp only [pa1, pa2, pa3, Act.put, pa4, pa5, pa6]))
      (refine wpP 24 (v := ?_) rfl (by kernel_rfl) ?_ ?_; rotate_left; (focus (intro x'; go_simp; try with_reducible rfl)); (try simp only [pa1, pa2, pa3, Act.put, pa4, pa5, pa6]))
      (refine wpP 29 (v := ?_) rfl (by kernel_rfl) ?_ ?_; rotate_left; (focus (intro x'; go_simp; try with_reducible rfl)); (try simp only [pa1, pa2, pa3, Act.put, pa4, pa5, pa6]))
      (refine wpT 23 (v := ?_) rfl (by kernel_rfl) ?_ (by assumption) ?_; rotate_left; (focus (intro x' hSx; (try dsimp only at hSx); go_simp; try with_reducible rfl)); (try simp only [pa1, pa2, pa3, Act.put, pa4, pa5, pa6]))
      (refine wpT 25 (v := ?_) rfl (by kernel_rfl) ?_ (by assumption) ?_; rotate_left; (focus (intro x' hSx; (try dsimp only at hSx); go_simp; try with_reducible rfl)); (try simp only [pa1, pa2, pa3, Act.put, pa4, pa5, pa6]))
      (refine wpP 26 (v := ?_) rfl (by kernel_rfl) ?_ ?_; rotate_left; (focus (intro x'; go_simp; try with_reducible rfl)); (try simp only [pa1, pa2, pa3, Act.put, pa4, pa5, pa6]))
      (refine wpP 27 (v := ?_) rfl (by kernel_rfl) ?_ ?_; rotate_left; (focus (intro x'; go_simp; try with_reducible rfl)); (try simp only [pa1, pa2, pa3, Act.put, pa4, pa5, pa6]))
      (refine wpT 28 (v := ?_) rfl (by kernel_rfl) ?_ (by assumption) ?_; rotate_left; (focus (intro x' hSx; (try dsimp only at hSx); go_simp; try with_reducible rfl)); (try simp only [pa1, pa2, pa3, Act.put, pa4, pa5, pa6]))
      (refine wpT 30 (v := ?_) rfl (by kernel_rfl) ?_ (by assumption) ?_; rotate_left; (focus (intro x' hSx; (try dsimp only at hSx); go_simp; try with_reducible rfl)); (try simp only [pa1, pa2, pa3, Act.put, pa4, pa5, pa6]))
      (refine wpP 31 (v := ?_) rfl (by kernel_rfl) ?_ ?_; rotate_left; (focus (intro x'; go_simp; try with_reducible rfl)); (try simp only [pa1, pa2, pa3, Act.put, pa4, pa5, pa6]))
      (refine wpP 32 (v := ?_) rfl (by kernel_rfl) ?_ ?_; rotate_left; (focus (intro x'; go_simp; try with_reducible rfl)); (try simp only [pa1, pa2, pa3, Act.put, pa4, pa5, pa6]))
      refine wpE_tail 33 rfl (by kernel_rfl) ?_
      simp only [List.drop_succ_cons, List.drop_zero]
      have HB9 := Lib.hid HBA.out.drew
      go_wp2_with fail
      go_ret
      exact ⟨rfl, HB9.out⟩
end
end Go.Proofs.YtoegmdnfbemppaaGreatDoor
