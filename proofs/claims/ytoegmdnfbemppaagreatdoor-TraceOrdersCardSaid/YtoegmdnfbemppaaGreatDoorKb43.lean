/- Layer 15: a trace that may be, is told to be so: the program's barred. -/
import Derived.Test.YtoegmdnfbemppaaGreatDoorKb11
import Derived.Test.YtoegmdnfbemppaaGreatDoorKb41

namespace Go.Proofs.YtoegmdnfbemppaaGreatDoor
open Go.RowKit

section
set_option maxHeartbeats 4000000
set_option maxRecDepth 100000
theorem barredP (L : OutL) (V : TrcV) (w : World) (h : TrcAt w L V) (G : TrGood L) : Calls Tryz.prog 59 #[trcV V] w fun e w' => e = .returned (.bool true) ∧ Below w.heap.size w w' := by
  obtain ⟨⟨Al, nl, cl⟩, ⟨Ai, ni, ci⟩, ⟨Ae, ne, ce⟩, ⟨Ab, nb, cb⟩, ⟨Aa, na, ca⟩, ⟨Ad, nd, cd⟩, ⟨Ac, nc, cc⟩, ⟨At, nt, ct⟩, ⟨Ax, nx, cx⟩⟩ := V
  simp only [trcV, Sl.v]
  have HT := Lib.hid h
  have hn1 := Lib.hid (show nl = L.lo.length from h.nlo)
  have hn2 := Lib.hid (show ni = L.ini.length from h.nini)
  have hn3 := Lib.hid (show ne = L.a.evs.length from h.nev)
  have hn4 := Lib.hid (show nb = L.a.bars.length from h.nbr)
  have hn8 := Lib.hid (show nt = L.th.length from h.nth)
  have hn9 := Lib.hid (show nx = L.a.ends.length from h.nen)
  have HB0 := Lib.hid (alloc_b w (.cells #[.slice Al nl cl, .slice Ai ni ci, .slice Ae ne ce, .slice Ab nb cb, .slice Aa na ca, .slice Ad nd cd, .slice Ac nc cc, .slice At nt ct, .slice Ax nx cx] 41 (0, 0)))
  have HTB := Lib.hid (Blk.new w 41 #[.slice Al nl cl, .slice Ai ni ci, .slice Ae ne ce, .slice Ab nb cb, .slice Aa na ca, .slice Ad nd cd, .slice Ac nc cc, .slice At nt ct, .slice Ax nx cx])
  have hl1 : nb ≤ 4096 := by rw [hn4.out]; exact G.nbr
  have hl2 : ne ≤ 64 := by rw [hn3.out]; exact G.nev
  have HG := Lib.hid G
  clear h G
  go_enter Tryz.func59, Tryz.ntmps59
  go_wp2_with fail
  go_loopw [14] (fun v wr => ∃ i : Nat, i ≤ nb ∧ v = .int .i64 i ∧ Below w.heap.size w wr ∧ Blk wr w.heap.size 41 #[.slice Al nl cl, .slice Ai ni ci, .slice Ae ne ce, .slice Ab nb cb, .slice Aa na ca, .slice Ad nd cd, .slice Ac nc cc, .slice At nt ct, .slice Ax nx cx]) (fun v _ => nb - (intOf v).toNat)
  case atStart => exact ⟨0, Nat.zero_le _, rfl, HB0.out, HTB.out⟩
  case round =>
    obtain ⟨i, hi, rfl, hb, ht⟩ := hrel
    obtain ⟨wk, hwk⟩ : ∃ z : World, z = wr := ⟨_, rfl⟩
    subst hwk
    have HB := Lib.hid hb
    have HK := Lib.hid ht
    have k3 : wk.cell? ⟨w.heap.size, 3, none⟩ = some (.slice Ab nb cb) := ht.cell 3
    have hii : (0 : Int) ≤ (i : Int) := by omega
    have hgw := ht.lt
    clear hb ht HB0 HTB
    by_cases hlt : i < nb
    · have hij : (i : Int) < (nb : Int) := by omega
      obtain ⟨x, hx⟩ : ∃ x, L.a.bars[i]? = some x := ⟨_, List.getElem?_eq_getElem (by rw [← hn4.out]; omega)⟩
      obtain ⟨b, o, eA, c0, c1, c2⟩ := bar_at (HT.out.br.below HB.out) hx
      simp only at eA
      subst eA
      obtain ⟨⟨h1a, h1b⟩, ⟨h2a, h2b⟩, h3a, h3b⟩ := HG.out.br x (List.mem_of_getElem? hx)
      have HEV := Lib.hid (fun j x' (h : L.a.bars[j]? = some x') (hj : j + 1 = i) => HG.out.bro j x' x h (by rw [hj]; exact hx))
      have HNE := Lib.hid (HG.out.bre x (List.mem_of_getElem? hx))
      obtain ⟨xt, xp, xf⟩ := x
      simp only at h1a h1b h2a h2b h3a h3b c0 c1 c2
      have HPL := Lib.hid (fun (z : World) => placedP xt xp z ⟨h1a, h1b⟩ ⟨h2a, h2b⟩)
      have HBD := Lib.hid (below_alloc HB.out (.cells #[.int .i64 xt, .int .i64 xp, .int .i64 xf] 79 (0, 0)))
      have HBBD := Lib.hid (Blk.new wk 79 #[.int .i64 xt, .int .i64 xp, .int .i64 xf])
      have HKD := Lib.hid (Blk.alloc HK.out (.cells #[.int .i64 xt, .int .i64 xp, .int .i64 xf] 79 (0, 0)))
      clear hx
      by_cases h0 : i = 0
      · subst h0
        simp only [Nat.add_zero, Nat.zero_mul] at c0 c1 c2
        clear hii
        go_wp2_with (go_at_call 110; refine (HPL.out _).mono ?_; rintro e w' ⟨rfl, rfl⟩)
        refine wpE_start (S := (fun _ : World => True)) (E := []) (by kernel_rfl) trivial (fun hHeld => ?_)
        simp only [List.length_cons, List.length_nil, Nat.zero_add, Nat.reduceAdd]
        (refine wpP 0 (v := ?_) rfl (by kernel_rfl) ?_ ?_; rotate_left; (focus (intro x'; go_simp; try with_reducible rfl)); (try simp only [pa1, pa3, Act.put, pa4, pa5, pa6]))
        (refine wpP 1 (v := ?_) rfl (by kernel_rfl) ?_ ?_; rotate_left; (focus (intro x'; go_simp; try with_reducible rfl)); (try simp only [pa1, pa2, pa3, Act.put, pa4, pa5, pa6]))
        (refine wpP 2 (v := ?_) rfl (by kernel_rfl) ?_ ?_; rotate_left; (focus (intro x'; go_simp; try with_reducible rfl)); (try simp only [pa1, pa2, pa3, Act.put, pa4, pa5, pa6]))
        (refine wpS 3 rfl (by kernel_rfl) ?_; (try simp only [pa1, pa2, pa3, Act.put, pa4, pa5, pa6]))
        (refine wpS 5 rfl (by kernel_rfl) ?_; (try simp only [pa1, pa2, pa3, Act.put, pa4, pa5, pa6]))
        (refine wpS 6 rfl (by kernel_rfl) ?_; (try simp only [pa1, pa2, pa3, Act.put, pa4, pa5, pa6]))
        (refine wpS 10 rfl (by kernel_rfl) ?_; (try simp only [pa1, pa2, pa3, Act.put, pa4, pa5, pa6]))
        (refine wpS 4 rfl (by kernel_rfl) ?_; (try simp only [pa1, pa2, pa3, Act.put, pa4, pa5, pa6]))
        (refine wpS 7 rfl (by kernel_rfl) ?_; (try simp only [pa1, pa2, pa3, Act.put, pa4, pa5, pa6]))
        (refine wpS 8 rfl (by kernel_rfl) ?_; (try simp only [pa1, pa2, pa3, Act.put, pa4, pa5, pa6]))
        (refine wpS 9 rfl (by kernel_rfl) ?_; (try simp only [pa1, pa2, pa3, Act.put, pa4, pa5, pa6]))
        (refine wpS 11 rfl (by kernel_rfl) ?_; (try simp only [pa1, pa2, pa3, Act.put, pa4, pa5, pa6]))
        (refine wpS 12 rfl (by kernel_rfl) ?_; (try simp only [pa1, pa2, pa3, Act.put, pa4, pa5, pa6]))
        (refine wpS 13 rfl (by kernel_rfl) ?_; (try simp only [pa1, pa2, pa3, Act.put, pa4, pa5, pa6]))
        (refine wpS 14 rfl (by kernel_rfl) ?_; (try simp only [pa1, pa2, pa3, Act.put, pa4, pa5, pa6]))
        (refine wpS 16 rfl (by kernel_rfl) ?_; (try simp only [pa1, pa2, pa3, Act.put, pa4, pa5, pa6]))
        (refine wpS 17 rfl (by kernel_rfl) ?_; (try simp only [pa1, pa2, pa3, Act.put, pa4, pa5, pa6]))
        (refine wpS 21 rfl (by kernel_rfl) ?_; (try simp only [pa1, pa2, pa3, Act.put, pa4, pa5, pa6]))
        (refine wpS 15 rfl (by kernel_rfl) ?_; (try simp only [pa1, pa2, pa3, Act.put, pa4, pa5, pa6]))
        (refine wpS 18 rfl (by kernel_rfl) ?_; (try simp only [pa1, pa2, pa3, Act.put, pa4, pa5, pa6]))
        (refine wpS 19 rfl (by kernel_rfl) ?_; (try simp only [pa1, pa2, pa3, Act.put, pa4, pa5, pa6]))
        (refine wpS 20 rfl (by kernel_rfl) ?_; (try simp only [pa1, pa2, pa3, Act.put, pa4, pa5, pa6]))
        (refine wpS 22 rfl (by kernel_rfl) ?_; (try simp only [pa1, pa2, pa3, Act.put, pa4, pa5, pa6]))
        (refine wpS 23 rfl (by kernel_rfl) ?_; (try simp only [pa1, pa2, pa3, Act.put, pa4, pa5, pa6]))
        (refine wpS 24 rfl (by kernel_rfl) ?_; (try simp only [pa1, pa2, pa3, Act.put, pa4, pa5, pa6]))
        (refine wpS 25 rfl (by kernel_rfl) ?_; (try simp only [pa1, pa2, pa3, Act.put, pa4, pa5, pa6]))
        (refine wpS 27 rfl (by kernel_rfl) ?_; (try simp only [pa1, pa2, pa3, Act.put, pa4, pa5, pa6]))
        (refine wpS 28 rfl (by kernel_rfl) ?_; (try simp only [pa1, pa2, pa3, Act.put, pa4, pa5, pa6]))
        (refine wpS 32 rfl (by kernel_rfl) ?_; (try simp only [pa1, pa2, pa3, Act.put, pa4, pa5, pa6]))
        (refine wpS 26 rfl (by kernel_rfl) ?_; (try simp only [pa1, pa2, pa3, Act.put, pa4, pa5, pa6]))
        (refine wpS 29 rfl (by kernel_rfl) ?_; (try simp only [pa1, pa2, pa3, Act.put, pa4, pa5, pa6]))
        (refine wpS 30 rfl (by kernel_rfl) ?_; (try simp only [pa1, pa2, pa3, Act.put, pa4, pa5, pa6]))
        (refine wpS 31 rfl (by kernel_rfl) ?_; (try simp only [pa1, pa2, pa3, Act.put, pa4, pa5, pa6]))
        (refine wpS 33 rfl (by kernel_rfl) ?_; (try simp only [pa1, pa2, pa3, Act.put, pa4, pa5, pa6]))
        (refine wpS 34 rfl (by kernel_rfl) ?_; (try simp only [pa1, pa2, pa3, Act.put, pa4, pa5, pa6]))
        (refine wpS 35 rfl (by kernel_rfl) ?_; (try simp only [pa1, pa2, pa3, Act.put, pa4, pa5, pa6]))
        (refine wpS 36 rfl (by kernel_rfl) ?_; (try simp only [pa1, pa2, pa3, Act.put, pa4, pa5, pa6]))
        refine wpE_tail 37 rfl (by kernel_rfl) ?_
        simp only [List.drop_succ_cons, List.drop_zero]
        have HBD := Lib.hid HBD.out.drew
        have HKD : Hid (Blk (wk.alloc (.cells #[.int .i64 xt, .int .i64 xp, .int .i64 xf] 79 (0, 0))).drew w.heap.size 41 #[.slice Al nl cl, .slice Ai ni ci, .slice Ae ne ce, .slice (some ⟨b, o, none⟩) nb cb, .slice Aa na ca, .slice Ad nd cd, .slice Ac nc cc, .slice At nt ct, .slice Ax nx cx]) := HKD
        have HBBD : Hid (Blk (wk.alloc (.cells #[.int .i64 xt, .int .i64 xp, .int .i64 xf] 79 (0, 0))).drew wk.heap.size 79 #[.int .i64 xt, .int .i64 xp, .int .i64 xf]) := HBBD
        generalize (wk.alloc (.cells #[.int .i64 xt, .int .i64 xp, .int .i64 xf] 79 (0, 0))).drew = w9 at *
        have e2 : w9.cell? ⟨w.heap.size, 2, none⟩ = some (.slice Ae ne ce) := HKD.out.cell 2
        go_wp2_with fail
        clear e2
        go_loopw [76] (fun v wr => ∃ m : Nat, m ≤ ne ∧ v = .int .i64 m ∧ Below w.heap.size w wr ∧ Blk wr w.heap.size 41 #[.slice Al nl cl, .slice Ai ni ci, .slice Ae ne ce, .slice (some ⟨b, o, none⟩) nb cb, .slice Aa na ca, .slice Ad nd cd, .slice Ac nc cc, .slice At nt ct, .slice Ax nx cx] ∧ Blk wr wk.heap.size 79 #[.int .i64 xt, .int .i64 xp, .int .i64 xf]) (fun v _ => ne - (intOf v).toNat)
        case atStart => exact ⟨0, Nat.zero_le _, rfl, HBD.out, HKD.out, HBBD.out⟩
        case round =>
          obtain ⟨m, hm, rfl, hb, ht, hbb⟩ := hrel
          have HB2 := Lib.hid hb
          have HK2 := Lib.hid ht
          have HBB2 := Lib.hid hbb
          have f0 : wr.cell? ⟨wk.heap.size, 0, none⟩ = some (.int .i64 xt) := hbb.cell 0
          have f1 : wr.cell? ⟨wk.heap.size, 1, none⟩ = some (.int .i64 xp) := hbb.cell 1
          have hgr := hbb.lt
          have hmm : (0 : Int) ≤ (m : Int) := by omega
          clear hb ht hbb HBD HKD HBBD
          by_cases hlm : m < ne
          · have hml : (m : Int) < (ne : Int) := by omega
            obtain ⟨x, hx⟩ : ∃ x, L.a.evs[m]? = some x := ⟨_, List.getElem?_eq_getElem (by rw [← hn3.out]; exact hlm)⟩
            obtain ⟨be, oe, eA, c0, c1, c2, c3, c4, c5⟩ := evt_at (HT.out.ev.below HB2.out) hx
            simp only at eA
            subst eA
            have hne := HNE.out x (List.mem_of_getElem? hx)
            obtain ⟨qt, qp, qd, ql, qv, qr⟩ := x
            simp only at c0 c1 c2 c3 c4 c5 hne
            have HB3 := Lib.hid (below_alloc HB2.out (.cells #[.int .i64 qt, .int .i64 qp, .int .i64 qd, .int .i64 ql, .int .i64 qv, .int .i64 qr] 50 (0, 0)))
            clear hx
            by_cases hqt : qt = xt
            · have hqp : (qp == xp) = false := by simpa using hne hqt
              subst hqt
              clear hne
              go_wp2_with fail
              go_roundw
              case rel => exact ⟨m + 1, by omega, by go_num, HB3.out, Blk.alloc HK2.out _, Blk.alloc HBB2.out _⟩
              case measure => simp [intOf]; omega
            · have hqf : (qt == xt) = false := by simpa using hqt
              clear hne
              go_wp2_with fail
              go_roundw
              case rel => exact ⟨m + 1, by omega, by go_num, HB3.out, Blk.alloc HK2.out _, Blk.alloc HBB2.out _⟩
              case measure => simp [intOf]; omega
          · have hml : ¬ (m : Int) < (ne : Int) := by omega
            go_wp2_with fail
            go_roundw
            case rel => exact ⟨0 + 1, by omega, by go_num, HB2.out, HK2.out⟩
            case measure => simp [intOf]; omega
      · obtain ⟨j, hji⟩ : ∃ j, i = j + 1 := ⟨i - 1, by omega⟩
        obtain ⟨y, hy⟩ : ∃ x, L.a.bars[j]? = some x := ⟨_, List.getElem?_eq_getElem (by rw [← hn4.out]; omega)⟩
        have hah := HEV.out j y hy hji.symm
        obtain ⟨b3, o3, eA, d0, d1, d2⟩ := bar_at (HT.out.br.below HB.out) hy
        simp only [Option.some.injEq, Addr.mk.injEq, and_true] at eA
        obtain ⟨rfl, rfl⟩ := eA
        obtain ⟨yt, yp, yf⟩ := y
        simp only at d0 d1 d2 hah
        have hjj : (0 : Int) < (i : Int) := by omega
        have hip : 0 < i := by omega
        have hjm : (i : Int) - 1 = (j : Int) := by omega
        have hj0 : (0 : Int) ≤ (j : Int) := by omega
        have hjl : (j : Int) < (nb : Int) := by omega
        clear hji hy d2
        unfold ahdI at hah
        have HWJ : Hid (IntKind.i64.wrap (j : Int) = (j : Int)) := Lib.hid (by unfold IntKind.wrap; simp [IntKind.bits, IntKind.signed]; omega)
        have hnl : ¬ xt < yt := by omega
        have HNL : Hid ((yt == xt) = false ∨ (yt = xt ∧ ¬ xp ≤ yp)) := Lib.hid (by rcases hah with h | h; exact Or.inl (by simp; omega); exact Or.inr ⟨h.1, by omega⟩)
        clear hah
        have k3' := cell_al k3 (.cells #[.int .i64 xt, .int .i64 xp, .int .i64 xf] 79 (0, 0))
        have d0' := cell_al d0 (.cells #[.int .i64 xt, .int .i64 xp, .int .i64 xf] 79 (0, 0))
        have d1' := cell_al d1 (.cells #[.int .i64 xt, .int .i64 xp, .int .i64 xf] 79 (0, 0))
        clear d0 d1
        go_wp2_with (go_at_call 110; refine (HPL.out _).mono ?_; rintro e w' ⟨rfl, rfl⟩)
        generalize hw0 : wk.alloc (.cells #[.int .i64 xt, .int .i64 xp, .int .i64 xf] 79 (0, 0)) = w0 at *
        have e0 : w0.cell? ⟨wk.heap.size, 0, none⟩ = some (.int .i64 xt) := HBBD.out.cell 0
        have e1 : w0.cell? ⟨wk.heap.size, 1, none⟩ = some (.int .i64 xp) := HBBD.out.cell 1
        clear c0 c1 c2 k3 HPL HEV hw0
        have hwj := HWJ.out
        have hd1 : decide (0 < i) = true := decide_eq_true hip
        have hd2 : decide ((0 : Int) < (i : Int)) = true := decide_eq_true hjj
        have hd3 : decide (xt < yt) = false := decide_eq_false (by omega)
        rcases HNL.out with hnl2 | ⟨rfl, hnl2⟩
        · refine wpE_start (S := (fun y : World => y.cell? ⟨w.heap.size, 3, none⟩ = some (.slice (some ⟨b, o, none⟩) nb cb) ∧ y.cell? ⟨b, o + j * 3, none⟩ = some (.int .i64 yt) ∧ y.cell? ⟨b, o + j * 3 + 1, none⟩ = some (.int .i64 yp) ∧ y.cell? ⟨wk.heap.size, 0, none⟩ = some (.int .i64 xt) ∧ y.cell? ⟨wk.heap.size, 1, none⟩ = some (.int .i64 xp))) (E := [4, 9, 11, 15, 20, 22]) (by kernel_rfl) ⟨k3', d0', d1', e0, e1⟩ (fun hHeld => ?_)
          simp only [List.length_cons, List.length_nil, Nat.zero_add, Nat.reduceAdd]
          (refine wpP 0 (v := ?_) rfl (by kernel_rfl) ?_ ?_; rotate_left; (focus (intro x'; go_simp; try with_reducible rfl)); (try simp only [pa1, pa3, Act.put, pa4, pa5, pa6]))
          (refine wpP 1 (v := ?_) rfl (by kernel_rfl) ?_ ?_; rotate_left; (focus (intro x'; go_simp; try with_reducible rfl)); (try simp only [pa1, pa2, pa3, Act.put, pa4, pa5, pa6]))
          (refine wpP 2 (v := ?_) rfl (by kernel_rfl) ?_ ?_; rotate_left; (focus (intro x'; go_simp; try with_reducible rfl)); (try simp only [pa1, pa2, pa3, Act.put, pa4, pa5, pa6]))
          (refine wpP 3 (v := ?_) rfl (by kernel_rfl) ?_ ?_; rotate_left; (focus (intro x'; go_simp; try with_reducible rfl)); (try simp only [pa1, pa2, pa3, Act.put, pa4, pa5, pa6]))
          (refine wpP 5 (v := ?_) rfl (by kernel_rfl) ?_ ?_; rotate_left; (focus (intro x'; go_simp; try with_reducible rfl)); (try simp only [pa1, pa2, pa3, Act.put, pa4, pa5, pa6]))
          (refine wpP 6 (v := ?_) rfl (by kernel_rfl) ?_ ?_; rotate_left; (focus (intro x'; go_simp; try with_reducible rfl)); (try simp only [pa1, pa2, pa3, Act.put, pa4, pa5, pa6]))
          (refine wpP 10 (v := ?_) rfl (by kernel_rfl) ?_ ?_; rotate_left; (focus (intro x'; go_simp; try with_reducible rfl)); (try simp only [pa1, pa2, pa3, Act.put, pa4, pa5, pa6]))
          (refine wpT 4 (v := ?_) rfl (by kernel_rfl) ?_ (by assumption) ?_; rotate_left; (focus (intro x' hSx; (try dsimp only at hSx); go_simp; try with_reducible rfl)); (try simp only [pa1, pa2, pa3, Act.put, pa4, pa5, pa6]))
          (refine wpP 7 (v := ?_) rfl (by kernel_rfl) ?_ ?_; rotate_left; (focus (intro x'; go_simp; try with_reducible rfl)); (try simp only [pa1, pa2, pa3, Act.put, pa4, pa5, pa6]))
          (refine wpP 8 (v := ?_) rfl (by kernel_rfl) ?_ ?_; rotate_left; (focus (intro x'; go_simp; try with_reducible rfl)); (try simp only [pa1, pa2, pa3, Act.put, pa4, pa5, pa6]))
          (refine wpT 9 (v := ?_) rfl (by kernel_rfl) ?_ (by assumption) ?_; rotate_left; (focus (intro x' hSx; (try dsimp only at hSx); go_simp; try with_reducible rfl)); (try simp only [pa1, pa2, pa3, Act.put, pa4, pa5, pa6]))
          (refine wpT 11 (v := ?_) rfl (by kernel_rfl) ?_ (by assumption) ?_; rotate_left; (focus (intro x' hSx; (try dsimp only at hSx); go_simp; try with_reducible rfl)); (try simp only [pa1, pa2, pa3, Act.put, pa4, pa5, pa6]))
          (refine wpP 12 (v := ?_) rfl (by kernel_rfl) ?_ ?_; rotate_left; (focus (intro x'; go_simp; try with_reducible rfl)); (try simp only [pa1, pa2, pa3, Act.put, pa4, pa5, pa6]))
          (refine wpP 13 (v := ?_) rfl (by kernel_rfl) ?_ ?_; rotate_left; (focus (intro x'; go_simp; try with_reducible rfl)); (try simp only [pa1, pa2, pa3, Act.put, pa4, pa5, pa6]))
          (refine wpP 14 (v := ?_) rfl (by kernel_rfl) ?_ ?_; rotate_left; (focus (intro x'; go_simp; try with_reducible rfl)); (try simp only [pa1, pa2, pa3, Act.put, pa4, pa5, pa6]))
          (refine wpP 16 (v := ?_) rfl (by kernel_rfl) ?_ ?_; rotate_left; (focus (intro x'; go_simp; try with_reducible rfl)); (try simp only [pa1, pa2, pa3, Act.put, pa4, pa5, pa6]))
          (refine wpP 17 (v := ?_) rfl (by kernel_rfl) ?_ ?_; rotate_left; (focus (intro x'; go_simp; try with_reducible rfl)); (try simp only [pa1, pa2, pa3, Act.put, pa4, pa5, pa6]))
          (refine wpP 21 (v := ?_) rfl (by kernel_rfl) ?_ ?_; rotate_left; (focus (intro x'; go_simp; try with_reducible rfl)); (try simp only [pa1, pa2, pa3, Act.put, pa4, pa5, pa6]))
          (refine wpT 15 (v := ?_) rfl (by kernel_rfl) ?_ (by assumption) ?_; rotate_left; (focus (intro x' hSx; (try dsimp only at hSx); go_simp; try with_reducible rfl)); (try simp only [pa1, pa2, pa3, Act.put, pa4, pa5, pa6]))
          (refine wpP 18 (v := ?_) rfl (by kernel_rfl) ?_ ?_; rotate_left; (focus (intro x'; go_simp; try with_reducible rfl)); (try simp only [pa1, pa2, pa3, Act.put, pa4, pa5, pa6]))
          (refine wpP 19 (v := ?_) rfl (by kernel_rfl) ?_ ?_; rotate_left; (focus (intro x'; go_simp; try with_reducible rfl)); (try simp only [pa1, pa2, pa3, Act.put, pa4, pa5, pa6]))
          (refine wpT 20 (v := ?_) rfl (by kernel_rfl) ?_ (by assumption) ?_; rotate_left; (focus (intro x' hSx; (try dsimp only at hSx); go_simp; try with_reducible rfl)); (try simp only [pa1, pa2, pa3, Act.put, pa4, pa5, pa6]))
          (refine wpT 22 (v := ?_) rfl (by kernel_rfl) ?_ (by assumption) ?_; rotate_left; (focus (intro x' hSx; (try dsimp only at hSx); go_simp; try with_reducible rfl)); (try simp only [pa1, pa2, pa3, Act.put, pa4, pa5, pa6]))
          (refine wpP 23 (v := ?_) rfl (by kernel_rfl) ?_ ?_; rotate_left; (focus (intro x'; go_simp; try with_reducible rfl)); (try simp only [pa1, pa2, pa3, Act.put, pa4, pa5, pa6]))
          (refine wpP 24 (v := ?_) rfl (by kernel_rfl) ?_ ?_; rotate_left; (focus (intro x'; go_simp; try with_reducible rfl)); (try simp only [pa1, pa2, pa3, Act.put, pa4, pa5, pa6]))
          (refine wpS 25 rfl (by kernel_rfl) ?_; (try simp only [pa1, pa2, pa3, Act.put, pa4, pa5, pa6]))
          (refine wpS 27 rfl (by kernel_rfl) ?_; (try simp only [pa1, pa2, pa3, Act.put, pa4, pa5, pa6]))
          (refine wpS 28 rfl (by kernel_rfl) ?_; (try simp only [pa1, pa2, pa3, Act.put, pa4, pa5, pa6]))
          (refine wpS 32 rfl (by kernel_rfl) ?_; (try simp only [pa1, pa2, pa3, Act.put, pa4, pa5, pa6]))
          (refine wpS 26 rfl (by kernel_rfl) ?_; (try simp only [pa1, pa2, pa3, Act.put, pa4, pa5, pa6]))
          (refine wpS 29 rfl (by kernel_rfl) ?_; (try simp only [pa1, pa2, pa3, Act.put, pa4, pa5, pa6]))
          (refine wpS 30 rfl (by kernel_rfl) ?_; (try simp only [pa1, pa2, pa3, Act.put, pa4, pa5, pa6]))
          (refine wpS 31 rfl (by kernel_rfl) ?_; (try simp only [pa1, pa2, pa3, Act.put, pa4, pa5, pa6]))
          (refine wpS 33 rfl (by kernel_rfl) ?_; (try simp only [pa1, pa2, pa3, Act.put, pa4, pa5, pa6]))
          (refine wpS 34 rfl (by kernel_rfl) ?_; (try simp only [pa1, pa2, pa3, Act.put, pa4, pa5, pa6]))
          (refine wpP 35 (v := ?_) rfl (by kernel_rfl) ?_ ?_; rotate_left; (focus (intro x'; go_simp; try with_reducible rfl)); (try simp only [pa1, pa2, pa3, Act.put, pa4, pa5, pa6]))
          (refine wpP 36 (v := ?_) rfl (by kernel_rfl) ?_ ?_; rotate_left; (focus (intro x'; go_simp; try with_reducible rfl)); (try simp only [pa1, pa2, pa3, Act.put, pa4, pa5, pa6]))
          refine wpE_tail 37 rfl (by kernel_rfl) ?_
          simp only [List.drop_succ_cons, List.drop_zero]
          clear hHeld k3' d0' d1' e0 e1 hwj hd1 hd2 hd3 hnl2
          have HBD := Lib.hid HBD.out.drew
          have HKD := Lib.hid (show Blk w0.drew _ _ _ from HKD.out)
          have HBBD := Lib.hid (show Blk w0.drew _ _ _ from HBBD.out)
          generalize w0.drew = w9 at *
          have e2 : w9.cell? ⟨w.heap.size, 2, none⟩ = some (.slice Ae ne ce) := HKD.out.cell 2
          go_wp2_with fail
          clear e2
          go_loopw [76] (fun v wr => ∃ m : Nat, m ≤ ne ∧ v = .int .i64 m ∧ Below w.heap.size w wr ∧ Blk wr w.heap.size 41 #[.slice Al nl cl, .slice Ai ni ci, .slice Ae ne ce, .slice (some ⟨b, o, none⟩) nb cb, .slice Aa na ca, .slice Ad nd cd, .slice Ac nc cc, .slice At nt ct, .slice Ax nx cx] ∧ Blk wr wk.heap.size 79 #[.int .i64 xt, .int .i64 xp, .int .i64 xf]) (fun v _ => ne - (intOf v).toNat)
          case atStart => exact ⟨0, Nat.zero_le _, rfl, HBD.out, HKD.out, HBBD.out⟩
          case round =>
            obtain ⟨m, hm, rfl, hb, ht, hbb⟩ := hrel
            have HB2 := Lib.hid hb
            have HK2 := Lib.hid ht
            have HBB2 := Lib.hid hbb
            have f0 : wr.cell? ⟨wk.heap.size, 0, none⟩ = some (.int .i64 xt) := hbb.cell 0
            have f1 : wr.cell? ⟨wk.heap.size, 1, none⟩ = some (.int .i64 xp) := hbb.cell 1
            have hgr := hbb.lt
            have hmm : (0 : Int) ≤ (m : Int) := by omega
            clear hb ht hbb HBD HKD HBBD
            by_cases hlm : m < ne
            · have hml : (m : Int) < (ne : Int) := by omega
              obtain ⟨x, hx⟩ : ∃ x, L.a.evs[m]? = some x := ⟨_, List.getElem?_eq_getElem (by rw [← hn3.out]; exact hlm)⟩
              obtain ⟨be, oe, eA, c0, c1, c2, c3, c4, c5⟩ := evt_at (HT.out.ev.below HB2.out) hx
              simp only at eA
              subst eA
              have hne := HNE.out x (List.mem_of_getElem? hx)
              obtain ⟨qt, qp, qd, ql, qv, qr⟩ := x
              simp only at c0 c1 c2 c3 c4 c5 hne
              have HB3 := Lib.hid (below_alloc HB2.out (.cells #[.int .i64 qt, .int .i64 qp, .int .i64 qd, .int .i64 ql, .int .i64 qv, .int .i64 qr] 50 (0, 0)))
              clear hx
              by_cases hqt : qt = xt
              · have hqp : (qp == xp) = false := by simpa using hne hqt
                subst hqt
                clear hne
                go_wp2_with fail
                go_roundw
                case rel => exact ⟨m + 1, by omega, by go_num, HB3.out, Blk.alloc HK2.out _, Blk.alloc HBB2.out _⟩
                case measure => simp [intOf]; omega
              · have hqf : (qt == xt) = false := by simpa using hqt
                clear hne
                go_wp2_with fail
                go_roundw
                case rel => exact ⟨m + 1, by omega, by go_num, HB3.out, Blk.alloc HK2.out _, Blk.alloc HBB2.out _⟩
                case measure => simp [intOf]; omega
            · have hml : ¬ (m : Int) < (ne : Int) := by omega
              go_wp2_with fail
              go_roundw
              case rel => exact ⟨i + 1, by omega, by go_num, HB2.out, HK2.out⟩
              case measure => simp [intOf]; omega
        · have hd4 : decide (xp ≤ yp) = false := decide_eq_false (by omega)
          refine wpE_start (S := (fun y : World => y.cell? ⟨w.heap.size, 3, none⟩ = some (.slice (some ⟨b, o, none⟩) nb cb) ∧ y.cell? ⟨b, o + j * 3, none⟩ = some (.int .i64 yt) ∧ y.cell? ⟨b, o + j * 3 + 1, none⟩ = some (.int .i64 yp) ∧ y.cell? ⟨wk.heap.size, 0, none⟩ = some (.int .i64 yt) ∧ y.cell? ⟨wk.heap.size, 1, none⟩ = some (.int .i64 xp))) (E := [4, 9, 11, 15, 20, 22, 26, 31, 33]) (by kernel_rfl) ⟨k3', d0', d1', e0, e1⟩ (fun hHeld => ?_)
          simp only [List.length_cons, List.length_nil, Nat.zero_add, Nat.reduceAdd]
          (refine wpP 0 (v := ?_) rfl (by kernel_rfl) ?_ ?_; rotate_left; (focus (intro x'; go_simp; try with_reducible rfl)); (try simp only [pa1, pa3, Act.put, pa4, pa5, pa6]))
          (refine wpP 1 (v := ?_) rfl (by kernel_rfl) ?_ ?_; rotate_left; (focus (intro x'; go_simp; try with_reducible rfl)); (try simp only [pa1, pa2, pa3, Act.put, pa4, pa5, pa6]))
          (refine wpP 2 (v := ?_) rfl (by kernel_rfl) ?_ ?_; rotate_left; (focus (intro x'; go_simp; try with_reducible rfl)); (try simp only [pa1, pa2, pa3, Act.put, pa4, pa5, pa6]))
          (refine wpP 3 (v := ?_) rfl (by kernel_rfl) ?_ ?_; rotate_left; (focus (intro x'; go_simp; try with_reducible rfl)); (try simp only [pa1, pa2, pa3, Act.put, pa4, pa5, pa6]))
          (refine wpP 5 (v := ?_) rfl (by kernel_rfl) ?_ ?_; rotate_left; (focus (intro x'; go_simp; try with_reducible rfl)); (try simp only [pa1, pa2, pa3, Act.put, pa4, pa5, pa6]))
          (refine wpP 6 (v := ?_) rfl (by kernel_rfl) ?_ ?_; rotate_left; (focus (intro x'; go_simp; try with_reducible rfl)); (try simp only [pa1, pa2, pa3, Act.put, pa4, pa5, pa6]))
          (refine wpP 10 (v := ?_) rfl (by kernel_rfl) ?_ ?_; rotate_left; (focus (intro x'; go_simp; try with_reducible rfl)); (try simp only [pa1, pa2, pa3, Act.put, pa4, pa5, pa6]))
          (refine wpT 4 (v := ?_) rfl (by kernel_rfl) ?_ (by assumption) ?_; rotate_left; (focus (intro x' hSx; (try dsimp only at hSx); go_simp; try with_reducible rfl)); (try simp only [pa1, pa2, pa3, Act.put, pa4, pa5, pa6]))
          (refine wpP 7 (v := ?_) rfl (by kernel_rfl) ?_ ?_; rotate_left; (focus (intro x'; go_simp; try with_reducible rfl)); (try simp only [pa1, pa2, pa3, Act.put, pa4, pa5, pa6]))
          (refine wpP 8 (v := ?_) rfl (by kernel_rfl) ?_ ?_; rotate_left; (focus (intro x'; go_simp; try with_reducible rfl)); (try simp only [pa1, pa2, pa3, Act.put, pa4, pa5, pa6]))
          (refine wpT 9 (v := ?_) rfl (by kernel_rfl) ?_ (by assumption) ?_; rotate_left; (focus (intro x' hSx; (try dsimp only at hSx); go_simp; try with_reducible rfl)); (try simp only [pa1, pa2, pa3, Act.put, pa4, pa5, pa6]))
          (refine wpT 11 (v := ?_) rfl (by kernel_rfl) ?_ (by assumption) ?_; rotate_left; (focus (intro x' hSx; (try dsimp only at hSx); go_simp; try with_reducible rfl)); (try simp only [pa1, pa2, pa3, Act.put, pa4, pa5, pa6]))
          (refine wpP 12 (v := ?_) rfl (by kernel_rfl) ?_ ?_; rotate_left; (focus (intro x'; go_simp; try with_reducible rfl)); (try simp only [pa1, pa2, pa3, Act.put, pa4, pa5, pa6]))
          (refine wpP 13 (v := ?_) rfl (by kernel_rfl) ?_ ?_; rotate_left; (focus (intro x'; go_simp; try with_reducible rfl)); (try simp only [pa1, pa2, pa3, Act.put, pa4, pa5, pa6]))
          (refine wpP 14 (v := ?_) rfl (by kernel_rfl) ?_ ?_; rotate_left; (focus (intro x'; go_simp; try with_reducible rfl)); (try simp only [pa1, pa2, pa3, Act.put, pa4, pa5, pa6]))
          (refine wpP 16 (v := ?_) rfl (by kernel_rfl) ?_ ?_; rotate_left; (focus (intro x'; go_simp; try with_reducible rfl)); (try simp only [pa1, pa2, pa3, Act.put, pa4, pa5, pa6]))
          (refine wpP 17 (v := ?_) rfl (by kernel_rfl) ?_ ?_; rotate_left; (focus (intro x'; go_simp; try with_reducible rfl)); (try simp only [pa1, pa2, pa3, Act.put, pa4, pa5, pa6]))
          (refine wpP 21 (v := ?_) rfl (by kernel_rfl) ?_ ?_; rotate_left; (focus (intro x'; go_simp; try with_reducible rfl)); (try simp only [pa1, pa2, pa3, Act.put, pa4, pa5, pa6]))
          (refine wpT 15 (v := ?_) rfl (by kernel_rfl) ?_ (by assumption) ?_; rotate_left; (focus (intro x' hSx; (try dsimp only at hSx); go_simp; try with_reducible rfl)); (try simp only [pa1, pa2, pa3, Act.put, pa4, pa5, pa6]))
          (refine wpP 18 (v := ?_) rfl (by kernel_rfl) ?_ ?_; rotate_left; (focus (intro x'; go_simp; try with_reducible rfl)); (try simp only [pa1, pa2, pa3, Act.put, pa4, pa5, pa6]))
          (refine wpP 19 (v := ?_) rfl (by kernel_rfl) ?_ ?_; rotate_left; (focus (intro x'; go_simp; try with_reducible rfl)); (try simp only [pa1, pa2, pa3, Act.put, pa4, pa5, pa6]))
          (refine wpT 20 (v := ?_) rfl (by kernel_rfl) ?_ (by assumption) ?_; rotate_left; (focus (intro x' hSx; (try dsimp only at hSx); go_simp; try with_reducible rfl)); (try simp only [pa1, pa2, pa3, Act.put, pa4, pa5, pa6]))
          (refine wpT 22 (v := ?_) rfl (by kernel_rfl) ?_ (by assumption) ?_; rotate_left; (focus (intro x' hSx; (try dsimp only at hSx); go_simp; try with_reducible rfl)); (try simp only [pa1, pa2, pa3, Act.put, pa4, pa5, pa6]))
          (refine wpP 23 (v := ?_) rfl (by kernel_rfl) ?_ ?_; rotate_left; (focus (intro x'; go_simp; try with_reducible rfl)); (try simp only [pa1, pa2, pa3, Act.put, pa4, pa5, pa6]))
          (refine wpP 24 (v := ?_) rfl (by kernel_rfl) ?_ ?_; rotate_left; (focus (intro x'; go_simp; try with_reducible rfl)); (try simp only [pa1, pa2, pa3, Act.put, pa4, pa5, pa6]))
          (refine wpP 25 (v := ?_) rfl (by kernel_rfl) ?_ ?_; rotate_left; (focus (intro x'; go_simp; try with_reducible rfl)); (try simp only [pa1, pa2, pa3, Act.put, pa4, pa5, pa6]))
          (refine wpP 27 (v := ?_) rfl (by kernel_rfl) ?_ ?_; rotate_left; (focus (intro x'; go_simp; try with_reducible rfl)); (try simp only [pa1, pa2, pa3, Act.put, pa4, pa5, pa6]))
          (refine wpP 28 (v := ?_) rfl (by kernel_rfl) ?_ ?_; rotate_left; (focus (intro x'; go_simp; try with_reducible rfl)); (try simp only [pa1, pa2, pa3, Act.put, pa4, pa5, pa6]))
          (refine wpP 32 (v := ?_) rfl (by kernel_rfl) ?_ ?_; rotate_left; (focus (intro x'; go_simp; try with_reducible rfl)); (try simp only [pa1, pa2, pa3, Act.put, pa4, pa5, pa6]))
          (refine wpT 26 (v := ?_) rfl (by kernel_rfl) ?_ (by assumption) ?_; rotate_left; (focus (intro x' hSx; (try dsimp only at hSx); go_simp; try with_reducible rfl)); (try simp only [pa1, pa2, pa3, Act.put, pa4, pa5, pa6]))
          (refine wpP 29 (v := ?_) rfl (by kernel_rfl) ?_ ?_; rotate_left; (focus (intro x'; go_simp; try with_reducible rfl)); (try simp only [pa1, pa2, pa3, Act.put, pa4, pa5, pa6]))
          (refine wpP 30 (v := ?_) rfl (by kernel_rfl) ?_ ?_; rotate_left; (focus (intro x'; go_simp; try with_reducible rfl)); (try simp only [pa1, pa2, pa3, Act.put, pa4, pa5, pa6]))
          (refine wpT 31 (v := ?_) rfl (by kernel_rfl) ?_ (by assumption) ?_; rotate_left; (focus (intro x' hSx; (try dsimp only at hSx); go_simp; try with_reducible rfl)); (try simp only [pa1, pa2, pa3, Act.put, pa4, pa5, pa6]))
          (refine wpT 33 (v := ?_) rfl (by kernel_rfl) ?_ (by assumption) ?_; rotate_left; (focus (intro x' hSx; (try dsimp only at hSx); go_simp; try with_reducible rfl)); (try simp only [pa1, pa2, pa3, Act.put, pa4, pa5, pa6]))
          (refine wpP 34 (v := ?_) rfl (by kernel_rfl) ?_ ?_; rotate_left; (focus (intro x'; go_simp; try with_reducible rfl)); (try simp only [pa1, pa2, pa3, Act.put, pa4, pa5, pa6]))
          (refine wpP 35 (v := ?_) rfl (by kernel_rfl) ?_ ?_; rotate_left; (focus (intro x'; go_simp; try with_reducible rfl)); (try simp only [pa1, pa2, pa3, Act.put, pa4, pa5, pa6]))
          (refine wpP 36 (v := ?_) rfl (by kernel_rfl) ?_ ?_; rotate_left; (focus (intro x'; go_simp; try with_reducible rfl)); (try simp only [pa1, pa2, pa3, Act.put, pa4, pa5, pa6]))
          refine wpE_tail 37 rfl (by kernel_rfl) ?_
          simp only [List.drop_succ_cons, List.drop_zero]
          clear hHeld k3' d0' d1' e0 e1 hwj hd1 hd2 hd3 hnl2 hd4
          have HBD := Lib.hid HBD.out.drew
          have HKD := Lib.hid (show Blk w0.drew _ _ _ from HKD.out)
          have HBBD := Lib.hid (show Blk w0.drew _ _ _ from HBBD.out)
          generalize w0.drew = w9 at *
          have e2 : w9.cell? ⟨w.heap.size, 2, none⟩ = some (.slice Ae ne ce) := HKD.out.cell 2
          go_wp2_with fail
          clear e2
          go_loopw [76] (fun v wr => ∃ m : Nat, m ≤ ne ∧ v = .int .i64 m ∧ Below w.heap.size w wr ∧ Blk wr w.heap.size 41 #[.slice Al nl cl, .slice Ai ni ci, .slice Ae ne ce, .slice (some ⟨b, o, none⟩) nb cb, .slice Aa na ca, .slice Ad nd cd, .slice Ac nc cc, .slice At nt ct, .slice Ax nx cx] ∧ Blk wr wk.heap.size 79 #[.int .i64 yt, .int .i64 xp, .int .i64 xf]) (fun v _ => ne - (intOf v).toNat)
          case atStart => exact ⟨0, Nat.zero_le _, rfl, HBD.out, HKD.out, HBBD.out⟩
          case round =>
            obtain ⟨m, hm, rfl, hb, ht, hbb⟩ := hrel
            have HB2 := Lib.hid hb
            have HK2 := Lib.hid ht
            have HBB2 := Lib.hid hbb
            have f0 : wr.cell? ⟨wk.heap.size, 0, none⟩ = some (.int .i64 yt) := hbb.cell 0
            have f1 : wr.cell? ⟨wk.heap.size, 1, none⟩ = some (.int .i64 xp) := hbb.cell 1
            have hgr := hbb.lt
            have hmm : (0 : Int) ≤ (m : Int) := by omega
            clear hb ht hbb HBD HKD HBBD
            by_cases hlm : m < ne
            · have hml : (m : Int) < (ne : Int) := by omega
              obtain ⟨x, hx⟩ : ∃ x, L.a.evs[m]? = some x := ⟨_, List.getElem?_eq_getElem (by rw [← hn3.out]; exact hlm)⟩
              obtain ⟨be, oe, eA, c0, c1, c2, c3, c4, c5⟩ := evt_at (HT.out.ev.below HB2.out) hx
              simp only at eA
              subst eA
              have hne := HNE.out x (List.mem_of_getElem? hx)
              obtain ⟨qt, qp, qd, ql, qv, qr⟩ := x
              simp only at c0 c1 c2 c3 c4 c5 hne
              have HB3 := Lib.hid (below_alloc HB2.out (.cells #[.int .i64 qt, .int .i64 qp, .int .i64 qd, .int .i64 ql, .int .i64 qv, .int .i64 qr] 50 (0, 0)))
              clear hx
              by_cases hqt : qt = yt
              · have hqp : (qp == xp) = false := by simpa using hne hqt
                subst hqt
                clear hne
                go_wp2_with fail
                go_roundw
                case rel => exact ⟨m + 1, by omega, by go_num, HB3.out, Blk.alloc HK2.out _, Blk.alloc HBB2.out _⟩
                case measure => simp [intOf]; omega
              · have hqf : (qt == yt) = false := by simpa using hqt
                clear hne
                go_wp2_with fail
                go_roundw
                case rel => exact ⟨m + 1, by omega, by go_num, HB3.out, Blk.alloc HK2.out _, Blk.alloc HBB2.out _⟩
                case measure => simp [intOf]; omega
            · have hml : ¬ (m : Int) < (ne : Int) := by omega
              go_wp2_with fail
              go_roundw
              case rel => exact ⟨i + 1, by omega, by go_num, HB2.out, HK2.out⟩
              case measure => simp [intOf]; omega
    · have hij : ¬ (i : Int) < (nb : Int) := by omega
      go_wp2_with fail
      go_ret
      exact ⟨rfl, HB.out⟩
end
end Go.Proofs.YtoegmdnfbemppaaGreatDoor
