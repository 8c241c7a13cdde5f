/- Layer 15: what must come, whatever the arguments are: awake. TraceOrders walked: for all numbers true is returned, and what was there stays. -/
import Derived.Test.YtoegmdnfbemppaaGreatDoorKb03
import Derived.Test.YtoegmdnfbemppaaGreatDoorKb48
import Derived.Test.YtoegmdnfbemppaaGreatDoorKb50

namespace Go.Proofs.YtoegmdnfbemppaaGreatDoor
open Go.RowKit

theorem small_rel : relL 2 (btw (fenB fordB smallA.bars) smallA.evs 0 smallA.evs) = [2, 0] := by decide
theorem small_fir : firL (locsT smallT) smallT.init = [0, 0] := by rw [small_locs]; rfl
theorem small_of (w : World) (Ac : Option Addr) (h : TstAt w smallT none Ac (.slice none 0 0)) :
    Calls Tryz.prog 9 #[testV smallT (.slice none 0 0) (.slice Ac 1 1) (.slice none 0 0)] w fun e w' => ∃ V : TrcV, e = .returned (.tuple #[trcV V, .int .i64 0, .int .i64 0]) ∧ TrcAt w' ⟨[[120], [121]], [0, 0], [(0, 1, [])], smallA⟩ V ∧ Below w.heap.size w w' := by
  refine (ofP smallT none Ac 0 1 _ w h).mono ?_
  rintro e w' ⟨h1, hb⟩
  rw [small_tr] at h1
  obtain ⟨O, V, rfl, ho⟩ := h1
  rw [small_fir, small_locs, small_ths] at ho
  obtain ⟨V', e1, hV⟩ := ho.trc
  exact ⟨V', by rw [e1], hV, hb⟩
section
set_option maxHeartbeats 4000000
set_option maxRecDepth 100000
theorem awakeP (w : World) : Calls Tryz.prog 12 #[] w fun e w' => e = .returned (.bool true) ∧ Below w.heap.size w w' := by
  go_enter Tryz.func12, Tryz.ntmps12
  go_wp2_with fail
  refine (smallP w).mono ?_
  rintro e w1 ⟨Ac, rfl, hT, hb1⟩
  have HT := Lib.hid hT
  have HB1 := Lib.hid hb1
  clear hT hb1
  simp only [smallT]
  go_wp2_with fail
  refine (small_of w1 Ac HT.out).mono ?_
  rintro e w2 ⟨V, rfl, hV, hb2⟩
  have HB2 := Lib.hid (below_trans HB1.out hb2)
  have hn3 : V.ev.n = 2 := hV.nev
  have hn4 : V.br.n = 1 := hV.nbr
  have hn9 : V.en.n = 1 := hV.nen
  obtain ⟨eb, eo, eA, d0, d1⟩ := prs_at hV.en (show smallA.ends[0]? = some (2, 1) from rfl)
  have HF := Lib.hid (fun z (hz : Below w2.heap.size w2 z) => show Calls Tryz.prog 24 #[trcV V] z fun e w' => ∃ q, e = .returned (.tuple #[.agg #[.int .i64 2, .slice (some ⟨q, 0, none⟩) 2 2], .int .i64 0]) ∧ Blk w' q 110 #[.int .u64 2, .int .u64 0] ∧ Below z.heap.size z w' by
    refine (fencedP _ V z (hV.below hz) small_good rfl rfl rfl (by decide)).mono ?_
    rintro e w' ⟨q, rfl, hq, hb⟩
    refine ⟨q, rfl, ?_, hb⟩
    have := hq
    rw [show (⟨[[120], [121]], [0, 0], [(0, 1, [])], smallA⟩ : OutL).a.evs.length = 2 from rfl, show (⟨[[120], [121]], [0, 0], [(0, 1, [])], smallA⟩ : OutL).a = smallA from rfl, small_rel] at this
    exact this)
  obtain ⟨⟨Al, nl, cl⟩, ⟨Ai, ni, ci⟩, ⟨Ae, ne, ce⟩, ⟨Ab, nb, cb⟩, ⟨Aa, na, ca⟩, ⟨Ad, nd, cd⟩, ⟨Aj, nj, cj⟩, ⟨At, nt, ct⟩, ⟨Ax, nx, cx⟩⟩ := V
  simp only at hn3 hn4 hn9 eA
  subst hn3 hn4 hn9 eA
  simp only [Nat.zero_mul, Nat.add_zero] at d0 d1
  simp only [trcV, Sl.v] at HF ⊢
  have HK := Lib.hid (Blk.new w2 41 #[.slice Al nl cl, .slice Ai ni ci, .slice Ae 2 ce, .slice Ab 1 cb, .slice Aa na ca, .slice Ad nd cd, .slice Aj nj cj, .slice At nt ct, .slice (some ⟨eb, eo, none⟩) 1 cx])
  have HB3 := Lib.hid (alloc_b w2 (.cells #[.slice Al nl cl, .slice Ai ni ci, .slice Ae 2 ce, .slice Ab 1 cb, .slice Aa na ca, .slice Ad nd cd, .slice Aj nj cj, .slice At nt ct, .slice (some ⟨eb, eo, none⟩) 1 cx] 41 (0, 0)))
  have HD0 := Lib.hid d0
  have HD1 := Lib.hid d1
  clear hV hb2 d0 d1
  go_wp2_with (go_at_call 24; refine (HF.out _ HB3.out).mono ?_; rintro e w9 ⟨q, rfl, hq, hb9⟩; have HQ := Lib.hid hq; have HB9 := Lib.hid (below_trans HB3.out hb9); have HK9 := Lib.hid (HK.out.go hb9); clear hq hb9; have k2 := HK9.out.cell 2; have k3 := HK9.out.cell 3; have k8 := HK9.out.cell 8; have d0 := cell_go HD0.out HB9.out; have d1 := cell_go HD1.out HB9.out; have q0 := HQ.out.cell 0; have hg1 := HK9.out.lt; have hg2 := HQ.out.lt; have hg3 := World.block_lt_of_cell? w9 _ d0)
  go_ret
  exact ⟨rfl, below_alloc (below_trans HB2.out HB9.out) _⟩
end
end Go.Proofs.YtoegmdnfbemppaaGreatDoor
namespace Go.Proofs.YtoegmdnfbemppaaGreatDoor
open Go.RowKit

section
set_option maxHeartbeats 4000000
set_option maxRecDepth 100000
theorem walkTOrders (a b c : Int) (w : World) : Calls Tryz.prog 4 #[.int .i64 a, .int .i64 b, .int .i64 c] w fun e w' => e = .returned (.bool true) ∧ Below w.heap.size w w' := by
  obtain ⟨r, hr⟩ : ∃ r, fordB a b c = r := ⟨_, rfl⟩
  have H1 := Lib.hid (fun z => ordersP a b c z)
  have H2 := Lib.hid (fun z => ordersR a b c z)
  rw [hr] at H1 H2
  have H3 := Lib.hid (fun z => ordersP 1 2 1 z)
  rw [show fordB 1 2 1 = true by decide] at H3
  have H4 := Lib.hid (fun z => ordersP 2 2 1 z)
  rw [show fordB 2 2 1 = false by decide] at H4
  have HB := Lib.hid (Below.refl w.heap.size w)
  clear hr
  go_enter Tryz.func4, Tryz.ntmps4
  cases r
  all_goals
    go_wp2_with fail
    refine (H1.out _).mono ?_
    rintro e w1 ⟨rfl, hb⟩
    have HB1 := Lib.hid (below_trans HB.out hb)
    clear hb
    go_wp2_with fail
    refine (H2.out _).mono ?_
    rintro e w2 ⟨rfl, hb⟩
    have HB2 := Lib.hid (below_trans HB1.out hb)
    clear hb
    go_wp2_with fail
    refine (H3.out _).mono ?_
    rintro e w3 ⟨rfl, hb⟩
    have HB3 := Lib.hid (below_trans HB2.out hb)
    clear hb
    go_wp2_with fail
    refine (H4.out _).mono ?_
    rintro e w4 ⟨rfl, hb⟩
    have HB4 := Lib.hid (below_trans HB3.out hb)
    clear hb
    go_wp2_with fail
    refine (awakeP _).mono ?_
    rintro e w5 ⟨rfl, hb⟩
    have HB5 := Lib.hid (below_trans HB4.out hb)
    clear hb
    go_wp2_with fail
    go_ret
    exact ⟨rfl, HB5.out⟩
end
end Go.Proofs.YtoegmdnfbemppaaGreatDoor
