/- Layer 15: a runner at a thread's beginning: the program's begun. -/
import Derived.Test.YtjhafgnmahhacaaGreatDoorTe32

namespace Go.Proofs.YtjhafgnmahhacaaGreatDoor
open Go.RowKit
section
/-- A runner made. -/
def BegPost (S : RunS) (r : Rn) (w : World) (e : Ending) (w' : World) : Prop := ∃ g V, e = .returned (.pointer (some ⟨g, 0, none⟩)) ∧ RunAt w' w.heap.size g S r V ∧ Below w.heap.size w w'
section
set_option maxHeartbeats 4000000
set_option maxRecDepth 100000
theorem begunP15 (T : Tst) (Ai Ac Al : Option Addr) (ci cc nl cl k ahead : Nat) (kv : Value) (locs : List Nm) (w : World) (ha : T.arch = 1) (hT : TstAt w T Ai Ac kv) (hini : ∀ x ∈ T.init, x.th = (k : Int) → 0 ≤ x.rg ∧ x.rg < 15) :
    Calls Tryz.prog 62 #[testV T (.slice Ai T.init.length ci) (.slice Ac T.code.length cc) kv, .int .i64 (k : Int), .slice Al nl cl, .int .i64 (ahead : Int)] w
      (BegPost ⟨T, .slice Ai T.init.length ci, .slice Ac T.code.length cc, kv, .slice Al nl cl, ⟨k, false, ahead, locs⟩⟩ (rn0 false T.init k) w) := by
  obtain ⟨A0, l0, q0, rfl⟩ : ∃ A n c, kv = .slice A n c := by obtain ⟨A, cap, e, _⟩ := hT.kids; exact ⟨A, _, cap, e⟩
  simp only [testV, ha]
  have HTB := Lib.hid (Blk.new w 32 #[.int .i64 1, .string ⟨T.name.toArray⟩, .string ⟨T.cycle.toArray⟩, .slice Ai T.init.length ci, .slice Ac T.code.length cc, .int .i64 T.q, .int .i64 T.k, .int .i64 T.t, .int .i64 T.r, .string ⟨T.l.toArray⟩, .int .i64 T.v, .slice A0 l0 q0])
  have HB0 := Lib.hid (alloc_b w (.cells #[.int .i64 1, .string ⟨T.name.toArray⟩, .string ⟨T.cycle.toArray⟩, .slice Ai T.init.length ci, .slice Ac T.code.length cc, .int .i64 T.q, .int .i64 T.k, .int .i64 T.t, .int .i64 T.r, .string ⟨T.l.toArray⟩, .int .i64 T.v, .slice A0 l0 q0] 32 (0, 0)))
  have HZ := Lib.hid (show (w.alloc (.cells #[.int .i64 1, .string ⟨T.name.toArray⟩, .string ⟨T.cycle.toArray⟩, .slice Ai T.init.length ci, .slice Ac T.code.length cc, .int .i64 T.q, .int .i64 T.k, .int .i64 T.t, .int .i64 T.r, .string ⟨T.l.toArray⟩, .int .i64 T.v, .slice A0 l0 q0] 32 (0, 0))).heap.size = w.heap.size + 1 by simp)
  have HI := Lib.hid hT.init
  have HINI := Lib.hid hini
  have hil := hT.ilen
  have HAR := Lib.hid ha
  clear hT hini ha
  go_enter Tryz.func62, Tryz.ntmps62
  go_wp2_with fail
  generalize hw1 : w.alloc (.cells #[.int .i64 1, .string ⟨T.name.toArray⟩, .string ⟨T.cycle.toArray⟩, .slice Ai T.init.length ci, .slice Ac T.code.length cc, .int .i64 T.q, .int .i64 T.k, .int .i64 T.t, .int .i64 T.r, .string ⟨T.l.toArray⟩, .int .i64 T.v, .slice A0 l0 q0] 32 (0, 0)) = w1 at *
  clear hw1
  have hz1 : w1.heap.size = w.heap.size + 1 := HZ.out
  have t0 : w1.cell? ⟨w.heap.size, 0, none⟩ = some (.int .i64 1) := HTB.out.cell 0
  have t1 : w1.cell? ⟨w.heap.size, 1, none⟩ = some (.string ⟨T.name.toArray⟩) := HTB.out.cell 1
  have t2 : w1.cell? ⟨w.heap.size, 2, none⟩ = some (.string ⟨T.cycle.toArray⟩) := HTB.out.cell 2
  have t3 : w1.cell? ⟨w.heap.size, 3, none⟩ = some (.slice Ai T.init.length ci) := HTB.out.cell 3
  have t4 : w1.cell? ⟨w.heap.size, 4, none⟩ = some (.slice Ac T.code.length cc) := HTB.out.cell 4
  have t5 : w1.cell? ⟨w.heap.size, 5, none⟩ = some (.int .i64 T.q) := HTB.out.cell 5
  have t6 : w1.cell? ⟨w.heap.size, 6, none⟩ = some (.int .i64 T.k) := HTB.out.cell 6
  have t7 : w1.cell? ⟨w.heap.size, 7, none⟩ = some (.int .i64 T.t) := HTB.out.cell 7
  have t8 : w1.cell? ⟨w.heap.size, 8, none⟩ = some (.int .i64 T.r) := HTB.out.cell 8
  have t9 : w1.cell? ⟨w.heap.size, 9, none⟩ = some (.string ⟨T.l.toArray⟩) := HTB.out.cell 9
  have ta : w1.cell? ⟨w.heap.size, 10, none⟩ = some (.int .i64 T.v) := HTB.out.cell 10
  have tb : w1.cell? ⟨w.heap.size, 11, none⟩ = some (.slice A0 l0 q0) := HTB.out.cell 11
  refine wz (fun y : World => y.cell? ⟨w.heap.size, 0, none⟩ = some (.int .i64 1) ∧ y.cell? ⟨w.heap.size, 1, none⟩ = some (.string ⟨T.name.toArray⟩) ∧ y.cell? ⟨w.heap.size, 2, none⟩ = some (.string ⟨T.cycle.toArray⟩) ∧ y.cell? ⟨w.heap.size, 3, none⟩ = some (.slice Ai T.init.length ci) ∧ y.cell? ⟨w.heap.size, 4, none⟩ = some (.slice Ac T.code.length cc) ∧ y.cell? ⟨w.heap.size, 5, none⟩ = some (.int .i64 T.q) ∧ y.cell? ⟨w.heap.size, 6, none⟩ = some (.int .i64 T.k) ∧ y.cell? ⟨w.heap.size, 7, none⟩ = some (.int .i64 T.t) ∧ y.cell? ⟨w.heap.size, 8, none⟩ = some (.int .i64 T.r) ∧ y.cell? ⟨w.heap.size, 9, none⟩ = some (.string ⟨T.l.toArray⟩) ∧ y.cell? ⟨w.heap.size, 10, none⟩ = some (.int .i64 T.v) ∧ y.cell? ⟨w.heap.size, 11, none⟩ = some (.slice A0 l0 q0)) [0, 4] ⟨t0, t1, t2, t3, t4, t5, t6, t7, t8, t9, ta, tb⟩ (fun hHeld => ?_)
  refine wq 1 ?_
  refine wq 2 ?_
  refine wq 3 ?_
  refine wq 5 ?_
  refine wt 0 (by assumption) ?_
  have hmk : ∀ w, (Instr.makeSlice 138 (.int .i64 15) (.int .i64 15)).run Tryz.prog w = .ok (.slice (some ⟨w.heap.size, 0, none⟩) 15 15) (w.alloc (.cells (encZ.flat (zl 0 15)).toArray 217 (0, 0))) := fun w => mk_regs 15 (by omega) w
  refine wpE_one (i := 4) (by kernel_rfl) rfl (fun K hK => ?_)
  go_simp
  refine hK.out _ _ ⟨cell_al hHeld.1 _, cell_al hHeld.2.1 _, cell_al hHeld.2.2.1 _, cell_al hHeld.2.2.2.1 _, cell_al hHeld.2.2.2.2.1 _, cell_al hHeld.2.2.2.2.2.1 _, cell_al hHeld.2.2.2.2.2.2.1 _, cell_al hHeld.2.2.2.2.2.2.2.1 _, cell_al hHeld.2.2.2.2.2.2.2.2.1 _, cell_al hHeld.2.2.2.2.2.2.2.2.2.1 _, cell_al hHeld.2.2.2.2.2.2.2.2.2.2.1 _, cell_al hHeld.2.2.2.2.2.2.2.2.2.2.2 _⟩ ?_
  clear hK K
  refine pu ?_
  refine wl 6 ?_
  clear hHeld t0 t1 t2 t3 t4 t5 t6 t7 t8 t9 ta tb hmk
  have HW2 := Lib.hid (below_trans HB0.out (below_2 w1 (.cells (encZ.flat (zl 0 15)).toArray 217 (0, 0)) (.cells #[.int .i64 1, .string ⟨T.name.toArray⟩, .string ⟨T.cycle.toArray⟩, .slice Ai T.init.length ci, .slice Ac T.code.length cc, .int .i64 T.q, .int .i64 T.k, .int .i64 T.t, .int .i64 T.r, .string ⟨T.l.toArray⟩, .int .i64 T.v, .slice A0 l0 q0, .int .i64 (k : Int), .slice Al nl cl, .slice (some ⟨w.heap.size + 1, 0, none⟩) 15 15, .int .u64 0, .int .u64 0, .int .u64 0, .int .u64 0, .slice none 0 0, .slice none 0 0, .slice none 0 0, .slice none 0 0, .slice none 0 0, .int .i64 (ahead : Int), .bool false] 143 (0, 0))).drew)
  have HQ2 := Lib.hid (((Blk.new w1 217 (encZ.flat (zl 0 15)).toArray).alloc (.cells #[.int .i64 1, .string ⟨T.name.toArray⟩, .string ⟨T.cycle.toArray⟩, .slice Ai T.init.length ci, .slice Ac T.code.length cc, .int .i64 T.q, .int .i64 T.k, .int .i64 T.t, .int .i64 T.r, .string ⟨T.l.toArray⟩, .int .i64 T.v, .slice A0 l0 q0, .int .i64 (k : Int), .slice Al nl cl, .slice (some ⟨w.heap.size + 1, 0, none⟩) 15 15, .int .u64 0, .int .u64 0, .int .u64 0, .int .u64 0, .slice none 0 0, .slice none 0 0, .slice none 0 0, .slice none 0 0, .slice none 0 0, .int .i64 (ahead : Int), .bool false] 143 (0, 0))).drew)
  have HG2 := Lib.hid ((blk_new2 w1 (.cells (encZ.flat (zl 0 15)).toArray 217 (0, 0)) 143 #[.int .i64 1, .string ⟨T.name.toArray⟩, .string ⟨T.cycle.toArray⟩, .slice Ai T.init.length ci, .slice Ac T.code.length cc, .int .i64 T.q, .int .i64 T.k, .int .i64 T.t, .int .i64 T.r, .string ⟨T.l.toArray⟩, .int .i64 T.v, .slice A0 l0 q0, .int .i64 (k : Int), .slice Al nl cl, .slice (some ⟨w.heap.size + 1, 0, none⟩) 15 15, .int .u64 0, .int .u64 0, .int .u64 0, .int .u64 0, .slice none 0 0, .slice none 0 0, .slice none 0 0, .slice none 0 0, .slice none 0 0, .int .i64 (ahead : Int), .bool false]).drew)
  have HT2 := Lib.hid (HTB.out.go (below_2 w1 (.cells (encZ.flat (zl 0 15)).toArray 217 (0, 0)) (.cells #[.int .i64 1, .string ⟨T.name.toArray⟩, .string ⟨T.cycle.toArray⟩, .slice Ai T.init.length ci, .slice Ac T.code.length cc, .int .i64 T.q, .int .i64 T.k, .int .i64 T.t, .int .i64 T.r, .string ⟨T.l.toArray⟩, .int .i64 T.v, .slice A0 l0 q0, .int .i64 (k : Int), .slice Al nl cl, .slice (some ⟨w.heap.size + 1, 0, none⟩) 15 15, .int .u64 0, .int .u64 0, .int .u64 0, .int .u64 0, .slice none 0 0, .slice none 0 0, .slice none 0 0, .slice none 0 0, .slice none 0 0, .int .i64 (ahead : Int), .bool false] 143 (0, 0))).drew)
  rw [hz1] at HQ2 HG2
  go_wp2_with fail
  generalize ((w1.alloc (.cells (encZ.flat (zl 0 15)).toArray 217 (0, 0))).alloc (.cells #[.int .i64 1, .string ⟨T.name.toArray⟩, .string ⟨T.cycle.toArray⟩, .slice Ai T.init.length ci, .slice Ac T.code.length cc, .int .i64 T.q, .int .i64 T.k, .int .i64 T.t, .int .i64 T.r, .string ⟨T.l.toArray⟩, .int .i64 T.v, .slice A0 l0 q0, .int .i64 (k : Int), .slice Al nl cl, .slice (some ⟨w.heap.size + 1, 0, none⟩) 15 15, .int .u64 0, .int .u64 0, .int .u64 0, .int .u64 0, .slice none 0 0, .slice none 0 0, .slice none 0 0, .slice none 0 0, .slice none 0 0, .int .i64 (ahead : Int), .bool false] 143 (0, 0))).drew = w2 at *
  go_loopw [30] (fun v wr => ∃ i : Nat, i ≤ 15 ∧ v = .int .i64 i ∧ Blk wr (w.heap.size + 1) 217 (encZ.flat (zl i 15)).toArray ∧ Blk wr (w.heap.size + 1 + 1) 143 #[.int .i64 1, .string ⟨T.name.toArray⟩, .string ⟨T.cycle.toArray⟩, .slice Ai T.init.length ci, .slice Ac T.code.length cc, .int .i64 T.q, .int .i64 T.k, .int .i64 T.t, .int .i64 T.r, .string ⟨T.l.toArray⟩, .int .i64 T.v, .slice A0 l0 q0, .int .i64 (k : Int), .slice Al nl cl, .slice (some ⟨w.heap.size + 1, 0, none⟩) 15 15, .int .u64 0, .int .u64 0, .int .u64 0, .int .u64 0, .slice none 0 0, .slice none 0 0, .slice none 0 0, .slice none 0 0, .slice none 0 0, .int .i64 (ahead : Int), .bool false] ∧ Blk wr w.heap.size 32 #[.int .i64 1, .string ⟨T.name.toArray⟩, .string ⟨T.cycle.toArray⟩, .slice Ai T.init.length ci, .slice Ac T.code.length cc, .int .i64 T.q, .int .i64 T.k, .int .i64 T.t, .int .i64 T.r, .string ⟨T.l.toArray⟩, .int .i64 T.v, .slice A0 l0 q0] ∧ Below w.heap.size w wr) (fun v _ => 15 - (intOf v).toNat)
  case atStart => exact ⟨0, by omega, rfl, HQ2.out, HG2.out, HT2.out, HW2.out⟩
  case round =>
    obtain ⟨i, hi, rfl, hq, hg, ht, hb⟩ := hrel
    have HQ := Lib.hid hq
    have HG := Lib.hid hg
    have HT := Lib.hid ht
    have HB := Lib.hid hb
    clear hq hg ht hb HQ2 HG2 HT2 HW2
    by_cases hlt : i < 15
    · have hii : (0 : Int) ≤ (i : Int) := by omega
      have hij : (i : Int) < 15 := by omega
      have g14 : wr.cell? ⟨w.heap.size + 1 + 1, 14, none⟩ = some (.slice (some ⟨w.heap.size + 1, 0, none⟩) 15 15) := HG.out.cell 14
      have hz : wr.cell? ⟨w.heap.size + 1, i * 5, none⟩ = some .nilIface := by
        rw [HQ.out.cell, List.getElem?_toArray]
        have := encZ.flat_at (zl_at hlt) (show 0 < 5 by omega)
        exact this
      have fz := HQ.out.frozen (i * 5)
      have HN := Lib.hid (show Blk (wr.setCell ⟨w.heap.size + 1, i * 5, none⟩ (.iface 213 (.int .i64 0))) (w.heap.size + 1) 217 (encZ.flat (zl (i + 1) 15)).toArray by
        have := HQ.out.set_ (i * 5) (.iface 213 (.int .i64 0))
        rw [flatZ_set _ _ (by rw [zl_len hi]; exact hlt), zl_set hlt] at this
        exact this)
      go_wp2_with fail
      go_roundw
      case rel => exact ⟨i + 1, by omega, by go_num, HN.out, HG.out.far (by simp) _, HT.out.far (by simp) _, HB.out.setCell (p := ⟨w.heap.size + 1, i * 5, none⟩) (show w.heap.size ≤ w.heap.size + 1 by omega) _⟩
      case measure => simp [intOf]; omega
    · have hie : i = 15 := by omega
      subst hie
      have hr : encZ.flat (zl 15 15) = encR.flat (List.replicate 15 ⟨.num 0, 0⟩) := flatZ_done 15
      rw [hr] at HQ
      have HR := Lib.hid (show RunAt wr w.heap.size (w.heap.size + 1 + 1) ⟨T, .slice Ai T.init.length ci, .slice Ac T.code.length cc, .slice A0 l0 q0, .slice Al nl cl, ⟨k, false, ahead, locs⟩⟩ ⟨List.replicate 15 ⟨.num 0, 0⟩, 0, [], [], [], [], [], false⟩ ⟨.slice (some ⟨w.heap.size + 1, 0, none⟩) 15 15, .slice none 0 0, .slice none 0 0, .slice none 0 0, .slice none 0 0, .slice none 0 0⟩ from
        ⟨by have := HG.out; rw [← HAR.out] at this; exact this, by omega, ⟨w.heap.size + 1, by simp, HQ.out, by omega⟩, Enc.Own.nil _ _ _, Enc.Own.nil _ _ _, Enc.Own.nil _ _ _, Enc.Own.nil _ _ _, Enc.Own.nil _ _ _, (fun x hx => by cases hx), (fun x hx => by cases hx), (fun x hx => by cases hx)⟩)
      have u3 : wr.cell? ⟨w.heap.size, 3, none⟩ = some (.slice Ai T.init.length ci) := HT.out.cell 3
      have g14 : wr.cell? ⟨w.heap.size + 1 + 1, 14, none⟩ = some (.slice (some ⟨w.heap.size + 1, 0, none⟩) 15 15) := HG.out.cell 14
      go_wp2_with fail
      have HR0 := Lib.hid HR.out
      have HT0 := Lib.hid HT.out
      have HB0' := Lib.hid HB.out
      clear HR HT HB HQ HG u3 g14 hr HB0
      go_loopw [45] (fun v wr2 => ∃ (i : Nat) (L : List Rg), i ≤ T.init.length ∧ v = .int .i64 i ∧ L = (T.init.take i).foldl (iniS k) (List.replicate 15 ⟨.num 0, 0⟩) ∧ (∀ y ∈ L, y.on = 0) ∧ L.length = 15 ∧ RunAt wr2 w.heap.size (w.heap.size + 1 + 1) ⟨T, .slice Ai T.init.length ci, .slice Ac T.code.length cc, .slice A0 l0 q0, .slice Al nl cl, ⟨k, false, ahead, locs⟩⟩ ⟨L, 0, [], [], [], [], [], false⟩ ⟨.slice (some ⟨w.heap.size + 1, 0, none⟩) 15 15, .slice none 0 0, .slice none 0 0, .slice none 0 0, .slice none 0 0, .slice none 0 0⟩ ∧ Blk wr2 w.heap.size 32 #[.int .i64 1, .string ⟨T.name.toArray⟩, .string ⟨T.cycle.toArray⟩, .slice Ai T.init.length ci, .slice Ac T.code.length cc, .int .i64 T.q, .int .i64 T.k, .int .i64 T.t, .int .i64 T.r, .string ⟨T.l.toArray⟩, .int .i64 T.v, .slice A0 l0 q0] ∧ Below w.heap.size w wr2) (fun v _ => T.init.length - (intOf v).toNat)
      case atStart => exact ⟨0, _, Nat.zero_le _, rfl, rfl, (fun y hy => by rw [List.eq_of_mem_replicate hy]), by simp, HR0.out, HT0.out, HB0'.out⟩
      case round =>
        obtain ⟨i, L, hi, rfl, hL, h0, hlen, hr, ht, hb⟩ := hrel
        have HLL := Lib.hid hL
        have HON := Lib.hid h0
        have HR := Lib.hid hr
        have HT := Lib.hid ht
        have HB := Lib.hid hb
        have hzb := hb.size
        clear hL h0 hr ht hb HR0 HT0 HB0'
        by_cases hlt : i < T.init.length
        · have ex := List.getElem?_eq_getElem hlt
          obtain ⟨x, hx⟩ : ∃ x, T.init[i] = x := ⟨_, rfl⟩
          rw [hx] at ex
          have HX := Lib.hid ex
          have HNX := Lib.hid (show (T.init.take (i + 1)).foldl (iniS k) (List.replicate 15 ⟨.num 0, 0⟩) = iniS k L x by
            obtain ⟨h1, h2⟩ := List.getElem?_eq_some_iff.1 ex
            rw [List.take_succ_eq_append_getElem h1, List.foldl_append, ← HLL.out, h2]; rfl)
          have hini := HINI.out x (List.mem_of_getElem? ex)
          obtain ⟨b, o, hA, c0, c1, c2, c3, c4, _⟩ := (HI.out.below HB.out) i x ex
          subst hA
          have hii : (0 : Int) ≤ (i : Int) := by omega
          have hij : (i : Int) < (T.init.length : Int) := by omega
          clear ex hx
          by_cases hth : x.th = (k : Int)
          · obtain ⟨hr0, hr1⟩ := hini hth
            obtain ⟨kr, hkr⟩ := Int.eq_ofNat_of_zero_le hr0
            rw [hkr] at c1 hr1
            have HKR := Lib.hid hkr
            have HTH := Lib.hid hth
            have hkl : kr < L.length := by omega
            obtain ⟨y, hy⟩ : ∃ y, L[kr]? = some y := ⟨_, List.getElem?_eq_getElem hkl⟩
            have hyo := HON.out y (List.mem_of_getElem? hy)
            have HY := Lib.hid hy
            have hk1 : (0 : Int) ≤ (kr : Int) := by omega
            have hk2 : (kr : Int) < 15 := by omega
            have HLB := Lib.hid (Blk.new wr 131 #[.int .i64 (k : Int), .int .i64 (kr : Int), .string ⟨x.loc.toArray⟩, .string ⟨x.vl.toArray⟩, .int .i64 x.vn])
            have HL0 := Lib.hid (alloc_b wr (.cells #[.int .i64 (k : Int), .int .i64 (kr : Int), .string ⟨x.loc.toArray⟩, .string ⟨x.vl.toArray⟩, .int .i64 x.vn] 131 (0, 0)))
            have hxt : ¬ x.th ≠ (k : Int) := fun h => h hth
            clear hini hr0 hkr hy
            have htk : (x.th == (k : Int)) = true := by simpa using hth
            go_wp2_with fail
            generalize wr.alloc (.cells #[.int .i64 (k : Int), .int .i64 (kr : Int), .string ⟨x.loc.toArray⟩, .string ⟨x.vl.toArray⟩, .int .i64 x.vn] 131 (0, 0)) = w4 at *
            have HR4 := Lib.hid (HR.out.below HL0.out)
            obtain ⟨q, hvr, hqb, hqB⟩ := HR4.out.regs
            have hqe : q = w.heap.size + 1 := by
              simp only [Value.slice.injEq, Option.some.injEq, Addr.mk.injEq, and_true] at hvr
              exact hvr.1.symm
            subst hqe
            have g14 : w4.cell? ⟨w.heap.size + 1 + 1, 14, none⟩ = some (.slice (some ⟨w.heap.size + 1, 0, none⟩) 15 15) := HR4.out.blk.cell 14
            have n1 : w4.cell? ⟨wr.heap.size, 1, none⟩ = some (.int .i64 (kr : Int)) := HLB.out.cell 1
            have n4 : w4.cell? ⟨wr.heap.size, 4, none⟩ = some (.int .i64 x.vn) := HLB.out.cell 4
            have n3 : w4.cell? ⟨wr.heap.size, 3, none⟩ = some (.string ⟨x.vl.toArray⟩) := HLB.out.cell 3
            have hgz : w.heap.size + 1 + 1 < w4.heap.size := HR4.out.blk.lt
            have hrz : w.heap.size + 1 + 1 < wr.heap.size := HR.out.blk.lt
            have hlz : wr.heap.size < w4.heap.size := HLB.out.lt
            refine wz (fun y : World => y.cell? ⟨w.heap.size + 1 + 1, 14, none⟩ = some (.slice (some ⟨w.heap.size + 1, 0, none⟩) 15 15) ∧ y.cell? ⟨wr.heap.size, 1, none⟩ = some (.int .i64 (kr : Int)) ∧ y.cell? ⟨wr.heap.size, 4, none⟩ = some (.int .i64 x.vn) ∧ y.cell? ⟨wr.heap.size, 3, none⟩ = some (.string ⟨x.vl.toArray⟩)) [3, 5, 8, 9] ⟨g14, n1, n4, n3⟩ (fun hHeld => ?_)
            refine wq 0 ?_
            refine wq 1 ?_
            refine wq 2 ?_
            refine wq 4 ?_
            refine wq 6 ?_
            refine wq 7 ?_
            refine wt 3 (by assumption) ?_
            refine wt 5 (by assumption) ?_
            refine wt 8 (by assumption) ?_
            refine wt 9 (by assumption) ?_
            refine wq 10 ?_
            refine wq 11 ?_
            refine wl 12 ?_
            clear hHeld g14 n1 n4
            have HRD := Lib.hid (show RunAt (w4.setCell ⟨w.heap.size + 1, kr * 5, none⟩ (.iface 213 (.int .i64 x.vn))).drew _ _ _ _ _ from (HR4.out.has HY.out (q := w.heap.size + 1) (V := ⟨.slice (some ⟨w.heap.size + 1, 0, none⟩) 15 15, .slice none 0 0, .slice none 0 0, .slice none 0 0, .slice none 0 0, .slice none 0 0⟩) (by simp [hlen]) (.num x.vn)).drew)
            have HLD := Lib.hid (HLB.out.far (p := ⟨w.heap.size + 1, kr * 5, none⟩) (show wr.heap.size ≠ w.heap.size + 1 by omega) (.iface 213 (.int .i64 x.vn))).drew
            have HTD := Lib.hid ((HT.out.go HL0.out).far (p := ⟨w.heap.size + 1, kr * 5, none⟩) (show w.heap.size ≠ w.heap.size + 1 by omega) (.iface 213 (.int .i64 x.vn))).drew
            have HBD := Lib.hid ((below_trans HB.out HL0.out).setCell (p := ⟨w.heap.size + 1, kr * 5, none⟩) (show w.heap.size ≤ w.heap.size + 1 by omega) (.iface 213 (.int .i64 x.vn))).drew
            have z0 := (regs_cell hqb HY.out).1
            have f0 := hqb.frozen (kr * 5)
            rw [hyo] at HRD
            have HO2 := Lib.hid (show ∀ h : Hold, ∀ y2 ∈ L.set kr ⟨h, 0⟩, y2.on = 0 from fun h y2 hy2 => by
              rcases List.mem_or_eq_of_mem_set hy2 with h | rfl
              · exact HON.out y2 h
              · rfl)
            clear hqb hvr htk hxt hyo HLB HR4 HR
            by_cases hvl : x.vl = []
            · have HIS := Lib.hid (show iniS k L x = L.set kr ⟨.num x.vn, 0⟩ by
                unfold iniS; rw [if_pos HTH.out, HKR.out, show iniR x = ⟨.num x.vn, 0⟩ by unfold iniR; rw [if_pos hvl]]; rfl)
              go_wp2_with fail
              generalize (w4.setCell ⟨w.heap.size + 1, kr * 5, none⟩ (.iface 213 (.int .i64 x.vn))).drew = w5 at *
              go_roundw
              case rel => exact ⟨i + 1, _, by omega, by go_num, by rw [HNX.out, HIS.out], HO2.out _, by simp [hlen], HRD.out, HTD.out, HBD.out⟩
              case measure => simp [intOf]; omega
            · have HIS := Lib.hid (show iniS k L x = L.set kr ⟨.adr x.vl, 0⟩ by
                unfold iniS; rw [if_pos HTH.out, HKR.out, show iniR x = ⟨.adr x.vl, 0⟩ by unfold iniR; rw [if_neg hvl]]; rfl)
              have hve : x.vl.isEmpty = false := by simpa using hvl
              go_wp2_with fail
              generalize (w4.setCell ⟨w.heap.size + 1, kr * 5, none⟩ (.iface 213 (.int .i64 x.vn))).drew = w5 at *
              clear z0 f0 n3 hve
              obtain ⟨q, hvr, hqb, hqB⟩ := HRD.out.regs
              have hqe : q = w.heap.size + 1 := by
                simp only [Value.slice.injEq, Option.some.injEq, Addr.mk.injEq, and_true] at hvr
                exact hvr.1.symm
              subst hqe
              have g14 : w5.cell? ⟨w.heap.size + 1 + 1, 14, none⟩ = some (.slice (some ⟨w.heap.size + 1, 0, none⟩) 15 15) := HRD.out.blk.cell 14
              have n1 : w5.cell? ⟨wr.heap.size, 1, none⟩ = some (.int .i64 (kr : Int)) := HLD.out.cell 1
              have n3 : w5.cell? ⟨wr.heap.size, 3, none⟩ = some (.string ⟨x.vl.toArray⟩) := HLD.out.cell 3
              have hgz5 : w.heap.size + 1 + 1 < w5.heap.size := HRD.out.blk.lt
              refine wz (fun y : World => y.cell? ⟨w.heap.size + 1 + 1, 14, none⟩ = some (.slice (some ⟨w.heap.size + 1, 0, none⟩) 15 15) ∧ y.cell? ⟨wr.heap.size, 1, none⟩ = some (.int .i64 (kr : Int)) ∧ y.cell? ⟨wr.heap.size, 3, none⟩ = some (.string ⟨x.vl.toArray⟩)) [3, 5, 8, 9] ⟨g14, n1, n3⟩ (fun hHeld => ?_)
              refine wq 0 ?_
              refine wq 1 ?_
              refine wq 2 ?_
              refine wq 4 ?_
              refine wq 6 ?_
              refine wq 7 ?_
              refine wt 3 (by assumption) ?_
              refine wt 5 (by assumption) ?_
              refine wt 8 (by assumption) ?_
              refine wt 9 (by assumption) ?_
              refine wq 10 ?_
              refine wq 11 ?_
              refine wl 12 ?_
              clear hHeld g14 n1 n3
              have hk5 : (L.set kr ⟨.num x.vn, 0⟩)[kr]? = some ⟨.num x.vn, 0⟩ := by rw [List.getElem?_set_self (by rw [hlen]; omega)]
              have HRE := Lib.hid (show RunAt (w5.setCell ⟨w.heap.size + 1, kr * 5, none⟩ (.iface 218 (.string ⟨x.vl.toArray⟩))).drew _ _ _ _ _ from (HRD.out.has hk5 (q := w.heap.size + 1) (V := ⟨.slice (some ⟨w.heap.size + 1, 0, none⟩) 15 15, .slice none 0 0, .slice none 0 0, .slice none 0 0, .slice none 0 0, .slice none 0 0⟩) (by simp [hlen]) (.adr x.vl)).drew)
              simp only [List.set_set] at HRE
              have HTE := Lib.hid (HTD.out.far (p := ⟨w.heap.size + 1, kr * 5, none⟩) (show w.heap.size ≠ w.heap.size + 1 by omega) (.iface 218 (.string ⟨x.vl.toArray⟩))).drew
              have HBE := Lib.hid (HBD.out.setCell (p := ⟨w.heap.size + 1, kr * 5, none⟩) (show w.heap.size ≤ w.heap.size + 1 by omega) (.iface 218 (.string ⟨x.vl.toArray⟩))).drew
              have z0 := (regs_cell hqb hk5).1
              have f0 := hqb.frozen (kr * 5)
              clear hqb hvr HRD HLD HTD HBD
              go_wp2_with fail
              generalize (w5.setCell ⟨w.heap.size + 1, kr * 5, none⟩ (.iface 218 (.string ⟨x.vl.toArray⟩))).drew = w6 at *
              go_roundw
              case rel =>
                have e := HNX.out.trans HIS.out
                simp only [List.reduceReplicate] at e
                refine ⟨i + 1, by omega, by go_num, ?_⟩
                rw [e]
                exact ⟨HO2.out _, by simp [hlen], HRE.out, HTE.out, HBE.out⟩
              case measure => simp [intOf]; omega
          · have HSM := Lib.hid (show iniS k L x = L from if_neg hth)
            clear hini
            go_wp2_with fail
            go_roundw
            case rel => exact ⟨i + 1, L, by omega, by go_num, by rw [HNX.out, HSM.out], HON.out, hlen, HR.out.below (alloc_b _ _), HT.out.go (alloc_b _ _), below_alloc HB.out _⟩
            case measure => simp [intOf]; omega
        · have hie : i = T.init.length := by omega
          have hij : ¬ (i : Int) < (T.init.length : Int) := by omega
          have HEND := Lib.hid (show L = begL k 15 T.init by rw [HLL.out, hie, List.take_length]; rfl)
          go_wp2_with fail
          go_ret
          exact ⟨w.heap.size + 1 + 1, ⟨.slice (some ⟨w.heap.size + 1, 0, none⟩) 15 15, .slice none 0 0, .slice none 0 0, .slice none 0 0, .slice none 0 0, .slice none 0 0⟩, rfl, (by have := HR.out; rw [HEND.out] at this; exact this), HB.out⟩
theorem begunP32 (T : Tst) (Ai Ac Al : Option Addr) (ci cc nl cl k ahead : Nat) (kv : Value) (locs : List Nm) (w : World) (ha : T.arch = 2) (hT : TstAt w T Ai Ac kv) (hini : ∀ x ∈ T.init, x.th = (k : Int) → 0 ≤ x.rg ∧ x.rg < 32) :
    Calls Tryz.prog 62 #[testV T (.slice Ai T.init.length ci) (.slice Ac T.code.length cc) kv, .int .i64 (k : Int), .slice Al nl cl, .int .i64 (ahead : Int)] w
      (BegPost ⟨T, .slice Ai T.init.length ci, .slice Ac T.code.length cc, kv, .slice Al nl cl, ⟨k, true, ahead, locs⟩⟩ (rn0 true T.init k) w) := by
  obtain ⟨A0, l0, q0, rfl⟩ : ∃ A n c, kv = .slice A n c := by obtain ⟨A, cap, e, _⟩ := hT.kids; exact ⟨A, _, cap, e⟩
  simp only [testV, ha]
  have HTB := Lib.hid (Blk.new w 32 #[.int .i64 2, .string ⟨T.name.toArray⟩, .string ⟨T.cycle.toArray⟩, .slice Ai T.init.length ci, .slice Ac T.code.length cc, .int .i64 T.q, .int .i64 T.k, .int .i64 T.t, .int .i64 T.r, .string ⟨T.l.toArray⟩, .int .i64 T.v, .slice A0 l0 q0])
  have HB0 := Lib.hid (alloc_b w (.cells #[.int .i64 2, .string ⟨T.name.toArray⟩, .string ⟨T.cycle.toArray⟩, .slice Ai T.init.length ci, .slice Ac T.code.length cc, .int .i64 T.q, .int .i64 T.k, .int .i64 T.t, .int .i64 T.r, .string ⟨T.l.toArray⟩, .int .i64 T.v, .slice A0 l0 q0] 32 (0, 0)))
  have HZ := Lib.hid (show (w.alloc (.cells #[.int .i64 2, .string ⟨T.name.toArray⟩, .string ⟨T.cycle.toArray⟩, .slice Ai T.init.length ci, .slice Ac T.code.length cc, .int .i64 T.q, .int .i64 T.k, .int .i64 T.t, .int .i64 T.r, .string ⟨T.l.toArray⟩, .int .i64 T.v, .slice A0 l0 q0] 32 (0, 0))).heap.size = w.heap.size + 1 by simp)
  have HI := Lib.hid hT.init
  have HINI := Lib.hid hini
  have hil := hT.ilen
  have HAR := Lib.hid ha
  clear hT hini ha
  go_enter Tryz.func62, Tryz.ntmps62
  go_wp2_with fail
  generalize hw1 : w.alloc (.cells #[.int .i64 2, .string ⟨T.name.toArray⟩, .string ⟨T.cycle.toArray⟩, .slice Ai T.init.length ci, .slice Ac T.code.length cc, .int .i64 T.q, .int .i64 T.k, .int .i64 T.t, .int .i64 T.r, .string ⟨T.l.toArray⟩, .int .i64 T.v, .slice A0 l0 q0] 32 (0, 0)) = w1 at *
  clear hw1
  have hz1 : w1.heap.size = w.heap.size + 1 := HZ.out
  have t0 : w1.cell? ⟨w.heap.size, 0, none⟩ = some (.int .i64 2) := HTB.out.cell 0
  have t1 : w1.cell? ⟨w.heap.size, 1, none⟩ = some (.string ⟨T.name.toArray⟩) := HTB.out.cell 1
  have t2 : w1.cell? ⟨w.heap.size, 2, none⟩ = some (.string ⟨T.cycle.toArray⟩) := HTB.out.cell 2
  have t3 : w1.cell? ⟨w.heap.size, 3, none⟩ = some (.slice Ai T.init.length ci) := HTB.out.cell 3
  have t4 : w1.cell? ⟨w.heap.size, 4, none⟩ = some (.slice Ac T.code.length cc) := HTB.out.cell 4
  have t5 : w1.cell? ⟨w.heap.size, 5, none⟩ = some (.int .i64 T.q) := HTB.out.cell 5
  have t6 : w1.cell? ⟨w.heap.size, 6, none⟩ = some (.int .i64 T.k) := HTB.out.cell 6
  have t7 : w1.cell? ⟨w.heap.size, 7, none⟩ = some (.int .i64 T.t) := HTB.out.cell 7
  have t8 : w1.cell? ⟨w.heap.size, 8, none⟩ = some (.int .i64 T.r) := HTB.out.cell 8
  have t9 : w1.cell? ⟨w.heap.size, 9, none⟩ = some (.string ⟨T.l.toArray⟩) := HTB.out.cell 9
  have ta : w1.cell? ⟨w.heap.size, 10, none⟩ = some (.int .i64 T.v) := HTB.out.cell 10
  have tb : w1.cell? ⟨w.heap.size, 11, none⟩ = some (.slice A0 l0 q0) := HTB.out.cell 11
  refine wz (fun y : World => y.cell? ⟨w.heap.size, 0, none⟩ = some (.int .i64 2) ∧ y.cell? ⟨w.heap.size, 1, none⟩ = some (.string ⟨T.name.toArray⟩) ∧ y.cell? ⟨w.heap.size, 2, none⟩ = some (.string ⟨T.cycle.toArray⟩) ∧ y.cell? ⟨w.heap.size, 3, none⟩ = some (.slice Ai T.init.length ci) ∧ y.cell? ⟨w.heap.size, 4, none⟩ = some (.slice Ac T.code.length cc) ∧ y.cell? ⟨w.heap.size, 5, none⟩ = some (.int .i64 T.q) ∧ y.cell? ⟨w.heap.size, 6, none⟩ = some (.int .i64 T.k) ∧ y.cell? ⟨w.heap.size, 7, none⟩ = some (.int .i64 T.t) ∧ y.cell? ⟨w.heap.size, 8, none⟩ = some (.int .i64 T.r) ∧ y.cell? ⟨w.heap.size, 9, none⟩ = some (.string ⟨T.l.toArray⟩) ∧ y.cell? ⟨w.heap.size, 10, none⟩ = some (.int .i64 T.v) ∧ y.cell? ⟨w.heap.size, 11, none⟩ = some (.slice A0 l0 q0)) [0, 4] ⟨t0, t1, t2, t3, t4, t5, t6, t7, t8, t9, ta, tb⟩ (fun hHeld => ?_)
  refine wq 1 ?_
  refine wq 2 ?_
  refine wq 3 ?_
  refine wq 5 ?_
  refine wt 0 (by assumption) ?_
  have hmk : ∀ w, (Instr.makeSlice 138 (.int .i64 32) (.int .i64 32)).run Tryz.prog w = .ok (.slice (some ⟨w.heap.size, 0, none⟩) 32 32) (w.alloc (.cells (encZ.flat (zl 0 32)).toArray 217 (0, 0))) := fun w => mk_regs 32 (by omega) w
  refine wpE_one (i := 4) (by kernel_rfl) rfl (fun K hK => ?_)
  go_simp
  refine hK.out _ _ ⟨cell_al hHeld.1 _, cell_al hHeld.2.1 _, cell_al hHeld.2.2.1 _, cell_al hHeld.2.2.2.1 _, cell_al hHeld.2.2.2.2.1 _, cell_al hHeld.2.2.2.2.2.1 _, cell_al hHeld.2.2.2.2.2.2.1 _, cell_al hHeld.2.2.2.2.2.2.2.1 _, cell_al hHeld.2.2.2.2.2.2.2.2.1 _, cell_al hHeld.2.2.2.2.2.2.2.2.2.1 _, cell_al hHeld.2.2.2.2.2.2.2.2.2.2.1 _, cell_al hHeld.2.2.2.2.2.2.2.2.2.2.2 _⟩ ?_
  clear hK K
  refine pu ?_
  refine wl 6 ?_
  clear hHeld t0 t1 t2 t3 t4 t5 t6 t7 t8 t9 ta tb hmk
  have HW2 := Lib.hid (below_trans HB0.out (below_2 w1 (.cells (encZ.flat (zl 0 32)).toArray 217 (0, 0)) (.cells #[.int .i64 2, .string ⟨T.name.toArray⟩, .string ⟨T.cycle.toArray⟩, .slice Ai T.init.length ci, .slice Ac T.code.length cc, .int .i64 T.q, .int .i64 T.k, .int .i64 T.t, .int .i64 T.r, .string ⟨T.l.toArray⟩, .int .i64 T.v, .slice A0 l0 q0, .int .i64 (k : Int), .slice Al nl cl, .slice (some ⟨w.heap.size + 1, 0, none⟩) 32 32, .int .u64 0, .int .u64 0, .int .u64 0, .int .u64 0, .slice none 0 0, .slice none 0 0, .slice none 0 0, .slice none 0 0, .slice none 0 0, .int .i64 (ahead : Int), .bool false] 143 (0, 0))).drew)
  have HQ2 := Lib.hid (((Blk.new w1 217 (encZ.flat (zl 0 32)).toArray).alloc (.cells #[.int .i64 2, .string ⟨T.name.toArray⟩, .string ⟨T.cycle.toArray⟩, .slice Ai T.init.length ci, .slice Ac T.code.length cc, .int .i64 T.q, .int .i64 T.k, .int .i64 T.t, .int .i64 T.r, .string ⟨T.l.toArray⟩, .int .i64 T.v, .slice A0 l0 q0, .int .i64 (k : Int), .slice Al nl cl, .slice (some ⟨w.heap.size + 1, 0, none⟩) 32 32, .int .u64 0, .int .u64 0, .int .u64 0, .int .u64 0, .slice none 0 0, .slice none 0 0, .slice none 0 0, .slice none 0 0, .slice none 0 0, .int .i64 (ahead : Int), .bool false] 143 (0, 0))).drew)
  have HG2 := Lib.hid ((blk_new2 w1 (.cells (encZ.flat (zl 0 32)).toArray 217 (0, 0)) 143 #[.int .i64 2, .string ⟨T.name.toArray⟩, .string ⟨T.cycle.toArray⟩, .slice Ai T.init.length ci, .slice Ac T.code.length cc, .int .i64 T.q, .int .i64 T.k, .int .i64 T.t, .int .i64 T.r, .string ⟨T.l.toArray⟩, .int .i64 T.v, .slice A0 l0 q0, .int .i64 (k : Int), .slice Al nl cl, .slice (some ⟨w.heap.size + 1, 0, none⟩) 32 32, .int .u64 0, .int .u64 0, .int .u64 0, .int .u64 0, .slice none 0 0, .slice none 0 0, .slice none 0 0, .slice none 0 0, .slice none 0 0, .int .i64 (ahead : Int), .bool false]).drew)
  have HT2 := Lib.hid (HTB.out.go (below_2 w1 (.cells (encZ.flat (zl 0 32)).toArray 217 (0, 0)) (.cells #[.int .i64 2, .string ⟨T.name.toArray⟩, .string ⟨T.cycle.toArray⟩, .slice Ai T.init.length ci, .slice Ac T.code.length cc, .int .i64 T.q, .int .i64 T.k, .int .i64 T.t, .int .i64 T.r, .string ⟨T.l.toArray⟩, .int .i64 T.v, .slice A0 l0 q0, .int .i64 (k : Int), .slice Al nl cl, .slice (some ⟨w.heap.size + 1, 0, none⟩) 32 32, .int .u64 0, .int .u64 0, .int .u64 0, .int .u64 0, .slice none 0 0, .slice none 0 0, .slice none 0 0, .slice none 0 0, .slice none 0 0, .int .i64 (ahead : Int), .bool false] 143 (0, 0))).drew)
  rw [hz1] at HQ2 HG2
  go_wp2_with fail
  generalize ((w1.alloc (.cells (encZ.flat (zl 0 32)).toArray 217 (0, 0))).alloc (.cells #[.int .i64 2, .string ⟨T.name.toArray⟩, .string ⟨T.cycle.toArray⟩, .slice Ai T.init.length ci, .slice Ac T.code.length cc, .int .i64 T.q, .int .i64 T.k, .int .i64 T.t, .int .i64 T.r, .string ⟨T.l.toArray⟩, .int .i64 T.v, .slice A0 l0 q0, .int .i64 (k : Int), .slice Al nl cl, .slice (some ⟨w.heap.size + 1, 0, none⟩) 32 32, .int .u64 0, .int .u64 0, .int .u64 0, .int .u64 0, .slice none 0 0, .slice none 0 0, .slice none 0 0, .slice none 0 0, .slice none 0 0, .int .i64 (ahead : Int), .bool false] 143 (0, 0))).drew = w2 at *
  go_loopw [30] (fun v wr => ∃ i : Nat, i ≤ 32 ∧ v = .int .i64 i ∧ Blk wr (w.heap.size + 1) 217 (encZ.flat (zl i 32)).toArray ∧ Blk wr (w.heap.size + 1 + 1) 143 #[.int .i64 2, .string ⟨T.name.toArray⟩, .string ⟨T.cycle.toArray⟩, .slice Ai T.init.length ci, .slice Ac T.code.length cc, .int .i64 T.q, .int .i64 T.k, .int .i64 T.t, .int .i64 T.r, .string ⟨T.l.toArray⟩, .int .i64 T.v, .slice A0 l0 q0, .int .i64 (k : Int), .slice Al nl cl, .slice (some ⟨w.heap.size + 1, 0, none⟩) 32 32, .int .u64 0, .int .u64 0, .int .u64 0, .int .u64 0, .slice none 0 0, .slice none 0 0, .slice none 0 0, .slice none 0 0, .slice none 0 0, .int .i64 (ahead : Int), .bool false] ∧ Blk wr w.heap.size 32 #[.int .i64 2, .string ⟨T.name.toArray⟩, .string ⟨T.cycle.toArray⟩, .slice Ai T.init.length ci, .slice Ac T.code.length cc, .int .i64 T.q, .int .i64 T.k, .int .i64 T.t, .int .i64 T.r, .string ⟨T.l.toArray⟩, .int .i64 T.v, .slice A0 l0 q0] ∧ Below w.heap.size w wr) (fun v _ => 32 - (intOf v).toNat)
  case atStart => exact ⟨0, by omega, rfl, HQ2.out, HG2.out, HT2.out, HW2.out⟩
  case round =>
    obtain ⟨i, hi, rfl, hq, hg, ht, hb⟩ := hrel
    have HQ := Lib.hid hq
    have HG := Lib.hid hg
    have HT := Lib.hid ht
    have HB := Lib.hid hb
    clear hq hg ht hb HQ2 HG2 HT2 HW2
    by_cases hlt : i < 32
    · have hii : (0 : Int) ≤ (i : Int) := by omega
      have hij : (i : Int) < 32 := by omega
      have g14 : wr.cell? ⟨w.heap.size + 1 + 1, 14, none⟩ = some (.slice (some ⟨w.heap.size + 1, 0, none⟩) 32 32) := HG.out.cell 14
      have hz : wr.cell? ⟨w.heap.size + 1, i * 5, none⟩ = some .nilIface := by
        rw [HQ.out.cell, List.getElem?_toArray]
        have := encZ.flat_at (zl_at hlt) (show 0 < 5 by omega)
        exact this
      have fz := HQ.out.frozen (i * 5)
      have HN := Lib.hid (show Blk (wr.setCell ⟨w.heap.size + 1, i * 5, none⟩ (.iface 213 (.int .i64 0))) (w.heap.size + 1) 217 (encZ.flat (zl (i + 1) 32)).toArray by
        have := HQ.out.set_ (i * 5) (.iface 213 (.int .i64 0))
        rw [flatZ_set _ _ (by rw [zl_len hi]; exact hlt), zl_set hlt] at this
        exact this)
      go_wp2_with fail
      go_roundw
      case rel => exact ⟨i + 1, by omega, by go_num, HN.out, HG.out.far (by simp) _, HT.out.far (by simp) _, HB.out.setCell (p := ⟨w.heap.size + 1, i * 5, none⟩) (show w.heap.size ≤ w.heap.size + 1 by omega) _⟩
      case measure => simp [intOf]; omega
    · have hie : i = 32 := by omega
      subst hie
      have hr : encZ.flat (zl 32 32) = encR.flat (List.replicate 32 ⟨.num 0, 0⟩) := flatZ_done 32
      rw [hr] at HQ
      have HR := Lib.hid (show RunAt wr w.heap.size (w.heap.size + 1 + 1) ⟨T, .slice Ai T.init.length ci, .slice Ac T.code.length cc, .slice A0 l0 q0, .slice Al nl cl, ⟨k, true, ahead, locs⟩⟩ ⟨List.replicate 32 ⟨.num 0, 0⟩, 0, [], [], [], [], [], false⟩ ⟨.slice (some ⟨w.heap.size + 1, 0, none⟩) 32 32, .slice none 0 0, .slice none 0 0, .slice none 0 0, .slice none 0 0, .slice none 0 0⟩ from
        ⟨by have := HG.out; rw [← HAR.out] at this; exact this, by omega, ⟨w.heap.size + 1, by simp, HQ.out, by omega⟩, Enc.Own.nil _ _ _, Enc.Own.nil _ _ _, Enc.Own.nil _ _ _, Enc.Own.nil _ _ _, Enc.Own.nil _ _ _, (fun x hx => by cases hx), (fun x hx => by cases hx), (fun x hx => by cases hx)⟩)
      have u3 : wr.cell? ⟨w.heap.size, 3, none⟩ = some (.slice Ai T.init.length ci) := HT.out.cell 3
      have g14 : wr.cell? ⟨w.heap.size + 1 + 1, 14, none⟩ = some (.slice (some ⟨w.heap.size + 1, 0, none⟩) 32 32) := HG.out.cell 14
      go_wp2_with fail
      have HR0 := Lib.hid HR.out
      have HT0 := Lib.hid HT.out
      have HB0' := Lib.hid HB.out
      clear HR HT HB HQ HG u3 g14 hr HB0
      go_loopw [45] (fun v wr2 => ∃ (i : Nat) (L : List Rg), i ≤ T.init.length ∧ v = .int .i64 i ∧ L = (T.init.take i).foldl (iniS k) (List.replicate 32 ⟨.num 0, 0⟩) ∧ (∀ y ∈ L, y.on = 0) ∧ L.length = 32 ∧ RunAt wr2 w.heap.size (w.heap.size + 1 + 1) ⟨T, .slice Ai T.init.length ci, .slice Ac T.code.length cc, .slice A0 l0 q0, .slice Al nl cl, ⟨k, true, ahead, locs⟩⟩ ⟨L, 0, [], [], [], [], [], false⟩ ⟨.slice (some ⟨w.heap.size + 1, 0, none⟩) 32 32, .slice none 0 0, .slice none 0 0, .slice none 0 0, .slice none 0 0, .slice none 0 0⟩ ∧ Blk wr2 w.heap.size 32 #[.int .i64 2, .string ⟨T.name.toArray⟩, .string ⟨T.cycle.toArray⟩, .slice Ai T.init.length ci, .slice Ac T.code.length cc, .int .i64 T.q, .int .i64 T.k, .int .i64 T.t, .int .i64 T.r, .string ⟨T.l.toArray⟩, .int .i64 T.v, .slice A0 l0 q0] ∧ Below w.heap.size w wr2) (fun v _ => T.init.length - (intOf v).toNat)
      case atStart => exact ⟨0, _, Nat.zero_le _, rfl, rfl, (fun y hy => by rw [List.eq_of_mem_replicate hy]), by simp, HR0.out, HT0.out, HB0'.out⟩
      case round =>
        obtain ⟨i, L, hi, rfl, hL, h0, hlen, hr, ht, hb⟩ := hrel
        have HLL := Lib.hid hL
        have HON := Lib.hid h0
        have HR := Lib.hid hr
        have HT := Lib.hid ht
        have HB := Lib.hid hb
        have hzb := hb.size
        clear hL h0 hr ht hb HR0 HT0 HB0'
        by_cases hlt : i < T.init.length
        · have ex := List.getElem?_eq_getElem hlt
          obtain ⟨x, hx⟩ : ∃ x, T.init[i] = x := ⟨_, rfl⟩
          rw [hx] at ex
          have HX := Lib.hid ex
          have HNX := Lib.hid (show (T.init.take (i + 1)).foldl (iniS k) (List.replicate 32 ⟨.num 0, 0⟩) = iniS k L x by
            obtain ⟨h1, h2⟩ := List.getElem?_eq_some_iff.1 ex
            rw [List.take_succ_eq_append_getElem h1, List.foldl_append, ← HLL.out, h2]; rfl)
          have hini := HINI.out x (List.mem_of_getElem? ex)
          obtain ⟨b, o, hA, c0, c1, c2, c3, c4, _⟩ := (HI.out.below HB.out) i x ex
          subst hA
          have hii : (0 : Int) ≤ (i : Int) := by omega
          have hij : (i : Int) < (T.init.length : Int) := by omega
          clear ex hx
          by_cases hth : x.th = (k : Int)
          · obtain ⟨hr0, hr1⟩ := hini hth
            obtain ⟨kr, hkr⟩ := Int.eq_ofNat_of_zero_le hr0
            rw [hkr] at c1 hr1
            have HKR := Lib.hid hkr
            have HTH := Lib.hid hth
            have hkl : kr < L.length := by omega
            obtain ⟨y, hy⟩ : ∃ y, L[kr]? = some y := ⟨_, List.getElem?_eq_getElem hkl⟩
            have hyo := HON.out y (List.mem_of_getElem? hy)
            have HY := Lib.hid hy
            have hk1 : (0 : Int) ≤ (kr : Int) := by omega
            have hk2 : (kr : Int) < 32 := by omega
            have HLB := Lib.hid (Blk.new wr 131 #[.int .i64 (k : Int), .int .i64 (kr : Int), .string ⟨x.loc.toArray⟩, .string ⟨x.vl.toArray⟩, .int .i64 x.vn])
            have HL0 := Lib.hid (alloc_b wr (.cells #[.int .i64 (k : Int), .int .i64 (kr : Int), .string ⟨x.loc.toArray⟩, .string ⟨x.vl.toArray⟩, .int .i64 x.vn] 131 (0, 0)))
            have hxt : ¬ x.th ≠ (k : Int) := fun h => h hth
            clear hini hr0 hkr hy
            have htk : (x.th == (k : Int)) = true := by simpa using hth
            go_wp2_with fail
            generalize wr.alloc (.cells #[.int .i64 (k : Int), .int .i64 (kr : Int), .string ⟨x.loc.toArray⟩, .string ⟨x.vl.toArray⟩, .int .i64 x.vn] 131 (0, 0)) = w4 at *
            have HR4 := Lib.hid (HR.out.below HL0.out)
            obtain ⟨q, hvr, hqb, hqB⟩ := HR4.out.regs
            have hqe : q = w.heap.size + 1 := by
              simp only [Value.slice.injEq, Option.some.injEq, Addr.mk.injEq, and_true] at hvr
              exact hvr.1.symm
            subst hqe
            have g14 : w4.cell? ⟨w.heap.size + 1 + 1, 14, none⟩ = some (.slice (some ⟨w.heap.size + 1, 0, none⟩) 32 32) := HR4.out.blk.cell 14
            have n1 : w4.cell? ⟨wr.heap.size, 1, none⟩ = some (.int .i64 (kr : Int)) := HLB.out.cell 1
            have n4 : w4.cell? ⟨wr.heap.size, 4, none⟩ = some (.int .i64 x.vn) := HLB.out.cell 4
            have n3 : w4.cell? ⟨wr.heap.size, 3, none⟩ = some (.string ⟨x.vl.toArray⟩) := HLB.out.cell 3
            have hgz : w.heap.size + 1 + 1 < w4.heap.size := HR4.out.blk.lt
            have hrz : w.heap.size + 1 + 1 < wr.heap.size := HR.out.blk.lt
            have hlz : wr.heap.size < w4.heap.size := HLB.out.lt
            refine wz (fun y : World => y.cell? ⟨w.heap.size + 1 + 1, 14, none⟩ = some (.slice (some ⟨w.heap.size + 1, 0, none⟩) 32 32) ∧ y.cell? ⟨wr.heap.size, 1, none⟩ = some (.int .i64 (kr : Int)) ∧ y.cell? ⟨wr.heap.size, 4, none⟩ = some (.int .i64 x.vn) ∧ y.cell? ⟨wr.heap.size, 3, none⟩ = some (.string ⟨x.vl.toArray⟩)) [3, 5, 8, 9] ⟨g14, n1, n4, n3⟩ (fun hHeld => ?_)
            refine wq 0 ?_
            refine wq 1 ?_
            refine wq 2 ?_
            refine wq 4 ?_
            refine wq 6 ?_
            refine wq 7 ?_
            refine wt 3 (by assumption) ?_
            refine wt 5 (by assumption) ?_
            refine wt 8 (by assumption) ?_
            refine wt 9 (by assumption) ?_
            refine wq 10 ?_
            refine wq 11 ?_
            refine wl 12 ?_
            clear hHeld g14 n1 n4
            have HRD := Lib.hid (show RunAt (w4.setCell ⟨w.heap.size + 1, kr * 5, none⟩ (.iface 213 (.int .i64 x.vn))).drew _ _ _ _ _ from (HR4.out.has HY.out (q := w.heap.size + 1) (V := ⟨.slice (some ⟨w.heap.size + 1, 0, none⟩) 32 32, .slice none 0 0, .slice none 0 0, .slice none 0 0, .slice none 0 0, .slice none 0 0⟩) (by simp [hlen]) (.num x.vn)).drew)
            have HLD := Lib.hid (HLB.out.far (p := ⟨w.heap.size + 1, kr * 5, none⟩) (show wr.heap.size ≠ w.heap.size + 1 by omega) (.iface 213 (.int .i64 x.vn))).drew
            have HTD := Lib.hid ((HT.out.go HL0.out).far (p := ⟨w.heap.size + 1, kr * 5, none⟩) (show w.heap.size ≠ w.heap.size + 1 by omega) (.iface 213 (.int .i64 x.vn))).drew
            have HBD := Lib.hid ((below_trans HB.out HL0.out).setCell (p := ⟨w.heap.size + 1, kr * 5, none⟩) (show w.heap.size ≤ w.heap.size + 1 by omega) (.iface 213 (.int .i64 x.vn))).drew
            have z0 := (regs_cell hqb HY.out).1
            have f0 := hqb.frozen (kr * 5)
            rw [hyo] at HRD
            have HO2 := Lib.hid (show ∀ h : Hold, ∀ y2 ∈ L.set kr ⟨h, 0⟩, y2.on = 0 from fun h y2 hy2 => by
              rcases List.mem_or_eq_of_mem_set hy2 with h | rfl
              · exact HON.out y2 h
              · rfl)
            clear hqb hvr htk hxt hyo HLB HR4 HR
            by_cases hvl : x.vl = []
            · have HIS := Lib.hid (show iniS k L x = L.set kr ⟨.num x.vn, 0⟩ by
                unfold iniS; rw [if_pos HTH.out, HKR.out, show iniR x = ⟨.num x.vn, 0⟩ by unfold iniR; rw [if_pos hvl]]; rfl)
              go_wp2_with fail
              generalize (w4.setCell ⟨w.heap.size + 1, kr * 5, none⟩ (.iface 213 (.int .i64 x.vn))).drew = w5 at *
              go_roundw
              case rel => exact ⟨i + 1, _, by omega, by go_num, by rw [HNX.out, HIS.out], HO2.out _, by simp [hlen], HRD.out, HTD.out, HBD.out⟩
              case measure => simp [intOf]; omega
            · have HIS := Lib.hid (show iniS k L x = L.set kr ⟨.adr x.vl, 0⟩ by
                unfold iniS; rw [if_pos HTH.out, HKR.out, show iniR x = ⟨.adr x.vl, 0⟩ by unfold iniR; rw [if_neg hvl]]; rfl)
              have hve : x.vl.isEmpty = false := by simpa using hvl
              go_wp2_with fail
              generalize (w4.setCell ⟨w.heap.size + 1, kr * 5, none⟩ (.iface 213 (.int .i64 x.vn))).drew = w5 at *
              clear z0 f0 n3 hve
              obtain ⟨q, hvr, hqb, hqB⟩ := HRD.out.regs
              have hqe : q = w.heap.size + 1 := by
                simp only [Value.slice.injEq, Option.some.injEq, Addr.mk.injEq, and_true] at hvr
                exact hvr.1.symm
              subst hqe
              have g14 : w5.cell? ⟨w.heap.size + 1 + 1, 14, none⟩ = some (.slice (some ⟨w.heap.size + 1, 0, none⟩) 32 32) := HRD.out.blk.cell 14
              have n1 : w5.cell? ⟨wr.heap.size, 1, none⟩ = some (.int .i64 (kr : Int)) := HLD.out.cell 1
              have n3 : w5.cell? ⟨wr.heap.size, 3, none⟩ = some (.string ⟨x.vl.toArray⟩) := HLD.out.cell 3
              have hgz5 : w.heap.size + 1 + 1 < w5.heap.size := HRD.out.blk.lt
              refine wz (fun y : World => y.cell? ⟨w.heap.size + 1 + 1, 14, none⟩ = some (.slice (some ⟨w.heap.size + 1, 0, none⟩) 32 32) ∧ y.cell? ⟨wr.heap.size, 1, none⟩ = some (.int .i64 (kr : Int)) ∧ y.cell? ⟨wr.heap.size, 3, none⟩ = some (.string ⟨x.vl.toArray⟩)) [3, 5, 8, 9] ⟨g14, n1, n3⟩ (fun hHeld => ?_)
              refine wq 0 ?_
              refine wq 1 ?_
              refine wq 2 ?_
              refine wq 4 ?_
              refine wq 6 ?_
              refine wq 7 ?_
              refine wt 3 (by assumption) ?_
              refine wt 5 (by assumption) ?_
              refine wt 8 (by assumption) ?_
              refine wt 9 (by assumption) ?_
              refine wq 10 ?_
              refine wq 11 ?_
              refine wl 12 ?_
              clear hHeld g14 n1 n3
              have hk5 : (L.set kr ⟨.num x.vn, 0⟩)[kr]? = some ⟨.num x.vn, 0⟩ := by rw [List.getElem?_set_self (by rw [hlen]; omega)]
              have HRE := Lib.hid (show RunAt (w5.setCell ⟨w.heap.size + 1, kr * 5, none⟩ (.iface 218 (.string ⟨x.vl.toArray⟩))).drew _ _ _ _ _ from (HRD.out.has hk5 (q := w.heap.size + 1) (V := ⟨.slice (some ⟨w.heap.size + 1, 0, none⟩) 32 32, .slice none 0 0, .slice none 0 0, .slice none 0 0, .slice none 0 0, .slice none 0 0⟩) (by simp [hlen]) (.adr x.vl)).drew)
              simp only [List.set_set] at HRE
              have HTE := Lib.hid (HTD.out.far (p := ⟨w.heap.size + 1, kr * 5, none⟩) (show w.heap.size ≠ w.heap.size + 1 by omega) (.iface 218 (.string ⟨x.vl.toArray⟩))).drew
              have HBE := Lib.hid (HBD.out.setCell (p := ⟨w.heap.size + 1, kr * 5, none⟩) (show w.heap.size ≤ w.heap.size + 1 by omega) (.iface 218 (.string ⟨x.vl.toArray⟩))).drew
              have z0 := (regs_cell hqb hk5).1
              have f0 := hqb.frozen (kr * 5)
              clear hqb hvr HRD HLD HTD HBD
              go_wp2_with fail
              generalize (w5.setCell ⟨w.heap.size + 1, kr * 5, none⟩ (.iface 218 (.string ⟨x.vl.toArray⟩))).drew = w6 at *
              go_roundw
              case rel =>
                have e := HNX.out.trans HIS.out
                simp only [List.reduceReplicate] at e
                refine ⟨i + 1, by omega, by go_num, ?_⟩
                rw [e]
                exact ⟨HO2.out _, by simp [hlen], HRE.out, HTE.out, HBE.out⟩
              case measure => simp [intOf]; omega
          · have HSM := Lib.hid (show iniS k L x = L from if_neg hth)
            clear hini
            go_wp2_with fail
            go_roundw
            case rel => exact ⟨i + 1, L, by omega, by go_num, by rw [HNX.out, HSM.out], HON.out, hlen, HR.out.below (alloc_b _ _), HT.out.go (alloc_b _ _), below_alloc HB.out _⟩
            case measure => simp [intOf]; omega
        · have hie : i = T.init.length := by omega
          have hij : ¬ (i : Int) < (T.init.length : Int) := by omega
          have HEND := Lib.hid (show L = begL k 32 T.init by rw [HLL.out, hie, List.take_length]; rfl)
          go_wp2_with fail
          go_ret
          exact ⟨w.heap.size + 1 + 1, ⟨.slice (some ⟨w.heap.size + 1, 0, none⟩) 32 32, .slice none 0 0, .slice none 0 0, .slice none 0 0, .slice none 0 0, .slice none 0 0⟩, rfl, (by have := HR.out; rw [HEND.out] at this; exact this), HB.out⟩
theorem beginP (T : Tst) (hE : fileE T = 0) (Ai Ac Al : Option Addr) (ci cc nl cl k ahead : Nat) (kv : Value) (locs : List Nm) (w : World) (hT : TstAt w T Ai Ac kv) :
    Calls Tryz.prog 62 #[testV T (.slice Ai T.init.length ci) (.slice Ac T.code.length cc) kv, .int .i64 (k : Int), .slice Al nl cl, .int .i64 (ahead : Int)] w
      (BegPost ⟨T, .slice Ai T.init.length ci, .slice Ac T.code.length cc, kv, .slice Al nl cl, ⟨k, isR T, ahead, locs⟩⟩ (rn0 (isR T) T.init k) w) := by
  have hr : ∀ x ∈ T.init, x.th = (k : Int) → 0 ≤ x.rg ∧ x.rg < nregs (isR T) := fun x hx hth => ((okI_of hE hx).reg (by omega)).2.1
  obtain ⟨_, _, harch, _, _, _⟩ := fileE_small hE
  rcases isR_eq harch with ⟨ha, hi⟩ | ⟨ha, hi⟩
  · rw [hi] at hr ⊢
    exact begunP15 T Ai Ac Al ci cc nl cl k ahead kv locs w ha hT hr
  · rw [hi] at hr ⊢
    exact begunP32 T Ai Ac Al ci cc nl cl k ahead kv locs w ha hT hr
end
end
end Go.Proofs.YtjhafgnmahhacaaGreatDoor
