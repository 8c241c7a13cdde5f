/- Layer 15: the runner's reckon: the program's. -/
import Derived.Test.YtjhafgnmahhacaaGreatDoorTe22

namespace Go.Proofs.YtjhafgnmahhacaaGreatDoor
open Go.RowKit
section
theorem two_wayU {K : Act → World → Prop} {F : Nat → Nat → World → Prop} {A : Nat → Nat → Act} {G : Prop} (h1 : (∀ la lb W3, F la lb W3 → K (A la lb) W3) → G) (h2 : ∀ la lb W3, F la lb W3 → K (A la lb) W3) : G := h1 h2
abbrev insK (op : Int) (d a b : Nat) (imm : Int) (loc label : List UInt8) (fence : Int) : Value := .agg #[.int .i64 op, .int .i64 (d : Int), .int .i64 (a : Int), .int .i64 (b : Int), .int .i64 imm, .string ⟨loc.toArray⟩, .string ⟨label.toArray⟩, .int .i64 fence]
/-- What reckon puts down. -/
def reckX (op : Int) (a b : Nat) (ra xb : Rg) : Rg := ⟨if op = 9 ∧ a = b then .num 0 else mixL op ra.h xb.h, ra.on ||| xb.on⟩
section
set_option maxHeartbeats 4000000
set_option maxRecDepth 100000
variable {w0 w : World} {g nr k : Nat} {S : RunS} {r : Rn} {V : RunV}
theorem reckQ (op : Int) (d a b : Nat) (imm : Int) (loc label : List UInt8) (fence : Int) (ra rb xb : Rg) (hxb : xb = if op = 8 then ⟨.num imm, 0⟩ else rb) (himm : in32 imm) (HS : Stat w0 S) (hb : Below w0.heap.size w0 w) (hI : Inv S.C nr k r) (hR : RunAt w w0.heap.size g S r V) (hd : d < r.regs.length) (ha : r.regs[a]? = some ra) (hra : RgOK S.C r.evs ra) (hb2 : r.regs[b]? = some rb) (hrb : RgOK S.C r.evs rb) (hl : r.regs.length ≤ 32) :
    Calls Tryz.prog 139 #[.pointer (some ⟨g, 0, none⟩), insK op d a b imm loc label fence] w (RunPost w0.heap.size g S V (putL S.C r (d : Int) (reckX op a b ra xb)) (.tuple #[]) w) := by
  have hxo : RgOK S.C r.evs xb := by
    rw [hxb]
    split
    · exact ⟨himm, Rds.zero _⟩
    · exact hrb
  have HXB := Lib.hid hxb
  have HR := Lib.hid hR
  have hbs := hb.size
  have room := hI.room
  have HBI := Lib.hid (Blk.new w 70 #[.int .i64 op, .int .i64 (d : Int), .int .i64 (a : Int), .int .i64 (b : Int), .int .i64 imm, .string ⟨loc.toArray⟩, .string ⟨label.toArray⟩, .int .i64 fence])
  have HB0 := Lib.hid (alloc_b w (.cells #[.int .i64 op, .int .i64 (d : Int), .int .i64 (a : Int), .int .i64 (b : Int), .int .i64 imm, .string ⟨loc.toArray⟩, .string ⟨label.toArray⟩, .int .i64 fence] 70 (0, 0)))
  obtain ⟨q, hvr, hqb, hqB⟩ := hR.regs
  have hal := (List.getElem?_eq_some_iff.1 ha).1
  have hi1 : (0 : Int) ≤ (a : Int) := by omega
  have hi2 : (a : Int) < (r.regs.length : Int) := by omega
  obtain ⟨c0, c1, c2, c3, c4⟩ := regs_cell hqb ha
  obtain ⟨b0, b1, b2, b3, b4⟩ := regs_cell hqb hb2
  have hbl := (List.getElem?_eq_some_iff.1 hb2).1
  have hi3 : (0 : Int) ≤ (b : Int) := by omega
  have hi4 : (b : Int) < (r.regs.length : Int) := by omega
  have hao := hra.2.lt64 (show r.evs.length ≤ 64 by omega)
  have hbo := hxo.2.lt64 (show r.evs.length ≤ 64 by omega)
  have hor := fun w => orP ra.on xb.on w hao hbo
  obtain ⟨oo, hoo⟩ : ∃ oo, ra.on ||| xb.on = oo := ⟨_, rfl⟩
  rw [hoo] at hor
  have HOR := Lib.hid hor
  have hmx := fun w => mixedP op w ra.h xb.h hra.1.num hxo.1.num
  obtain ⟨mx, hm⟩ : ∃ mx, mixL op ra.h xb.h = mx := ⟨_, rfl⟩
  rw [hm] at hmx
  have HX0 := Lib.hid (show op = 9 → a = b → reckX op a b ra xb = ⟨.num 0, oo⟩ from fun h1 h2 => by unfold reckX; rw [if_pos ⟨h1, h2⟩, hoo])
  have HX1 := Lib.hid (show ¬ (op = 9 ∧ a = b) → reckX op a b ra xb = ⟨mx, oo⟩ from fun h => by unfold reckX; rw [if_neg h, hoo, hm])
  obtain ⟨mt, mv, hmv⟩ : ∃ t v, holdV mx = .iface t v := by cases mx <;> exact ⟨_, _, rfl⟩
  simp only [hmv] at hmx
  have hone6 : ∀ u ∈ ([.iface mt mv, .int .u64 (oo : Int), .int .u64 0, .int .u64 0, .int .u64 0] : List Value), u.oneCell' = true := by rw [← hmv]; exact encR.one ⟨mx, oo⟩
  have HMX := Lib.hid hmx
  have hput := fun (w : World) => putP (w := w) (V := V) (g := g) (r := r) d ⟨mx, oo⟩ HS
  simp only [rgV, hmv] at hput
  have HPUT := Lib.hid hput
  have hput0 := fun (w : World) => putP (w := w) (V := V) (g := g) (r := r) d ⟨.num 0, oo⟩ HS
  simp only [rgV, holdV] at hput0
  have HPUT0 := Lib.hid hput0
  have HB00 := Lib.hid hb
  have k14 : w.cell? ⟨g, 14, none⟩ = some (.slice (some ⟨q, 0, none⟩) r.regs.length r.regs.length) := by rw [← hvr]; exact hR.blk.cell 14
  have hone := encR.one ra
  have honeb := encR.one rb
  have hqw := hqb.lt
  have hgw : g < w.heap.size := hR.blk.lt
  have HKC := Lib.hid (And.intro k14 (And.intro b0 (And.intro b1 (And.intro b2 (And.intro b3 b4)))))
  clear hR hI HS hqb hb ha hm hmx hor hput hput0 hmv hb2 hoo hxo hxb b0 b1 b2 b3 b4
  go_enter Tryz.func139, Tryz.ntmps139
  go_wp2_with fail
  rename_i K0 hK0
  have HK0 := Lib.hid hK0
  clear hK0
  generalize hw1 : w.alloc (.cells #[.int .i64 op, .int .i64 (d : Int), .int .i64 (a : Int), .int .i64 (b : Int), .int .i64 imm, .string ⟨loc.toArray⟩, .string ⟨label.toArray⟩, .int .i64 fence] 70 (0, 0)) = w1 at *
  clear hw1
  have hz1 : w.heap.size < w1.heap.size := HBI.out.lt
  have i2 : w1.cell? ⟨w.heap.size, 2, none⟩ = some (.int .i64 (a : Int)) := HBI.out.cell 2
  have i4 : w1.cell? ⟨w.heap.size, 4, none⟩ = some (.int .i64 imm) := HBI.out.cell 4
  have d14 := cell_go k14 HB0.out
  have d0 := cell_go c0 HB0.out
  have d1 := cell_go c1 HB0.out
  have d2 := cell_go c2 HB0.out
  have d3 := cell_go c3 HB0.out
  have d4 := cell_go c4 HB0.out
  clear k14 c0 c1 c2 c3 c4
  have HSS := Lib.hid (show ∀ y, Below w1.heap.size w1 y → (fun y : World => (y.cell? ⟨w.heap.size, 2, none⟩ = some (.int .i64 (a : Int)) ∧ y.cell? ⟨w.heap.size, 4, none⟩ = some (.int .i64 imm)) ∧ y.cell? ⟨g, 14, none⟩ = some (.slice (some ⟨q, 0, none⟩) r.regs.length r.regs.length) ∧ y.cell? ⟨q, a * 5, none⟩ = some (holdV ra.h) ∧ y.cell? ⟨q, a * 5 + 1, none⟩ = some (.int .u64 (ra.on : Int)) ∧ y.cell? ⟨q, a * 5 + 2, none⟩ = some (.int .u64 0) ∧ y.cell? ⟨q, a * 5 + 3, none⟩ = some (.int .u64 0) ∧ y.cell? ⟨q, a * 5 + 4, none⟩ = some (.int .u64 0)) y from fun y hb => ⟨⟨cell_go i2 hb, cell_go i4 hb⟩, cell_go d14 hb, cell_go d0 hb, cell_go d1 hb, cell_go d2 hb, cell_go d3 hb, cell_go d4 hb⟩)
  apply two_wayU (K := K0) (F := fun la lb W3 => Below w.heap.size w W3 ∧ Blk W3 w.heap.size 70 #[.int .i64 op, .int .i64 (d : Int), .int .i64 (a : Int), .int .i64 (b : Int), .int .i64 imm, .string ⟨loc.toArray⟩, .string ⟨label.toArray⟩, .int .i64 fence] ∧ Blk W3 la 217 #[holdV ra.h, .int .u64 (ra.on : Int), .int .u64 0, .int .u64 0, .int .u64 0] ∧ Blk W3 lb 217 #[.iface 213 (.int .i64 imm), .int .u64 0, .int .u64 0, .int .u64 0, .int .u64 0] ∧ la ≠ lb ∧ w.heap.size < la ∧ w.heap.size < lb)
  · intro HM
    have HM := Lib.hid HM
    refine wz (fun y : World => (y.cell? ⟨w.heap.size, 2, none⟩ = some (.int .i64 (a : Int)) ∧ y.cell? ⟨w.heap.size, 4, none⟩ = some (.int .i64 imm)) ∧ y.cell? ⟨g, 14, none⟩ = some (.slice (some ⟨q, 0, none⟩) r.regs.length r.regs.length) ∧ y.cell? ⟨q, a * 5, none⟩ = some (holdV ra.h) ∧ y.cell? ⟨q, a * 5 + 1, none⟩ = some (.int .u64 (ra.on : Int)) ∧ y.cell? ⟨q, a * 5 + 2, none⟩ = some (.int .u64 0) ∧ y.cell? ⟨q, a * 5 + 3, none⟩ = some (.int .u64 0) ∧ y.cell? ⟨q, a * 5 + 4, none⟩ = some (.int .u64 0)) [3, 5, 7, 9, 10, 11, 12, 13, 14] ⟨⟨i2, i4⟩, d14, d0, d1, d2, d3, d4⟩ (fun hHeld => ?_)
    refine wq 0 ?_
    refine wq 1 ?_
    refine wq 2 ?_
    refine wq 4 ?_
    refine wq 8 ?_
    refine wt 3 (by assumption) ?_
    refine wt 5 (by assumption) ?_
    refine wq 6 ?_
    refine wt 7 (by assumption) ?_
    refine wt 9 (by assumption) ?_
    refine wt 10 (by assumption) ?_
    refine wt 11 (by assumption) ?_
    clear hHeld
    refine wpE_two (i := 12) (j := 13) (by kernel_rfl) rfl rfl (fun K hK => ?_) (fun K hK => ?_)
    · go_simp
      refine hK.out _ _ (HSS.out _ (by repeat (first | exact Below.refl _ _ | exact Below.refl _ _ | with_reducible refine Below.drew ?_ | with_reducible refine below_alloc ?_ _))) ?_
      clear hK K
      refine pu ?_
      refine wpE_one (i := 13) (by kernel_rfl) rfl (fun K hK => ?_)
      go_simp
      refine hK.out _ _ (HSS.out _ (by repeat (first | exact Below.refl _ _ | exact Below.refl _ _ | with_reducible refine Below.drew ?_ | with_reducible refine below_alloc ?_ _))) ?_
      clear hK K
      refine pu ?_
      generalize hW2 : (World.drew (World.alloc _ _)) = W2
      have BZ4 : Hid (Blk W2 (w1.heap.size) 217 #[.nilIface, .int .u64 0, .int .u64 0, .int .u64 0, .int .u64 0]) := by rw [← hW2]; exact Lib.hid ((Blk.new w1 _ _).alloc _).drew
      have BZ5 : Hid (Blk W2 (w1.heap.size + 1) 217 #[.nilIface, .int .u64 0, .int .u64 0, .int .u64 0, .int .u64 0]) := by rw [← hW2]; exact Lib.hid (blk_new2 w1 _ _ _).drew
      have HW2 : Hid (Below w1.heap.size w1 W2) := by rw [← hW2]; exact Lib.hid ((by repeat (first | exact Below.refl _ _ | exact Below.refl _ _ | with_reducible refine Below.drew ?_ | with_reducible refine below_alloc ?_ _)))
      clear hW2
      refine wpE_one (i := 14) (by kernel_rfl) rfl (fun K hK => ?_)
      rw [if_pos (by kernel_rfl)]
      refine wp_store_mid _ _ _ rfl ((w1.heap.size)) 0 #[holdV ra.h, .int .u64 (ra.on : Int), .int .u64 0, .int .u64 0, .int .u64 0] rfl rfl (there_blk BZ4.out 5 (by simp)) (by kernel_rfl) (all_oneCell_toArray (cs := encR.enc ra) hone) ?_
      refine hK.out _ _ (HSS.out _ (below_sets HW2.out (by omega) _ _)) ?_
      clear hK K
      refine pu ?_
      refine wl 15 ?_
      refine wpList_store_mid rfl _ _ _ rfl ((w1.heap.size + 1)) 0 #[.iface 213 (.int .i64 imm), .int .u64 0, .int .u64 0, .int .u64 0, .int .u64 0] rfl rfl (there_blk (blk_farS BZ5.out (by omega) _ _) 5 (by simp)) (by kernel_rfl) (all_oneCell_toArray (cs := encR.enc ⟨.num imm, 0⟩) (encR.one ⟨.num imm, 0⟩)) ?_
      have hW := below_sets (below_sets HW2.out (show w1.heap.size ≤ (w1.heap.size) by omega) [holdV ra.h, .int .u64 (ra.on : Int), .int .u64 0, .int .u64 0, .int .u64 0] 0) (show w1.heap.size ≤ (w1.heap.size + 1) by omega) [.iface 213 (.int .i64 imm), .int .u64 0, .int .u64 0, .int .u64 0, .int .u64 0] 0
      have hF : Below w.heap.size w ((W2.setCells ((w1.heap.size)) 0 [holdV ra.h, .int .u64 (ra.on : Int), .int .u64 0, .int .u64 0, .int .u64 0]).setCells ((w1.heap.size + 1)) 0 [.iface 213 (.int .i64 imm), .int .u64 0, .int .u64 0, .int .u64 0, .int .u64 0]) ∧ Blk ((W2.setCells ((w1.heap.size)) 0 [holdV ra.h, .int .u64 (ra.on : Int), .int .u64 0, .int .u64 0, .int .u64 0]).setCells ((w1.heap.size + 1)) 0 [.iface 213 (.int .i64 imm), .int .u64 0, .int .u64 0, .int .u64 0, .int .u64 0]) w.heap.size 70 #[.int .i64 op, .int .i64 (d : Int), .int .i64 (a : Int), .int .i64 (b : Int), .int .i64 imm, .string ⟨loc.toArray⟩, .string ⟨label.toArray⟩, .int .i64 fence] ∧ Blk ((W2.setCells ((w1.heap.size)) 0 [holdV ra.h, .int .u64 (ra.on : Int), .int .u64 0, .int .u64 0, .int .u64 0]).setCells ((w1.heap.size + 1)) 0 [.iface 213 (.int .i64 imm), .int .u64 0, .int .u64 0, .int .u64 0, .int .u64 0]) ((w1.heap.size)) 217 #[holdV ra.h, .int .u64 (ra.on : Int), .int .u64 0, .int .u64 0, .int .u64 0] ∧ Blk ((W2.setCells ((w1.heap.size)) 0 [holdV ra.h, .int .u64 (ra.on : Int), .int .u64 0, .int .u64 0, .int .u64 0]).setCells ((w1.heap.size + 1)) 0 [.iface 213 (.int .i64 imm), .int .u64 0, .int .u64 0, .int .u64 0, .int .u64 0]) ((w1.heap.size + 1)) 217 #[.iface 213 (.int .i64 imm), .int .u64 0, .int .u64 0, .int .u64 0, .int .u64 0] ∧ (w1.heap.size) ≠ (w1.heap.size + 1) ∧ w.heap.size < (w1.heap.size) ∧ w.heap.size < (w1.heap.size + 1) :=
        ⟨below_trans HB0.out hW, HBI.out.go hW, blk_farS (Blk.sets5 BZ4.out rfl (holdV ra.h) (.int .u64 (ra.on : Int)) (.int .u64 0) (.int .u64 0) (.int .u64 0)) (by omega) [.iface 213 (.int .i64 imm), .int .u64 0, .int .u64 0, .int .u64 0, .int .u64 0] 0, Blk.sets5 (blk_farS BZ5.out (by omega) [holdV ra.h, .int .u64 (ra.on : Int), .int .u64 0, .int .u64 0, .int .u64 0] 0) rfl (.iface 213 (.int .i64 imm)) (.int .u64 0) (.int .u64 0) (.int .u64 0) (.int .u64 0), by omega, by omega, by omega⟩
      clear hW BZ4 BZ5 HW2
      generalize ((W2.setCells ((w1.heap.size)) 0 [holdV ra.h, .int .u64 (ra.on : Int), .int .u64 0, .int .u64 0, .int .u64 0]).setCells ((w1.heap.size + 1)) 0 [.iface 213 (.int .i64 imm), .int .u64 0, .int .u64 0, .int .u64 0, .int .u64 0]) = W3 at hF ⊢
      generalize w1.heap.size + 1 = p2 at hF ⊢
      generalize w1.heap.size = p1 at hF ⊢
      exact wpList_nil (HM.out _ _ W3 hF)
    · go_simp
      refine hK.out _ _ (HSS.out _ (by repeat (first | exact Below.refl _ _ | exact Below.refl _ _ | with_reducible refine Below.drew ?_ | with_reducible refine below_alloc ?_ _))) ?_
      clear hK K
      refine pu ?_
      refine wpE_one (i := 12) (by kernel_rfl) rfl (fun K hK => ?_)
      go_simp
      refine hK.out _ _ (HSS.out _ (by repeat (first | exact Below.refl _ _ | exact Below.refl _ _ | with_reducible refine Below.drew ?_ | with_reducible refine below_alloc ?_ _))) ?_
      clear hK K
      refine pu ?_
      generalize hW2 : (World.drew (World.alloc _ _)) = W2
      have BZ4 : Hid (Blk W2 (w1.heap.size + 1) 217 #[.nilIface, .int .u64 0, .int .u64 0, .int .u64 0, .int .u64 0]) := by rw [← hW2]; exact Lib.hid (blk_new2 w1 _ _ _).drew
      have BZ5 : Hid (Blk W2 (w1.heap.size) 217 #[.nilIface, .int .u64 0, .int .u64 0, .int .u64 0, .int .u64 0]) := by rw [← hW2]; exact Lib.hid ((Blk.new w1 _ _).alloc _).drew
      have HW2 : Hid (Below w1.heap.size w1 W2) := by rw [← hW2]; exact Lib.hid ((by repeat (first | exact Below.refl _ _ | exact Below.refl _ _ | with_reducible refine Below.drew ?_ | with_reducible refine below_alloc ?_ _)))
      clear hW2
      refine wpE_one (i := 14) (by kernel_rfl) rfl (fun K hK => ?_)
      rw [if_pos (by kernel_rfl)]
      refine wp_store_mid _ _ _ rfl ((w1.heap.size + 1)) 0 #[holdV ra.h, .int .u64 (ra.on : Int), .int .u64 0, .int .u64 0, .int .u64 0] rfl rfl (there_blk BZ4.out 5 (by simp)) (by kernel_rfl) (all_oneCell_toArray (cs := encR.enc ra) hone) ?_
      refine hK.out _ _ (HSS.out _ (below_sets HW2.out (by omega) _ _)) ?_
      clear hK K
      refine pu ?_
      refine wl 15 ?_
      refine wpList_store_mid rfl _ _ _ rfl ((w1.heap.size)) 0 #[.iface 213 (.int .i64 imm), .int .u64 0, .int .u64 0, .int .u64 0, .int .u64 0] rfl rfl (there_blk (blk_farS BZ5.out (by omega) _ _) 5 (by simp)) (by kernel_rfl) (all_oneCell_toArray (cs := encR.enc ⟨.num imm, 0⟩) (encR.one ⟨.num imm, 0⟩)) ?_
      have hW := below_sets (below_sets HW2.out (show w1.heap.size ≤ (w1.heap.size + 1) by omega) [holdV ra.h, .int .u64 (ra.on : Int), .int .u64 0, .int .u64 0, .int .u64 0] 0) (show w1.heap.size ≤ (w1.heap.size) by omega) [.iface 213 (.int .i64 imm), .int .u64 0, .int .u64 0, .int .u64 0, .int .u64 0] 0
      have hF : Below w.heap.size w ((W2.setCells ((w1.heap.size + 1)) 0 [holdV ra.h, .int .u64 (ra.on : Int), .int .u64 0, .int .u64 0, .int .u64 0]).setCells ((w1.heap.size)) 0 [.iface 213 (.int .i64 imm), .int .u64 0, .int .u64 0, .int .u64 0, .int .u64 0]) ∧ Blk ((W2.setCells ((w1.heap.size + 1)) 0 [holdV ra.h, .int .u64 (ra.on : Int), .int .u64 0, .int .u64 0, .int .u64 0]).setCells ((w1.heap.size)) 0 [.iface 213 (.int .i64 imm), .int .u64 0, .int .u64 0, .int .u64 0, .int .u64 0]) w.heap.size 70 #[.int .i64 op, .int .i64 (d : Int), .int .i64 (a : Int), .int .i64 (b : Int), .int .i64 imm, .string ⟨loc.toArray⟩, .string ⟨label.toArray⟩, .int .i64 fence] ∧ Blk ((W2.setCells ((w1.heap.size + 1)) 0 [holdV ra.h, .int .u64 (ra.on : Int), .int .u64 0, .int .u64 0, .int .u64 0]).setCells ((w1.heap.size)) 0 [.iface 213 (.int .i64 imm), .int .u64 0, .int .u64 0, .int .u64 0, .int .u64 0]) ((w1.heap.size + 1)) 217 #[holdV ra.h, .int .u64 (ra.on : Int), .int .u64 0, .int .u64 0, .int .u64 0] ∧ Blk ((W2.setCells ((w1.heap.size + 1)) 0 [holdV ra.h, .int .u64 (ra.on : Int), .int .u64 0, .int .u64 0, .int .u64 0]).setCells ((w1.heap.size)) 0 [.iface 213 (.int .i64 imm), .int .u64 0, .int .u64 0, .int .u64 0, .int .u64 0]) ((w1.heap.size)) 217 #[.iface 213 (.int .i64 imm), .int .u64 0, .int .u64 0, .int .u64 0, .int .u64 0] ∧ (w1.heap.size + 1) ≠ (w1.heap.size) ∧ w.heap.size < (w1.heap.size + 1) ∧ w.heap.size < (w1.heap.size) :=
        ⟨below_trans HB0.out hW, HBI.out.go hW, blk_farS (Blk.sets5 BZ4.out rfl (holdV ra.h) (.int .u64 (ra.on : Int)) (.int .u64 0) (.int .u64 0) (.int .u64 0)) (by omega) [.iface 213 (.int .i64 imm), .int .u64 0, .int .u64 0, .int .u64 0, .int .u64 0] 0, Blk.sets5 (blk_farS BZ5.out (by omega) [holdV ra.h, .int .u64 (ra.on : Int), .int .u64 0, .int .u64 0, .int .u64 0] 0) rfl (.iface 213 (.int .i64 imm)) (.int .u64 0) (.int .u64 0) (.int .u64 0) (.int .u64 0), by omega, by omega, by omega⟩
      clear hW BZ4 BZ5 HW2
      generalize ((W2.setCells ((w1.heap.size + 1)) 0 [holdV ra.h, .int .u64 (ra.on : Int), .int .u64 0, .int .u64 0, .int .u64 0]).setCells ((w1.heap.size)) 0 [.iface 213 (.int .i64 imm), .int .u64 0, .int .u64 0, .int .u64 0, .int .u64 0]) = W3 at hF ⊢
      generalize w1.heap.size + 1 = p2 at hF ⊢
      generalize w1.heap.size = p1 at hF ⊢
      exact wpList_nil (HM.out _ _ W3 hF)
  · intro la lb W3 ⟨hb3, hi3', hA3, hB3, hne, hla, hlb⟩
    refine HK0.out _ _ ?_
    clear HK0 K0 HSS HBI HB0 i2 i4 d14 d0 d1 d2 d3 d4
    have HW30 := Lib.hid hb3
    have HBI3 := Lib.hid hi3'
    have BXA := Lib.hid hA3
    have law : la < W3.heap.size := hA3.lt
    have lbw : lb < W3.heap.size := hB3.lt
    have i0 : W3.cell? ⟨w.heap.size, 0, none⟩ = some (.int .i64 op) := hi3'.cell 0
    by_cases h8 : op = 8
    · have g8 : (op != 8) = false := by simpa using h8
      have e1 : xb = ⟨.num imm, 0⟩ := by rw [HXB.out, if_pos h8]
      have BXB : Hid (Blk W3 lb 217 #[holdV xb.h, .int .u64 (xb.on : Int), .int .u64 0, .int .u64 0, .int .u64 0]) := Lib.hid (by rw [e1]; exact hB3)
      clear hb3 hi3' hA3 hB3 h8 e1 HKC
      go_wp2_with (skip; fail)
      clear i0
      have i0 : W3.cell? ⟨w.heap.size, 0, none⟩ = some (.int .i64 op) := HBI3.out.cell 0
      have a0 : W3.cell? ⟨la, 0, none⟩ = some (holdV ra.h) := BXA.out.cell 0
      have a1 : W3.cell? ⟨la, 1, none⟩ = some (.int .u64 (ra.on : Int)) := BXA.out.cell 1
      have a2 : W3.cell? ⟨la, 2, none⟩ = some (.int .u64 0) := BXA.out.cell 2
      have a3 : W3.cell? ⟨la, 3, none⟩ = some (.int .u64 0) := BXA.out.cell 3
      have a4 : W3.cell? ⟨la, 4, none⟩ = some (.int .u64 0) := BXA.out.cell 4
      have b0 : W3.cell? ⟨lb, 0, none⟩ = some (holdV xb.h) := BXB.out.cell 0
      have b1 : W3.cell? ⟨lb, 1, none⟩ = some (.int .u64 (xb.on : Int)) := BXB.out.cell 1
      have b2 : W3.cell? ⟨lb, 2, none⟩ = some (.int .u64 0) := BXB.out.cell 2
      have b3 : W3.cell? ⟨lb, 3, none⟩ = some (.int .u64 0) := BXB.out.cell 3
      have b4 : W3.cell? ⟨lb, 4, none⟩ = some (.int .u64 0) := BXB.out.cell 4
      have hz3 := HW30.out.size
      have HSS := Lib.hid (show ∀ y, Below W3.heap.size W3 y → (fun y : World => y.cell? ⟨w.heap.size, 0, none⟩ = some (.int .i64 op) ∧ (y.cell? ⟨la, 0, none⟩ = some (holdV ra.h) ∧ y.cell? ⟨la, 1, none⟩ = some (.int .u64 (ra.on : Int)) ∧ y.cell? ⟨la, 2, none⟩ = some (.int .u64 0) ∧ y.cell? ⟨la, 3, none⟩ = some (.int .u64 0) ∧ y.cell? ⟨la, 4, none⟩ = some (.int .u64 0)) ∧ y.cell? ⟨lb, 0, none⟩ = some (holdV xb.h) ∧ y.cell? ⟨lb, 1, none⟩ = some (.int .u64 (xb.on : Int)) ∧ y.cell? ⟨lb, 2, none⟩ = some (.int .u64 0) ∧ y.cell? ⟨lb, 3, none⟩ = some (.int .u64 0) ∧ y.cell? ⟨lb, 4, none⟩ = some (.int .u64 0)) y from fun y hb => ⟨cell_go i0 hb, ⟨cell_go a0 hb, cell_go a1 hb, cell_go a2 hb, cell_go a3 hb, cell_go a4 hb⟩, cell_go b0 hb, cell_go b1 hb, cell_go b2 hb, cell_go b3 hb, cell_go b4 hb⟩)
      clear BXA BXB
      go_wp2_with fail
      rename_i K9 hK9
      have HK9 := Lib.hid hK9
      clear hK9 i0 a0 a1 a2 a3 a4 b0 b1 b2 b3 b4
      apply two_wayU (K := K9) (F := fun lx _ W7 => Below w.heap.size w W7 ∧ Blk W7 w.heap.size 70 #[.int .i64 op, .int .i64 (d : Int), .int .i64 (a : Int), .int .i64 (b : Int), .int .i64 imm, .string ⟨loc.toArray⟩, .string ⟨label.toArray⟩, .int .i64 fence] ∧ Blk W7 lx 217 #[.iface mt mv, .int .u64 (oo : Int), .int .u64 0, .int .u64 0, .int .u64 0] ∧ w.heap.size < lx)
      · intro HM
        have HM := Lib.hid HM
        refine wz (fun y : World => y.cell? ⟨w.heap.size, 0, none⟩ = some (.int .i64 op) ∧ (y.cell? ⟨la, 0, none⟩ = some (holdV ra.h) ∧ y.cell? ⟨la, 1, none⟩ = some (.int .u64 (ra.on : Int)) ∧ y.cell? ⟨la, 2, none⟩ = some (.int .u64 0) ∧ y.cell? ⟨la, 3, none⟩ = some (.int .u64 0) ∧ y.cell? ⟨la, 4, none⟩ = some (.int .u64 0)) ∧ y.cell? ⟨lb, 0, none⟩ = some (holdV xb.h) ∧ y.cell? ⟨lb, 1, none⟩ = some (.int .u64 (xb.on : Int)) ∧ y.cell? ⟨lb, 2, none⟩ = some (.int .u64 0) ∧ y.cell? ⟨lb, 3, none⟩ = some (.int .u64 0) ∧ y.cell? ⟨lb, 4, none⟩ = some (.int .u64 0)) [1, 3, 5, 6, 8, 10, 13] (HSS.out _ (Below.refl _ _).drew) (fun hHeld => ?_)
        refine wq 0 ?_
        refine wq 2 ?_
        refine wq 4 ?_
        refine wq 7 ?_
        refine wq 9 ?_
        refine wt 1 (by assumption) ?_
        refine wt 3 (by assumption) ?_
        refine wt 5 (by assumption) ?_
        refine wt 8 (by assumption) ?_
        refine wt 10 (by assumption) ?_
        clear hHeld
        refine wpE_two (i := 6) (j := 13) (by kernel_rfl) rfl rfl (fun K hK => ?_) (fun K hK => ?_)
        · go_simp
          go_at_call 209
          refine (HMX.out _).mono ?_
          rintro e w' ⟨rfl, rfl⟩
          refine hK.out _ _ (HSS.out _ (by repeat (first | exact Below.refl _ _ | exact Below.refl _ _ | with_reducible refine Below.drew ?_ | with_reducible refine below_alloc ?_ _))) ?_
          clear hK K
          refine pu ?_
          refine wpE_two (i := 11) (j := 13) (by kernel_rfl) rfl rfl (fun K hK => ?_) (fun K hK => ?_)
          · go_simp
            go_at_call 210
            refine (HOR.out _).mono ?_
            rintro e w5 ⟨rfl, hb5⟩
            have HB6 := Lib.hid (show Below (W3.drew).heap.size W3.drew w5 from hb5)
            have HB5 := Lib.hid (show Below W3.heap.size W3 w5 from (by first | exact below_of_drew hb5 | exact HW4.out.trans (hb5.mono HW4.out.size)))
            clear hb5
            refine hK.out _ _ (HSS.out _ HB5.out) ?_
            clear hK K
            refine pu ?_
            refine wq 12 ?_
            refine wpE_one (i := 13) (by kernel_rfl) rfl (fun K hK => ?_)
            go_simp
            refine hK.out _ _ (HSS.out _ (by repeat (first | exact Below.refl _ _ | exact HB5.out | with_reducible refine Below.drew ?_ | with_reducible refine below_alloc ?_ _))) ?_
            clear hK K
            refine pu ?_
            refine wl 14 ?_
            have hz5 := HB5.out.size
            refine wpList_store_mid rfl _ _ _ rfl (w5.heap.size) 0 #[.iface mt mv, .int .u64 (oo : Int), .int .u64 0, .int .u64 0, .int .u64 0] rfl rfl (there_blk (Blk.new w5 217 #[.nilIface, .int .u64 0, .int .u64 0, .int .u64 0, .int .u64 0]) 5 (by simp)) (by kernel_rfl) (all_oneCell_toArray (cs := [.iface mt mv, .int .u64 (oo : Int), .int .u64 0, .int .u64 0, .int .u64 0]) hone6) ?_
            have hW := below_sets (show Below W3.heap.size W3 (w5.alloc (.cells #[.nilIface, .int .u64 0, .int .u64 0, .int .u64 0, .int .u64 0] 217 (0, 0))) from below_alloc HB5.out _) (show W3.heap.size ≤ (w5.heap.size) by omega) [.iface mt mv, .int .u64 (oo : Int), .int .u64 0, .int .u64 0, .int .u64 0] 0
            have hF : Below w.heap.size w (World.setCells (w5.alloc (.cells #[.nilIface, .int .u64 0, .int .u64 0, .int .u64 0, .int .u64 0] 217 (0, 0))) ((w5.heap.size)) 0 [.iface mt mv, .int .u64 (oo : Int), .int .u64 0, .int .u64 0, .int .u64 0]) ∧ Blk (World.setCells (w5.alloc (.cells #[.nilIface, .int .u64 0, .int .u64 0, .int .u64 0, .int .u64 0] 217 (0, 0))) ((w5.heap.size)) 0 [.iface mt mv, .int .u64 (oo : Int), .int .u64 0, .int .u64 0, .int .u64 0]) w.heap.size 70 #[.int .i64 op, .int .i64 (d : Int), .int .i64 (a : Int), .int .i64 (b : Int), .int .i64 imm, .string ⟨loc.toArray⟩, .string ⟨label.toArray⟩, .int .i64 fence] ∧ Blk (World.setCells (w5.alloc (.cells #[.nilIface, .int .u64 0, .int .u64 0, .int .u64 0, .int .u64 0] 217 (0, 0))) ((w5.heap.size)) 0 [.iface mt mv, .int .u64 (oo : Int), .int .u64 0, .int .u64 0, .int .u64 0]) ((w5.heap.size)) 217 #[.iface mt mv, .int .u64 (oo : Int), .int .u64 0, .int .u64 0, .int .u64 0] ∧ w.heap.size < (w5.heap.size) :=
              ⟨below_trans HW30.out hW, HBI3.out.go hW, Blk.sets5 (Blk.new w5 217 #[.nilIface, .int .u64 0, .int .u64 0, .int .u64 0, .int .u64 0]) rfl (.iface mt mv) (.int .u64 (oo : Int)) (.int .u64 0) (.int .u64 0) (.int .u64 0), by omega⟩
            obtain ⟨z0, _⟩ : ∃ z : Nat, z = z := ⟨0, rfl⟩
            clear hW
            generalize (World.setCells (w5.alloc (.cells #[.nilIface, .int .u64 0, .int .u64 0, .int .u64 0, .int .u64 0] 217 (0, 0))) ((w5.heap.size)) 0 [.iface mt mv, .int .u64 (oo : Int), .int .u64 0, .int .u64 0, .int .u64 0]) = W7 at hF ⊢
            generalize (w5.heap.size) = p1 at hF ⊢
            exact wpList_nil (HM.out p1 z0 W7 hF)
          · go_simp
            refine hK.out _ _ (HSS.out _ (by repeat (first | exact Below.refl _ _ | exact Below.refl _ _ | with_reducible refine Below.drew ?_ | with_reducible refine below_alloc ?_ _))) ?_
            clear hK K
            refine pu ?_
            generalize hW4 : (World.drew (World.alloc _ _)) = W4
            have BZ6 : Hid (Blk W4 W3.heap.size 217 #[.nilIface, .int .u64 0, .int .u64 0, .int .u64 0, .int .u64 0]) := by rw [← hW4]; exact Lib.hid (Blk.new W3 _ _).drew
            have HW4 : Hid (Below W3.heap.size W3 W4) := by rw [← hW4]; exact Lib.hid ((by repeat (first | exact Below.refl _ _ | exact Below.refl _ _ | with_reducible refine Below.drew ?_ | with_reducible refine below_alloc ?_ _)))
            clear hW4
            refine wpE_one (i := 11) (by kernel_rfl) rfl (fun K hK => ?_)
            go_simp
            go_at_call 210
            refine (HOR.out _).mono ?_
            rintro e w5 ⟨rfl, hb5⟩
            have HB6 := Lib.hid (show Below (W4).heap.size W4 w5 from hb5)
            have HB5 := Lib.hid (show Below W3.heap.size W3 w5 from (by first | exact below_of_drew hb5 | exact HW4.out.trans (hb5.mono HW4.out.size)))
            clear hb5
            refine hK.out _ _ (HSS.out _ HB5.out) ?_
            clear hK K
            refine pu ?_
            refine wq 12 ?_
            refine wl 14 ?_
            have hz5 := HB5.out.size
            refine wpList_store_mid rfl _ _ _ rfl (W3.heap.size) 0 #[.iface mt mv, .int .u64 (oo : Int), .int .u64 0, .int .u64 0, .int .u64 0] rfl rfl (there_blk (BZ6.out.go HB6.out) 5 (by simp)) (by kernel_rfl) (all_oneCell_toArray (cs := [.iface mt mv, .int .u64 (oo : Int), .int .u64 0, .int .u64 0, .int .u64 0]) hone6) ?_
            have hW := below_sets (HB5.out) (show W3.heap.size ≤ (W3.heap.size) by omega) [.iface mt mv, .int .u64 (oo : Int), .int .u64 0, .int .u64 0, .int .u64 0] 0
            have hF : Below w.heap.size w (World.setCells w5 ((W3.heap.size)) 0 [.iface mt mv, .int .u64 (oo : Int), .int .u64 0, .int .u64 0, .int .u64 0]) ∧ Blk (World.setCells w5 ((W3.heap.size)) 0 [.iface mt mv, .int .u64 (oo : Int), .int .u64 0, .int .u64 0, .int .u64 0]) w.heap.size 70 #[.int .i64 op, .int .i64 (d : Int), .int .i64 (a : Int), .int .i64 (b : Int), .int .i64 imm, .string ⟨loc.toArray⟩, .string ⟨label.toArray⟩, .int .i64 fence] ∧ Blk (World.setCells w5 ((W3.heap.size)) 0 [.iface mt mv, .int .u64 (oo : Int), .int .u64 0, .int .u64 0, .int .u64 0]) ((W3.heap.size)) 217 #[.iface mt mv, .int .u64 (oo : Int), .int .u64 0, .int .u64 0, .int .u64 0] ∧ w.heap.size < (W3.heap.size) :=
              ⟨below_trans HW30.out hW, HBI3.out.go hW, Blk.sets5 (BZ6.out.go HB6.out) rfl (.iface mt mv) (.int .u64 (oo : Int)) (.int .u64 0) (.int .u64 0) (.int .u64 0), by omega⟩
            obtain ⟨z0, _⟩ : ∃ z : Nat, z = z := ⟨0, rfl⟩
            clear hW
            generalize (World.setCells w5 ((W3.heap.size)) 0 [.iface mt mv, .int .u64 (oo : Int), .int .u64 0, .int .u64 0, .int .u64 0]) = W7 at hF ⊢
            generalize (W3.heap.size) = p1 at hF ⊢
            exact wpList_nil (HM.out p1 z0 W7 hF)
        · go_simp
          refine hK.out _ _ (HSS.out _ (by repeat (first | exact Below.refl _ _ | exact Below.refl _ _ | with_reducible refine Below.drew ?_ | with_reducible refine below_alloc ?_ _))) ?_
          clear hK K
          refine pu ?_
          generalize hW4 : (World.drew (World.alloc _ _)) = W4
          have BZ6 : Hid (Blk W4 W3.heap.size 217 #[.nilIface, .int .u64 0, .int .u64 0, .int .u64 0, .int .u64 0]) := by rw [← hW4]; exact Lib.hid (Blk.new W3 _ _).drew
          have HW4 : Hid (Below W3.heap.size W3 W4) := by rw [← hW4]; exact Lib.hid ((by repeat (first | exact Below.refl _ _ | exact Below.refl _ _ | with_reducible refine Below.drew ?_ | with_reducible refine below_alloc ?_ _)))
          clear hW4
          refine wpE_one (i := 6) (by kernel_rfl) rfl (fun K hK => ?_)
          go_simp
          go_at_call 209
          refine (HMX.out _).mono ?_
          rintro e w' ⟨rfl, rfl⟩
          refine hK.out _ _ (HSS.out _ HW4.out) ?_
          clear hK K
          refine pu ?_
          refine wpE_one (i := 11) (by kernel_rfl) rfl (fun K hK => ?_)
          go_simp
          go_at_call 210
          refine (HOR.out _).mono ?_
          rintro e w5 ⟨rfl, hb5⟩
          have HB6 := Lib.hid (show Below (W4).heap.size W4 w5 from hb5)
          have HB5 := Lib.hid (show Below W3.heap.size W3 w5 from (by first | exact below_of_drew hb5 | exact HW4.out.trans (hb5.mono HW4.out.size)))
          clear hb5
          refine hK.out _ _ (HSS.out _ HB5.out) ?_
          clear hK K
          refine pu ?_
          refine wq 12 ?_
          refine wl 14 ?_
          have hz5 := HB5.out.size
          refine wpList_store_mid rfl _ _ _ rfl (W3.heap.size) 0 #[.iface mt mv, .int .u64 (oo : Int), .int .u64 0, .int .u64 0, .int .u64 0] rfl rfl (there_blk (BZ6.out.go HB6.out) 5 (by simp)) (by kernel_rfl) (all_oneCell_toArray (cs := [.iface mt mv, .int .u64 (oo : Int), .int .u64 0, .int .u64 0, .int .u64 0]) hone6) ?_
          have hW := below_sets (HB5.out) (show W3.heap.size ≤ (W3.heap.size) by omega) [.iface mt mv, .int .u64 (oo : Int), .int .u64 0, .int .u64 0, .int .u64 0] 0
          have hF : Below w.heap.size w (World.setCells w5 ((W3.heap.size)) 0 [.iface mt mv, .int .u64 (oo : Int), .int .u64 0, .int .u64 0, .int .u64 0]) ∧ Blk (World.setCells w5 ((W3.heap.size)) 0 [.iface mt mv, .int .u64 (oo : Int), .int .u64 0, .int .u64 0, .int .u64 0]) w.heap.size 70 #[.int .i64 op, .int .i64 (d : Int), .int .i64 (a : Int), .int .i64 (b : Int), .int .i64 imm, .string ⟨loc.toArray⟩, .string ⟨label.toArray⟩, .int .i64 fence] ∧ Blk (World.setCells w5 ((W3.heap.size)) 0 [.iface mt mv, .int .u64 (oo : Int), .int .u64 0, .int .u64 0, .int .u64 0]) ((W3.heap.size)) 217 #[.iface mt mv, .int .u64 (oo : Int), .int .u64 0, .int .u64 0, .int .u64 0] ∧ w.heap.size < (W3.heap.size) :=
            ⟨below_trans HW30.out hW, HBI3.out.go hW, Blk.sets5 (BZ6.out.go HB6.out) rfl (.iface mt mv) (.int .u64 (oo : Int)) (.int .u64 0) (.int .u64 0) (.int .u64 0), by omega⟩
          obtain ⟨z0, _⟩ : ∃ z : Nat, z = z := ⟨0, rfl⟩
          clear hW
          generalize (World.setCells w5 ((W3.heap.size)) 0 [.iface mt mv, .int .u64 (oo : Int), .int .u64 0, .int .u64 0, .int .u64 0]) = W7 at hF ⊢
          generalize (W3.heap.size) = p1 at hF ⊢
          exact wpList_nil (HM.out p1 z0 W7 hF)
      · intro lx _ W7 ⟨hb7, hi7, hx7, hlx⟩
        refine HK9.out _ _ ?_
        clear HK9 K9 HSS HW30 HBI3
        have HW7 := Lib.hid hb7
        have j0 : W7.cell? ⟨w.heap.size, 0, none⟩ = some (.int .i64 op) := hi7.cell 0
        have j1 : W7.cell? ⟨w.heap.size, 1, none⟩ = some (.int .i64 (d : Int)) := hi7.cell 1
        have j2 : W7.cell? ⟨w.heap.size, 2, none⟩ = some (.int .i64 (a : Int)) := hi7.cell 2
        have j3 : W7.cell? ⟨w.heap.size, 3, none⟩ = some (.int .i64 (b : Int)) := hi7.cell 3
        have c0 : W7.cell? ⟨lx, 0, none⟩ = some (.iface mt mv) := hx7.cell 0
        have c1 : W7.cell? ⟨lx, 1, none⟩ = some (.int .u64 (oo : Int)) := hx7.cell 1
        have c2 : W7.cell? ⟨lx, 2, none⟩ = some (.int .u64 0) := hx7.cell 2
        have c3 : W7.cell? ⟨lx, 3, none⟩ = some (.int .u64 0) := hx7.cell 3
        have c4 : W7.cell? ⟨lx, 4, none⟩ = some (.int .u64 0) := hx7.cell 4
        have f0 := hx7.frozen 0
        have hlw : lx < W7.heap.size := hx7.lt
        have hne : ¬ lx = w.heap.size := by omega
        have hne2 : ¬ w.heap.size = lx := by omega
        clear hb7 hi7 hx7
        by_cases h9 : op = 9
        · have g9 : (op == 9) = true := by simpa using h9
          by_cases hab : a = b
          · have g10 : ((a : Int) == (b : Int)) = true := by simp [hab]
            have HX := Lib.hid (HX0.out h9 hab)
            have HB8 := Lib.hid (HW7.out.setCell (p := ⟨lx, 0, none⟩) (show w.heap.size ≤ lx by omega) (.iface 213 (.int .i64 0)))
            clear h9 hab
            have HB7 := Lib.hid (HB00.out.trans ((HB8.out).mono hbs))
            have HR7 := Lib.hid (HR.out.below (HB8.out))
            go_wp2_with (go_at_call 137; refine (HPUT0.out _ HB7.out hd hl HR7.out).mono ?_; rintro e w8 ⟨V8, rfl, hR8, hb8, hf8⟩)
            go_end0
            rw [HX.out]
            exact ⟨_, rfl, hR8, (HB8.out.mono hbs).trans hb8, (FrV.of_below HB8.out).trans hf8⟩
          · have g10 : ((a : Int) == (b : Int)) = false := by simp; omega
            have HX := Lib.hid (HX1.out (fun h => hab h.2))
            clear h9 hab
            have HB7 := Lib.hid (HB00.out.trans ((HW7.out).mono hbs))
            have HR7 := Lib.hid (HR.out.below (HW7.out))
            go_wp2_with (go_at_call 137; refine (HPUT.out _ HB7.out hd hl HR7.out).mono ?_; rintro e w8 ⟨V8, rfl, hR8, hb8, hf8⟩)
            go_end0
            rw [HX.out]
            exact ⟨_, rfl, hR8, (HW7.out.mono hbs).trans hb8, (FrV.of_below HW7.out).trans hf8⟩
        · have g9 : (op == 9) = false := by simpa using h9
          have HX := Lib.hid (HX1.out (fun h => h9 h.1))
          clear h9
          have HB7 := Lib.hid (HB00.out.trans ((HW7.out).mono hbs))
          have HR7 := Lib.hid (HR.out.below (HW7.out))
          go_wp2_with (go_at_call 137; refine (HPUT.out _ HB7.out hd hl HR7.out).mono ?_; rintro e w8 ⟨V8, rfl, hR8, hb8, hf8⟩)
          go_end0
          rw [HX.out]
          exact ⟨_, rfl, hR8, (HW7.out.mono hbs).trans hb8, (FrV.of_below HW7.out).trans hf8⟩
    · have g8 : (op != 8) = true := by simpa using h8
      have e1 : xb = rb := by rw [HXB.out, if_neg h8]
      have BZ := Lib.hid hB3
      clear hb3 hi3' hA3 hB3 h8
      go_wp2_with fail
      have g14 := cell_go HKC.out.1 HW30.out
      have n3 : W3.cell? ⟨w.heap.size, 3, none⟩ = some (.int .i64 (b : Int)) := HBI3.out.cell 3
      have n0 := cell_go HKC.out.2.1 HW30.out
      have n1 := cell_go HKC.out.2.2.1 HW30.out
      have n2 := cell_go HKC.out.2.2.2.1 HW30.out
      have n4 := cell_go HKC.out.2.2.2.2.1 HW30.out
      have n5 := cell_go HKC.out.2.2.2.2.2 HW30.out
      refine wz (fun y : World => y.cell? ⟨w.heap.size, 3, none⟩ = some (.int .i64 (b : Int)) ∧ y.cell? ⟨g, 14, none⟩ = some (.slice (some ⟨q, 0, none⟩) r.regs.length r.regs.length) ∧ y.cell? ⟨q, b * 5, none⟩ = some (holdV rb.h) ∧ y.cell? ⟨q, b * 5 + 1, none⟩ = some (.int .u64 (rb.on : Int)) ∧ y.cell? ⟨q, b * 5 + 2, none⟩ = some (.int .u64 0) ∧ y.cell? ⟨q, b * 5 + 3, none⟩ = some (.int .u64 0) ∧ y.cell? ⟨q, b * 5 + 4, none⟩ = some (.int .u64 0)) [3, 5, 7] ⟨n3, g14, n0, n1, n2, n4, n5⟩ (fun hHeld => ?_)
      refine wq 0 ?_
      refine wq 1 ?_
      refine wq 2 ?_
      refine wq 4 ?_
      refine wt 3 (by assumption) ?_
      refine wt 5 (by assumption) ?_
      refine wq 6 ?_
      refine wt 7 (by assumption) ?_
      refine wl 8 ?_
      clear hHeld n3 g14 n0 n1 n2 n4 n5 i0 HKC
      refine wpList_store_mid rfl _ _ _ rfl lb 0 #[holdV rb.h, .int .u64 (rb.on : Int), .int .u64 0, .int .u64 0, .int .u64 0] rfl rfl (there_blk BZ.out.drew 5 (by simp)) (by kernel_rfl) (all_oneCell_toArray (cs := encR.enc rb) honeb) ?_
      rw [← e1]
      have BX9 := Lib.hid (blk_farS BXA.out.drew hne [holdV xb.h, .int .u64 (xb.on : Int), .int .u64 0, .int .u64 0, .int .u64 0] 0)
      have BXB := Lib.hid (Blk.sets5 BZ.out.drew rfl (holdV xb.h) (.int .u64 (xb.on : Int)) (.int .u64 0) (.int .u64 0) (.int .u64 0))
      have HW9 := Lib.hid (below_sets HW30.out.drew (Nat.le_of_lt hlb) [holdV xb.h, .int .u64 (xb.on : Int), .int .u64 0, .int .u64 0, .int .u64 0] 0)
      have HBI9 := Lib.hid (blk_farS HBI3.out.drew (show w.heap.size ≠ lb by omega) [holdV xb.h, .int .u64 (xb.on : Int), .int .u64 0, .int .u64 0, .int .u64 0] 0)
      have law9 := BX9.out.lt
      have lbw9 := BXB.out.lt
      clear BXA HW30 HBI3 BZ e1 law lbw
      have BXA := BX9
      have HW30 := HW9
      have HBI3 := HBI9
      clear BX9 HW9 HBI9
      generalize (World.setCells W3.drew lb 0 [holdV xb.h, .int .u64 (xb.on : Int), .int .u64 0, .int .u64 0, .int .u64 0]) = W9 at *
      clear W3
      obtain ⟨W3, hW3⟩ : ∃ W, W = W9 := ⟨_, rfl⟩
      subst hW3
      have law := law9
      have lbw := lbw9
      clear law9 lbw9
      have i0 : W3.cell? ⟨w.heap.size, 0, none⟩ = some (.int .i64 op) := HBI3.out.cell 0
      have a0 : W3.cell? ⟨la, 0, none⟩ = some (holdV ra.h) := BXA.out.cell 0
      have a1 : W3.cell? ⟨la, 1, none⟩ = some (.int .u64 (ra.on : Int)) := BXA.out.cell 1
      have a2 : W3.cell? ⟨la, 2, none⟩ = some (.int .u64 0) := BXA.out.cell 2
      have a3 : W3.cell? ⟨la, 3, none⟩ = some (.int .u64 0) := BXA.out.cell 3
      have a4 : W3.cell? ⟨la, 4, none⟩ = some (.int .u64 0) := BXA.out.cell 4
      have b0 : W3.cell? ⟨lb, 0, none⟩ = some (holdV xb.h) := BXB.out.cell 0
      have b1 : W3.cell? ⟨lb, 1, none⟩ = some (.int .u64 (xb.on : Int)) := BXB.out.cell 1
      have b2 : W3.cell? ⟨lb, 2, none⟩ = some (.int .u64 0) := BXB.out.cell 2
      have b3 : W3.cell? ⟨lb, 3, none⟩ = some (.int .u64 0) := BXB.out.cell 3
      have b4 : W3.cell? ⟨lb, 4, none⟩ = some (.int .u64 0) := BXB.out.cell 4
      have hz3 := HW30.out.size
      have HSS := Lib.hid (show ∀ y, Below W3.heap.size W3 y → (fun y : World => y.cell? ⟨w.heap.size, 0, none⟩ = some (.int .i64 op) ∧ (y.cell? ⟨la, 0, none⟩ = some (holdV ra.h) ∧ y.cell? ⟨la, 1, none⟩ = some (.int .u64 (ra.on : Int)) ∧ y.cell? ⟨la, 2, none⟩ = some (.int .u64 0) ∧ y.cell? ⟨la, 3, none⟩ = some (.int .u64 0) ∧ y.cell? ⟨la, 4, none⟩ = some (.int .u64 0)) ∧ y.cell? ⟨lb, 0, none⟩ = some (holdV xb.h) ∧ y.cell? ⟨lb, 1, none⟩ = some (.int .u64 (xb.on : Int)) ∧ y.cell? ⟨lb, 2, none⟩ = some (.int .u64 0) ∧ y.cell? ⟨lb, 3, none⟩ = some (.int .u64 0) ∧ y.cell? ⟨lb, 4, none⟩ = some (.int .u64 0)) y from fun y hb => ⟨cell_go i0 hb, ⟨cell_go a0 hb, cell_go a1 hb, cell_go a2 hb, cell_go a3 hb, cell_go a4 hb⟩, cell_go b0 hb, cell_go b1 hb, cell_go b2 hb, cell_go b3 hb, cell_go b4 hb⟩)
      clear BXA BXB
      go_wp2_with fail
      rename_i K9 hK9
      have HK9 := Lib.hid hK9
      clear hK9 i0 a0 a1 a2 a3 a4 b0 b1 b2 b3 b4
      apply two_wayU (K := K9) (F := fun lx _ W7 => Below w.heap.size w W7 ∧ Blk W7 w.heap.size 70 #[.int .i64 op, .int .i64 (d : Int), .int .i64 (a : Int), .int .i64 (b : Int), .int .i64 imm, .string ⟨loc.toArray⟩, .string ⟨label.toArray⟩, .int .i64 fence] ∧ Blk W7 lx 217 #[.iface mt mv, .int .u64 (oo : Int), .int .u64 0, .int .u64 0, .int .u64 0] ∧ w.heap.size < lx)
      · intro HM
        have HM := Lib.hid HM
        refine wz (fun y : World => y.cell? ⟨w.heap.size, 0, none⟩ = some (.int .i64 op) ∧ (y.cell? ⟨la, 0, none⟩ = some (holdV ra.h) ∧ y.cell? ⟨la, 1, none⟩ = some (.int .u64 (ra.on : Int)) ∧ y.cell? ⟨la, 2, none⟩ = some (.int .u64 0) ∧ y.cell? ⟨la, 3, none⟩ = some (.int .u64 0) ∧ y.cell? ⟨la, 4, none⟩ = some (.int .u64 0)) ∧ y.cell? ⟨lb, 0, none⟩ = some (holdV xb.h) ∧ y.cell? ⟨lb, 1, none⟩ = some (.int .u64 (xb.on : Int)) ∧ y.cell? ⟨lb, 2, none⟩ = some (.int .u64 0) ∧ y.cell? ⟨lb, 3, none⟩ = some (.int .u64 0) ∧ y.cell? ⟨lb, 4, none⟩ = some (.int .u64 0)) [1, 3, 5, 6, 8, 10, 13] (HSS.out _ (Below.refl _ _).drew) (fun hHeld => ?_)
        refine wq 0 ?_
        refine wq 2 ?_
        refine wq 4 ?_
        refine wq 7 ?_
        refine wq 9 ?_
        refine wt 1 (by assumption) ?_
        refine wt 3 (by assumption) ?_
        refine wt 5 (by assumption) ?_
        refine wt 8 (by assumption) ?_
        refine wt 10 (by assumption) ?_
        clear hHeld
        refine wpE_two (i := 6) (j := 13) (by kernel_rfl) rfl rfl (fun K hK => ?_) (fun K hK => ?_)
        · go_simp
          go_at_call 209
          refine (HMX.out _).mono ?_
          rintro e w' ⟨rfl, rfl⟩
          refine hK.out _ _ (HSS.out _ (by repeat (first | exact Below.refl _ _ | exact Below.refl _ _ | with_reducible refine Below.drew ?_ | with_reducible refine below_alloc ?_ _))) ?_
          clear hK K
          refine pu ?_
          refine wpE_two (i := 11) (j := 13) (by kernel_rfl) rfl rfl (fun K hK => ?_) (fun K hK => ?_)
          · go_simp
            go_at_call 210
            refine (HOR.out _).mono ?_
            rintro e w5 ⟨rfl, hb5⟩
            have HB6 := Lib.hid (show Below (W3.drew).heap.size W3.drew w5 from hb5)
            have HB5 := Lib.hid (show Below W3.heap.size W3 w5 from (by first | exact below_of_drew hb5 | exact HW4.out.trans (hb5.mono HW4.out.size)))
            clear hb5
            refine hK.out _ _ (HSS.out _ HB5.out) ?_
            clear hK K
            refine pu ?_
            refine wq 12 ?_
            refine wpE_one (i := 13) (by kernel_rfl) rfl (fun K hK => ?_)
            go_simp
            refine hK.out _ _ (HSS.out _ (by repeat (first | exact Below.refl _ _ | exact HB5.out | with_reducible refine Below.drew ?_ | with_reducible refine below_alloc ?_ _))) ?_
            clear hK K
            refine pu ?_
            refine wl 14 ?_
            have hz5 := HB5.out.size
            refine wpList_store_mid rfl _ _ _ rfl (w5.heap.size) 0 #[.iface mt mv, .int .u64 (oo : Int), .int .u64 0, .int .u64 0, .int .u64 0] rfl rfl (there_blk (Blk.new w5 217 #[.nilIface, .int .u64 0, .int .u64 0, .int .u64 0, .int .u64 0]) 5 (by simp)) (by kernel_rfl) (all_oneCell_toArray (cs := [.iface mt mv, .int .u64 (oo : Int), .int .u64 0, .int .u64 0, .int .u64 0]) hone6) ?_
            have hW := below_sets (show Below W3.heap.size W3 (w5.alloc (.cells #[.nilIface, .int .u64 0, .int .u64 0, .int .u64 0, .int .u64 0] 217 (0, 0))) from below_alloc HB5.out _) (show W3.heap.size ≤ (w5.heap.size) by omega) [.iface mt mv, .int .u64 (oo : Int), .int .u64 0, .int .u64 0, .int .u64 0] 0
            have hF : Below w.heap.size w (World.setCells (w5.alloc (.cells #[.nilIface, .int .u64 0, .int .u64 0, .int .u64 0, .int .u64 0] 217 (0, 0))) ((w5.heap.size)) 0 [.iface mt mv, .int .u64 (oo : Int), .int .u64 0, .int .u64 0, .int .u64 0]) ∧ Blk (World.setCells (w5.alloc (.cells #[.nilIface, .int .u64 0, .int .u64 0, .int .u64 0, .int .u64 0] 217 (0, 0))) ((w5.heap.size)) 0 [.iface mt mv, .int .u64 (oo : Int), .int .u64 0, .int .u64 0, .int .u64 0]) w.heap.size 70 #[.int .i64 op, .int .i64 (d : Int), .int .i64 (a : Int), .int .i64 (b : Int), .int .i64 imm, .string ⟨loc.toArray⟩, .string ⟨label.toArray⟩, .int .i64 fence] ∧ Blk (World.setCells (w5.alloc (.cells #[.nilIface, .int .u64 0, .int .u64 0, .int .u64 0, .int .u64 0] 217 (0, 0))) ((w5.heap.size)) 0 [.iface mt mv, .int .u64 (oo : Int), .int .u64 0, .int .u64 0, .int .u64 0]) ((w5.heap.size)) 217 #[.iface mt mv, .int .u64 (oo : Int), .int .u64 0, .int .u64 0, .int .u64 0] ∧ w.heap.size < (w5.heap.size) :=
              ⟨below_trans HW30.out hW, HBI3.out.go hW, Blk.sets5 (Blk.new w5 217 #[.nilIface, .int .u64 0, .int .u64 0, .int .u64 0, .int .u64 0]) rfl (.iface mt mv) (.int .u64 (oo : Int)) (.int .u64 0) (.int .u64 0) (.int .u64 0), by omega⟩
            obtain ⟨z0, _⟩ : ∃ z : Nat, z = z := ⟨0, rfl⟩
            clear hW
            generalize (World.setCells (w5.alloc (.cells #[.nilIface, .int .u64 0, .int .u64 0, .int .u64 0, .int .u64 0] 217 (0, 0))) ((w5.heap.size)) 0 [.iface mt mv, .int .u64 (oo : Int), .int .u64 0, .int .u64 0, .int .u64 0]) = W7 at hF ⊢
            generalize (w5.heap.size) = p1 at hF ⊢
            exact wpList_nil (HM.out p1 z0 W7 hF)
          · go_simp
            refine hK.out _ _ (HSS.out _ (by repeat (first | exact Below.refl _ _ | exact Below.refl _ _ | with_reducible refine Below.drew ?_ | with_reducible refine below_alloc ?_ _))) ?_
            clear hK K
            refine pu ?_
            generalize hW4 : (World.drew (World.alloc _ _)) = W4
            have BZ6 : Hid (Blk W4 W3.heap.size 217 #[.nilIface, .int .u64 0, .int .u64 0, .int .u64 0, .int .u64 0]) := by rw [← hW4]; exact Lib.hid (Blk.new W3 _ _).drew
            have HW4 : Hid (Below W3.heap.size W3 W4) := by rw [← hW4]; exact Lib.hid ((by repeat (first | exact Below.refl _ _ | exact Below.refl _ _ | with_reducible refine Below.drew ?_ | with_reducible refine below_alloc ?_ _)))
            clear hW4
            refine wpE_one (i := 11) (by kernel_rfl) rfl (fun K hK => ?_)
            go_simp
            go_at_call 210
            refine (HOR.out _).mono ?_
            rintro e w5 ⟨rfl, hb5⟩
            have HB6 := Lib.hid (show Below (W4).heap.size W4 w5 from hb5)
            have HB5 := Lib.hid (show Below W3.heap.size W3 w5 from (by first | exact below_of_drew hb5 | exact HW4.out.trans (hb5.mono HW4.out.size)))
            clear hb5
            refine hK.out _ _ (HSS.out _ HB5.out) ?_
            clear hK K
            refine pu ?_
            refine wq 12 ?_
            refine wl 14 ?_
            have hz5 := HB5.out.size
            refine wpList_store_mid rfl _ _ _ rfl (W3.heap.size) 0 #[.iface mt mv, .int .u64 (oo : Int), .int .u64 0, .int .u64 0, .int .u64 0] rfl rfl (there_blk (BZ6.out.go HB6.out) 5 (by simp)) (by kernel_rfl) (all_oneCell_toArray (cs := [.iface mt mv, .int .u64 (oo : Int), .int .u64 0, .int .u64 0, .int .u64 0]) hone6) ?_
            have hW := below_sets (HB5.out) (show W3.heap.size ≤ (W3.heap.size) by omega) [.iface mt mv, .int .u64 (oo : Int), .int .u64 0, .int .u64 0, .int .u64 0] 0
            have hF : Below w.heap.size w (World.setCells w5 ((W3.heap.size)) 0 [.iface mt mv, .int .u64 (oo : Int), .int .u64 0, .int .u64 0, .int .u64 0]) ∧ Blk (World.setCells w5 ((W3.heap.size)) 0 [.iface mt mv, .int .u64 (oo : Int), .int .u64 0, .int .u64 0, .int .u64 0]) w.heap.size 70 #[.int .i64 op, .int .i64 (d : Int), .int .i64 (a : Int), .int .i64 (b : Int), .int .i64 imm, .string ⟨loc.toArray⟩, .string ⟨label.toArray⟩, .int .i64 fence] ∧ Blk (World.setCells w5 ((W3.heap.size)) 0 [.iface mt mv, .int .u64 (oo : Int), .int .u64 0, .int .u64 0, .int .u64 0]) ((W3.heap.size)) 217 #[.iface mt mv, .int .u64 (oo : Int), .int .u64 0, .int .u64 0, .int .u64 0] ∧ w.heap.size < (W3.heap.size) :=
              ⟨below_trans HW30.out hW, HBI3.out.go hW, Blk.sets5 (BZ6.out.go HB6.out) rfl (.iface mt mv) (.int .u64 (oo : Int)) (.int .u64 0) (.int .u64 0) (.int .u64 0), by omega⟩
            obtain ⟨z0, _⟩ : ∃ z : Nat, z = z := ⟨0, rfl⟩
            clear hW
            generalize (World.setCells w5 ((W3.heap.size)) 0 [.iface mt mv, .int .u64 (oo : Int), .int .u64 0, .int .u64 0, .int .u64 0]) = W7 at hF ⊢
            generalize (W3.heap.size) = p1 at hF ⊢
            exact wpList_nil (HM.out p1 z0 W7 hF)
        · go_simp
          refine hK.out _ _ (HSS.out _ (by repeat (first | exact Below.refl _ _ | exact Below.refl _ _ | with_reducible refine Below.drew ?_ | with_reducible refine below_alloc ?_ _))) ?_
          clear hK K
          refine pu ?_
          generalize hW4 : (World.drew (World.alloc _ _)) = W4
          have BZ6 : Hid (Blk W4 W3.heap.size 217 #[.nilIface, .int .u64 0, .int .u64 0, .int .u64 0, .int .u64 0]) := by rw [← hW4]; exact Lib.hid (Blk.new W3 _ _).drew
          have HW4 : Hid (Below W3.heap.size W3 W4) := by rw [← hW4]; exact Lib.hid ((by repeat (first | exact Below.refl _ _ | exact Below.refl _ _ | with_reducible refine Below.drew ?_ | with_reducible refine below_alloc ?_ _)))
          clear hW4
          refine wpE_one (i := 6) (by kernel_rfl) rfl (fun K hK => ?_)
          go_simp
          go_at_call 209
          refine (HMX.out _).mono ?_
          rintro e w' ⟨rfl, rfl⟩
          refine hK.out _ _ (HSS.out _ HW4.out) ?_
          clear hK K
          refine pu ?_
          refine wpE_one (i := 11) (by kernel_rfl) rfl (fun K hK => ?_)
          go_simp
          go_at_call 210
          refine (HOR.out _).mono ?_
          rintro e w5 ⟨rfl, hb5⟩
          have HB6 := Lib.hid (show Below (W4).heap.size W4 w5 from hb5)
          have HB5 := Lib.hid (show Below W3.heap.size W3 w5 from (by first | exact below_of_drew hb5 | exact HW4.out.trans (hb5.mono HW4.out.size)))
          clear hb5
          refine hK.out _ _ (HSS.out _ HB5.out) ?_
          clear hK K
          refine pu ?_
          refine wq 12 ?_
          refine wl 14 ?_
          have hz5 := HB5.out.size
          refine wpList_store_mid rfl _ _ _ rfl (W3.heap.size) 0 #[.iface mt mv, .int .u64 (oo : Int), .int .u64 0, .int .u64 0, .int .u64 0] rfl rfl (there_blk (BZ6.out.go HB6.out) 5 (by simp)) (by kernel_rfl) (all_oneCell_toArray (cs := [.iface mt mv, .int .u64 (oo : Int), .int .u64 0, .int .u64 0, .int .u64 0]) hone6) ?_
          have hW := below_sets (HB5.out) (show W3.heap.size ≤ (W3.heap.size) by omega) [.iface mt mv, .int .u64 (oo : Int), .int .u64 0, .int .u64 0, .int .u64 0] 0
          have hF : Below w.heap.size w (World.setCells w5 ((W3.heap.size)) 0 [.iface mt mv, .int .u64 (oo : Int), .int .u64 0, .int .u64 0, .int .u64 0]) ∧ Blk (World.setCells w5 ((W3.heap.size)) 0 [.iface mt mv, .int .u64 (oo : Int), .int .u64 0, .int .u64 0, .int .u64 0]) w.heap.size 70 #[.int .i64 op, .int .i64 (d : Int), .int .i64 (a : Int), .int .i64 (b : Int), .int .i64 imm, .string ⟨loc.toArray⟩, .string ⟨label.toArray⟩, .int .i64 fence] ∧ Blk (World.setCells w5 ((W3.heap.size)) 0 [.iface mt mv, .int .u64 (oo : Int), .int .u64 0, .int .u64 0, .int .u64 0]) ((W3.heap.size)) 217 #[.iface mt mv, .int .u64 (oo : Int), .int .u64 0, .int .u64 0, .int .u64 0] ∧ w.heap.size < (W3.heap.size) :=
            ⟨below_trans HW30.out hW, HBI3.out.go hW, Blk.sets5 (BZ6.out.go HB6.out) rfl (.iface mt mv) (.int .u64 (oo : Int)) (.int .u64 0) (.int .u64 0) (.int .u64 0), by omega⟩
          obtain ⟨z0, _⟩ : ∃ z : Nat, z = z := ⟨0, rfl⟩
          clear hW
          generalize (World.setCells w5 ((W3.heap.size)) 0 [.iface mt mv, .int .u64 (oo : Int), .int .u64 0, .int .u64 0, .int .u64 0]) = W7 at hF ⊢
          generalize (W3.heap.size) = p1 at hF ⊢
          exact wpList_nil (HM.out p1 z0 W7 hF)
      · intro lx _ W7 ⟨hb7, hi7, hx7, hlx⟩
        refine HK9.out _ _ ?_
        clear HK9 K9 HSS HW30 HBI3
        have HW7 := Lib.hid hb7
        have j0 : W7.cell? ⟨w.heap.size, 0, none⟩ = some (.int .i64 op) := hi7.cell 0
        have j1 : W7.cell? ⟨w.heap.size, 1, none⟩ = some (.int .i64 (d : Int)) := hi7.cell 1
        have j2 : W7.cell? ⟨w.heap.size, 2, none⟩ = some (.int .i64 (a : Int)) := hi7.cell 2
        have j3 : W7.cell? ⟨w.heap.size, 3, none⟩ = some (.int .i64 (b : Int)) := hi7.cell 3
        have c0 : W7.cell? ⟨lx, 0, none⟩ = some (.iface mt mv) := hx7.cell 0
        have c1 : W7.cell? ⟨lx, 1, none⟩ = some (.int .u64 (oo : Int)) := hx7.cell 1
        have c2 : W7.cell? ⟨lx, 2, none⟩ = some (.int .u64 0) := hx7.cell 2
        have c3 : W7.cell? ⟨lx, 3, none⟩ = some (.int .u64 0) := hx7.cell 3
        have c4 : W7.cell? ⟨lx, 4, none⟩ = some (.int .u64 0) := hx7.cell 4
        have f0 := hx7.frozen 0
        have hlw : lx < W7.heap.size := hx7.lt
        have hne : ¬ lx = w.heap.size := by omega
        have hne2 : ¬ w.heap.size = lx := by omega
        clear hb7 hi7 hx7
        by_cases h9 : op = 9
        · have g9 : (op == 9) = true := by simpa using h9
          by_cases hab : a = b
          · have g10 : ((a : Int) == (b : Int)) = true := by simp [hab]
            have HX := Lib.hid (HX0.out h9 hab)
            have HB8 := Lib.hid (HW7.out.setCell (p := ⟨lx, 0, none⟩) (show w.heap.size ≤ lx by omega) (.iface 213 (.int .i64 0)))
            clear h9 hab
            have HB7 := Lib.hid (HB00.out.trans ((HB8.out).mono hbs))
            have HR7 := Lib.hid (HR.out.below (HB8.out))
            go_wp2_with (go_at_call 137; refine (HPUT0.out _ HB7.out hd hl HR7.out).mono ?_; rintro e w8 ⟨V8, rfl, hR8, hb8, hf8⟩)
            go_end0
            rw [HX.out]
            exact ⟨_, rfl, hR8, (HB8.out.mono hbs).trans hb8, (FrV.of_below HB8.out).trans hf8⟩
          · have g10 : ((a : Int) == (b : Int)) = false := by simp; omega
            have HX := Lib.hid (HX1.out (fun h => hab h.2))
            clear h9 hab
            have HB7 := Lib.hid (HB00.out.trans ((HW7.out).mono hbs))
            have HR7 := Lib.hid (HR.out.below (HW7.out))
            go_wp2_with (go_at_call 137; refine (HPUT.out _ HB7.out hd hl HR7.out).mono ?_; rintro e w8 ⟨V8, rfl, hR8, hb8, hf8⟩)
            go_end0
            rw [HX.out]
            exact ⟨_, rfl, hR8, (HW7.out.mono hbs).trans hb8, (FrV.of_below HW7.out).trans hf8⟩
        · have g9 : (op == 9) = false := by simpa using h9
          have HX := Lib.hid (HX1.out (fun h => h9 h.1))
          clear h9
          have HB7 := Lib.hid (HB00.out.trans ((HW7.out).mono hbs))
          have HR7 := Lib.hid (HR.out.below (HW7.out))
          go_wp2_with (go_at_call 137; refine (HPUT.out _ HB7.out hd hl HR7.out).mono ?_; rintro e w8 ⟨V8, rfl, hR8, hb8, hf8⟩)
          go_end0
          rw [HX.out]
          exact ⟨_, rfl, hR8, (HW7.out.mono hbs).trans hb8, (FrV.of_below HW7.out).trans hf8⟩
end
end
end Go.Proofs.YtjhafgnmahhacaaGreatDoor
