/- The program's Do: its table of closures, each of them, and slices.Clone at registers. -/
import Derived.Test.YtlpcahkchmlghaaDoorKf
import Derived.Laws.EntriesVeiled
import Derived.Laws.OwnMore
import Derived.OwnWalk
import Derived.WalkSpells
import Derived.Deep.RegionHeld3
import Derived.StillTailTactics
namespace Go.Proofs.YtlpcahkchmlghaaDoor
open Go.RowKit

def valsCells (vs : List (List UInt8 × Int)) : List Value := vs.flatMap fun x => [.string ⟨x.1.toArray⟩, .int .i64 x.2]
theorem valsCells_cons (x : List UInt8 × Int) (vs : List (List UInt8 × Int)) : valsCells (x :: vs) = .string ⟨x.1.toArray⟩ :: .int .i64 x.2 :: valsCells vs := rfl
theorem valsCells_len : ∀ vs, (valsCells vs).length = vs.length * 2
  | [] => rfl
  | x :: vs => by rw [valsCells_cons]; simp [valsCells_len vs]; omega
theorem valsCells_at : ∀ (vs : List (List UInt8 × Int)) (j : Nat) (h : j < vs.length), (valsCells vs)[j * 2]? = some (.string ⟨vs[j].1.toArray⟩) ∧ (valsCells vs)[j * 2 + 1]? = some (.int .i64 vs[j].2)
  | x :: vs, 0, _ => by rw [valsCells_cons]; exact ⟨rfl, rfl⟩
  | x :: vs, j + 1, h => by
    rw [valsCells_cons, show (j + 1) * 2 = j * 2 + 2 by omega]
    exact valsCells_at vs j (by simpa using h)
theorem valsCells_one (vs : List (List UInt8 × Int)) : ∀ u ∈ valsCells vs, u.oneCell' = true := by
  intro u hu
  unfold valsCells at hu
  rw [List.mem_flatMap] at hu
  obtain ⟨x, _, hx⟩ := hu
  simp at hx
  rcases hx with rfl | rfl <;> rfl
theorem add_blk (a : Addr) (n : Nat) : (a.add n).block = a.block := by unfold Addr.add; split <;> rfl
theorem valsCells_cell {w : World} {b o : Nat} {vs : List (List UInt8 × Int)} (h : ∀ j (h : j < vs.length), w.cell? ⟨b, o + j * 2, none⟩ = some (.string ⟨vs[j].1.toArray⟩) ∧ w.cell? ⟨b, o + j * 2 + 1, none⟩ = some (.int .i64 vs[j].2)) :
    ∀ j u, (valsCells vs)[j]? = some u → w.cell? (Addr.add ⟨b, o, none⟩ j) = some u := by
  intro j u hu
  have hj : j < vs.length * 2 := by
    have := (List.getElem?_eq_some_iff.1 hu).1
    rw [valsCells_len] at this; exact this
  have ha : (⟨b, o, none⟩ : Addr).add j = ⟨b, o + j, none⟩ := by
    unfold Addr.add
    split
    · rename_i h0; subst h0; rfl
    · rfl
  rw [ha]
  obtain ⟨q, r, rfl, hr⟩ : ∃ q r, j = q * 2 + r ∧ r < 2 := ⟨j / 2, j % 2, by omega, by omega⟩
  have hq : q < vs.length := by omega
  have h1 := h q hq
  have h2 := valsCells_at vs q hq
  rcases (by omega : r = 0 ∨ r = 1) with rfl | rfl
  · rw [Nat.add_zero] at hu ⊢
    rw [h2.1] at hu; rw [h1.1]; exact hu
  · rw [h2.2] at hu; rw [← Nat.add_assoc, h1.2]; exact hu
/-- Registers in memory of the call's own. -/
abbrev RegsOwn (w : World) (base : Nat) (v : Value) (vs : List (List UInt8 × Int)) : Prop := w.ownsRow base 55 2 v vs.length (valsCells vs)
theorem RegsOwn.form {w : World} {base : Nat} {v : Value} {vs : List (List UInt8 × Int)} (h : RegsOwn w base v vs) (hne : 0 < vs.length) :
    ∃ g cap, v = .slice (some ⟨g, 0, none⟩) vs.length cap ∧ base ≤ g ∧ g < w.heap.size ∧ vs.length ≤ cap ∧ cap ≤ 9223372036854775807 := by
  obtain ⟨_, h | ⟨g, cap, cur, hv, hb, hh, hn, hm, hs, ht⟩⟩ := h
  · omega
  · refine ⟨g, cap, hv, hb, ?_, hn, by unfold maxLen at hm; exact hm⟩
    rcases Nat.lt_or_ge g w.heap.size with h | h
    · exact h
    · rw [Array.getElem?_eq_none h] at hh; cases hh
theorem RegsOwn.vals {w : World} {base : Nat} {v : Value} {vs : List (List UInt8 × Int)} (h : RegsOwn w base v vs) (hL : ∀ j (h : j < vs.length), vs[j].1.length ≤ 9223372036854775807) : ValsAt w v vs := by
  by_cases hne : 0 < vs.length
  · obtain ⟨g, cap, rfl, hb, hg, hn, hm⟩ := h.form hne
    refine ⟨_, cap, rfl, hn, hm, hL, fun _ => ⟨g, 0, rfl, hg, fun j hj => ?_⟩⟩
    rw [Nat.zero_add, World.ownsRow.cellAt h _ (by omega), World.ownsRow.cellAt h _ (by omega)]
    exact valsCells_at vs j hj
  · obtain ⟨_, h | ⟨g, cap, cur, hv, hb, hh, hn, hm, hs, ht⟩⟩ := h
    · exact ⟨none, 0, by rw [h.1, h.2], by omega, by omega, hL, fun h => absurd h hne⟩
    · exact ⟨_, cap, hv, hn, by unfold maxLen at hm; exact hm, hL, fun h => absurd h hne⟩
theorem valInfo : (Tryd.prog.info? 55).map (fun i => (i.zero, i.size, i.bytes)) = some (some (.agg #[.string ⟨#[]⟩, .int .i64 0]), 2, 24) := by kernel_rfl

def tabCells : Array Value := #[.int .i64 1, .func (.func 69) #[] #[], .int .i64 2, .func (.func 70) #[] #[], .int .i64 3, .func (.func 71) #[] #[], .int .i64 4, .func (.func 72) #[] #[], .int .i64 5, .func (.func 73) #[] #[]]
theorem table_c (w : World) : Calls Tryd.prog 49 #[] w fun e w' => e = .returned (.slice (some ⟨w.heap.size, 0, none⟩) 5 5) ∧ w' = w.alloc (.cells tabCells 81 (0, 0)) := by
  go_enter Tryd.func49, Tryd.ntmps49
  go_wp2
  go_ret
  exact ⟨rfl, rfl⟩

def ClonePost (vs : List (List UInt8 × Int)) (w : World) (e : Ending) (w' : World) : Prop := ∃ v, e = .returned v ∧ RegsOwn w' w.heap.size v vs ∧ Below w.heap.size w w'
theorem below_grown {W w w1 : World} {v : Value} {base : Nat} {e : TypeId} {size n : Nat} {xs : List Value} (hb : Below W.heap.size W w) (hown : w.ownsRow base e size v n xs) (hbase : W.heap.size ≤ base) (hg : w.grownBy w1 v.ownBlock) : Below W.heap.size W w1 :=
  ⟨hg.os.trans hb.os, hg.tape.trans hb.tape, hg.output.trans hb.output, Nat.le_trans hb.size hg.size, fun i hi => by
    rw [hg.block i (Nat.lt_of_lt_of_le hi hb.size) (fun e => by
      have := hown.lt i e.symm
      omega)]
    exact hb.block i hi⟩
theorem still_tail {P : Program} {id : Nat} {Q : Exit → Act → World → Prop} {a : Act} {w : World} {l : List Oper} (n : Nat) (hm : P.follows .mixedOrders = true) (hB : Region.lexTailB .any l.toArray n = true)
    (h : wpStill P l.toArray w.drew (fun a' => wpList P l.toArray Q (l.drop n) a' w.drew) (l.take n) a) : (Code.region id l.toArray true).wp P Q a w := wp_region_still_tail n hm hB h
theorem cell_al {B o : Nat} {v : Value} {x : World} (h : x.cell? ⟨B, o, none⟩ = some v) (ob : Obj) : (x.alloc ob).cell? ⟨B, o, none⟩ = some v := cell_go h (alloc_b x ob)
theorem cell_dr {B o : Nat} {v : Value} {x : World} (h : x.cell? ⟨B, o, none⟩ = some v) : x.drew.cell? ⟨B, o, none⟩ = some v := h
set_option maxRecDepth 100000 in
set_option maxHeartbeats 1000000 in
theorem clone_c (v : Value) (vs : List (List UInt8 × Int)) (w : World) (hv : ValsAt w v vs) (h15 : vs.length = 15) :
    Calls Tryd.prog 48 #[v] w (ClonePost vs w) := by
  obtain ⟨i0, hi, hz0, hz1, hz2⟩ := info_parts valInfo
  obtain ⟨A, cap, rfl, ha1, ha2, ha3, ha4⟩ := hv
  obtain ⟨b, o, rfl, hbs, hcell⟩ := ha4 (by omega)
  have hl := valsCells_len vs
  have HC := Lib.hid (valsCells_cell hcell)
  have H1 := Lib.hid (valsCells_one vs)
  have HL := Lib.hid hl
  have hsl := fun (W : World) => Lib.run_eql_slice_nil (P := Tryd.prog) W 45 55 (some ⟨b, o, none⟩) vs.length cap 0 0 Tryd.underlying45
  have H15 := Lib.hid h15
  have hk : vs.length ≤ 15 := by omega
  clear ha3 ha4 hcell hl h15
  go_enter Tryd.func48, Tryd.ntmps48
  go_wp2_with (at_builtin; refine wpList_append_own _ rfl _ _ 45 rfl w.heap.size 55 i0 (.agg #[.string ⟨#[]⟩, .int .i64 0]) 2 24 Tryd.underlying45 hi hz0 hz1 hz2 rfl (by decide) _ 0 [] rfl ?c0 ⟨b, o, none⟩ vs.length cap (valsCells vs) rfl HL.out ?c1 H1.out ?c3 ?c4 ?c5 ?_)
  case c0 => exact World.ownsRow_lit w #[] 0 (Nat.le_refl _) (by unfold maxLen; omega) rfl
  case c1 => exact fun j u hu => by rw [World.cell?_alloc_lt w _ _ (by rw [add_blk]; exact hbs)]; exact HC.out j u hu
  case c3 => unfold maxLen; omega
  case c4 => omega
  case c5 => simp
  intro v1 w1 hown hgr _
  have hown0 := World.ownsRow_lit (e := 55) (size := 2) (base := w.heap.size) w #[] 0 (Nat.le_refl _) (by unfold maxLen; omega) rfl
  have hB := below_grown (alloc_b w _) hown0 (Nat.le_refl _) hgr
  clear hown0 hgr
  go_wp2
  go_ret
  exact ⟨_, rfl, by simpa using hown, hB⟩

abbrev actV (kind : Int) (loc : ByteArray) (value reg fence : Int) : Value := .agg #[.int .i64 kind, .string loc, .int .i64 value, .int .i64 reg, .int .i64 fence]
section
variable (op d a b imm : Int) (loc label : ByteArray) (fence : Int) (w : World) (B : Nat)
set_option maxHeartbeats 1000000
theorem do1_c : Calls Tryd.prog 69 #[insV op d a b imm loc label fence, .pointer (some ⟨B, 0, none⟩)] w fun e w' => e = .returned (.tuple #[actV 3 loc imm 0 0, .int .i64 0]) ∧ Below w.heap.size w w' := by
  go_enter Tryd.func69, Tryd.ntmps69
  go_wp2
  exact bodyPost_ret (v := .tuple #[actV 3 loc imm 0 0, .int .i64 0]) (by simp [results, Tryd.results69, go_sem]) rfl ⟨rfl, below_2 _ _ _⟩
theorem do3_c : Calls Tryd.prog 71 #[insV op d a b imm loc label fence, .pointer (some ⟨B, 0, none⟩)] w fun e w' => e = .returned (.tuple #[actV 2 loc 0 d 0, .int .i64 0]) ∧ Below w.heap.size w w' := by
  go_enter Tryd.func71, Tryd.ntmps71
  go_wp2
  exact bodyPost_ret (v := .tuple #[actV 2 loc 0 d 0, .int .i64 0]) (by simp [results, Tryd.results71, go_sem]) rfl ⟨rfl, below_2 _ _ _⟩
theorem do5_c : Calls Tryd.prog 73 #[insV op d a b imm loc label fence, .pointer (some ⟨B, 0, none⟩)] w fun e w' => e = .returned (.tuple #[actV 4 ⟨#[]⟩ 0 0 1, .int .i64 0]) ∧ Below w.heap.size w w' := by
  go_enter Tryd.func73, Tryd.ntmps73
  go_wp2
  exact bodyPost_ret (v := .tuple #[actV 4 ⟨#[]⟩ 0 0 1, .int .i64 0]) (by simp [results, Tryd.results73, go_sem]) rfl ⟨rfl, below_2 _ _ _⟩
set_option maxRecDepth 100000
theorem do2_y (k : Nat) (hk : k < 15) (g cap : Nat) (n : Int) (_h15 : 15 ≤ cap) (_hcap : cap ≤ 9223372036854775807)
    (q0 : w.cell? ⟨B, 0, none⟩ = some (.slice (some ⟨g, 0, none⟩) 15 cap)) (q1 : w.cell? ⟨g, k * 2, none⟩ = some (.string ⟨#[]⟩)) (q2 : w.cell? ⟨g, k * 2 + 1, none⟩ = some (.int .i64 n)) :
    Calls Tryd.prog 70 #[insV op d k b imm loc label fence, .pointer (some ⟨B, 0, none⟩)] w fun e w' => e = .returned (.tuple #[actV 3 loc n 0 0, .int .i64 0]) ∧ Below w.heap.size w w' := by
  have hk0 : (0 : Int) ≤ (k : Int) := by omega
  have hk1 : (k : Int) < 15 := by omega
  go_enter Tryd.func70, Tryd.ntmps70
  go_wp2_with fail
  go_region_held3 (fun x => x.cell? ⟨B, 0, none⟩ = some (.slice (some ⟨g, 0, none⟩) 15 cap) ∧ x.cell? ⟨g, k * 2, none⟩ = some (.string ⟨#[]⟩) ∧ x.cell? ⟨g, k * 2 + 1, none⟩ = some (.int .i64 n) ∧ x.cell? ⟨w.heap.size, 2, none⟩ = some (.int .i64 (k : Int)))
    (first
      | (refine ⟨?_, ?_, ?_, ?_⟩ <;> repeat (first | exact q0 | exact q1 | exact q2 | exact cell_new _ _ _ _ 2 | (have hh := ‹World.cell? _ _ = _ ∧ _›; first | exact hh.1 | exact hh.2.1 | exact hh.2.2.1 | exact hh.2.2.2) | refine cell_al ?_ _ | refine cell_dr ?_)))
    (fail)
  all_goals
    go_wp2
    exact bodyPost_ret (v := .tuple #[actV 3 loc n 0 0, .int .i64 0]) (by simp [results, Tryd.results70, go_sem]) rfl ⟨rfl, by repeat (first | exact Below.refl _ _ | refine Below.drew ?_ | refine below_alloc ?_ _)⟩
theorem do2_n (k : Nat) (hk : k < 15) (g cap : Nat) (L : List UInt8) (hL : L.isEmpty = false) (n : Int) (_h15 : 15 ≤ cap) (_hcap : cap ≤ 9223372036854775807)
    (q0 : w.cell? ⟨B, 0, none⟩ = some (.slice (some ⟨g, 0, none⟩) 15 cap)) (q1 : w.cell? ⟨g, k * 2, none⟩ = some (.string ⟨L.toArray⟩)) (q2 : w.cell? ⟨g, k * 2 + 1, none⟩ = some (.int .i64 n)) :
    Calls Tryd.prog 70 #[insV op d k b imm loc label fence, .pointer (some ⟨B, 0, none⟩)] w fun e w' => e = .returned (.tuple #[actV 0 ⟨#[]⟩ 0 0 0, .int .i64 92]) ∧ Below w.heap.size w w' := by
  have hk0 : (0 : Int) ≤ (k : Int) := by omega
  have hk1 : (k : Int) < 15 := by omega
  go_enter Tryd.func70, Tryd.ntmps70
  go_wp2_with fail
  go_region_held3 (fun x => x.cell? ⟨B, 0, none⟩ = some (.slice (some ⟨g, 0, none⟩) 15 cap) ∧ x.cell? ⟨g, k * 2, none⟩ = some (.string ⟨L.toArray⟩) ∧ x.cell? ⟨g, k * 2 + 1, none⟩ = some (.int .i64 n) ∧ x.cell? ⟨w.heap.size, 2, none⟩ = some (.int .i64 (k : Int)))
    (first
      | (refine ⟨?_, ?_, ?_, ?_⟩ <;> repeat (first | exact q0 | exact q1 | exact q2 | exact cell_new _ _ _ _ 2 | (have hh := ‹World.cell? _ _ = _ ∧ _›; first | exact hh.1 | exact hh.2.1 | exact hh.2.2.1 | exact hh.2.2.2) | refine cell_al ?_ _ | refine cell_dr ?_)))
    (fail)
  all_goals
    go_wp2
    exact bodyPost_ret (v := .tuple #[actV 0 ⟨#[]⟩ 0 0 0, .int .i64 92]) (by simp [results, Tryd.results70, go_sem]) rfl ⟨rfl, by repeat (first | exact Below.refl _ _ | refine Below.drew ?_ | refine below_alloc ?_ _)⟩
theorem do4_c (k : Nat) (hk : k < 15) (g cap : Nat) (_hB : B < w.heap.size) (_hg : g < w.heap.size) (_h15 : 15 ≤ cap) (_hcap : cap ≤ 9223372036854775807)
    (q0 : w.cell? ⟨B, 0, none⟩ = some (.slice (some ⟨g, 0, none⟩) 15 cap)) (L : List UInt8) (n : Int) (q1 : w.cell? ⟨g, k * 2, none⟩ = some (.string ⟨L.toArray⟩)) (q2 : w.cell? ⟨g, k * 2 + 1, none⟩ = some (.int .i64 n))
    (f1 : w.frozen? ⟨g, k * 2, none⟩ = false) (f2 : w.frozen? ⟨g, k * 2 + 1, none⟩ = false) :
    Calls Tryd.prog 72 #[insV op k a b imm loc label fence, .pointer (some ⟨B, 0, none⟩)] w fun e w' => e = .returned (.tuple #[actV 1 ⟨#[]⟩ 0 0 0, .int .i64 0]) ∧ Below w.heap.size ((w.setCell ⟨g, k * 2, none⟩ (.string ⟨#[]⟩)).setCell ⟨g, k * 2 + 1, none⟩ (.int .i64 imm)) w' := by
  have hk0 : (0 : Int) ≤ (k : Int) := by omega
  have hk1 : (k : Int) < 15 := by omega
  go_enter Tryd.func72, Tryd.ntmps72
  go_wp2_with fail
  refine still_tail 9 (by kernel_rfl) (by kernel_rfl) ?_
  simp only [List.take_succ_cons, List.take_zero, List.drop_succ_cons, List.drop_zero]
  repeat still_step
  refine wpStill_nil ?_
  go_wp2
  exact bodyPost_ret (v := .tuple #[actV 1 ⟨#[]⟩ 0 0 0, .int .i64 0]) (by simp [results, Tryd.results72, go_sem]) rfl ⟨rfl, Below.drew (Below.alloc (Below.alloc (Below.refl w.heap.size _) (by simp [World.setCell]) _) (by simp [World.setCell]) _)⟩
end
end Go.Proofs.YtlpcahkchmlghaaDoor
