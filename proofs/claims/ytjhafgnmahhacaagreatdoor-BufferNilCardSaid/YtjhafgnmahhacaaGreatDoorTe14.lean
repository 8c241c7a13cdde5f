/- Layer 8: slices.Compact at things, whatever neighbours are the same. Layer 8: slices.Compa -/
import Derived.Test.YtjhafgnmahhacaaGreatDoorTe13
import Derived.Lib.SliceRun
import Derived.Lib.SlicesCompact
import Derived.Lib.LazyBuf
import Derived.Deep.Upon
import Derived.Shelf.SlSortCmp.NoneTotal
import Derived.Sort.Walk0
namespace Go.Proofs.YtjhafgnmahhacaaGreatDoor
open Go.RowKit
open Go.Lib (compactUpTo keeps CompInv)
open Go.Sort (sorted_unique_holds flatK size_flatK get_flatK HoldsK)
open Go.Lib (compactUpTo)
theorem neq_thing (x y : Th) (w : World) : (binOp .neq 25 (thVal x.1 x.2.1 x.2.2) (thVal y.1 y.2.1 y.2.2)).run Tryz.prog w = .ok (.bool (!decide (x = y))) w := by
  have hp : Tryz.prog.stoodInHeld 25 = false := by kernel_rfl
  have u3 := Tryz.underlying3
  have a3 := Tryz.isAgg3
  have z3 := Tryz.sizeOf3
  have u9 := Tryz.underlying9
  have a9 := Tryz.isAgg9
  have z9 := Tryz.sizeOf9
  obtain ⟨t, r, l⟩ := x
  obtain ⟨t', r', l'⟩ := y
  rw [run_neq_struct, show (10000 : Nat) = 9999 + 1 from rfl, run_equalIn_agg w 9999 25 _ _ struct_thing hp]
  simp only [Program.fieldsOf, Tryz.underlying25]
  go_simp
  by_cases h1 : t = t' <;> by_cases h2 : r = r' <;> by_cases h3 : l = l' <;> simp [h1, h2, h3]
/-- Things lie at a block, from its head on. -/
def MemTh (w : World) (g : Nat) (d : Array Th) : Prop := (∀ j, j < d.size → w.cell? ⟨g, j * 3, none⟩ = some (.int .i64 (d[j]!).1) ∧ w.cell? ⟨g, j * 3 + 1, none⟩ = some (.int .i64 (d[j]!).2.1) ∧ w.cell? ⟨g, j * 3 + 2, none⟩ = some (.string ⟨(d[j]!).2.2.toArray⟩)) ∧ ∀ o, o < d.size * 3 → w.frozen? ⟨g, o, none⟩ = false
abbrev put3 (w : World) (g k : Nat) (x : Th) : World := ((w.setCell ⟨g, k * 3, none⟩ (.int .i64 x.1)).setCell ⟨g, k * 3 + 1, none⟩ (.int .i64 x.2.1)).setCell ⟨g, k * 3 + 2, none⟩ (.string ⟨x.2.2.toArray⟩)
theorem MemTh.put {w : World} {g k : Nat} {d : Array Th} (h : MemTh w g d) (hk : k < d.size) (x : Th) : MemTh (put3 w g k x) g (d.setIfInBounds k x) := by
  refine ⟨fun j hj => ?_, fun o ho => by rw [World.frozen?_setCell, World.frozen?_setCell, World.frozen?_setCell]; exact h.2 o (by simpa using ho)⟩
  simp only [Array.size_setIfInBounds] at hj
  by_cases e : j = k
  · subst e
    obtain ⟨a, b, c⟩ := h.1 j hj
    rw [Sort.getElem!_set_same d j x hj]
    refine ⟨?_, ?_, ?_⟩
    · exact set_off (set_off (set_same (by rw [a]; rfl)) (by omega)) (by omega)
    · exact set_off (set_same (isSome_set (by rw [b]; rfl))) (by omega)
    · exact set_same (isSome_set (isSome_set (by rw [c]; rfl)))
  · obtain ⟨a, b, c⟩ := h.1 j hj
    rw [Sort.getElem!_set_other d k j x e]
    refine ⟨?_, ?_, ?_⟩
    · exact set_off (set_off (set_off a (by omega)) (by omega)) (by omega)
    · exact set_off (set_off (set_off b (by omega)) (by omega)) (by omega)
    · exact set_off (set_off (set_off c (by omega)) (by omega)) (by omega)
theorem MemTh.drewN {w : World} {g n : Nat} {d : Array Th} (h : MemTh w g d) : MemTh (w.drewN n) g d := h
def zeroTh (n : Nat) : List Value := (Builtin.zeroCells #[.int .i64 0, .int .i64 0, .string ⟨#[]⟩] n).toList
theorem zeroTh_len (n : Nat) : (zeroTh n).length = n * 3 := by simp [zeroTh, Builtin.zeroCells]
theorem zeroTh_one (n : Nat) : ∀ v ∈ zeroTh n, v.oneCell' = true := by
  intro v hv
  simp only [zeroTh, Builtin.zeroCells, Array.toList_map, List.mem_map] at hv
  obtain ⟨i, _, rfl⟩ := hv
  have h3 : i % 3 < 3 := by omega
  have : i % 3 = 0 ∨ i % 3 = 1 ∨ i % 3 = 2 := by omega
  rcases this with e | e | e
  · rw [show (#[Value.int .i64 0, .int .i64 0, .string ⟨#[]⟩] : Array Value).size = 3 from rfl, e]; rfl
  · rw [show (#[Value.int .i64 0, .int .i64 0, .string ⟨#[]⟩] : Array Value).size = 3 from rfl, e]; rfl
  · rw [show (#[Value.int .i64 0, .int .i64 0, .string ⟨#[]⟩] : Array Value).size = 3 from rfl, e]; rfl
theorem run_clear_th (w : World) (ty : TypeId) (b o n c : Nat) (hn : 0 < n) (hc : ∀ j, j < n * 3 → (w.cell? ⟨b, o + j, none⟩).isSome = true) (hf : ∀ j, j < n * 3 → w.frozen? ⟨b, o + j, none⟩ = false) :
    (Builtin.clear_ #[38] ty #[.slice (some ⟨b, o, none⟩) n c]).run Tryz.prog w = .ok (.tuple #[]) (w.setCells b o (zeroTh n)) := by
  have hst := run_storeCells_cells (P := Tryz.prog) b o (zeroTh n) 0 w (by rw [zeroTh_len]; simpa using hc) (by rw [zeroTh_len]; simpa using hf) (zeroTh_one n)
  simp only [Nat.add_zero] at hst
  obtain ⟨m, rfl⟩ : ∃ m, n = m + 1 := ⟨n - 1, by omega⟩
  have hz : (Builtin.zeroCells (Value.agg #[.int .i64 0, .int .i64 0, .string ⟨#[]⟩]).cells (m + 1)).toList = zeroTh (m + 1) := rfl
  simp [Builtin.clear_, run_underlying Tryz.underlying38, hz, hst]
theorem only_setCells (g : Nat) : ∀ (vs : List Value) (o : Nat) (a w : World), Only g a w → Only g a (w.setCells g o vs)
  | [], _, _, _, h => h
  | v :: r, o, a, w, h => only_setCells g r (o + 1) a (w.setCell ⟨g, o, none⟩ v) (h.set o v)
def CPost (d : Array Th) (g cap : Nat) (w : World) (e : Ending) (w' : World) : Prop := e = .returned (.slice (some ⟨g, 0, none⟩) (compactUpTo d d.size).length cap) ∧ ThsAt w' g (compactUpTo d d.size) ∧ Only g w w'
theorem CPost.same {d : Array Th} {g cap : Nat} {w w' : World} (hM : MemTh w g d) (hall : ∀ j, j < d.size → keeps d j = true) (ho : Below w.heap.size w w') (_hg : g < w.heap.size) : CPost d g cap w (.returned (.slice (some ⟨g, 0, none⟩) d.size cap)) w' := by
  have e : compactUpTo d d.size = d.toList := by rw [Lib.compactUpTo_all d _ hall, Lib.range_map_get]
  refine ⟨by rw [e]; rfl, ?_, Only.of_below ho⟩
  rw [e]
  intro i x hx
  obtain ⟨hi, hxe⟩ := List.getElem?_eq_some_iff.1 hx
  have hi' : i < d.size := by simpa using hi
  have hx' : d[i]! = x := by rw [getElem!_pos d i hi', ← hxe]; rfl
  obtain ⟨a, b, c⟩ := hM.1 i hi'
  rw [hx'] at a b c
  exact ⟨cell_go a ho, cell_go b ho, cell_go c ho⟩
theorem CPost.dup {d dk : Array Th} {g cap kk : Nat} {w wr : World} (hI : CompInv d d.size kk dk) (hM : MemTh wr g dk) (ho : Only g w wr) (n : Nat) : CPost d g cap w (.returned (.slice (some ⟨g, 0, none⟩) kk cap)) (wr.setCells g (kk * 3) (zeroTh n)) := by
  refine ⟨by rw [hI.len], fun i x hx => ?_, only_setCells _ _ _ _ _ ho⟩
  obtain ⟨hi, _⟩ := List.getElem?_eq_some_iff.1 hx
  rw [hI.len] at hi
  have hlow := hI.low i hi
  rw [hx] at hlow
  injection hlow with hlow
  have hkk := hI.lt
  have hsz := hI.size
  obtain ⟨a, b, c⟩ := hM.1 i (by omega)
  rw [← hlow] at a b c
  refine ⟨?_, ?_, ?_⟩
  · rw [World.cell?_setCells_out g _ _ _ _ (fun _ _ => .inl (by dsimp only; omega))]; exact a
  · rw [World.cell?_setCells_out g _ _ _ _ (fun _ _ => .inl (by dsimp only; omega))]; exact b
  · rw [World.cell?_setCells_out g _ _ _ _ (fun _ _ => .inl (by dsimp only; omega))]; exact c
section
variable {w : World}
set_option maxHeartbeats 2000000 in
set_option maxRecDepth 100000 in
theorem compactG (g cap : Nat) (d : Array Th) (hlen : d.size ≤ 1000000) (hcap : d.size ≤ cap) (hM : MemTh w g d) (hg : g < w.heap.size) :
    Calls Tryz.prog 205 #[.slice (some ⟨g, 0, none⟩) d.size cap] w (CPost d g cap w) := by
  have HM := Lib.hid hM
  clear hM
  by_cases h2 : d.size < 2
  · have HS := Lib.hid (CPost.same (cap := cap) HM.out (fun j hj => Lib.keeps_lt_one d j (by omega)) (Below.refl _ _) hg)
    go_enter Tryz.func205, Tryz.ntmps205
    go_wp2_with fail
    go_ret
    exact HS.out
  · have hd2 : decide (d.size < 2) = false := by simpa using h2
    go_enter Tryz.func205, Tryz.ntmps205
    go_wp2_with fail
    go_loopw [3] (fun i wr => ∃ j : Nat, 1 ≤ j ∧ j ≤ d.size ∧ i = .int .i64 j ∧ Below w.heap.size w wr ∧ ∀ i, i < j → keeps d i = true) (fun i _ => d.size - (intOf i).toNat)
    case atStart => exact ⟨1, Nat.le_refl _, by omega, rfl, Below.refl _ _, Lib.keeps_lt_one d⟩
    case round =>
      obtain ⟨j, hj1, hj, rfl, hb, hall⟩ := hrel
      have HB := Lib.hid hb
      have HALL := Lib.hid hall
      clear hb hall
      by_cases hlt : j < d.size
      · obtain ⟨b0, b1, b2⟩ := HM.out.1 (j - 1) (by omega)
        obtain ⟨c0, c1, c2⟩ := HM.out.1 j hlt
        obtain ⟨y, hy⟩ : ∃ y, d[j]! = y := ⟨_, rfl⟩
        obtain ⟨x, hx⟩ : ∃ x, d[j - 1]! = x := ⟨_, rfl⟩
        rw [hx] at b0 b1 b2
        rw [hy] at c0 c1 c2
        have HXY := Lib.hid (show d[j]! = y ∧ d[j - 1]! = x from ⟨hy, hx⟩)
        have b0r := cell_go b0 HB.out
        have b1r := cell_go b1 HB.out
        have b2r := cell_go b2 HB.out
        have c0r := cell_go c0 HB.out
        have c1r := cell_go c1 HB.out
        have c2r := cell_go c2 HB.out
        have i0 : (1 : Int) ≤ (j : Int) := by omega
        have i1 : ((j : Int) - 1).toNat = j - 1 := by omega
        have i2 : (0 : Int) ≤ (j : Int) - 1 := by omega
        have i3 : (j : Int) - 1 < (d.size : Int) := by omega
        have i4 : IntKind.i64.wrap ((j : Int) - 1) = (j : Int) - 1 := IntWalk.i64_in _ (by omega)
        have hl1 : (j : Int) < (d.size : Int) := by omega
        have hgd := fun (w : World) (op : BinOp) (x y : Operand) (xs ys : Array Value) => run_eqGuard_agg (P := Tryz.prog) w op 25 x y xs ys guard_thing
        clear hx hy b0 b1 b2 c0 c1 c2
        by_cases hdup : y = x
        · subst hdup
          have heq : ∀ w, (binOp .eql 25 (thVal y.1 y.2.1 y.2.2) (thVal y.1 y.2.1 y.2.2)).run Tryz.prog w = .ok (.bool true) w := fun w => by rw [eql_thing, decide_eq_true rfl]
          go_wp2_with fail
          go_quiet (fail)
          go_wp2_with fail
          have HST := Lib.hid (CompInv.start HALL.out (Lib.keeps_neg (d := d) (m := j) (by omega) (by rw [HXY.out.1, HXY.out.2])))
          clear b0r b1r b2r c0r c1r c2r
          have HM0 := Lib.hid (show MemTh wr g d from ⟨fun j hj => ⟨cell_go (HM.out.1 j hj).1 HB.out, cell_go (HM.out.1 j hj).2.1 HB.out, cell_go (HM.out.1 j hj).2.2 HB.out⟩, fun o ho => fr_go (HM.out.2 o ho) hg HB.out⟩)
          have HO0 := Lib.hid (show Only g w (wr.drewN nq) from Only.of_below (below_drewN HB.out nq))
          have HM1 := Lib.hid (show MemTh (wr.drewN nq) g d from HM0.out)
          generalize wr.drewN nq = W0 at HO0 HM1
          clear HM0 HB HALL
          go_loopw [3, 5] (fun s3 s5 w2 => ∃ (kk k2 : Nat) (dk : Array Th), s3 = .int .i64 kk ∧ s5 = .int .i64 k2 ∧ 1 ≤ k2 ∧ j + k2 ≤ d.size ∧ Only g w w2 ∧ MemTh w2 g dk ∧ CompInv d (j + k2) kk dk) (fun _ s5 _ => d.size - (intOf s5).toNat)
          case atStart => exact ⟨j, 1, d, rfl, rfl, Nat.le_refl _, by omega, HO0.out, HM1.out, HST.out⟩
          case round =>
            obtain ⟨kk, k2, dk, rfl, rfl, h1, hle, hon, hmm, hI⟩ := hrel
            have hkk := hI.lt
            have hds := hI.size
            have HON := Lib.hid hon
            have HMM := Lib.hid hmm
            have HI := Lib.hid hI
            clear hon hmm hI
            by_cases hlt2 : j + k2 < d.size
            · obtain ⟨p0, p1, p2⟩ := HMM.out.1 (j + k2 - 1) (by omega)
              obtain ⟨q0, q1, q2⟩ := HMM.out.1 (j + k2) (by omega)
              obtain ⟨o0, o1, o2⟩ := HMM.out.1 kk (by omega)
              obtain ⟨v, hv⟩ : ∃ v, d[j + k2]! = v := ⟨_, rfl⟩
              obtain ⟨u, hu⟩ : ∃ u, d[j + k2 - 1]! = u := ⟨_, rfl⟩
              rw [HI.out.high _ (by omega), hu] at p0 p1 p2
              rw [HI.out.high _ (by omega), hv] at q0 q1 q2
              rw [show (j + k2 - 1) * 3 = j * 3 + (k2 - 1) * 3 by omega] at p0 p1 p2
              rw [show (j + k2) * 3 = j * 3 + k2 * 3 by omega] at q0 q1 q2
              have z0 := HMM.out.2 (kk * 3) (by omega)
              have z1 := HMM.out.2 (kk * 3 + 1) (by omega)
              have z2 := HMM.out.2 (kk * 3 + 2) (by omega)
              have HUV := Lib.hid (show d[j + k2]! = v ∧ d[j + k2 - 1]! = u from ⟨hv, hu⟩)
              have g0 : (1 : Int) ≤ (k2 : Int) := by omega
              have g1 : ((k2 : Int) - 1).toNat = k2 - 1 := by omega
              have g2 : (0 : Int) ≤ (k2 : Int) - 1 := by omega
              have g3 : (k2 : Int) - 1 < ((d.size - j : Nat) : Int) := by omega
              have g4 : IntKind.i64.wrap ((k2 : Int) - 1) = (k2 : Int) - 1 := IntWalk.i64_in _ (by omega)
              have g5 : (k2 : Int) < ((d.size - j : Nat) : Int) := by omega
              have g6 : (kk : Int) < (d.size : Int) := by omega
              clear hv hu
              by_cases huv : v = u
              · subst huv
                have hne : ∀ w, (binOp .neq 25 (thVal v.1 v.2.1 v.2.2) (thVal v.1 v.2.1 v.2.2)).run Tryz.prog w = .ok (.bool false) w := fun w => by rw [neq_thing, decide_eq_true rfl]; rfl
                go_wp2_with fail
                go_quiet (fail)
                go_wp2_with fail
                go_roundw
                case rel => exact ⟨kk, k2 + 1, dk, rfl, by go_num, by omega, by omega, only_drewN HON.out _, HMM.out, HI.out.skip (Lib.keeps_neg (by omega) (by rw [HUV.out.1, HUV.out.2]))⟩
                case measure => simp [intOf]; omega
              · have hne : ∀ w, (binOp .neq 25 (thVal v.1 v.2.1 v.2.2) (thVal u.1 u.2.1 u.2.2)).run Tryz.prog w = .ok (.bool true) w := fun w => by rw [neq_thing, decide_eq_false huv]; rfl
                go_wp2_with fail
                go_quiet (fail)
                go_wp2_with fail
                go_roundw
                case rel => exact ⟨kk + 1, k2 + 1, dk.setIfInBounds kk v, by go_num, by go_num, by omega, by omega, Only.set (Only.set (Only.set (only_drewN HON.out _) _ _) _ _) _ _, (MemTh.drewN HMM.out).put (by omega) v, by have := HI.out.keep hlt2 (Lib.keeps_pos (by rw [HUV.out.1, HUV.out.2]; exact huv)); rwa [HUV.out.1] at this⟩
                case measure => simp [intOf]; omega
            · have hend : j + k2 = d.size := by omega
              have hI := HI.out
              rw [hend] at hI
              have HRES := Lib.hid (CPost.dup (cap := cap) hI HMM.out HON.out (d.size - kk))
              have hks : kk < d.size := hI.lt
              have hcl : ∀ ty, (Builtin.clear_ #[38] ty #[.slice (some ⟨g, kk * 3, none⟩) (d.size - kk) (cap - kk)]).run Tryz.prog wr = .ok (.tuple #[]) (wr.setCells g (kk * 3) (zeroTh (d.size - kk))) := fun ty =>
                run_clear_th wr ty g (kk * 3) (d.size - kk) (cap - kk) (by omega) (fun i hi => by
                  obtain ⟨m, hm⟩ : ∃ m, kk * 3 + i = m := ⟨_, rfl⟩
                  rw [hm]
                  obtain ⟨a, b, c⟩ := HMM.out.1 (m / 3) (by omega)
                  have h3 : m % 3 = 0 ∨ m % 3 = 1 ∨ m % 3 = 2 := by omega
                  rcases h3 with h3 | h3 | h3
                  · rw [show m / 3 * 3 = m by omega] at a; rw [a]; rfl
                  · rw [show m / 3 * 3 + 1 = m by omega] at b; rw [b]; rfl
                  · rw [show m / 3 * 3 + 2 = m by omega] at c; rw [c]; rfl) (fun i _ => HMM.out.2 _ (by omega))
              clear hI
              go_wp2_with fail
              go_ret
              exact HRES.out
        · have heq : ∀ w, (binOp .eql 25 (thVal y.1 y.2.1 y.2.2) (thVal x.1 x.2.1 x.2.2)).run Tryz.prog w = .ok (.bool false) w := fun w => by rw [eql_thing, decide_eq_false hdup]
          have HK := Lib.hid (Lib.keeps_pos (d := d) (m := j) (by rw [HXY.out.1, HXY.out.2]; exact hdup))
          go_wp2_with fail
          go_quiet (fail)
          go_wp2_with fail
          go_roundw
          case rel => exact ⟨j + 1, by omega, by omega, by go_num, below_drewN HB.out _, fun i hi => by
            by_cases e : i = j
            · rw [e]; exact HK.out
            · exact HALL.out i (by omega)⟩
          case measure => simp [intOf]; omega
      · have hje : j = d.size := by omega
        have HS := Lib.hid (CPost.same (cap := cap) HM.out (fun i hi => HALL.out i (by omega)) HB.out hg)
        go_wp2_with fail
        go_ret
        exact HS.out
end
/-- The things, in order, each once. -/
def thsU (L : List Th) : List Th := compactUpTo (sortT L).toArray (sortT L).toArray.size
theorem holds_mem {w : World} {g : Nat} {d : Array VTh} {T : List Th} (hH : HoldsK encT 3 w g 0 d) (hT : d.toList.map valV = T) : MemTh w g T.toArray := by
  have hc := holds_cells hH hT
  have hsz : d.size = T.length := by rw [← hT]; simp
  refine ⟨fun j hj => ?_, fun o ho => ?_⟩
  · have hj' : j < T.length := by simpa using hj
    have := hc j T[j] (List.getElem?_eq_getElem hj')
    rw [getElem!_pos T.toArray j hj]
    simpa using this
  · have := (hH o (by rw [size_flatK, hsz]; simpa using ho)).2
    rwa [Nat.zero_add] at this
theorem sortM {w : World} {B g cap : Nat} {L : List Th} (hv : ∀ x ∈ L, vthB x) (hlen : L.length ≤ 1000000) (ho : w.ownsRow B 25 3 (.slice (some ⟨g, 0, none⟩) L.length cap) L.length (thCells L)) :
    Calls Tryz.prog 203 #[.slice (some ⟨g, 0, none⟩) L.length cap, .func (.func 204) #[] #[]] w fun e w' =>
      e = .returned (.tuple #[]) ∧ Below B w w' ∧ (∀ i, i < w.heap.size → i ≠ g → w'.heap[i]? = w.heap[i]?) ∧ MemTh w' g (sortT L).toArray := by
  have hH := holds_own hv ho
  have hg := ho.lt g rfl
  have hsz : (toV L hv).toArray.size = L.length := by simp [toV_len]
  have h := sortP g cap (toV L hv).toArray w hH hg.2 (by omega)
  rw [hsz] at h
  refine h.mono ?_
  rintro e w' ⟨rfl, d', n, os, hP, hSo, rfl⟩
  refine ⟨rfl, sort_below hg.1 hg.2, fun i hi hne => sort_other hi hne, ?_⟩
  have hd : d'.size = (toV L hv).toArray.size := by rw [hsz]; exact hP.1.trans hsz
  refine holds_mem (holdsK_sortWorldK_c encT 3 w g 0 (toV L hv).toArray d' n os hH hg.2 hd) ?_
  have := sorted_unique_holds ltT_swo ltT_total (toV L hv).toArray d' (by rw [hsz]; exact hP) (by rw [hsz]; exact hSo)
  rw [this]
  exact toV_sort L hv
theorem sortNone (A : Option Addr) (cap : Nat) (w : World) : Calls Tryz.prog 203 #[.slice A 0 cap, .func (.func 204) #[] #[]] w fun e w' => e = .returned (.tuple #[]) ∧ w' = w :=
  AnyF.slices_SortFunc_none Tryz.sortTh A cap _ w
theorem compactNone (A : Option Addr) (cap : Nat) (w : World) : Calls Tryz.prog 205 #[.slice A 0 cap] w fun e w' => e = .returned (.slice A 0 cap) ∧ w = w' := by
  go_enter Tryz.func205, Tryz.ntmps205
  go_wp2_with fail
  go_ret
  exact ⟨rfl, rfl⟩
/-- A slice of things. -/
def ThsA (w : World) (A : Option Addr) (T : List Th) : Prop := ∀ i x, T[i]? = some x → ∃ g, A = some ⟨g, 0, none⟩ ∧ w.cell? ⟨g, i * 3, none⟩ = some (.int .i64 x.1) ∧ w.cell? ⟨g, i * 3 + 1, none⟩ = some (.int .i64 x.2.1) ∧ w.cell? ⟨g, i * 3 + 2, none⟩ = some (.string ⟨x.2.2.toArray⟩)
def Flat (A : Option Addr) : Prop := A = none ∨ ∃ g, A = some ⟨g, 0, none⟩
theorem thsU_eq (L : List Th) : thsU L = compactUpTo (sortT L).toArray L.length := by simp [thsU, sortT_len]
theorem thsU_nil : thsU [] = [] := by simp [thsU, sortT, compactUpTo]
def TG (L : List Th) (w : World) (e : Ending) (w' : World) : Prop := ∃ A cap, e = .returned (.slice A (thsU L).length cap) ∧ Flat A ∧ ThsA w' A (thsU L) ∧ Below w.heap.size w w'
def OwnTh (w w' : World) (v : Value) (T : List Th) : Prop := w'.ownsRow w.heap.size 25 3 v T.length (thCells T)
theorem cloneG {w : World} (A : Option Addr) (cap : Nat) (T : List Th) (hlen : T.length ≤ 1000000) (hf : Flat A) (h : ThsA w A T) :
    Calls Tryz.prog 133 #[.slice A T.length cap] w fun e w' => ∃ v, e = .returned v ∧ OwnTh w w' v T ∧ Below w.heap.size w w' := by
  rcases hf with rfl | ⟨g, rfl⟩
  · have hT : T = [] := by
      cases T with
      | nil => rfl
      | cons x r =>
        obtain ⟨_, e, _⟩ := h 0 x rfl
        cases e
    subst hT
    refine (AnyE.slices_Clone_nil Tryz.cloneTh _ _ _).mono ?_
    rintro e w' ⟨rfl, rfl⟩
    exact ⟨_, rfl, World.ownsRow_nil _ _ _ _, Below.refl _ _⟩
  · obtain ⟨i0, hi, hz0, hz1, hz2⟩ := info_parts infoThing
    have hat : ThsAt w g T := fun i x hx => by
      obtain ⟨g', e, a⟩ := h i x hx
      injection e with e
      injection e with e
      subst e
      exact a
    refine (AnyE.slices_Clone Tryz.cloneTh i0 _ 3 32 hi hz0 hz1 hz2 rfl (by decide) Tryz.sizeOf25 g 0 T.length cap (thCells T) w (thCells_len T) (by unfold maxLen; omega) (by omega) (thCells_of hat) (oneTh T)).mono ?_
    rintro e w' ⟨v', rfl, ho, _, hb⟩
    exact ⟨v', rfl, ho, hb⟩
theorem own_ths {w : World} {B n : Nat} {v : Value} {T : List Th} (h : w.ownsRow B 25 3 v n (thCells T)) (hn : n = T.length) : ∃ A cap, v = .slice A n cap ∧ Flat A ∧ ThsA w A T := by
  subst hn
  rcases h.2 with ⟨rfl, h0⟩ | ⟨g, cap, cur, rfl, _⟩
  · have hT : T = [] := List.eq_nil_of_length_eq_zero h0
    subst hT
    exact ⟨none, 0, rfl, .inl rfl, fun i x hx => by simp at hx⟩
  · exact ⟨_, cap, rfl, .inr ⟨g, rfl⟩, fun i x hx => by
      have := ths_own h i x hx
      exact ⟨g, rfl, this⟩⟩
theorem own_cap {w : World} {B : Nat} {t : TypeId} {z n g cap : Nat} {cs : List Value} (h : w.ownsRow B t z (.slice (some ⟨g, 0, none⟩) n cap) n cs) : n ≤ cap := by
  rcases h.2 with ⟨e, _⟩ | ⟨g', cap', cur, e, _, _, hc1, _⟩
  · cases e
  · injection e with _ _ e3
    omega
section
variable {w : World} {k t r v : Int} {l : List UInt8} {kids : Fr}
set_option maxHeartbeats 2000000 in
set_option maxRecDepth 100000 in
theorem thingsG_some (hi : Nat) (kv : Value) (hhi : hi ≤ w.heap.size) (hs : SlAt w hi kv kids) (hl : l.length ≤ 9223372036854775807) (hall : 1 + kids.all ≤ 1000000)
    (hv : ∀ x ∈ atL k t r l ++ atomsF kids, vthB x) (hne : 0 < (atL k t r l ++ atomsF kids).length) :
    Calls Tryz.prog 134 #[nodeV k t r l v kv] w (TG (atL k t r l ++ atomsF kids) w) := by
  obtain ⟨A, cap, rfl, s'⟩ := hs
  have hs2 : SlAt w hi (.slice A kids.len cap) kids := ⟨A, cap, rfl, s'⟩
  have hat1 : (atL k t r l).length ≤ 1 := by unfold atL; split <;> simp
  have haf1 := atomsF_len kids
  have hnl : (atL k t r l ++ atomsF kids).length ≤ 1000000 := by simp; omega
  obtain ⟨L, hL⟩ : ∃ L, atL k t r l ++ atomsF kids = L := ⟨_, rfl⟩
  rw [hL] at hnl hv hne ⊢
  have HLL := Lib.hid hL
  have HNL := Lib.hid hnl
  have HV := Lib.hid hv
  have hb2 := ((alloc_b w (.cells #[.int .i64 k, .int .i64 t, .int .i64 r, .string ⟨l.toArray⟩, .int .i64 v, .slice A kids.len cap] 28 (0, 0))).alloc (by simp) (.cells #[.slice none 0 0] 38 (0, 0)))
  have HB2 := Lib.hid hb2
  have HS := Lib.hid (hs2.below hhi hb2)
  have hbn := Blk.new (w.alloc (.cells #[.int .i64 k, .int .i64 t, .int .i64 r, .string ⟨l.toArray⟩, .int .i64 v, .slice A kids.len cap] 28 (0, 0))) 38 #[.slice none 0 0]
  have HACC := Lib.hid (show Acc ((w.alloc (.cells #[.int .i64 k, .int .i64 t, .int .i64 r, .string ⟨l.toArray⟩, .int .i64 v, .slice A kids.len cap] 28 (0, 0))).alloc (.cells #[.slice none 0 0] 38 (0, 0))) (w.heap.size + 1) [] from ⟨_, by simpa using hbn, ⟨by simp [thCells], .inl ⟨rfl, rfl⟩⟩⟩)
  clear hs2 s' hv hb2 hbn hat1 haf1 hL hnl
  have HNE := Lib.hid hne
  clear hne
  go_enter Tryz.func134, Tryz.ntmps134
  go_wp2_with (go_at_call 201; refine (nodeA_all _ (w.heap.size + 1) hi _ [] (by omega) HACC.out HS.out hl (by simp; omega)).mono ?_; rintro e w3 ⟨rfl, ha3, hb3⟩; rw [List.nil_append, HLL.out] at ha3; obtain ⟨u, hbl, hown⟩ := ha3; obtain ⟨g, cu, rfl⟩ := own_some hown HNE.out; have c0 := hbl.cell 0; have HBL := Lib.hid hbl; have HOW := Lib.hid hown; have HB3 := Lib.hid hb3; have hz3 := hb3.size; simp at hz3; clear hbl hown hb3)
  go_wp2_with (go_at_call 203; refine (sortM HV.out HNL.out HOW.out).mono ?_; rintro e w4 ⟨rfl, hb4, hk4, ht4⟩; have hgl := HOW.out.lt g rfl; have hB4 : Blk w4 (w.heap.size + 1) 38 #[.slice (some ⟨g, 0, none⟩) L.length cu] := (hk4 _ (by omega) (by omega)).trans HBL.out; have c1 := hB4.cell 0; have HB4 := Lib.hid hb4; have HT4 := Lib.hid ht4; have hz4 := hb4.size; clear hb4 hk4 ht4 hB4)
  have hsz : (sortT L).toArray.size = L.length := by simp [sortT_len]
  have hcp := compactG g cu (sortT L).toArray (by rw [hsz]; exact HNL.out) (by rw [hsz]; exact own_cap HOW.out) HT4.out (by omega)
  rw [hsz] at hcp
  have HCP := Lib.hid hcp
  clear hcp
  go_wp2_with (go_at_call 205; refine HCP.out.mono ?_; rintro e w5 ⟨rfl, ht5, ho5⟩)
  go_ret
  have hgl := HOW.out.lt g rfl
  have hb34 := (HB3.out.mono (Nat.le_succ w.heap.size)).trans (HB4.out.mono (show w.heap.size ≤ w.heap.size + 1 + 1 by omega))
  exact ⟨some ⟨g, 0, none⟩, cu, by rw [thsU_eq]; rfl, .inr ⟨g, rfl⟩, fun i x hx => ⟨g, rfl, ht5 i x hx⟩, Only.below (HB2.out.trans hb34) (by omega) ho5⟩
set_option maxHeartbeats 2000000 in
set_option maxRecDepth 100000 in
theorem thingsG_none (hi : Nat) (kv : Value) (hhi : hi ≤ w.heap.size) (hs : SlAt w hi kv kids) (hl : l.length ≤ 9223372036854775807) (hall : 1 + kids.all ≤ 1000000)
    (hv : ∀ x ∈ atL k t r l ++ atomsF kids, vthB x) (hne : atL k t r l ++ atomsF kids = []) :
    Calls Tryz.prog 134 #[nodeV k t r l v kv] w (TG (atL k t r l ++ atomsF kids) w) := by
  obtain ⟨A, cap, rfl, s'⟩ := hs
  have hs2 : SlAt w hi (.slice A kids.len cap) kids := ⟨A, cap, rfl, s'⟩
  have hat1 : (atL k t r l).length ≤ 1 := by unfold atL; split <;> simp
  have haf1 := atomsF_len kids
  have hnl : (atL k t r l ++ atomsF kids).length ≤ 1000000 := by simp; omega
  obtain ⟨L, hL⟩ : ∃ L, atL k t r l ++ atomsF kids = L := ⟨_, rfl⟩
  rw [hL] at hnl hv hne ⊢
  have HLL := Lib.hid hL
  have HNL := Lib.hid hnl
  have HV := Lib.hid hv
  have hb2 := ((alloc_b w (.cells #[.int .i64 k, .int .i64 t, .int .i64 r, .string ⟨l.toArray⟩, .int .i64 v, .slice A kids.len cap] 28 (0, 0))).alloc (by simp) (.cells #[.slice none 0 0] 38 (0, 0)))
  have HB2 := Lib.hid hb2
  have HS := Lib.hid (hs2.below hhi hb2)
  have hbn := Blk.new (w.alloc (.cells #[.int .i64 k, .int .i64 t, .int .i64 r, .string ⟨l.toArray⟩, .int .i64 v, .slice A kids.len cap] 28 (0, 0))) 38 #[.slice none 0 0]
  have HACC := Lib.hid (show Acc ((w.alloc (.cells #[.int .i64 k, .int .i64 t, .int .i64 r, .string ⟨l.toArray⟩, .int .i64 v, .slice A kids.len cap] 28 (0, 0))).alloc (.cells #[.slice none 0 0] 38 (0, 0))) (w.heap.size + 1) [] from ⟨_, by simpa using hbn, ⟨by simp [thCells], .inl ⟨rfl, rfl⟩⟩⟩)
  clear hs2 s' hv hb2 hbn hat1 haf1 hL hnl
  subst hne
  go_enter Tryz.func134, Tryz.ntmps134
  go_wp2_with (first
    | (go_at_call 205; (with_reducible refine (compactNone _ _ _).mono ?_); rintro e w5 ⟨rfl, rfl⟩)
    | (go_at_call 203; (with_reducible refine (sortNone _ _ _).mono ?_); rintro e w4 ⟨rfl, rfl⟩)
    | (go_at_call 201; refine (nodeA_all _ (w.heap.size + 1) hi _ [] (by omega) HACC.out HS.out hl (by simp; omega)).mono ?_; rintro e w3 ⟨rfl, ha3, hb3⟩; rw [List.nil_append, HLL.out] at ha3; obtain ⟨u, hbl, hown⟩ := ha3; obtain ⟨Au, cu, rfl, hfl, hth⟩ := own_ths hown rfl; have c0 := hbl.cell 0; have HTH := Lib.hid hth; have HFL := Lib.hid hfl; have HB3 := Lib.hid hb3; have hz3 := hb3.size; simp at hz3; clear hbl hown hb3 hth hfl))
  go_ret
  exact ⟨Au, cu, by rw [thsU_nil]; rfl, HFL.out, by rw [thsU_nil]; exact HTH.out, HB2.out.trans (HB3.out.mono (Nat.le_succ w.heap.size))⟩
theorem thingsG (hi : Nat) (kv : Value) (hhi : hi ≤ w.heap.size) (hs : SlAt w hi kv kids) (hl : l.length ≤ 9223372036854775807) (hall : 1 + kids.all ≤ 1000000)
    (hv : ∀ x ∈ atL k t r l ++ atomsF kids, vthB x) :
    Calls Tryz.prog 134 #[nodeV k t r l v kv] w (TG (atL k t r l ++ atomsF kids) w) := by
  by_cases hne : 0 < (atL k t r l ++ atomsF kids).length
  · exact thingsG_some hi kv hhi hs hl hall hv hne
  · exact thingsG_none hi kv hhi hs hl hall hv (List.eq_nil_of_length_eq_zero (by omega))
end
end Go.Proofs.YtjhafgnmahhacaaGreatDoor
namespace Go.Proofs.YtjhafgnmahhacaaGreatDoor
open Go.RowKit
open Go.Lib (compactUpTo keeps)
theorem all_size : ∀ f : Fr, f.all = f.size
  | .nil => rfl
  | .cons _ _ _ _ _ kids rest => by simp only [Fr.all, Fr.size, all_size kids, all_size rest]; omega
theorem atL_ok {k t r : Int} {l : List UInt8} {v : Int} {n : Nat} (h : ownB 2 k t r l v n = true) : ∀ x ∈ atL k t r l, vthB x := by
  intro x hx
  unfold atL at hx
  split at hx
  · rename_i h2
    simp only [List.mem_singleton] at hx
    subst hx
    unfold ownB at h
    rw [if_pos h2] at h
    simp only [Bool.and_eq_true] at h
    exact h.1.1
  · simp at hx
theorem atomsF_ok : ∀ f : Fr, okF 2 f → ∀ x ∈ atomsF f, vthB x
  | .nil, _, x, hx => by simp [atomsF] at hx
  | .cons k t r l v kids rest, h, x, hx => by
    simp only [atomsF, List.mem_append] at hx
    rcases hx with (hx | hx) | hx
    · exact atL_ok h.1 x hx
    · exact atomsF_ok kids h.2.1 x hx
    · exact atomsF_ok rest h.2.2 x hx
/-- What a condition that may be is made of. -/
theorem cond_ok {q k t r : Int} {l : List UInt8} {v : Int} {kids : Fr} (h : checkC 2 q k t r l v kids = 0) : ownB 2 k t r l v kids.len = true ∧ okF 2 kids ∧ 1 + kids.all ≤ 1000000 ∧ (∀ x ∈ atL k t r l ++ atomsF kids, vthB x) ∧ (atL k t r l ++ atomsF kids).length ≤ 1024 := by
  obtain ⟨_, _, _, h1, h2, h3⟩ := checkC_ok h
  have ha := all_size kids
  have hn := atomsF_len kids
  have h4 : (atL k t r l).length ≤ 1 := by unfold atL; split <;> simp
  refine ⟨h1, h2, by omega, fun x hx => ?_, by simp; omega⟩
  rcases List.mem_append.1 hx with hx | hx
  · exact atL_ok h1 x hx
  · exact atomsF_ok kids h2 x hx
theorem compact_sub {α : Type} [Inhabited α] [DecidableEq α] (d : Array α) : ∀ m, m ≤ d.size → ∀ x ∈ Lib.compactUpTo d m, x ∈ d.toList := by
  intro m
  induction m with
  | zero => intro _ x hx; simp [Lib.compactUpTo] at hx
  | succ m ih =>
    intro hm x hx
    rw [Lib.compactUpTo_succ] at hx
    rcases List.mem_append.1 hx with hx | hx
    · exact ih (by omega) x hx
    · split at hx
      · simp only [List.mem_singleton] at hx
        subst hx
        rw [getElem!_pos d m (by omega)]
        simp
      · simp at hx
theorem compact_le {α : Type} [Inhabited α] [DecidableEq α] (d : Array α) : ∀ m, (Lib.compactUpTo d m).length ≤ m := by
  intro m
  induction m with
  | zero => simp [Lib.compactUpTo]
  | succ m ih =>
    rw [Lib.compactUpTo_succ, List.length_append]
    split <;> simp <;> omega
theorem thsU_len (L : List Th) : (thsU L).length ≤ L.length := by
  have := compact_le (sortT L).toArray (sortT L).toArray.size
  simpa [thsU, sortT_len] using this
theorem thsU_sub (L : List Th) : ∀ x ∈ thsU L, x ∈ L := fun x hx => (sortT_perm L).mem_iff.1 (by simpa using compact_sub (sortT L).toArray _ (Nat.le_refl _) x hx)
/-- What Things answers: the things, or none and why. -/
def topT (q k t r : Int) (l : List UInt8) (v : Int) (kids : Fr) : List Th := if checkC 2 q k t r l v kids = 0 then thsU (atL k t r l ++ atomsF kids) else []
def TopG (T : List Th) (E : Int) (w : World) (e : Ending) (w' : World) : Prop := ∃ u, e = .returned (.tuple #[u, .int .i64 E]) ∧ OwnTh w w' u T ∧ Below w.heap.size w w'
theorem OwnTh.old {w0 w w' : World} {v : Value} {T : List Th} (h : OwnTh w w' v T) (hw : w0.heap.size ≤ w.heap.size) : OwnTh w0 w' v T := by
  obtain ⟨h1, h2⟩ := h
  refine ⟨h1, ?_⟩
  rcases h2 with h2 | ⟨g, cap, cur, rfl, h3, h4, h5⟩
  · exact .inl h2
  · exact .inr ⟨g, cap, cur, rfl, by omega, h4, h5⟩
section
variable {w : World} {q k t r v : Int} {l : List UInt8} {kids : Fr}
set_option maxHeartbeats 2000000 in
set_option maxRecDepth 100000 in
theorem topG (hi : Nat) (kv : Value) (hhi : hi ≤ w.heap.size) (hs : SlAt w hi kv kids) (hl : l.length ≤ 9223372036854775807) :
    Calls Tryz.prog 61 #[condV q k t r l v kv] w (TopG (topT q k t r l v kids) (checkC 2 q k t r l v kids) w) := by
  obtain ⟨A, cap, rfl, s'⟩ := hs
  have hs2 : SlAt w hi (.slice A kids.len cap) kids := ⟨A, cap, rfl, s'⟩
  have hb1 := alloc_b w (.cells #[.int .i64 q, .int .i64 k, .int .i64 t, .int .i64 r, .string ⟨l.toArray⟩, .int .i64 v, .slice A kids.len cap] 30 (0, 0))
  have hs3 := hs2.below hhi hb1
  have HS := Lib.hid hs3
  have HSU := Lib.hid (hs3.up (show hi ≤ (w.alloc (.cells #[.int .i64 q, .int .i64 k, .int .i64 t, .int .i64 r, .string ⟨l.toArray⟩, .int .i64 v, .slice A kids.len cap] 30 (0, 0))).heap.size by simp; omega))
  have HB1 := Lib.hid hb1
  have HBN := Lib.hid (Blk.new w 30 #[.int .i64 q, .int .i64 k, .int .i64 t, .int .i64 r, .string ⟨l.toArray⟩, .int .i64 v, .slice A kids.len cap])
  by_cases hck : checkC 2 q k t r l v kids = 0
  · obtain ⟨ho, hk, hall, hv, hnl⟩ := cond_ok hck
    have HCK := Lib.hid hck
    have HTP := Lib.hid (fun (w2 : World) (h1 : hi ≤ w2.heap.size) (h2 : SlAt w2 hi (.slice A kids.len cap) kids) => thingsG (w := w2) (v := v) hi _ h1 h2 hl hall hv)
    rw [show topT q k t r l v kids = thsU (atL k t r l ++ atomsF kids) by unfold topT; rw [if_pos hck], hck]
    obtain ⟨L, hL⟩ : ∃ L, atL k t r l ++ atomsF kids = L := ⟨_, rfl⟩
    rw [hL] at hnl HTP ⊢
    have hul := thsU_len L
    clear s' hs2 hs3 hb1 hv hck hL ho hk hall
    go_enter Tryz.func61, Tryz.ntmps61
    go_wp2_with (first
      | (go_at_call 127; refine (checkP 2 q k t r l v _ kids _ hl HSU.out).mono ?_; rw [HCK.out]; rintro e w2 ⟨rfl, hb2⟩; have hB := HBN.out.go hb2; have c1 := hB.cell 1; have c2 := hB.cell 2; have c3 := hB.cell 3; have c4 := hB.cell 4; have c5 := hB.cell 5; have c6 := hB.cell 6; have HB2 := Lib.hid hb2; have hz2 := hb2.size; simp at hz2; have HS2 := Lib.hid (HS.out.below (by simp; omega) hb2); clear hB hb2)
      | (go_at_call 134; refine (HTP.out _ (by omega) HS2.out).mono ?_; rintro e w3 ⟨g, cg, rfl, hg, ht, hb3⟩; have HT := Lib.hid ht; have HG := Lib.hid hg; have HB3 := Lib.hid hb3; have hz3 := hb3.size; clear ht hb3 hg)
      | (go_at_call 133; refine (cloneG g cg (thsU L) (by omega) HG.out HT.out).mono ?_; rintro e w4 ⟨v4, rfl, ho4, hb4⟩))
    go_ret2
    exact ⟨v4, rfl, ho4.old (by omega), ((HB1.out.trans (HB2.out.mono (by simp))).trans (HB3.out.mono (by omega))).trans (hb4.mono (by omega))⟩
  · obtain ⟨E, hE⟩ : ∃ E, checkC 2 q k t r l v kids = E := ⟨_, rfl⟩
    rw [show topT q k t r l v kids = [] by unfold topT; rw [if_neg hck], hE]
    rw [hE] at hck
    have HCK := Lib.hid hE
    have e1 : (E != 0) = true := by simpa using hck
    clear s' hs2 hs3 hb1 hck hE
    go_enter Tryz.func61, Tryz.ntmps61
    go_wp2_with (go_at_call 127; refine (checkP 2 q k t r l v _ kids _ hl HSU.out).mono ?_; rw [HCK.out]; rintro e w2 ⟨rfl, hb2⟩)
    go_ret2
    exact ⟨_, rfl, World.ownsRow_nil _ _ _ _, HB1.out.trans (hb2.mono (by simp))⟩
end
theorem befC_stand {x y : Th} (hx : vthB x) (hy : vthB y) : befC x y = decide (standC x y < 0) := by
  have px := vth_parts ⟨x, hx⟩
  have py := vth_parts ⟨y, hy⟩
  simp only at px py
  unfold befC standC
  have e0 := cmpB_irr ([] : List UInt8)
  by_cases h1 : x.1 = -1 <;> by_cases h2 : y.1 = -1
  · have e1 : x.1 = y.1 := by omega
    have e2 : x.2.1 = y.2.1 := by omega
    simp [h1, h2, e2]
  · simp [h1, h2]
  · simp [h1, h2]
  · by_cases h3 : x.1 = y.1
    · by_cases h4 : x.2.1 = y.2.1
      · have e3 : x.2.2 = [] := by rcases px with p | p; exact absurd p.1 h1; exact p.2.2.2.2
        have e4 : y.2.2 = [] := by rcases py with p | p; exact absurd p.1 h2; exact p.2.2.2.2
        simp [h2, h3, h4, e3, e4, e0]
      · simp [h2, h3, h4]; omega
    · simp [h1, h2, h3]; omega
theorem st_irr {x : Th} (hx : vthB x) : ¬ standC x x < 0 := by
  have := ltT_swo.irrefl ⟨x, hx⟩
  simpa [ltT] using this
theorem st_trans {x y z : Th} (hx : vthB x) (hy : vthB y) (hz : vthB z) (h : standC x y < 0) (k : standC y z < 0) : standC x z < 0 := by
  have := ltT_swo.trans ⟨x, hx⟩ ⟨y, hy⟩ ⟨z, hz⟩ (by simpa [ltT] using h) (by simpa [ltT] using k)
  simpa [ltT] using this
theorem st_ntrans {x y z : Th} (hx : vthB x) (hy : vthB y) (hz : vthB z) (h : ¬ standC x y < 0) (k : ¬ standC y z < 0) : ¬ standC x z < 0 := by
  have := ltT_swo.ntrans ⟨x, hx⟩ ⟨y, hy⟩ ⟨z, hz⟩ (by simpa [ltT] using h) (by simpa [ltT] using k)
  simpa [ltT] using this
theorem st_total {x y : Th} (hx : vthB x) (hy : vthB y) (h : ¬ standC x y < 0) (k : ¬ standC y x < 0) : x = y := by
  have := ltT_total ⟨x, hx⟩ ⟨y, hy⟩ (by simpa [ltT] using h) (by simpa [ltT] using k)
  exact congrArg Subtype.val this
theorem st_asym {x y : Th} (hx : vthB x) (hy : vthB y) (h : standC x y < 0) : ¬ standC y x < 0 := fun k => st_irr hx (st_trans hx hy hx h k)
theorem putT_mem (x : Th) : ∀ (l : List Th) (z : Th), z ∈ putT x l ↔ z = x ∨ z ∈ l
  | [], z => by simp [putT]
  | y :: r, z => by
    unfold putT
    split
    · simp
    · simp only [List.mem_cons, putT_mem x r]
      constructor
      · rintro (h | h | h)
        · exact .inr (.inl h)
        · exact .inl h
        · exact .inr (.inr h)
      · rintro (h | h | h)
        · exact .inr (.inl h)
        · exact .inl h
        · exact .inr (.inr h)
theorem insT_mem (x : Th) (l : List Th) (z : Th) : z ∈ insT x l ↔ z = x ∨ z ∈ l := by
  unfold insT
  split
  · rename_i h
    constructor
    · exact .inr
    · rintro (rfl | k)
      · exact h
      · exact k
  · exact putT_mem x l z
theorem gatL_mem : ∀ (L acc : List Th) (z : Th), z ∈ gatL L acc ↔ z ∈ acc ∨ z ∈ L
  | [], acc, z => by simp [gatL]
  | x :: L, acc, z => by
    have := gatL_mem L (insT x acc) z
    simp only [gatL, List.foldl_cons] at this ⊢
    rw [this, insT_mem, List.mem_cons]
    constructor
    · rintro ((h | h) | h)
      · exact .inr (.inl h)
      · exact .inl h
      · exact .inr (.inr h)
    · rintro (h | h | h)
      · exact .inl (.inr h)
      · exact .inl (.inl h)
      · exact .inr h
def Str (T : List Th) : Prop := T.Pairwise fun x y => standC x y < 0
theorem putT_str {x : Th} (hx : vthB x) : ∀ {l : List Th}, (∀ y ∈ l, vthB y) → x ∉ l → Str l → Str (putT x l)
  | [], _, _, _ => by simp [putT, Str]
  | y :: r, hv, hn, hs => by
    have hy := hv y (by simp)
    have hsr := List.pairwise_cons.1 hs
    unfold putT
    split
    · rename_i hb
      rw [befC_stand hx hy, decide_eq_true_iff] at hb
      refine List.pairwise_cons.2 ⟨fun z hz => ?_, hs⟩
      rcases List.mem_cons.1 hz with rfl | hz
      · exact hb
      · exact st_trans hx hy (hv z (by simp [hz])) hb (hsr.1 z hz)
    · rename_i hb
      rw [befC_stand hx hy, decide_eq_true_iff] at hb
      refine List.pairwise_cons.2 ⟨fun z hz => ?_, putT_str hx (fun z hz => hv z (by simp [hz])) (fun h => hn (by simp [h])) hsr.2⟩
      rcases (putT_mem x r z).1 hz with rfl | hz
      · exact Decidable.byContradiction fun h => hn (by simp [st_total hx hy hb h])
      · exact hsr.1 z hz
theorem insT_str {x : Th} (hx : vthB x) {l : List Th} (hv : ∀ y ∈ l, vthB y) (hs : Str l) : Str (insT x l) := by
  unfold insT
  split
  · exact hs
  · rename_i h
    exact putT_str hx hv h hs
theorem gatL_str : ∀ (L acc : List Th), (∀ x ∈ L, vthB x) → (∀ x ∈ acc, vthB x) → Str acc → Str (gatL L acc)
  | [], _, _, _, h => h
  | x :: L, acc, hL, ha, hs => by
    have hx := hL x (by simp)
    exact gatL_str L (insT x acc) (fun y hy => hL y (by simp [hy])) (fun y hy => by
      rcases (insT_mem x acc y).1 hy with rfl | hy
      · exact hx
      · exact ha y hy) (insT_str hx ha hs)
theorem str_unique : ∀ {a b : List Th}, (∀ x ∈ a, vthB x) → Str a → Str b → (∀ x, x ∈ a ↔ x ∈ b) → a = b
  | [], [], _, _, _, _ => rfl
  | [], y :: b, _, _, _, h => absurd ((h y).2 (by simp)) (by simp)
  | x :: a, [], _, _, _, h => absurd ((h x).1 (by simp)) (by simp)
  | x :: a, y :: b, hv, ha, hb, h => by
    have ha' := List.pairwise_cons.1 ha
    have hb' := List.pairwise_cons.1 hb
    have hxv := hv x (by simp)
    have hyv := hv y ((h y).2 (by simp))
    have hxy : x = y := by
      rcases List.mem_cons.1 ((h x).1 (by simp)) with e | e
      · exact e
      rcases List.mem_cons.1 ((h y).2 (by simp)) with e' | e'
      · exact e'.symm
      exact absurd (ha'.1 y e') (st_asym hyv hxv (hb'.1 x e))
    subst hxy
    congr 1
    refine str_unique (fun z hz => hv z (by simp [hz])) ha'.2 hb'.2 fun z => ?_
    constructor
    · intro hz
      rcases List.mem_cons.1 ((h z).1 (by simp [hz])) with e | e
      · subst e; exact absurd (ha'.1 _ hz) (st_irr hxv)
      · exact e
    · intro hz
      rcases List.mem_cons.1 ((h z).2 (by simp [hz])) with e | e
      · subst e; exact absurd (hb'.1 _ hz) (st_irr hxv)
      · exact e
theorem sortT_pair {L : List Th} (hv : ∀ x ∈ L, vthB x) : (sortT L).Pairwise fun x y => ¬ standC y x < 0 := by
  rw [← toV_sort L hv, List.pairwise_map]
  have := List.pairwise_mergeSort (le := fun x y : VTh => !ltT y x) (fun a b c h k => by
    simp only [Bool.not_eq_true'] at h k ⊢
    exact ltT_swo.ntrans c b a k h) (fun a b => by
    cases h : ltT b a with
    | false => simp
    | true =>
      cases k : ltT a b with
      | false => simp
      | true => have := ltT_swo.irrefl a; rw [ltT_swo.trans a b a k h] at this; cases this) (toV L hv)
  refine this.imp fun {x y} h => ?_
  simpa [ltT, valV] using h
theorem thsU_str {L : List Th} (hv : ∀ x ∈ L, vthB x) : Str (thsU L) := by
  have hp := sortT_pair hv
  have hvs : ∀ x ∈ sortT L, vthB x := fun x hx => hv x ((sortT_perm L).mem_iff.1 hx)
  obtain ⟨S, hS⟩ : ∃ S, sortT L = S := ⟨_, rfl⟩
  unfold thsU
  rw [hS] at hp hvs ⊢
  rw [List.pairwise_iff_getElem] at hp
  have hget : ∀ i, (h : i < S.length) → S.toArray[i]! = S[i] := fun i h => by rw [getElem!_pos S.toArray i (by simpa using h)]; simp
  unfold compactUpTo Str
  rw [List.pairwise_map]
  have hr : ((List.range S.toArray.size).filter (keeps S.toArray)).Pairwise (· < ·) := List.Pairwise.filter _ List.pairwise_lt_range
  refine List.Pairwise.imp_of_mem (fun {i j} hi hj hij => ?_) hr
  simp only [List.mem_filter, List.mem_range, List.size_toArray] at hi hj
  have hk := hj.2
  unfold keeps at hk
  rw [decide_eq_true_iff] at hk
  have hk' := hk.resolve_left (by omega)
  rw [hget i hi.1, hget j hj.1]
  rw [hget j hj.1, hget (j - 1) (by omega)] at hk'
  have vi := hvs S[i] (List.getElem_mem hi.1)
  have vj := hvs S[j] (List.getElem_mem hj.1)
  have vm := hvs S[j - 1] (List.getElem_mem (by omega))
  have h1 : ¬ standC S[j] S[j - 1] < 0 := hp (j - 1) j (by omega) hj.1 (by omega)
  have h2 : ¬ standC S[j - 1] S[i] < 0 := by
    by_cases e : i = j - 1
    · subst e; exact st_irr vm
    · exact hp i (j - 1) hi.1 (by omega) (by omega)
  refine Decidable.byContradiction fun h3 => ?_
  have h4 : ¬ standC S[j - 1] S[j] < 0 := st_ntrans vm vi vj h2 h3
  exact hk' (st_total vj vm h1 h4)
theorem compact_has (d : Array Th) : ∀ m, m ≤ d.size → ∀ i, i < m → d[i]! ∈ compactUpTo d m := by
  intro m
  induction m with
  | zero => intro _ i hi; omega
  | succ m ih =>
    intro hm i hi
    rw [Lib.compactUpTo_succ, List.mem_append]
    by_cases hlt : i < m
    · exact .inl (ih (by omega) i hlt)
    obtain rfl : i = m := by omega
    by_cases hk : keeps d i = true
    · rw [if_pos hk]; exact .inr (by simp)
    · unfold keeps at hk
      simp only [decide_eq_true_eq, not_or, Decidable.not_not, ne_eq] at hk
      rw [hk.2]
      exact .inl (ih (by omega) (i - 1) (by omega))
theorem thsU_mem (L : List Th) (x : Th) : x ∈ thsU L ↔ x ∈ L := by
  refine ⟨thsU_sub L x, fun h => ?_⟩
  obtain ⟨i, hi, rfl⟩ := List.mem_iff_getElem.1 ((sortT_perm L).mem_iff.2 h)
  have := compact_has (sortT L).toArray (sortT L).toArray.size (Nat.le_refl _) i (by simpa using hi)
  rw [getElem!_pos (sortT L).toArray i (by simpa using hi)] at this
  simpa [thsU] using this
theorem gatL_thsU {L : List Th} (hv : ∀ x ∈ L, vthB x) : gatL L [] = thsU L := by
  refine str_unique (fun x hx => ?_) (gatL_str L [] hv (fun _ h => by simp at h) List.Pairwise.nil) (thsU_str hv) fun x => ?_
  · rcases (gatL_mem L [] x).1 hx with h | h
    · simp at h
    · exact hv x h
  · rw [gatL_mem, thsU_mem]; simp
end Go.Proofs.YtjhafgnmahhacaaGreatDoor
namespace Go.Proofs.YtjhafgnmahhacaaGreatDoor
open Go.RowKit
open Go.Lib (compactUpTo keeps)
abbrev Nm := List UInt8
def ltN (a b : Nm) : Bool := decide (Lib.compareBytes a b < 0)
theorem ltN_less (a b : Nm) : Op.bytesLess a b = ltN a b := less_cmp a b
theorem ltN_lt (a b : Nm) : decide (a < b) = ltN a b := by rw [← ltN_less, bytesLess_eq]
theorem ltN_irr (a : Nm) : ltN a a = false := by simp [ltN, cmpB_irr]
theorem ltN_trans {a b c : Nm} (h : ltN a b = true) (k : ltN b c = true) : ltN a c = true := by
  simp only [ltN, decide_eq_true_eq] at *
  exact cmpB_trans a b c h k
theorem ltN_ntrans {a b c : Nm} (h : ltN a b = false) (k : ltN b c = false) : ltN a c = false := by
  simp only [ltN, decide_eq_false_iff_not] at *
  exact cmpB_ntrans a b c h k
theorem ltN_eq {a b : Nm} (h : ltN a b = false) (k : ltN b a = false) : a = b := by
  simp only [ltN, decide_eq_false_iff_not] at *
  exact cmpB_eq a b h k
theorem ltN_asym {a b : Nm} (h : ltN a b = true) : ltN b a = false := by
  cases k : ltN b a with
  | false => rfl
  | true => have := ltN_trans h k; rw [ltN_irr] at this; cases this
theorem ltN_nil (a : Nm) : ltN a [] = false := by
  cases a <;> simp [ltN, Lib.compareBytes]
def StrN (l : List Nm) : Prop := l.Pairwise fun x y => ltN x y = true
theorem strN_unique : ∀ {a b : List Nm}, StrN a → StrN b → (∀ x, x ∈ a ↔ x ∈ b) → a = b
  | [], [], _, _, _ => rfl
  | [], y :: b, _, _, h => absurd ((h y).2 (by simp)) (by simp)
  | x :: a, [], _, _, h => absurd ((h x).1 (by simp)) (by simp)
  | x :: a, y :: b, ha, hb, h => by
    have ha' := List.pairwise_cons.1 ha
    have hb' := List.pairwise_cons.1 hb
    have hxy : x = y := by
      rcases List.mem_cons.1 ((h x).1 (by simp)) with e | e
      · exact e
      rcases List.mem_cons.1 ((h y).2 (by simp)) with e' | e'
      · exact e'.symm
      have h1 := ltN_asym (ha'.1 y e')
      rw [hb'.1 x e] at h1; cases h1
    subst hxy
    congr 1
    refine strN_unique ha'.2 hb'.2 fun z => ?_
    constructor
    · intro hz
      rcases List.mem_cons.1 ((h z).1 (by simp [hz])) with e | e
      · subst e; have := ha'.1 _ hz; rw [ltN_irr] at this; cases this
      · exact e
    · intro hz
      rcases List.mem_cons.1 ((h z).2 (by simp [hz])) with e | e
      · subst e; have := hb'.1 _ hz; rw [ltN_irr] at this; cases this
      · exact e
/-- The names in order, as slices.Sort has them. -/
def sortN (L : List Nm) : List Nm := L.mergeSort fun x y => decide (x ≤ y)
theorem sortN_perm (L : List Nm) : (sortN L).Perm L := List.mergeSort_perm _ _
theorem leN (x y : Nm) : decide (x ≤ y) = !ltN y x := by
  rw [← ltN_lt, Bool.eq_iff_iff]
  simp
theorem sortN_pair (L : List Nm) : (sortN L).Pairwise fun x y => ltN y x = false := by
  have := List.pairwise_mergeSort (le := fun x y : Nm => decide (x ≤ y)) (fun a b c h k => by
    rw [leN] at *
    simp only [Bool.not_eq_true'] at *
    exact ltN_ntrans k h) (fun a b => by
    rw [leN, leN]
    cases h : ltN b a with
    | false => simp
    | true => simp [ltN_asym h]) L
  refine this.imp fun {x y} h => ?_
  rw [leN] at h
  simpa using h
theorem compact_hasN (d : Array Nm) : ∀ m, m ≤ d.size → ∀ i, i < m → d[i]! ∈ compactUpTo d m := by
  intro m
  induction m with
  | zero => intro _ i hi; omega
  | succ m ih =>
    intro hm i hi
    rw [Lib.compactUpTo_succ, List.mem_append]
    by_cases hlt : i < m
    · exact .inl (ih (by omega) i hlt)
    obtain rfl : i = m := by omega
    by_cases hk : keeps d i = true
    · rw [if_pos hk]; exact .inr (by simp)
    · unfold keeps at hk
      simp only [decide_eq_true_eq, not_or, Decidable.not_not, ne_eq] at hk
      rw [hk.2]
      exact .inl (ih (by omega) (i - 1) (by omega))
def uniqN (L : List Nm) : List Nm := Lib.compact (sortN L)
theorem uniqN_str (L : List Nm) : StrN (uniqN L) := by
  have hp := sortN_pair L
  unfold uniqN
  obtain ⟨S, hS⟩ : ∃ S, sortN L = S := ⟨_, rfl⟩
  rw [hS] at hp ⊢
  rw [List.pairwise_iff_getElem] at hp
  have hget : ∀ i, (h : i < S.length) → S.toArray[i]! = S[i] := fun i h => by rw [getElem!_pos S.toArray i (by simpa using h)]; simp
  unfold Lib.compact compactUpTo StrN
  rw [List.pairwise_map]
  have hr : ((List.range S.length).filter (keeps S.toArray)).Pairwise (· < ·) := List.Pairwise.filter _ List.pairwise_lt_range
  refine List.Pairwise.imp_of_mem (fun {i j} hi hj hij => ?_) hr
  simp only [List.mem_filter, List.mem_range] at hi hj
  have hk := hj.2
  unfold keeps at hk
  rw [decide_eq_true_iff] at hk
  have hk' := hk.resolve_left (by omega)
  rw [hget i hi.1, hget j hj.1]
  rw [hget j hj.1, hget (j - 1) (by omega)] at hk'
  have h1 : ltN S[j] S[j - 1] = false := hp (j - 1) j (by omega) hj.1 (by omega)
  have h2 : ltN S[j - 1] S[i] = false := by
    by_cases e : i = j - 1
    · subst e; exact ltN_irr _
    · exact hp i (j - 1) hi.1 (by omega) (by omega)
  refine Decidable.byContradiction fun h3 => ?_
  have h4 : ltN S[j - 1] S[j] = false := ltN_ntrans h2 (by simpa using h3)
  exact hk' (ltN_eq h1 h4)
theorem uniqN_mem (L : List Nm) (x : Nm) : x ∈ uniqN L ↔ x ∈ L := by
  unfold uniqN Lib.compact
  refine ⟨fun h => (sortN_perm L).mem_iff.1 (by simpa using compact_sub _ _ (by simp) x h), fun h => ?_⟩
  obtain ⟨i, hi, rfl⟩ := List.mem_iff_getElem.1 ((sortN_perm L).mem_iff.2 h)
  have := compact_hasN (sortN L).toArray (sortN L).length (by simp) i hi
  rwa [getElem!_pos (sortN L).toArray i (by simpa using hi)] at this
theorem uniqN_len (L : List Nm) : (uniqN L).length ≤ L.length := by
  have := compact_le (sortN L).toArray (sortN L).length
  unfold uniqN Lib.compact
  have hl := (sortN_perm L).length_eq
  omega
/-- Without the empty name ahead. -/
def chopN (L : List Nm) : List Nm := match L with
  | [] :: r => r
  | l => l
/-- The locations out of all names. -/
def locsN (L : List Nm) : List Nm := chopN (uniqN L)
theorem chopN_str {L : List Nm} (h : StrN L) : StrN (chopN L) := by
  unfold chopN
  split
  · exact (List.pairwise_cons.1 h).2
  · exact h
theorem chopN_mem {L : List Nm} (h : StrN L) (x : Nm) : x ∈ chopN L ↔ x ∈ L ∧ x ≠ [] := by
  unfold chopN
  split
  · rename_i r
    have hh := List.pairwise_cons.1 h
    constructor
    · intro hx
      refine ⟨by simp [hx], fun e => ?_⟩
      subst e
      have := hh.1 _ hx; rw [ltN_irr] at this; cases this
    · rintro ⟨hx, hne⟩
      rcases List.mem_cons.1 hx with e | e
      · exact absurd e hne
      · exact e
  · rename_i hne
    refine ⟨fun hx => ⟨hx, fun e => ?_⟩, fun hx => hx.1⟩
    subst e
    cases L with
    | nil => simp at hx
    | cons y r =>
      have hh := List.pairwise_cons.1 h
      rcases List.mem_cons.1 hx with e | e
      · subst e; exact hne r rfl
      · have := hh.1 _ e; rw [ltN_nil] at this; cases this
theorem locsN_str (L : List Nm) : StrN (locsN L) := chopN_str (uniqN_str L)
theorem locsN_mem (L : List Nm) (x : Nm) : x ∈ locsN L ↔ x ∈ L ∧ x ≠ [] := by
  unfold locsN
  rw [chopN_mem (uniqN_str L), uniqN_mem]
/-- All names of a test, in the text's order. -/
def rawN (T : Tst) : List Nm := (T.init.flatMap fun x => [x.loc, x.vl]) ++ ((T.code.flatMap fun c => c.map fun x => x.loc) ++ (topT T.q T.k T.t T.r T.l T.v T.kids).map fun x => x.2.2)
end Go.Proofs.YtjhafgnmahhacaaGreatDoor
