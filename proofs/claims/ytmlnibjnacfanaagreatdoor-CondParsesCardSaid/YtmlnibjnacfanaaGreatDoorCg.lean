/- Layer 8: the printer: a strings.Builder as the first part of a block of its own; WriteString and String on it. -/
import Derived.Test.YtmlnibjnacfanaaGreatDoorCl
import Derived.Shelf.Strings.Builder1
import Derived.RegionTactic
import Derived.BigRegion
namespace Go.Proofs.YtmlnibjnacfanaaGreatDoor
open Go.RowKit

/-- The printer's block: the builder's address, its buffer, the architecture. -/
def PrAt (w : World) (B b : Nat) (p : Value) (l : List UInt8) (a : Int) : Prop :=
  B ≤ b ∧ ∃ v, w.heap[b]? = some (.cells #[p, v, .int .i64 a] 72 (0, 0)) ∧ w.ownsRow B 5 1 v l.length (Lib.byteCells l) ∧ v.ownBlock ≠ some b
def IsPr (w : World) (B b : Nat) (l : List UInt8) (a : Int) : Prop := PrAt w B b (.pointer none) l a ∨ PrAt w B b (.pointer (some ⟨b, 0, none⟩)) l a
/-- Only the printer's block, blocks of bytes from B on, and what is new may have turned. -/
structure Pq (B b : Nat) (w w' : World) : Prop where
  low : Below B w w'
  keep : ∀ i, i < w.heap.size → i ≠ b → (∀ cs fr, w.heap[i]? ≠ some (.cells cs 5 fr)) → w'.heap[i]? = w.heap[i]?
theorem Pq.refl (B b : Nat) (w : World) : Pq B b w w := ⟨Below.refl _ _, fun _ _ _ _ => rfl⟩
theorem Pq.trans {B b : Nat} {x y z : World} (h : Pq B b x y) (k : Pq B b y z) : Pq B b x z :=
  ⟨h.low.trans k.low, fun i hi hb hc => by
    have e := h.keep i hi hb hc
    rw [k.keep i (Nat.lt_of_lt_of_le hi h.low.size) hb (fun cs fr => by rw [e]; exact hc cs fr), e]⟩
theorem Pq.of_below {B b : Nat} {x y : World} (h : Below x.heap.size x y) (hB : B ≤ x.heap.size) : Pq B b x y := ⟨h.mono hB, fun i hi _ _ => h.block i hi⟩
theorem Pq.blk {B b g : Nat} {x y : World} {t : TypeId} {cs : Array Value} (h : Blk x g t cs) (k : Pq B b x y) (hg : g ≠ b) (ht : t ≠ 5) : Blk y g t cs :=
  (k.keep g h.lt hg (fun cs' fr' e => by
    unfold Blk at h
    rw [h] at e
    injection e with e
    injection e with _ e _
    exact ht e)).trans h
theorem Pq.of_drew {B b : Nat} {x y : World} (h : Pq B b x.drew y) : Pq B b x y := ⟨below_of_drew h.low, h.keep⟩
theorem Pq.drew {B b : Nat} {x y : World} (h : Pq B b x y) : Pq B b x y.drew := ⟨h.low.drew, h.keep⟩
theorem infoByte : (Tryz.prog.info? 5).map (fun i => (i.zero, i.size, i.bytes)) = some (some (.int .u8 0), 1, 1) := by kernel_rfl
theorem sizeBuilder : (Tryz.prog.info? 70).map (·.size) = some 2 := by kernel_rfl
theorem liesPr : liesAt Tryz.prog Tryz.prog.depth 72 (3 / Tryz.prog.cellsOf 72) 0 70 1 = true := by kernel_rfl
theorem cellsByte : Tryz.prog.cellsOf 5 = 1 := by kernel_rfl
theorem PrAt.lt {w : World} {B b : Nat} {p : Value} {l : List UInt8} {a : Int} (h : PrAt w B b p l a) : b < w.heap.size := by
  obtain ⟨_, v, hb, _⟩ := h
  rcases Nat.lt_or_ge b w.heap.size with h' | h'
  · exact h'
  · simp [Array.getElem?_eq_none h'] at hb
theorem PrAt.arch {w : World} {B b : Nat} {p : Value} {l : List UInt8} {a : Int} (h : PrAt w B b p l a) : w.cell? ⟨b, 2, none⟩ = some (.int .i64 a) := by
  obtain ⟨_, v, hb, _⟩ := h
  rw [Lib.cell_of_heap hb]; rfl
theorem IsPr.arch {w : World} {B b : Nat} {l : List UInt8} {a : Int} (h : IsPr w B b l a) : w.cell? ⟨b, 2, none⟩ = some (.int .i64 a) := by rcases h with h | h <;> exact h.arch
theorem IsPr.lt {w : World} {B b : Nat} {l : List UInt8} {a : Int} (h : IsPr w B b l a) : b < w.heap.size := by rcases h with h | h <;> exact h.lt
theorem PrAt.below {w w' : World} {B b : Nat} {p : Value} {l : List UInt8} {a : Int} (h : PrAt w B b p l a) (hb : Below w.heap.size w w') : PrAt w' B b p l a := by
  have hlt := h.lt
  obtain ⟨h1, v, h2, h3, h4⟩ := h
  refine ⟨h1, v, (hb.block b hlt).trans h2, ?_, h4⟩
  exact h3.kept (row := some w.heap.size) ⟨hb.os, hb.tape, hb.output, hb.size, fun i hi _ => hb.block i hi⟩ (.inr fun e => by have := (h3.lt _ e).2; omega)
theorem IsPr.below {w w' : World} {B b : Nat} {l : List UInt8} {a : Int} (h : IsPr w B b l a) (hb : Below w.heap.size w w') : IsPr w' B b l a := h.imp (·.below hb) (·.below hb)
theorem PrAt.drew {w : World} {B b : Nat} {p : Value} {l : List UInt8} {a : Int} (h : PrAt w B b p l a) : PrAt w.drew B b p l a := h
theorem IsPr.drew {w : World} {B b : Nat} {l : List UInt8} {a : Int} (h : IsPr w B b l a) : IsPr w.drew B b l a := h

set_option maxHeartbeats 1000000 in
set_option maxRecDepth 100000 in
theorem copyCheck_used (b : Nat) (w : World) (h0 : w.cell? ⟨b, 0, none⟩ = some (.pointer (some ⟨b, 0, none⟩))) :
    Calls Tryz.prog 67 #[.pointer (some ⟨b, 0, none⟩)] w fun e w' => e = .returned (.tuple #[]) ∧ w = w' := by
  obtain ⟨j, hj, _⟩ := Option.map_eq_some_iff.1 sizeBuilder
  go_enter Tryz.func67, Tryz.ntmps67
  go_wp2
  rw [Lib.run_neq_ptr_same w _ Tryz.underlying67 hj]
  go_wp2
  go_end0
  exact ⟨rfl, rfl⟩
set_option maxHeartbeats 1000000 in
set_option maxRecDepth 100000 in
theorem copyCheck_fresh (b : Nat) (w : World) (h0 : w.cell? ⟨b, 0, none⟩ = some (.pointer none)) (hsh : w.shape? b = some (72, 3)) (hfz : w.frozen? ⟨b, 0, none⟩ = false) :
    Calls Tryz.prog 67 #[.pointer (some ⟨b, 0, none⟩)] w fun e w' => e = .returned (.tuple #[]) ∧ w' = w.setCell ⟨b, 0, none⟩ (.pointer (some ⟨b, 0, none⟩)) := by
  obtain ⟨j, hj, hjs⟩ := Option.map_eq_some_iff.1 sizeBuilder
  go_enter Tryz.func67, Tryz.ntmps67
  go_wp2
  rw [Lib.run_to_unsafe w ⟨b, 0, none⟩ Tryz.underlying67 Tryz.underlying134 hj (by rw [hjs]; decide) hsh (show 0 < 3 by decide)]
  simp only [Result.andThen]
  rw [Oper.upon_value]
  go_wp2
  rw [run_callFunc_extern Tryz.func102 (by kernel_rfl) (by kernel_rfl) (by kernel_rfl) (e := Extern.AbiNoEscape.same) (by kernel_rfl)]
  rw [Lib.run_noEscape]
  simp only [Result.andThen]
  rw [Oper.upon_value]
  go_wp2
  rw [Lib.run_from_unsafe w ⟨b, 0, none⟩ Tryz.underlying134 Tryz.underlying67 hj hsh liesPr]
  simp only [Result.andThen]
  rw [Oper.upon_value]
  go_wp2
  go_end0
  exact ⟨rfl, rfl⟩
theorem PrAt.used {w : World} {B b : Nat} {p : Value} {l : List UInt8} {a : Int} (h : PrAt w B b p l a) (q : Value) : PrAt (w.setCell ⟨b, 0, none⟩ q) B b q l a := by
  have hlt := h.lt
  obtain ⟨hB, v, hb, hown, hne⟩ := h
  refine ⟨hB, v, ?_, ?_, hne⟩
  · simp [World.setCell, Array.getElem?_modify, hb]
  · refine hown.kept (row := some b) ⟨rfl, rfl, rfl, by simp [World.setCell], fun k _ hk => Below.heap_setCell _ _ _ _ (fun e => hk (by simp [e]))⟩ ?_
    exact Or.inr hne
theorem copyCheck_c (B b : Nat) (l : List UInt8) (a : Int) (w : World) (h : IsPr w B b l a) :
    Calls Tryz.prog 67 #[.pointer (some ⟨b, 0, none⟩)] w fun e w' => e = .returned (.tuple #[]) ∧ PrAt w' B b (.pointer (some ⟨b, 0, none⟩)) l a ∧ Pq B b w w' := by
  rcases h with h | h
  · have h' := h
    obtain ⟨hB, v, hb, hown, hne⟩ := h
    refine (copyCheck_fresh b w (by rw [Lib.cell_of_heap hb]; rfl) (by simp [World.shape?, hb]) (Lib.frozen_of_heap hb 0)).mono ?_
    rintro e w' ⟨rfl, rfl⟩
    exact ⟨rfl, h'.used _, (Below.refl B w).setCell (p := ⟨b, 0, none⟩) hB _, fun i _ hi _ => Below.heap_setCell _ _ _ _ (fun e => hi e)⟩
  · have h' := h
    obtain ⟨hB, v, hb, hown, hne⟩ := h
    refine (copyCheck_used b w (by rw [Lib.cell_of_heap hb]; rfl)).mono ?_
    rintro e w' ⟨rfl, rfl⟩
    exact ⟨rfl, h', Pq.refl B b _⟩
theorem PrAt.put {w : World} {B b : Nat} {p v v' : Value} {l : List UInt8} {a : Int} (hB : B ≤ b) (hb : w.heap[b]? = some (.cells #[p, v, .int .i64 a] 72 (0, 0))) (hown : w.ownsRow B 5 1 v' l.length (Lib.byteCells l)) :
    PrAt (w.setCell ⟨b, 1, none⟩ v') B b p l a := by
  have hne := Lib.ownBlock_ne hown hb (by decide)
  refine ⟨hB, v', ?_, ?_, hne⟩
  · simp [World.setCell, Array.getElem?_modify, hb]
  · exact hown.kept (row := some b) ⟨rfl, rfl, rfl, by simp [World.setCell], fun k _ hk => Below.heap_setCell _ _ _ _ (fun e => hk (by simp [e]))⟩ (Or.inr hne)
set_option maxHeartbeats 2000000 in
set_option maxRecDepth 100000 in
theorem writeString_c (B b : Nat) (l : List UInt8) (a : Int) (s : ByteArray) (w : World) (h : IsPr w B b l a) (hlen : l.length + s.size ≤ 140737488355328) (hBw : B ≤ w.heap.size) :
    Calls Tryz.prog 37 #[.pointer (some ⟨b, 0, none⟩), .string s] w fun e w' => e = .returned (.tuple #[.int .i64 s.size, .nilIface]) ∧ PrAt w' B b (.pointer (some ⟨b, 0, none⟩)) (l ++ s.data.toList) a ∧ Pq B b w w' := by
  obtain ⟨i0, hi, hz0, hz1, hz2⟩ := info_parts infoByte
  have HH := Lib.hid h
  clear h
  go_enter Tryz.func37, Tryz.ntmps37
  go_wp2_with (go_at_call 67; refine (copyCheck_c B b l a _ HH.out).mono ?_)
  rintro e w1 ⟨rfl, h1, hb1⟩
  have hlt := h1.lt
  obtain ⟨hB, v, hbk, hown, hne⟩ := h1
  have c1 : w1.cell? ⟨b, 1, none⟩ = some v := by rw [Lib.cell_of_heap hbk]; rfl
  go_wp2_with (at_builtin; refine Lib.wpList_append_own_string _ rfl _ _ 68 9 rfl B 5 i0 Tryz.underlying68 Tryz.underlying9 hi hz0 hz1 hz2 _ _ _ rfl hown s rfl ?c3 ?c4 ?c5 ?_)
  case c3 => unfold maxLen; omega
  case c4 => omega
  case c5 => have := hb1.low.size; omega
  intro v' w2 hown' hgrow _
  have hb2 : w2.heap[b]? = some (.cells #[.pointer (some ⟨b, 0, none⟩), v, .int .i64 a] 72 (0, 0)) := by
    rw [hgrow.block b hlt (fun e => hne e.symm)]
    exact hbk
  have d1 : w2.cell? ⟨b, 1, none⟩ = some v := by rw [Lib.cell_of_heap hb2]; rfl
  have f1 : w2.frozen? ⟨b, 1, none⟩ = false := Lib.frozen_of_heap hb2 1
  obtain ⟨ao, n', cap, rfl⟩ : ∃ ao n' cap, v' = .slice ao n' cap := by
    rcases hown'.2 with ⟨hv, _⟩ | ⟨g, cap, cur, hv, _⟩
    · exact ⟨_, _, _, hv⟩
    · exact ⟨_, _, _, hv⟩
  have HB := Lib.hid (hb1.low.grown hgrow (by have := hb1.low.size; omega) (fun k hk => (hown.lt k hk).1))
  have HQ := Lib.hid (hb1.trans (⟨(Below.refl B w1).grown hgrow (by have := hb1.low.size; omega) (fun k hk => (hown.lt k hk).1), fun i hi _ hc => hgrow.block i hi (fun e => by
    rcases hown.2 with ⟨hv, _⟩ | ⟨g, cap, cur, hv, _, hh, _⟩
    · rw [hv] at e; simp [Value.ownBlock] at e
    · rw [hv] at e
      simp only [Value.ownBlock, Option.some.injEq] at e
      subst e
      exact hc _ _ hh)⟩ : Pq B b w1 w2))
  have HO := Lib.hid hown'
  have HK := Lib.hid hb2
  clear hown hown' hgrow hbk hb2 hb1 c1 hne
  go_wp2
  go_ret2
  refine ⟨rfl, ?_, HB.out.setCell (p := ⟨b, 1, none⟩) hB _, fun i hi hb hc => ?_⟩
  rotate_left
  · rw [Below.heap_setCell _ _ _ _ (fun e => hb e)]
    exact HQ.out.keep i hi hb hc
  refine PrAt.put hB HK.out ?_
  have := HO.out
  rw [List.length_append, show (s.data.toList.length) = s.size from rfl]
  simpa [Lib.byteCells, Lib.strCells] using this
set_option maxHeartbeats 1000000 in
set_option maxRecDepth 100000 in
/-- The text that the printer holds. -/
theorem string_c (B b : Nat) (p : Value) (l : List UInt8) (a : Int) (w : World) (h : PrAt w B b p l a) (h0 : l ≠ []) :
    Calls Tryz.prog 39 #[.pointer (some ⟨b, 0, none⟩)] w fun e w' => e = .returned (.string ⟨l.toArray⟩) ∧ Below B w w' := by
  obtain ⟨hB, v, hbk, hown, hne⟩ := h
  have hl0 : l.length ≠ 0 := by simpa using h0
  obtain ⟨g, cap, cur, rfl, hbg, hg, hnc, hcm, hcs, htake⟩ : ∃ g cap cur, v = .slice (some ⟨g, 0, none⟩) l.length cap ∧ B ≤ g ∧ w.heap[g]? = some (.cells cur 5 (0, 0)) ∧ l.length ≤ cap ∧ cap ≤ maxLen ∧ cur.size = cap * 1 ∧ cur.toList.take (l.length * 1) = Lib.byteCells l := by
    rcases hown.2 with ⟨_, hz⟩ | ⟨g, cap, cur, hv, r⟩
    · exact absurd hz hl0
    · exact ⟨g, cap, cur, hv, r⟩
  have c1 : w.drew.cell? ⟨b, 1, none⟩ = some (.slice (some ⟨g, 0, none⟩) l.length cap) := by
    have : w.drew.heap[b]? = some (.cells #[p, .slice (some ⟨g, 0, none⟩) l.length cap, .int .i64 a] 72 (0, 0)) := hbk
    rw [Lib.cell_of_heap this]; rfl
  have hSD : (Builtin.unsafeSliceData_ #[68] 115 #[.slice (some ⟨g, 0, none⟩) l.length cap]).run Tryz.prog w.drew = .ok (.pointer (some ⟨g, 0, none⟩)) w.drew :=
    Lib.run_unsafeSliceData_row _ _ _ _ _ _ (by omega)
  have hUS : (Builtin.unsafeString_ #[115, 3] 9 #[.pointer (some ⟨g, 0, none⟩), .int .i64 l.length]).run Tryz.prog w.drew = .ok (.string ⟨l.toArray⟩) (w.drew.freeze ⟨g, 0, none⟩ l.length) := by
    refine Lib.run_unsafeString_row w.drew 115 3 9 5 Tryz.underlying115 cellsByte g cur.size (by have hg' : w.drew.heap[g]? = some (.cells cur 5 (0, 0)) := hg; simp [World.shape?, hg']) l h0 (by omega) (by unfold maxLen at hcm; omega) ?_
    intro j x hx
    have := hown.cells (g := g) rfl j (.int .u8 x.toNat) (by simp [Lib.byteCells, hx])
    exact this
  clear hown htake hcs hg hbk hne h0 hl0
  go_enter Tryz.func39, Tryz.ntmps39
  go_wp2
  go_region
  all_goals (go_wp2; go_ret; exact ⟨rfl, Lib.below_freeze (Below.drew (Below.refl B w)) (p := ⟨g, 0, none⟩) hbg _⟩)
end Go.Proofs.YtmlnibjnacfanaaGreatDoor
