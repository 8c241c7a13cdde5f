/- Layer 8: slices.SortFunc at things. Layer 8: the program's things. Layer 8: the program's things: sorted. Layer 8: the program's Things. Layer 8: the printer's kid, kids, node. Layer 8: the printer's node. Layer 8: the reference's order of things, plain: what its loops compute. Layer 8: the reference's Before, and gather at an atom, walked. The row's last step where a call made new memory. -/
import Derived.Test.YtoegmdnfbemppaaGreatDoorKb02
import Derived.Test.YtoegmdnfbemppaaGreatDoorKb07
import Derived.Test.YtoegmdnfbemppaaGreatDoorKb08
import Derived.Test.YtoegmdnfbemppaaGreatDoorKb11
import Derived.Sort.LotA
import Derived.WalkLawsBesides
import Derived.ProofKit
import Derived.OpenShut
import Derived.Deep.DeepHandedRow
import Derived.Lib.LaidTab
import Derived.Carry
namespace Go.Proofs.YtoegmdnfbemppaaGreatDoor
open Go.RowKit
open Go.Sort
open Go.Sort (sorted_unique_holds flatK size_flatK get_flatK HoldsK)

instance instVTh : Inhabited VTh := ⟨⟨(0, 0, []), by decide⟩⟩
def encT (x : VTh) : List Value := thCs x.1
theorem cmp_stand (blk off size : Nat) (w : World) : CmpLays Tryz.prog 156 #[] encT 3 (fun x y => standC x.1 y.1) blk off size w := fun m os dk _ x y => by
  obtain ⟨⟨t, r, l⟩, hx⟩ := x
  obtain ⟨⟨t', r', l'⟩, hy⟩ := y
  have px := vth_parts ⟨(t, r, l), hx⟩
  have py := vth_parts ⟨(t', r', l'), hy⟩
  simp only at px py
  exact standP (t := t) (r := r) (l := l) (t' := t') (r' := r') (l' := l') (by omega) (by omega) (by omega) (by omega) (by omega) (by omega) (by omega) (by omega)
theorem sortP (blk cap : Nat) (d : Array VTh) (w : World) (hH : HoldsK encT 3 w blk 0 d) (hblk : blk < w.heap.size) (hsz : d.size < 4611686018427387904) :
    Calls Tryz.prog 155 #[.slice (some ⟨blk, 0, none⟩) d.size cap, .func (.func 156) #[] #[]] w fun e w' =>
      e = .returned (.tuple #[]) ∧ ∃ d' n os, PermIn 0 d.size d d' ∧ SortedIn ltT 0 d.size d' ∧ w' = sortWorldK encT 3 w blk 0 n d' os := by
  have eg : ∀ args w, (callFunc 156 args).run Tryz.prog w = .ok (.enter 156 args) w := enters_of Tryz.func156 (by kernel_rfl) rfl
  exact AnyQ.slices_SortFunc Tryz.sortTh 3 Tryz.isAgg25 Tryz.sizeOf25 encT (fun _ => rfl) (fun x v hv => by simp [encT, thCs] at hv; rcases hv with rfl | rfl | rfl <;> rfl) (fun x y => standC x.1 y.1) ltT_swo 156 #[] blk 0 cap d w eg (cmp_stand blk 0 d.size w) hH hblk hsz

def leT (x y : Th) : Bool := !decide (standC y x < 0)
/-- The things in order. -/
def sortT (L : List Th) : List Th := L.mergeSort leT
def vthB (x : Th) : Prop := thingB 2 x.1 x.2.1 x.2.2 = true
def toV : (L : List Th) → (∀ x ∈ L, vthB x) → List VTh
  | [], _ => []
  | x :: r, h => ⟨x, h x (by simp)⟩ :: toV r (fun y hy => h y (by simp [hy]))
def valV (x : VTh) : Th := x.1
theorem toV_map : ∀ (L : List Th) (h : ∀ x ∈ L, vthB x), (toV L h).map valV = L
  | [], _ => rfl
  | x :: r, h => by
    show valV _ :: (toV r _).map valV = x :: r
    rw [toV_map r]
    rfl
theorem toV_len (L : List Th) (h : ∀ x ∈ L, vthB x) : (toV L h).length = L.length := by
  have := congrArg List.length (toV_map L h)
  simpa using this
theorem toV_sort (L : List Th) (h : ∀ x ∈ L, vthB x) : ((toV L h).mergeSort (fun x y => !ltT y x)).map valV = sortT L := by
  rw [List.map_mergeSort (r := fun x y => !ltT y x) (s := leT) (f := valV) (fun a _ b _ => rfl), toV_map]
  rfl
theorem thCells_at : ∀ (L : List Th) (i : Nat) (x : Th), L[i]? = some x → (thCells L)[i * 3]? = some (.int .i64 x.1) ∧ (thCells L)[i * 3 + 1]? = some (.int .i64 x.2.1) ∧ (thCells L)[i * 3 + 2]? = some (.string ⟨x.2.2.toArray⟩)
  | [], _, _, h => by simp at h
  | y :: r, 0, x, h => by simp at h; subst h; simp [thCells, thCs]
  | y :: r, i + 1, x, h => by
    have := thCells_at r i x (by simpa using h)
    rw [show (i + 1) * 3 = i * 3 + 3 by omega]
    simpa [thCells, thCs] using this
theorem sort_other {w : World} {blk n : Nat} {d : Array VTh} {os : Array Obj} {i : Nat} (hi : i < w.heap.size) (hne : i ≠ blk) : (sortWorldK encT 3 w blk 0 n d os).heap[i]? = w.heap[i]? := by
  have h1 : (Sort.mapBlock (Sort.ahead w n) blk (Sort.putCells id 0 (flatK encT 3 d))).heap[i]? = w.heap[i]? := by
    simp only [Sort.mapBlock, Array.getElem?_modify]
    rw [if_neg (fun e => hne e.symm)]
    rfl
  have h2 : (Sort.grow (Sort.mapBlock (Sort.ahead w n) blk (Sort.putCells id 0 (flatK encT 3 d))) os).heap[i]? = (Sort.mapBlock (Sort.ahead w n) blk (Sort.putCells id 0 (flatK encT 3 d))).heap[i]? := Sort.heap_grow_old _ _ (by simp [Sort.mapBlock]; exact hi)
  exact h2.trans h1
theorem sort_below {w : World} {blk n B : Nat} {d : Array VTh} {os : Array Obj} (hB : B ≤ blk) (hblk : blk < w.heap.size) : Below B w (sortWorldK encT 3 w blk 0 n d os) :=
  ⟨rfl, rfl, rfl, by show w.heap.size ≤ ((w.heap.modify blk _) ++ os).size; simp, fun i hi => sort_other (by omega) (by omega)⟩
theorem thCells_get : ∀ (L : List Th) (j : Nat), j < L.length * 3 → (thCells L)[j]? = (thCs (L.getD (j / 3) (0, 0, [])))[j % 3]?
  | [], _, h => by simp at h
  | y :: r, 0, _ => by simp [thCells, thCs]
  | y :: r, 1, _ => by simp [thCells, thCs]
  | y :: r, 2, _ => by simp [thCells, thCs]
  | y :: r, j + 3, h => by
    have := thCells_get r j (by simp at h; omega)
    rw [show (j + 3) / 3 = j / 3 + 1 by omega, show (j + 3) % 3 = j % 3 by omega]
    simpa [thCells, thCs] using this
theorem arr_succ {α : Type} [Inhabited α] (a : α) (l : List α) (i : Nat) : (a :: l).toArray[i + 1]! = l.toArray[i]! := by simp
theorem toV_get : ∀ (L : List Th) (h : ∀ x ∈ L, vthB x) (i : Nat), i < L.length → ((toV L h).toArray[i]!).1 = L.getD i (0, 0, [])
  | [], _, _, hi => by simp at hi
  | x :: r, h, 0, _ => rfl
  | x :: r, h, i + 1, hi => by
    have := toV_get r (fun y hy => h y (by simp [hy])) i (by simpa using hi)
    exact (congrArg Subtype.val (arr_succ (α := VTh) _ _ i)).trans this
theorem holds_own {w : World} {B g cap : Nat} {L : List Th} (hv : ∀ x ∈ L, vthB x) (ho : w.ownsRow B 25 3 (.slice (some ⟨g, 0, none⟩) L.length cap) L.length (thCells L)) : HoldsK encT 3 w g 0 (toV L hv).toArray := by
  intro j hj
  rw [size_flatK] at hj
  have hsz : (toV L hv).toArray.size = L.length := by simp [toV_len]
  rw [hsz] at hj
  rw [Nat.zero_add, ho.cellAt j hj, get_flatK _ _ _ _ (by rw [hsz]; exact hj), thCells_get L j hj]
  refine ⟨?_, ho.frozenAt j⟩
  show _ = some ((thCs ((toV L hv).toArray[j / 3]!).1)[j % 3]!)
  rw [toV_get L hv (j / 3) (by omega)]
  have h3 : j % 3 < (thCs (L.getD (j / 3) (0, 0, []))).length := by simp [thCs]; omega
  rw [List.getElem?_eq_getElem h3]
  exact congrArg some (getElem!_pos (thCs (L.getD (j / 3) (0, 0, []))) (j % 3) h3).symm

/-- A row of things lies at a block. -/
def ThsAt (w : World) (g : Nat) (T : List Th) : Prop := ∀ i x, T[i]? = some x → w.cell? ⟨g, i * 3, none⟩ = some (.int .i64 x.1) ∧ w.cell? ⟨g, i * 3 + 1, none⟩ = some (.int .i64 x.2.1) ∧ w.cell? ⟨g, i * 3 + 2, none⟩ = some (.string ⟨x.2.2.toArray⟩)
theorem ThsAt.below {w w' : World} {B g : Nat} {T : List Th} (h : ThsAt w g T) (hb : Below B w w') (hg : g < B) : ThsAt w' g T := fun i x hx =>
  ⟨(hb.cell (p := ⟨g, i * 3, none⟩) hg).trans (h i x hx).1, (hb.cell (p := ⟨g, i * 3 + 1, none⟩) hg).trans (h i x hx).2.1, (hb.cell (p := ⟨g, i * 3 + 2, none⟩) hg).trans (h i x hx).2.2⟩
theorem map_get {d : Array VTh} {T : List Th} (h : d.toList.map valV = T) {i : Nat} {x : Th} (hx : T[i]? = some x) : i < d.size ∧ (d[i]!).1 = x := by
  subst h
  simp only [List.getElem?_map, Option.map_eq_some_iff] at hx
  obtain ⟨y, hy, rfl⟩ := hx
  obtain ⟨h1, rfl⟩ := List.getElem?_eq_some_iff.1 hy
  have h2 : i < d.size := by simpa using h1
  exact ⟨h2, by rw [getElem!_pos d i h2]; rfl⟩
theorem holds_cells {w : World} {g : Nat} {d : Array VTh} {T : List Th} (hH : HoldsK encT 3 w g 0 d) (hT : d.toList.map valV = T) : ThsAt w g T := by
  intro i x hx
  obtain ⟨hi, hv⟩ := map_get hT hx
  have key : ∀ j, j < 3 → w.cell? ⟨g, i * 3 + j, none⟩ = some ((thCs x)[j]!) := by
    intro j hj
    have h1 := (hH (i * 3 + j) (by rw [size_flatK]; omega)).1
    rw [Nat.zero_add, get_flatK _ _ _ _ (by omega)] at h1
    rw [show (i * 3 + j) / 3 = i by omega, show (i * 3 + j) % 3 = j by omega] at h1
    rw [h1]
    show some ((thCs (d[i]!).1)[j]!) = _
    rw [hv]
  exact ⟨key 0 (by omega), key 1 (by omega), key 2 (by omega)⟩
theorem sortT_perm (L : List Th) : (sortT L).Perm L := List.mergeSort_perm _ _
theorem sortT_len (L : List Th) : (sortT L).length = L.length := (sortT_perm L).length_eq
theorem own_some {w : World} {B : Nat} {t : TypeId} {z n : Nat} {v : Value} {cs : List Value} (h : w.ownsRow B t z v n cs) (hn : 0 < n) : ∃ g cap, v = .slice (some ⟨g, 0, none⟩) n cap := by
  rcases h.2 with ⟨_, rfl⟩ | ⟨g, cap, cur, rfl, _⟩
  · omega
  · exact ⟨g, cap, rfl⟩
section
variable {w : World} {k t r v : Int} {l : List UInt8} {kids : Fr}
end

theorem thCells_of {w : World} {g : Nat} {T : List Th} (h : ThsAt w g T) (j : Nat) (u : Value) (hu : (thCells T)[j]? = some u) : w.cell? ⟨g, 0 + j, none⟩ = some u := by
  have hj : j < T.length * 3 := by
    obtain ⟨h1, _⟩ := List.getElem?_eq_some_iff.1 hu
    rwa [thCells_len] at h1
  rw [thCells_get T j hj] at hu
  have h3 : j / 3 < T.length := by omega
  obtain ⟨x, hx⟩ : ∃ x, T[j / 3]? = some x := ⟨_, List.getElem?_eq_getElem h3⟩
  rw [show T.getD (j / 3) (0, 0, []) = x by simp [List.getD, hx]] at hu
  obtain ⟨c0, c1, c2⟩ := h _ _ hx
  have hjm : j % 3 < 3 := by omega
  rw [Nat.zero_add]
  by_cases m0 : j % 3 = 0
  · rw [m0] at hu
    rw [show j / 3 * 3 = j by omega] at c0
    exact c0.trans (by simpa [thCs] using hu)
  by_cases m1 : j % 3 = 1
  · rw [m1] at hu
    rw [show j / 3 * 3 + 1 = j by omega] at c1
    exact c1.trans (by simpa [thCs] using hu)
  have m2 : j % 3 = 2 := by omega
  rw [m2] at hu
  rw [show j / 3 * 3 + 2 = j by omega] at c2
  exact c2.trans (by simpa [thCs] using hu)
theorem ths_own {w : World} {B g cap : Nat} {T : List Th} (h : w.ownsRow B 25 3 (.slice (some ⟨g, 0, none⟩) T.length cap) T.length (thCells T)) : ThsAt w g T := by
  intro i x hx
  obtain ⟨h1, _⟩ := List.getElem?_eq_some_iff.1 hx
  obtain ⟨a, b, c⟩ := thCells_at T i x hx
  exact ⟨(h.cellAt (i * 3) (by omega)).trans a, (h.cellAt (i * 3 + 1) (by omega)).trans b, (h.cellAt (i * 3 + 2) (by omega)).trans c⟩
theorem oneTh : ∀ (T : List Th) (u : Value), u ∈ thCells T → u.oneCell' = true
  | [], _, h => by simp [thCells] at h
  | x :: r, u, h => by
    simp only [thCells, List.mem_append] at h
    rcases h with h | h
    · simp [thCs] at h
      rcases h with rfl | rfl | rfl <;> rfl
    · exact oneTh r u h
section
variable {w : World} {q k t r v : Int} {l : List UInt8} {kids : Fr}
end
end Go.Proofs.YtoegmdnfbemppaaGreatDoor
namespace Go.Proofs.YtoegmdnfbemppaaGreatDoor
open Go.RowKit

theorem SlAt.low {w w' : World} {hi B : Nat} {kv : Value} {f : Fr} (h : SlAt w hi kv f) (hh : hi ≤ B) (hb : Below B w w') : SlAt w' hi kv f :=
  h.keep fun b o h1 => hb.cell (p := ⟨b, o, none⟩) (Nat.lt_of_lt_of_le h1 hh)
section
variable {a k t r v : Int} {l : List UInt8} {kids : Fr}
end

section
variable {a : Int} {kids : Fr}
end

section
variable {a : Int} {kids : Fr}
end
end Go.Proofs.YtoegmdnfbemppaaGreatDoor
namespace Go.Proofs.YtoegmdnfbemppaaGreatDoor
open Go.RowKit

section
variable {a t r v : Int} {l : List UInt8} {kids : Fr}
end
theorem checkC_ok {a q k t r : Int} {l : List UInt8} {v : Int} {kids : Fr} (h : checkC a q k t r l v kids = 0) : archB a = true ∧ 1 ≤ q ∧ q ≤ 3 ∧ ownB a k t r l v kids.len = true ∧ okF a kids ∧ kids.size + 1 ≤ 1024 := by
  unfold checkC at h
  split at h
  · cases h
  · rename_i ha
    split at h
    · cases h
    · rename_i hq
      obtain ⟨h1, h2⟩ := walkF_ok a (.cons k t r l v kids .nil) 0 0 h
      have h3 := walkF_met a (.cons k t r l v kids .nil) 0 0 (by omega)
      rw [h2] at h3
      simp only [Fr.size] at h3
      exact ⟨by simpa using ha, by omega, by omega, h1.1, h1.2.1, by omega⟩
end Go.Proofs.YtoegmdnfbemppaaGreatDoor
namespace Go.Proofs.YtoegmdnfbemppaaGreatDoor
open Go.RowKit

theorem less_cmp : ∀ a b : List UInt8, Op.bytesLess a b = decide (Lib.compareBytes a b < 0)
  | [], [] => by simp [Op.bytesLess, Lib.compareBytes]
  | [], _ :: _ => by simp [Op.bytesLess, Lib.compareBytes]
  | _ :: _, [] => by simp [Op.bytesLess, Lib.compareBytes]
  | x :: a, y :: b => by
    rw [Bool.eq_iff_iff, decide_eq_true_iff, cmpB_lt]
    unfold Op.bytesLess
    rw [less_cmp a b]
    simp [UInt8.lt_iff_toNat_lt, ← UInt8.toNat_inj]
/-- The reference's Before. -/
def befC (x y : Th) : Bool :=
  if decide (x.1 = -1) != decide (y.1 = -1) then decide (y.1 = -1)
  else if x.1 ≠ y.1 then decide (x.1 < y.1) else if x.2.1 ≠ y.2.1 then decide (x.2.1 < y.2.1) else decide (Lib.compareBytes x.2.2 y.2.2 < 0)
def putT (x : Th) : List Th → List Th
  | [] => [x]
  | y :: r => if befC x y then x :: y :: r else y :: putT x r
def insT (x : Th) (l : List Th) : List Th := if x ∈ l then l else putT x l
def gatL (L acc : List Th) : List Th := L.foldl (fun a x => insT x a) acc
/-- A slice of things. -/
def ThsB (w : World) (A : Option Addr) (T : List Th) : Prop := ∀ i x, T[i]? = some x → ∃ b o, A = some ⟨b, o, none⟩ ∧ w.cell? ⟨b, o + i * 3, none⟩ = some (.int .i64 x.1) ∧ w.cell? ⟨b, o + i * 3 + 1, none⟩ = some (.int .i64 x.2.1) ∧ w.cell? ⟨b, o + i * 3 + 2, none⟩ = some (.string ⟨x.2.2.toArray⟩)
theorem ThsB.below {w w' : World} {A : Option Addr} {T : List Th} (h : ThsB w A T) (hb : Below w.heap.size w w') : ThsB w' A T := fun i x hx => by
  obtain ⟨b, o, e, c0, c1, c2⟩ := h i x hx
  exact ⟨b, o, e, cell_go c0 hb, cell_go c1 hb, cell_go c2 hb⟩
theorem ThsB.nil (w : World) (A : Option Addr) : ThsB w A [] := fun i x h => by simp at h
/-- A list that lies in blocks from N on, if it has any. -/
def NewA (N : Nat) (A : Option Addr) : Prop := ∀ p, A = some p → N ≤ p.block
/-- A list of things in blocks from N on. -/
def ThsN (N : Nat) (w : World) (A : Option Addr) (T : List Th) : Prop := ThsB w A T ∧ NewA N A
theorem ThsN.below {N : Nat} {w w' : World} {A : Option Addr} {T : List Th} (h : ThsN N w A T) (hb : Below w.heap.size w w') : ThsN N w' A T := ⟨h.1.below hb, h.2⟩
def GaPost (N : Nat) (T : List Th) (w : World) (e : Ending) (w' : World) : Prop := ∃ A cap, e = .returned (.slice A T.length cap) ∧ ThsN N w' A T ∧ Below w.heap.size w w'
theorem thCells_at' : ∀ (L : List Th) (i : Nat) (x : Th), L[i]? = some x → (thCells L)[i * 3]? = some (.int .i64 x.1) ∧ (thCells L)[i * 3 + 1]? = some (.int .i64 x.2.1) ∧ (thCells L)[i * 3 + 2]? = some (.string ⟨x.2.2.toArray⟩)
  | [], _, _, h => by simp at h
  | y :: r, 0, x, h => by
    simp only [List.getElem?_cons_zero, Option.some.injEq] at h
    subst h
    exact ⟨rfl, rfl, rfl⟩
  | y :: r, i + 1, x, h => by
    obtain ⟨a, b, c⟩ := thCells_at' r i x (by simpa using h)
    have e : (i + 1) * 3 = i * 3 + 1 + 1 + 1 := by omega
    rw [e]
    exact ⟨by simpa [thCells, thCs] using a, by simpa [thCells, thCs] using b, by simpa [thCells, thCs] using c⟩
theorem own_thsB {w : World} {B : Nat} {v : Value} {T : List Th} (h : w.ownsRow B 25 3 v T.length (thCells T)) : ∃ A cap, v = .slice A T.length cap ∧ ThsB w A T := by
  obtain ⟨A, cap, rfl⟩ := own_shp h
  refine ⟨A, cap, rfl, fun i x hx => ?_⟩
  have hi := (List.getElem?_eq_some_iff.1 hx).1
  obtain ⟨a, b, c⟩ := thCells_at' T i x hx
  rcases h.2 with ⟨e, h0⟩ | ⟨g, cap', cur, e, _⟩
  · omega
  simp only [Value.slice.injEq, true_and] at e
  obtain ⟨rfl, rfl⟩ := e
  have hl := thCells_len T
  refine ⟨g, 0, rfl, ?_, ?_, ?_⟩
  · rw [Nat.zero_add, h.cellAt _ (by omega)]; exact a
  · rw [Nat.zero_add, h.cellAt _ (by omega)]; exact b
  · rw [Nat.zero_add, h.cellAt _ (by omega)]; exact c
section
variable {w : World}
end
end Go.Proofs.YtoegmdnfbemppaaGreatDoor
namespace Go.Proofs.YtoegmdnfbemppaaGreatDoor
open Go.RowKit Go.WideShapes Go.ChangeShapes
section
variable {H : Type} {enc : TypeId × Value → H} {P : Program}
theorem post_of_below {f : Func} {s : ChangeSpec} {apart fresh handsOn again : Bool} {W W' : World} {args : Array Value} {v : Value} {ds gs : List (DataW H)} {before pa pv : List MemPlace}
    (hW : DataW.Whole enc P f.params.toList s.vars apart W args.toList ds gs before)
    (hres : ∀ (b : Nat) (sp : Nat → Bool) (hd : Bool), DataW.TrodAll enc P W' b sp hd f.resultTypes.toList (v.resultList f.resultTypes.size) (s.fn H (ds ++ gs)).results [])
    (hargs : ∀ sp : Nat → Bool, (∀ p ∈ before, sp p.block = true) → DataW.TrodAll enc P W' 0 sp true f.params.toList args.toList (s.fn H (ds ++ gs)).args pa)
    (hvars : ∀ sp : Nat → Bool, (∀ p ∈ before, sp p.block = true) → DataW.TrodVars enc P W' sp s.vars (s.fn H (ds ++ gs)).vars pv)
    (hps : before = pa ++ pv) (hb : Below W.heap.size W W')
    (hok : ∀ (j : Nat) (t : TypeId) (r : Value), f.resultTypes[j]? = some t → (v.resultList f.resultTypes.size)[j]? = some r → Value.okWide P W' .any 0 t r) :
    s.post enc P f apart fresh handsOn again W args v W' := by
  have hlt : ∀ p ∈ before, p.block < W.heap.size := fun p hp => hW.lt p hp
  have hold : ∀ p ∈ before, (fun b => decide (b < W.heap.size)) p.block = true := fun p hp => by simpa using hlt p hp
  refine ⟨ds, gs, before, [], pa, pv, hW, hres _ _ _, hargs _ hold, hvars _ hold, World.keptBut_mono (fun p hp => ⟨hp, ?_⟩) (hb.frame (· ∈ before)), fun _ => ?_⟩
  · rw [hps, List.mem_append] at hp
    exact Or.inr hp
  · obtain ⟨_, _, _, _, _, hz, hn⟩ := hW
    refine ⟨hok, _, _, ([] ++ pa) ++ pv, ⟨[] ++ pa, pv, trodAll_append (hargs _ (fun _ _ => rfl)) (hres _ _ _), hvars _ (fun _ _ => rfl), rfl, ?_, ?_⟩, ?_⟩
    · intro b off hp
      have hin : MemPlace.cell b off ∈ before := by rw [hps]; simpa using hp
      rw [hb.frozen (hlt _ hin)]
      exact hz b off hin
    · intro ha
      have := hn ha
      rw [hps] at this
      simpa using this
    · intro p hp _
      rw [hps]
      simpa using hp
theorem trodAll_stays (hl : laidOutB P = true) {W W' : World} (hb : Below W.heap.size W W') {sp : Nat → Bool} : ∀ {ts : List TypeId} {vs : List Value} {ds : List (DataW H)} {ps : List MemPlace},
    (∀ t ∈ ts, P.readableRec t = true ∧ t < P.types.size) → DataW.TrodAll enc P W 0 (fun _ => true) true ts vs ds ps → (∀ p ∈ ps, p.block < W.heap.size) → (∀ p ∈ ps, sp p.block = true) → DataW.TrodAll enc P W' 0 sp true ts vs ds ps
  | [], _, _, _, _, h, _, _ => by
    obtain ⟨rfl, rfl, rfl⟩ := trodAll_nil h
    rfl
  | t :: ts, _, _, _, hr, h, hlt, hsp => by
    obtain ⟨v, vs, d, ds, p, q, rfl, rfl, rfl, h1, h2⟩ := trodAll_cons h
    exact ⟨p, q, WideElems.Trod_stays hl (hr t (by simp)).1 (hr t (by simp)).2 h1 (fun x hx => hb.same (hlt x (by simp [hx]))) (fun x hx => hsp x (by simp [hx])),
      trodAll_stays hl hb (fun u hu => hr u (by simp [hu])) h2 (fun x hx => hlt x (by simp [hx])) (fun x hx => hsp x (by simp [hx])), rfl⟩

theorem trodAll_len {w : World} {base : Nat} {spare : Nat → Bool} {held : Bool} : ∀ {ts : List TypeId} {vs : List Value} {ds : List (DataW H)} {ps : List MemPlace}, DataW.TrodAll enc P w base spare held ts vs ds ps → ds.length = ts.length
  | [], _, _, _, h => by
    obtain ⟨rfl, rfl, rfl⟩ := trodAll_nil h
    rfl
  | t :: ts, _, _, _, h => by
    obtain ⟨v, vs, d, ds, p, q, rfl, rfl, rfl, h1, h2⟩ := trodAll_cons h
    simp [trodAll_len h2]

/-- The row's last step for a law: it returned true, and all that was there stays. -/
theorem post_true {f : Func} {s : ChangeSpec} {tb : TypeId} {W W' : World} {args : Array Value} {ds gs : List (DataW H)} {before : List MemPlace} (hl : laidOutB P = true)
    (hr : (f.params.toList.all fun t => P.readableRec t && decide (t < P.types.size)) = true) (hv : s.vars = []) (hrt : f.resultTypes = #[tb]) (htb : P.underlying tb = some .bool)
    (hs : ∀ ds : List (DataW H), ds.length = f.params.toList.length → s.fn H ds = { results := [.lit (.bool true)], args := ds })
    (hW : DataW.Whole enc P f.params.toList s.vars false W args.toList ds gs before) (hb : Below W.heap.size W W') : s.post enc P f false true false false W args (.bool true) W' := by
  have hr' : ∀ t ∈ f.params.toList, P.readableRec t = true ∧ t < P.types.size := fun t ht => by
    have := List.all_eq_true.1 hr t ht
    simpa using this
  have hW' := hW
  obtain ⟨p, q, hA, hV, rfl, hfz, hnd⟩ := hW
  rw [hv] at hV
  obtain ⟨rfl, rfl⟩ := trodVars_none hV
  have hlen := trodAll_len hA
  have hfn := hs ds hlen
  have hlt : ∀ x ∈ p, x.block < W.heap.size := fun x hx => hW'.lt x (by simpa using hx)
  refine post_of_below (pa := p) (pv := []) hW' (fun _ _ _ => ?_) (fun sp hsp => ?_) (fun _ _ => ?_) rfl hb (ok_one hrt rfl (okWide_bool_mk htb _))
  · rw [List.append_nil, hfn, hrt]
    exact trodAll_cons_mk (shut_bool htb _) trodAll_mk0
  · rw [List.append_nil, hfn]
    exact trodAll_stays hl hb hr' hA hlt (fun x hx => hsp x (by simpa using hx))
  · rw [List.append_nil, hfn, hv]; rfl
end
end Go.Proofs.YtoegmdnfbemppaaGreatDoor
