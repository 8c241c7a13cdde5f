/- Layer 8: the program's things. -/
import Derived.Test.YtmlnibjnacfanaaGreatDoorEh
import Derived.Test.YtmlnibjnacfanaaGreatDoorCi
import Derived.Sort.LotA
import Derived.Test.YtmlnibjnacfanaaGreatDoorEi
namespace Go.Proofs.YtmlnibjnacfanaaGreatDoor
open Go.RowKit
open Go.Sort (sorted_unique_holds flatK size_flatK get_flatK HoldsK)

def leT (x y : Th) : Bool := !decide (standC y x < 0)
/-- The things in order. -/
def sortT (L : List Th) : List Th := L.mergeSort leT
def vthB (x : Th) : Prop := thingB 2 x.1 x.2.1 x.2.2 = true
def toV : (L : List Th) → (∀ x ∈ L, vthB x) → List VTh
  | [], _ => []
  | x :: r, h => ⟨x, h x (by simp)⟩ :: toV r (fun y hy => h y (by simp [hy]))
def valV (x : VTh) : Th := x.1
theorem toV_map : ∀ (L : List Th) (h : ∀ x ∈ L, vthB x), (toV L h).map valV = L
  | [], _ => rfl
  | x :: r, h => by
    show valV _ :: (toV r _).map valV = x :: r
    rw [toV_map r]
    rfl
theorem toV_len (L : List Th) (h : ∀ x ∈ L, vthB x) : (toV L h).length = L.length := by
  have := congrArg List.length (toV_map L h)
  simpa using this
theorem toV_sort (L : List Th) (h : ∀ x ∈ L, vthB x) : ((toV L h).mergeSort (fun x y => !ltT y x)).map valV = sortT L := by
  rw [List.map_mergeSort (r := fun x y => !ltT y x) (s := leT) (f := valV) (fun a _ b _ => rfl), toV_map]
  rfl
theorem thCells_at : ∀ (L : List Th) (i : Nat) (x : Th), L[i]? = some x → (thCells L)[i * 3]? = some (.int .i64 x.1) ∧ (thCells L)[i * 3 + 1]? = some (.int .i64 x.2.1) ∧ (thCells L)[i * 3 + 2]? = some (.string ⟨x.2.2.toArray⟩)
  | [], _, _, h => by simp at h
  | y :: r, 0, x, h => by simp at h; subst h; simp [thCells, thCs]
  | y :: r, i + 1, x, h => by
    have := thCells_at r i x (by simpa using h)
    rw [show (i + 1) * 3 = i * 3 + 3 by omega]
    simpa [thCells, thCs] using this
theorem sort_other {w : World} {blk n : Nat} {d : Array VTh} {os : Array Obj} {i : Nat} (hi : i < w.heap.size) (hne : i ≠ blk) : (sortWorldK encT 3 w blk 0 n d os).heap[i]? = w.heap[i]? := by
  have h1 : (Sort.mapBlock (Sort.ahead w n) blk (Sort.putCells id 0 (flatK encT 3 d))).heap[i]? = w.heap[i]? := by
    simp only [Sort.mapBlock, Array.getElem?_modify]
    rw [if_neg (fun e => hne e.symm)]
    rfl
  have h2 : (Sort.grow (Sort.mapBlock (Sort.ahead w n) blk (Sort.putCells id 0 (flatK encT 3 d))) os).heap[i]? = (Sort.mapBlock (Sort.ahead w n) blk (Sort.putCells id 0 (flatK encT 3 d))).heap[i]? := Sort.heap_grow_old _ _ (by simp [Sort.mapBlock]; exact hi)
  exact h2.trans h1
theorem sort_below {w : World} {blk n B : Nat} {d : Array VTh} {os : Array Obj} (hB : B ≤ blk) (hblk : blk < w.heap.size) : Below B w (sortWorldK encT 3 w blk 0 n d os) :=
  ⟨rfl, rfl, rfl, by show w.heap.size ≤ ((w.heap.modify blk _) ++ os).size; simp, fun i hi => sort_other (by omega) (by omega)⟩
theorem thCells_get : ∀ (L : List Th) (j : Nat), j < L.length * 3 → (thCells L)[j]? = (thCs (L.getD (j / 3) (0, 0, [])))[j % 3]?
  | [], _, h => by simp at h
  | y :: r, 0, _ => by simp [thCells, thCs]
  | y :: r, 1, _ => by simp [thCells, thCs]
  | y :: r, 2, _ => by simp [thCells, thCs]
  | y :: r, j + 3, h => by
    have := thCells_get r j (by simp at h; omega)
    rw [show (j + 3) / 3 = j / 3 + 1 by omega, show (j + 3) % 3 = j % 3 by omega]
    simpa [thCells, thCs] using this
theorem arr_succ {α : Type} [Inhabited α] (a : α) (l : List α) (i : Nat) : (a :: l).toArray[i + 1]! = l.toArray[i]! := by simp
theorem toV_get : ∀ (L : List Th) (h : ∀ x ∈ L, vthB x) (i : Nat), i < L.length → ((toV L h).toArray[i]!).1 = L.getD i (0, 0, [])
  | [], _, _, hi => by simp at hi
  | x :: r, h, 0, _ => rfl
  | x :: r, h, i + 1, hi => by
    have := toV_get r (fun y hy => h y (by simp [hy])) i (by simpa using hi)
    exact (congrArg Subtype.val (arr_succ (α := VTh) _ _ i)).trans this
theorem holds_own {w : World} {B g cap : Nat} {L : List Th} (hv : ∀ x ∈ L, vthB x) (ho : w.ownsRow B 23 3 (.slice (some ⟨g, 0, none⟩) L.length cap) L.length (thCells L)) : HoldsK encT 3 w g 0 (toV L hv).toArray := by
  intro j hj
  rw [size_flatK] at hj
  have hsz : (toV L hv).toArray.size = L.length := by simp [toV_len]
  rw [hsz] at hj
  rw [Nat.zero_add, ho.cellAt j hj, get_flatK _ _ _ _ (by rw [hsz]; exact hj), thCells_get L j hj]
  refine ⟨?_, ho.frozenAt j⟩
  show _ = some ((thCs ((toV L hv).toArray[j / 3]!).1)[j % 3]!)
  rw [toV_get L hv (j / 3) (by omega)]
  have h3 : j % 3 < (thCs (L.getD (j / 3) (0, 0, []))).length := by simp [thCs]; omega
  rw [List.getElem?_eq_getElem h3]
  exact congrArg some (getElem!_pos (thCs (L.getD (j / 3) (0, 0, []))) (j % 3) h3).symm
end Go.Proofs.YtmlnibjnacfanaaGreatDoor
