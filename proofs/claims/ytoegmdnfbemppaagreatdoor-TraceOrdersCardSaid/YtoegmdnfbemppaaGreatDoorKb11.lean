/- Layer 15: sets of events as bits. Lists of ints in blocks of the call's own; make. Lists of things of several cells in memory, for any encoding: rows of the call's own, slices that read as a list. Rows of the call's own: a list of several is put behind. Rows of the call's own: an append, and where the row lies behind it. Layer 13: tests: plain, and how they lie in memory. DERIVED: THE SHELF's CONTRACTS AT THIS DUMP, IN PLAIN WORDS (tools/lay-plain.mjs out of 'TryzShelf2.lean', which tools/lay-shelf.mjs wrote): THE SAME DECLARATIONS UNDER THE SAME NAMES: 'import', 'namespace', 'open', 'def', 'theorem' AND NOTHING ELSE: no command of the shelf's: FOR A HAND-IN. Each laying: the table of numbers ('.._ren') and one theorem, a field a fact of the dump's own or the kernel's comparison; each contract: ONE APPLICATION. Regions that draw their order: loads are taken first though the region writes their cells later on. Layer 8: whether a node holds: the program's holds. Layer 8: whether a node holds, at each kind. Layer 8: the program's numbers. -/
import Derived.Test.YtoegmdnfbemppaaGreatDoorKb02
import Derived.Test.YtoegmdnfbemppaaGreatDoorKb06
import Derived.Test.YtoegmdnfbemppaaGreatDoorKb07
import Derived.Test.YtoegmdnfbemppaaGreatDoorKb09
import Derived.Laws.Entries
import Derived.Laws.MakeOwn
import Derived.Laws.AppendOwnNone
import Derived.Shelf.SlGeneric
import Derived.Shelf.SlSortCmp.WholeK
import Derived.Ground.SlsfProg
import Derived.Ground.SlgnProg
import Derived.Shelf.SlicesE.Clone
import Derived.Test.YtoegmdnfbemppaaGreatDoorProg
namespace Go.Proofs.YtoegmdnfbemppaaGreatDoor
open Go.RowKit

theorem wrap_u64 {a : Nat} (h : a < 18446744073709551616) : IntKind.u64.wrap (a : Int) = (a : Int) := by
  unfold IntKind.wrap
  simp [IntKind.bits, IntKind.signed]
  omega
theorem bits_or64 {a b : Nat} (ha : a < 18446744073709551616) (hb : b < 18446744073709551616) : bits .or .u64 (a : Int) (b : Int) = ((a ||| b : Nat) : Int) := by
  have hab : a ||| b < 2 ^ 64 := Nat.or_lt_two_pow (by simpa using ha) (by simpa using hb)
  unfold bits
  have e : ((BitVec.ofInt IntKind.u64.bits (a : Int)) ||| (BitVec.ofInt IntKind.u64.bits (b : Int))).toNat = a ||| b := by
    rw [BitVec.toNat_or, BitVec.ofInt_natCast, BitVec.ofInt_natCast, BitVec.toNat_ofNat, BitVec.toNat_ofNat]
    show a % 2 ^ 64 ||| b % 2 ^ 64 = _
    rw [Nat.mod_eq_of_lt (by simpa using ha), Nat.mod_eq_of_lt (by simpa using hb)]
  simp only [e]
  exact wrap_u64 (by simpa using hab)
theorem bits_and1 {a : Nat} (ha : a < 18446744073709551616) : bits .and .u64 (a : Int) 1 = ((a % 2 : Nat) : Int) := by
  unfold bits
  have e : ((BitVec.ofInt IntKind.u64.bits (a : Int)) &&& (BitVec.ofInt IntKind.u64.bits (1 : Int))).toNat = a % 2 := by
    rw [show (1 : Int) = ((1 : Nat) : Int) from rfl, BitVec.toNat_and, BitVec.ofInt_natCast, BitVec.ofInt_natCast, BitVec.toNat_ofNat, BitVec.toNat_ofNat]
    show a % 2 ^ 64 &&& 1 % 2 ^ 64 = _
    rw [Nat.mod_eq_of_lt (by simpa using ha)]
    simp [Nat.and_one_is_mod]
  simp only [e]
  exact wrap_u64 (by omega)
theorem shl_one {i : Nat} (h : i < 64) : IntKind.u64.wrap (1 * 2 ^ i) = ((2 ^ i : Nat) : Int) := by
  have : 2 ^ i < 2 ^ 64 := Nat.pow_lt_pow_right (by omega) h
  rw [Int.one_mul, show ((2 : Int) ^ i) = ((2 ^ i : Nat) : Int) by simp]
  exact wrap_u64 (by simpa using this)
theorem bit_mod (a i : Nat) : (a / 2 ^ i % 2 = 1) = (a.testBit i = true) := by
  rw [Nat.testBit_eq_decide_div_mod_eq]; simp
end Go.Proofs.YtoegmdnfbemppaaGreatDoor
namespace Go.Proofs.YtoegmdnfbemppaaGreatDoor
open Go.RowKit

abbrev cellsI (l : List Int) : Array Value := (l.map (Value.int .i64)).toArray
theorem cellsI_at {l : List Int} {i : Nat} {v : Int} (h : l[i]? = some v) : (cellsI l)[i]? = some (.int .i64 v) := by simp [cellsI, h]
theorem cellsI_set (l : List Int) (i : Nat) (v : Int) : (cellsI l).setIfInBounds i (.int .i64 v) = cellsI (l.set i v) := by
  simp [cellsI, List.map_set]
theorem made_one (v : Value) (n : Nat) : madeCells #[v] n = (List.replicate n v).toArray := by
  unfold madeCells
  apply Array.ext
  · simp
  · intro i h1 h2
    simp [Nat.mod_one]
theorem made_ints (n : Nat) : madeCells #[.int .i64 0] n = cellsI (List.replicate n 0) := by
  rw [made_one]; simp [cellsI]
theorem info_partsM {o : Option TypeInfo} {z : Option Value} {a b : Nat} (h : o.map (fun i => (i.zero, i.size, i.bytes)) = some (z, a, b)) : ∃ i, o = some i ∧ i.zero = z ∧ i.size = a ∧ i.bytes = b := by
  cases o with
  | none => cases h
  | some i => simp at h; exact ⟨i, rfl, h.1, h.2.1, h.2.2⟩
theorem infoIntM : (Tryz.prog.info? 3).map (fun i => (i.zero, i.size, i.bytes)) = some (some (.int .i64 0), 1, 8) := by kernel_rfl
theorem mk_ints (n : Nat) (hn : n ≤ 1000000) (w : World) : (Instr.makeSlice 34 (.int .i64 (n : Int)) (.int .i64 (n : Int))).run Tryz.prog w = .ok (.slice (some ⟨w.heap.size, 0, none⟩) n n) (w.alloc (.cells (cellsI (List.replicate n 0)) 3 (0, 0))) := by
  obtain ⟨i0, hi, hz0, hz1, hz2⟩ := info_partsM infoIntM
  have h := run_make (P := Tryz.prog) w 34 3 i0 _ Tryz.underlying34 hi hz0 .i64 .i64 (n : Int) (n : Int) (by omega) (Int.le_refl _) (by rw [hz2]; omega) (by omega)
  rw [h, hz1]
  simp only [Int.toNat_natCast, Nat.mul_one]
  rw [show (Value.int .i64 0).cells = #[Value.int .i64 0] from rfl, made_ints]
/-- Block b holds o. -/
def ObjAt (w : World) (b : Nat) (o : Obj) : Prop := w.heap[b]? = some o
section
variable {w w' : World} {b : Nat} {o : Obj}
theorem ObjAt.lt (h : ObjAt w b o) : b < w.heap.size := (Array.getElem?_eq_some_iff.1 h).1
theorem ObjAt.new (w : World) (o : Obj) : ObjAt (w.alloc o) w.heap.size o := heap_alloc_new w _
theorem ObjAt.alloc (h : ObjAt w b o) (x : Obj) : ObjAt (w.alloc x) b o := (Below.heap_alloc w x b h.lt).trans h
theorem ObjAt.far (h : ObjAt w b o) {p : Addr} (hp : b ≠ p.block) (u : Value) : ObjAt (w.setCell p u) b o := (Below.heap_setCell w p u b hp).trans h
theorem ObjAt.go (h : ObjAt w b o) (hb : Below w.heap.size w w') : ObjAt w' b o := (hb.block b h.lt).trans h
theorem ObjAt.only {q : Nat} (h : ObjAt w b o) (hb : Only q w w') (hg : b ≠ q) : ObjAt w' b o := (hb.block b h.lt (fun e => hg (by injection e))).trans h
end
end Go.Proofs.YtoegmdnfbemppaaGreatDoor
namespace Go.Proofs.YtoegmdnfbemppaaGreatDoor
open Go.RowKit

/-- How a thing lies in cells: always as many. -/
structure Enc (α : Type) where
  size : Nat
  enc : α → List Value
  len : ∀ x, (enc x).length = size
  pos : 0 < size
  one : ∀ x, ∀ u ∈ enc x, u.oneCell' = true
namespace Enc
variable {α : Type} (E : Enc α)
def flat (l : List α) : List Value := (l.map E.enc).flatten
theorem flat_cons (x : α) (l : List α) : E.flat (x :: l) = E.enc x ++ E.flat l := rfl
theorem flat_append (a b : List α) : E.flat (a ++ b) = E.flat a ++ E.flat b := by simp [flat]
theorem flat_one (x : α) : E.flat [x] = E.enc x := by simp [flat]
theorem flat_snoc (l : List α) (x : α) : E.flat (l ++ [x]) = E.flat l ++ E.enc x := by rw [flat_append, flat_one]
theorem flat_len (l : List α) : (E.flat l).length = l.length * E.size := by
  induction l with
  | nil => simp [flat]
  | cons x l ih => rw [flat_cons, List.length_append, ih, E.len, List.length_cons, Nat.succ_mul]; omega
theorem flat_at : ∀ {l : List α} {i : Nat} {x : α} (_ : l[i]? = some x) {j : Nat} (_ : j < E.size), (E.flat l)[i * E.size + j]? = (E.enc x)[j]?
  | [], i, x, h, j, hj => by simp at h
  | y :: l, 0, x, h, j, hj => by
    simp at h; subst h
    rw [flat_cons, Nat.zero_mul, Nat.zero_add, List.getElem?_append_left (by rw [E.len]; exact hj)]
  | y :: l, i + 1, x, h, j, hj => by
    simp only [List.getElem?_cons_succ] at h
    have ih := flat_at h hj
    rw [flat_cons, List.getElem?_append_right (by rw [E.len, Nat.succ_mul]; omega), E.len, ← ih]
    congr 1
    rw [Nat.succ_mul]; omega
/-- A slice's place A reads as the list l. -/
def At (w : World) (A : Option Addr) (l : List α) : Prop := ∀ i x, l[i]? = some x → ∃ b o, A = some ⟨b, o, none⟩ ∧ ∀ j u, (E.enc x)[j]? = some u → w.cell? ⟨b, o + i * E.size + j, none⟩ = some u
variable {E}
theorem At.below {w w' : World} {A : Option Addr} {l : List α} (h : E.At w A l) (hb : Below w.heap.size w w') : E.At w' A l := fun i x hx => by
  obtain ⟨b, o, e, hc⟩ := h i x hx
  exact ⟨b, o, e, fun j u hj => cell_go (hc j u hj) hb⟩
theorem At.nil (w : World) (A : Option Addr) : E.At w A [] := fun i x h => by simp at h
theorem At.lt {w : World} {b o : Nat} {l : List α} (h : E.At w (some ⟨b, o, none⟩) l) (hl : 0 < l.length) : b < w.heap.size := by
  obtain ⟨b', o', e, hc⟩ := h 0 l[0] (List.getElem?_eq_getElem hl)
  cases e
  have h0 : 0 < (E.enc l[0]).length := by rw [E.len]; exact E.pos
  exact World.block_lt_of_cell? w _ (hc 0 _ (List.getElem?_eq_getElem h0))
/-- The same where a stretch of old blocks stays. -/
theorem At.keep {w w' : World} {A : Option Addr} {l : List α} {B : Nat} (h : E.At w A l) (hA : ∀ p, A = some p → p.block < B) (hb : Below B w w') : E.At w' A l := fun i x hx => by
  obtain ⟨b, o, e, hc⟩ := h i x hx
  exact ⟨b, o, e, fun j u hj => cell_go' (hc j u hj) hb (hA _ e)⟩
theorem At.only {w w' : World} {A : Option Addr} {l : List α} {g : Nat} (h : E.At w A l) (hA : ∀ p, A = some p → p.block ≠ g) (hb : Only g w w') : E.At w' A l := fun i x hx => by
  obtain ⟨b, o, e, hc⟩ := h i x hx
  exact ⟨b, o, e, fun j u hj => Only.cell (hc j u hj) hb (hA _ e)⟩
theorem At.drop {w : World} {b o : Nat} {l : List α} (h : E.At w (some ⟨b, o, none⟩) l) (k : Nat) : E.At w (some ⟨b, o + k * E.size, none⟩) (l.drop k) := by
  intro i x hx
  rw [List.getElem?_drop] at hx
  obtain ⟨b', o', e, hc⟩ := h _ x hx
  cases e
  refine ⟨b, o + k * E.size, rfl, fun j u hj => ?_⟩
  have := hc j u hj
  rwa [show o + (k + i) * E.size = o + k * E.size + i * E.size by rw [Nat.add_mul]; omega] at this
/-- A row of the call's own that reads as l. -/
abbrev Own (E : Enc α) (T : TypeId) (B : Nat) (w : World) (v : Value) (l : List α) : Prop := w.ownsRow B T E.size v l.length (E.flat l)
theorem Own.at_ {T : TypeId} {B : Nat} {w : World} {v : Value} {l : List α} (h : E.Own T B w v l) : ∃ A cap, v = .slice A l.length cap ∧ E.At w A l ∧ (∀ p, A = some p → B ≤ p.block) ∧ l.length ≤ cap := by
  obtain ⟨A, cap, rfl⟩ := own_shp h
  rcases h.2 with ⟨e, h0⟩ | ⟨g, cap', cur, e, h1, h2, h3, h4, h5, h6⟩
  · simp only [Value.slice.injEq] at e
    obtain ⟨rfl, e2, rfl⟩ := e
    refine ⟨none, 0, rfl, ?_, (fun p hp => by cases hp), by omega⟩
    have : l = [] := List.length_eq_zero_iff.1 h0
    subst this
    exact At.nil _ _
  · simp only [Value.slice.injEq, true_and] at e
    obtain ⟨rfl, rfl⟩ := e
    refine ⟨_, cap, rfl, fun i x hx => ?_, (fun p hp => by cases hp; exact h1), h3⟩
    refine ⟨g, 0, rfl, fun j u hj => ?_⟩
    have hjs : j < E.size := by have := (List.getElem?_eq_some_iff.1 hj).1; rwa [E.len] at this
    have hi := (List.getElem?_eq_some_iff.1 hx).1
    have hlt : i * E.size + j < l.length * E.size := by
      have : (i + 1) * E.size ≤ l.length * E.size := Nat.mul_le_mul_right _ hi
      rw [Nat.succ_mul] at this; omega
    rw [Nat.zero_add, h.cellAt _ hlt, E.flat_at hx hjs]
    exact hj
/-- What the model must know of an element's type. -/
structure Elem (E : Enc α) (T S : TypeId) (bytes : Nat) : Prop where
  sl : Tryz.prog.underlying S = some (.slice T)
  info : ∃ z : Value, (Tryz.prog.info? T).map (fun i => (i.zero, i.size, i.bytes)) = some (some z, E.size, bytes) ∧ z.cells.size = E.size
/-- One more at the end of a row of the call's own. -/
theorem app {T S : TypeId} {bytes : Nat} (hE : E.Elem T S bytes) {ops : Array Oper} {rest : List Oper} {o : Oper} {a : Act} {Q : Exit → Act → World → Prop} (W : World)
    (hg : o.guard = none) (s x : Operand) (hop : o.op = Op.call { callee := Callee.builtin Builtin.append, args := #[s, x], argTypes := #[S, S] })
    (y : α) (B : Nat) (l : List α) (v : Value) (hs : a.eval s = v) (hx : a.eval x = .slice (some ⟨W.heap.size, 0, none⟩) 1 1)
    (hown : E.Own T B W v l) (b1 : l.length + 1 ≤ 1152921504606846976) (b2 : (l.length + 1) * bytes ≤ 140737488355328) (hB : B ≤ W.heap.size)
    (hK : ∀ v' w1, E.Own T B w1 v' (l ++ [y]) → Grew W w1 B v → wpList Tryz.prog ops Q rest (a.put o.dst v') w1) :
    wpList Tryz.prog ops Q (o :: rest) a (W.alloc (.cells (E.enc y).toArray T (0, 0))) := by
  obtain ⟨z, hz, hzs⟩ := hE.info
  refine app_one W hg s x S T hop z E.size bytes hE.sl hz hzs E.pos (E.enc y) (E.len y) (E.one y) B l.length (E.flat l) v hs hx hown b1 b2 hB (fun v' w1 h1 h2 => hK v' w1 ?_ h2)
  show w1.ownsRow B T E.size v' (l ++ [y]).length (E.flat (l ++ [y]))
  rw [E.flat_snoc, List.length_append]
  exact h1
theorem Own.nil (T : TypeId) (B : Nat) (w : World) : E.Own T B w (.slice none 0 0) [] := World.ownsRow_nil _ _ _ _
theorem Own.below {T : TypeId} {B : Nat} {w w' : World} {v : Value} {l : List α} (h : E.Own T B w v l) (hb : Below w.heap.size w w') : E.Own T B w' v l := own_below h hb
theorem Own.shp {T : TypeId} {B : Nat} {w : World} {v : Value} {l : List α} (h : E.Own T B w v l) : ∃ A cap, v = .slice A l.length cap := own_shp h
end Enc
abbrev encI : Enc Int := ⟨1, fun n => [.int .i64 n], fun _ => rfl, by omega, fun _ u h => by simp at h; subst h; rfl⟩
abbrev encS : Enc (List UInt8) := ⟨1, fun s => [.string ⟨s.toArray⟩], fun _ => rfl, by omega, fun _ u h => by simp at h; subst h; rfl⟩
theorem elemI : encI.Elem 3 34 8 := ⟨Tryz.underlying34, .int .i64 0, by kernel_rfl, rfl⟩
theorem elemS : encS.Elem 9 33 16 := ⟨Tryz.underlying33, .string ⟨#[]⟩, by kernel_rfl, rfl⟩
end Go.Proofs.YtoegmdnfbemppaaGreatDoor
namespace Go.Proofs.YtoegmdnfbemppaaGreatDoor
open Go.RowKit

namespace Enc
variable {α : Type} {E : Enc α}
theorem At.cells {w : World} {b o : Nat} {l : List α} (h : E.At w (some ⟨b, o, none⟩) l) (j : Nat) (u : Value) (hj : (E.flat l)[j]? = some u) : w.cell? ⟨b, o + j, none⟩ = some u := by
  have hp := E.pos
  have hlt := (List.getElem?_eq_some_iff.1 hj).1
  rw [E.flat_len] at hlt
  have hq : j / E.size < l.length := Nat.div_lt_of_lt_mul (by rw [Nat.mul_comm]; exact hlt)
  obtain ⟨b', o', e, hc⟩ := h (j / E.size) _ (List.getElem?_eq_getElem hq)
  simp only [Option.some.injEq, Addr.mk.injEq, and_true] at e
  obtain ⟨rfl, rfl⟩ := e
  have hm := Nat.mod_lt j hp
  have hd := Nat.div_add_mod' j E.size
  have h2 := E.flat_at (List.getElem?_eq_getElem hq) hm
  rw [hd] at h2
  have := hc (j % E.size) u (by rw [← h2]; exact hj)
  rwa [show o + j / E.size * E.size + j % E.size = o + j by rw [Nat.add_assoc, hd]] at this
theorem addr_add (b o j : Nat) : (⟨b, o, none⟩ : Addr).add j = ⟨b, o + j, none⟩ := by
  unfold Addr.add
  split
  · rename_i h; subst h; rfl
  · rfl
theorem appL {T S : TypeId} {bytes : Nat} (hE : E.Elem T S bytes) {ops : Array Oper} {rest : List Oper} {o : Oper} {a : Act} {Q : Exit → Act → World → Prop} (V : World)
    (hg : o.guard = none) (s x : Operand) (hop : o.op = Op.call { callee := Callee.builtin Builtin.append, args := #[s, x], argTypes := #[S, S] })
    (ys : List α) (B : Nat) (l : List α) (v : Value) (b2 o2 c2 : Nat) (hs : a.eval s = v) (hx : a.eval x = .slice (some ⟨b2, o2, none⟩) ys.length c2)
    (hys : E.At V (some ⟨b2, o2, none⟩) ys) (hown : E.Own T B V v l) (b1 : l.length + ys.length ≤ 1152921504606846976) (b3 : (l.length + ys.length) * bytes ≤ 140737488355328) (hB : B ≤ V.heap.size)
    (hK : ∀ v' w1, E.Own T B w1 v' (l ++ ys) → Grew V w1 B v → wpList Tryz.prog ops Q rest (a.put o.dst v') w1) :
    wpList Tryz.prog ops Q (o :: rest) a V := by
  obtain ⟨z, hz, hzs⟩ := hE.info
  obtain ⟨i0, hi, hz0, hz1, hz2⟩ := info_partsM hz
  refine wpList_append_own _ hg s x S hop B T i0 z E.size bytes hE.sl hi hz0 hz1 hz2 hzs E.pos v l.length (E.flat l) hs hown ⟨b2, o2, none⟩ ys.length c2 (E.flat ys) hx (E.flat_len ys) (fun j u hj => by rw [addr_add]; exact hys.cells j u hj) ?_ (by unfold maxLen; omega) b3 hB ?_
  · intro u hu
    unfold flat at hu
    obtain ⟨q, hq, huq⟩ := List.mem_flatten.1 hu
    obtain ⟨y, _, rfl⟩ := List.mem_map.1 hq
    exact E.one y u huq
  · intro v' w1 hown' hgrow _
    refine hK v' w1 ?_ ⟨?_, fun i hi hne => ?_⟩
    · show w1.ownsRow B T E.size v' (l ++ ys).length (E.flat (l ++ ys))
      rw [E.flat_append, List.length_append]
      exact hown'
    · exact (Below.refl _ _).grown hgrow hB (fun j hj => (hown.lt j hj).1)
    · exact hgrow.block i hi (fun e => hne e.symm)
end Enc
end Go.Proofs.YtoegmdnfbemppaaGreatDoor
namespace Go.Proofs.YtoegmdnfbemppaaGreatDoor
open Go.RowKit

theorem own_whichE {P : Program} (w : World) (base : Nat) (t ty e : TypeId) (i : TypeInfo) (z : Value) (size bytes : Nat) (ht : P.underlying t = some (.slice e)) (hi : P.info? e = some i) (hz : i.zero = some z)
    (hsize : i.size = size) (hby : i.bytes = bytes) (hzs : z.cells.size = size) (hsz : 0 < size) (v : Value) (n : Nat) (xs : List Value) (hown : w.ownsRow base e size v n xs)
    (a : Addr) (m c : Nat) (news : List Value) (hl : news.length = m * size) (hnews : ∀ j u, news[j]? = some u → w.cell? (a.add j) = some u) (h1 : ∀ u ∈ news, u.oneCell' = true)
    (h63 : n + m ≤ maxLen) (hbytes : (n + m) * bytes ≤ 140737488355328) (hbase : base ≤ w.heap.size) :
    ∃ v' w', (Builtin.append_ #[t, t] ty #[v, .slice (some a) m c]).run P w = .ok v' w' ∧ w'.ownsRow base e size v' (n + m) (xs ++ news) ∧ w.grownBy w' v.ownBlock ∧ ∀ b, v'.ownBlock = some b → v.ownBlock = some b ∨ w.heap.size ≤ b := by
  obtain ⟨v', w', hr, h2, h3, _⟩ := run_append_own (P := P) w base t ty e i z size bytes ht hi hz hsize hby hzs hsz v n xs hown a m c news hl hnews h1 h63 hbytes hbase
  refine ⟨v', w', hr, h2, h3, ?_⟩
  rcases hown.2 with ⟨rfl, rfl⟩ | ⟨g, cap, cur, rfl, hbg, hg, hnc, hcm, hcs, htake⟩
  · have hx : xs = [] := List.eq_nil_of_length_eq_zero (by simpa using hown.1)
    subst hx
    obtain ⟨v2, w2, hr2, h22, _, _⟩ := run_append_own (P := P) w w.heap.size t ty e i z size bytes ht hi hz hsize hby hzs hsz (.slice none 0 0) 0 [] (World.ownsRow_nil _ _ _ _) a m c news hl hnews h1 h63 hbytes (Nat.le_refl _)
    have he := hr.symm.trans hr2
    injection he with he1 he2
    subst he1 he2
    exact fun b hb => .inr (h22.lt b hb).1
  · by_cases hroom : n + m ≤ cap
    · obtain ⟨w2, hr2, _, _⟩ := run_append_fits (P := P) w base t ty e i size ht hi hsize g n cap xs hown a m c news hl hnews h1 hroom
      have he := hr.symm.trans hr2
      injection he with he1 he2
      subst he1
      exact fun b hb => .inl hb
    · subst hsize
      subst hby
      have holds : ∀ j u, xs[j]? = some u → w.cell? ((⟨g, 0, none⟩ : Addr).add j) = some u := hown.cells (g := g) rfl
      have hr2 := run_append_grow (P := P) w t ty e i z ht hi hz ⟨g, 0, none⟩ n cap xs hown.1 holds a m c news hl hnews (by omega) (by simp only [maxLen] at h63; omega) (growslice_fits (by omega) hbytes)
      have he := hr.symm.trans hr2
      injection he with he1 he2
      subst he1
      exact fun b hb => .inr (by simp only [Value.ownBlock, Option.some.injEq] at hb; omega)
/-- A row v became v': the rest of the old memory stands; the row stays where it was or lies in a new block. -/
structure GrewS (W w1 : World) (B : Nat) (v v' : Value) : Prop where
  below : Below B W w1
  keep : ∀ i, i < W.heap.size → v.ownBlock ≠ some i → w1.heap[i]? = W.heap[i]?
  which : ∀ b, v'.ownBlock = some b → v.ownBlock = some b ∨ W.heap.size ≤ b
theorem GrewS.refl (W : World) (B : Nat) (v : Value) : GrewS W W B v v := ⟨Below.refl _ _, fun _ _ _ => rfl, fun _ h => Or.inl h⟩
theorem GrewS.trans {W w1 w2 : World} {B : Nat} {v v1 v2 : Value} (h : GrewS W w1 B v v1) (k : GrewS w1 w2 B v1 v2) : GrewS W w2 B v v2 :=
  ⟨h.below.trans k.below, fun i hi hne => by
    rw [k.keep i (Nat.lt_of_lt_of_le hi h.below.size) (fun e => by
      rcases h.which i e with e2 | e2
      · exact hne e2
      · omega), h.keep i hi hne], fun b hb => by
    rcases k.which b hb with e | e
    · exact h.which b e
    · exact Or.inr (Nat.le_trans h.below.size e)⟩
theorem GrewS.of_below {W w1 : World} {B : Nat} {v : Value} (h : Below W.heap.size W w1) (hB : B ≤ W.heap.size) : GrewS W w1 B v v :=
  ⟨h.mono hB, fun i hi _ => h.block i hi, fun _ hb => Or.inl hb⟩
namespace Enc
variable {α : Type} {E : Enc α}
theorem appW {T S : TypeId} {bytes : Nat} (hE : E.Elem T S bytes) {ops : Array Oper} {rest : List Oper} {o : Oper} {a : Act} {Q : Exit → Act → World → Prop} (V : World)
    (hg : o.guard = none) (s x : Operand) (hop : o.op = Op.call { callee := Callee.builtin Builtin.append, args := #[s, x], argTypes := #[S, S] })
    (ys : List α) (B : Nat) (l : List α) (v : Value) (b2 o2 c2 : Nat) (hs : a.eval s = v) (hx : a.eval x = .slice (some ⟨b2, o2, none⟩) ys.length c2)
    (hys : E.At V (some ⟨b2, o2, none⟩) ys) (hown : E.Own T B V v l) (b1 : l.length + ys.length ≤ 1152921504606846976) (b3 : (l.length + ys.length) * bytes ≤ 140737488355328) (hB : B ≤ V.heap.size)
    (hK : ∀ v' w1, E.Own T B w1 v' (l ++ ys) → GrewS V w1 B v v' → wpList Tryz.prog ops Q rest (a.put o.dst v') w1) :
    wpList Tryz.prog ops Q (o :: rest) a V := by
  obtain ⟨z, hz, hzs⟩ := hE.info
  obtain ⟨i0, hi, hz0, hz1, hz2⟩ := info_partsM hz
  have hone : ∀ u ∈ E.flat ys, u.oneCell' = true := fun u hu => by
    unfold flat at hu
    obtain ⟨q, hq, huq⟩ := List.mem_flatten.1 hu
    obtain ⟨y, _, rfl⟩ := List.mem_map.1 hq
    exact E.one y u huq
  obtain ⟨v', w1, hr, hown', hgrow, hwh⟩ := own_whichE (P := Tryz.prog) V B S o.type T i0 z E.size bytes hE.sl hi hz0 hz1 hz2 hzs E.pos v l.length (E.flat l) hown ⟨b2, o2, none⟩ ys.length c2 (E.flat ys) (E.flat_len ys) (fun j u hj => by rw [addr_add]; exact hys.cells j u hj) hone (by unfold maxLen; omega) b3 hB
  refine wpList_plain hg fun K hKK => ?_
  unfold Oper.wp execOp
  simp only [hop, resolve, invoke, builtin, Sem.run_bind, Sem.run_pure, Result.andThen_ok, List.map_toArray, List.map_cons, List.map_nil, hs, hx, hr]
  refine hKK _ _ (hK v' w1 ?_ ⟨?_, fun i hi hne => ?_, hwh⟩)
  · show w1.ownsRow B T E.size v' (l ++ ys).length (E.flat (l ++ ys))
    rw [E.flat_append, List.length_append]
    exact hown'
  · exact (Below.refl _ _).grown hgrow hB (fun j hj => (hown.lt j hj).1)
  · exact hgrow.block i hi (fun e => hne e.symm)
end Enc
end Go.Proofs.YtoegmdnfbemppaaGreatDoor
namespace Go.Proofs.YtoegmdnfbemppaaGreatDoor
open Go.RowKit

/-- An instruction; a line of an initial state; a test. -/
structure Ins where
  op : Int
  d : Int
  a : Int
  b : Int
  imm : Int
  loc : List UInt8
  label : List UInt8
  fence : Int
structure Ini where
  th : Int
  rg : Int
  loc : List UInt8
  vl : List UInt8
  vn : Int
structure Tst where
  arch : Int
  name : List UInt8
  cycle : List UInt8
  init : List Ini
  code : List (List Ins)
  q : Int
  k : Int
  t : Int
  r : Int
  l : List UInt8
  v : Int
  kids : Fr
/-- The instructions of a thread, from A on. -/
def InsAt (w : World) (A : Option Addr) (c : List Ins) : Prop := ∀ i x, c[i]? = some x → ∃ b o, A = some ⟨b, o, none⟩ ∧ w.cell? ⟨b, o + i * 8, none⟩ = some (.int .i64 x.op) ∧ w.cell? ⟨b, o + i * 8 + 1, none⟩ = some (.int .i64 x.d) ∧ w.cell? ⟨b, o + i * 8 + 2, none⟩ = some (.int .i64 x.a) ∧ w.cell? ⟨b, o + i * 8 + 3, none⟩ = some (.int .i64 x.b) ∧
    w.cell? ⟨b, o + i * 8 + 4, none⟩ = some (.int .i64 x.imm) ∧ w.cell? ⟨b, o + i * 8 + 5, none⟩ = some (.string ⟨x.loc.toArray⟩) ∧ w.cell? ⟨b, o + i * 8 + 6, none⟩ = some (.string ⟨x.label.toArray⟩) ∧ w.cell? ⟨b, o + i * 8 + 7, none⟩ = some (.int .i64 x.fence) ∧ x.loc.length ≤ 9223372036854775807 ∧ x.label.length ≤ 9223372036854775807
def CodeAt (w : World) (A : Option Addr) (cs : List (List Ins)) : Prop := ∀ i c, cs[i]? = some c → ∃ b o A2 c2, A = some ⟨b, o, none⟩ ∧ w.cell? ⟨b, o + i, none⟩ = some (.slice A2 c.length c2) ∧ InsAt w A2 c ∧ c.length ≤ 9223372036854775806 ∧ c.length ≤ c2
def IniAt (w : World) (A : Option Addr) (c : List Ini) : Prop := ∀ i x, c[i]? = some x → ∃ b o, A = some ⟨b, o, none⟩ ∧ w.cell? ⟨b, o + i * 5, none⟩ = some (.int .i64 x.th) ∧ w.cell? ⟨b, o + i * 5 + 1, none⟩ = some (.int .i64 x.rg) ∧ w.cell? ⟨b, o + i * 5 + 2, none⟩ = some (.string ⟨x.loc.toArray⟩) ∧ w.cell? ⟨b, o + i * 5 + 3, none⟩ = some (.string ⟨x.vl.toArray⟩) ∧
    w.cell? ⟨b, o + i * 5 + 4, none⟩ = some (.int .i64 x.vn) ∧ x.loc.length ≤ 9223372036854775807 ∧ x.vl.length ≤ 9223372036854775807 ∧ (-9223372036854775808 ≤ x.th ∧ x.th ≤ 9223372036854775807) ∧ -9223372036854775808 ≤ x.rg ∧ x.rg ≤ 9223372036854775807
theorem InsAt.below {w w' : World} {A : Option Addr} {c : List Ins} (h : InsAt w A c) (hb : Below w.heap.size w w') : InsAt w' A c := fun i x hx => by
  obtain ⟨b, o, e, h0, h1, h2, h3, h4, h5, h6, h7, h8, h9⟩ := h i x hx
  exact ⟨b, o, e, cell_go h0 hb, cell_go h1 hb, cell_go h2 hb, cell_go h3 hb, cell_go h4 hb, cell_go h5 hb, cell_go h6 hb, cell_go h7 hb, h8, h9⟩
theorem CodeAt.below {w w' : World} {A : Option Addr} {c : List (List Ins)} (h : CodeAt w A c) (hb : Below w.heap.size w w') : CodeAt w' A c := fun i x hx => by
  obtain ⟨b, o, A2, c2, e, h0, h1, h2⟩ := h i x hx
  exact ⟨b, o, A2, c2, e, cell_go h0 hb, h1.below hb, h2⟩
theorem IniAt.below {w w' : World} {A : Option Addr} {c : List Ini} (h : IniAt w A c) (hb : Below w.heap.size w w') : IniAt w' A c := fun i x hx => by
  obtain ⟨b, o, e, h0, h1, h2, h3, h4, h5, h6⟩ := h i x hx
  exact ⟨b, o, e, cell_go h0 hb, cell_go h1 hb, cell_go h2 hb, cell_go h3 hb, cell_go h4 hb, h5, h6⟩
abbrev testV (T : Tst) (iv cv kv : Value) : Value := .agg #[.int .i64 T.arch, .string ⟨T.name.toArray⟩, .string ⟨T.cycle.toArray⟩, iv, cv, .int .i64 T.q, .int .i64 T.k, .int .i64 T.t, .int .i64 T.r, .string ⟨T.l.toArray⟩, .int .i64 T.v, kv]
/-- A test in memory. -/
structure TstAt (w : World) (T : Tst) (Ai Ac : Option Addr) (kv : Value) : Prop where
  init : IniAt w Ai T.init
  code : CodeAt w Ac T.code
  kids : SlAt w w.heap.size kv T.kids
  ilen : T.init.length ≤ 9223372036854775806
  clen : T.code.length ≤ 9223372036854775806
  nlen : T.name.length ≤ 9223372036854775807
  ylen : T.cycle.length ≤ 9223372036854775807
  llen : T.l.length ≤ 9223372036854775807
theorem TstAt.below {w w' : World} {T : Tst} {Ai Ac : Option Addr} {kv : Value} (h : TstAt w T Ai Ac kv) (hb : Below w.heap.size w w') : TstAt w' T Ai Ac kv :=
  ⟨h.init.below hb, h.code.below hb, (SlAt.below h.kids (Nat.le_refl _) hb).up hb.size, h.ilen, h.clen, h.nlen, h.ylen, h.llen⟩
end Go.Proofs.YtoegmdnfbemppaaGreatDoor
namespace Go.Proofs
open Go.Shelf
def Tryz.sortTh_ren : Go.Shelf.Ren := ⟨fun | 6 => 155 | 15 => 165 | 14 => 229 | 28 => 240 | 29 => 241 | 20 => 282 | 21 => 283 | 22 => 284 | 23 => 285 | 24 => 286 | 25 => 287 | 26 => 288 | 27 => 289 | 46 => 319 | 47 => 292 | 48 => 293 | 49 => 320 | 50 => 321 | 57 => 334 | n => n, fun | 22 => 38 | 24 => 25 | 25 => 237 | 3 => 3 | 39 => 155 | 0 => 0 | 53 => 302 | 55 => 110 | 4 => 4 | 46 => 296 | 45 => 295 | 50 => 103 | 5 => 5 | 9 => 9 | 66 => 330 | 70 => 334 | 76 => 353 | 77 => 354 | n => n, fun | n => n⟩
theorem Tryz.sortTh : Go.Proofs.SlLaysF0.n6 Tryz.prog Tryz.sortTh_ren := {
  mixed := by kernel_rfl
  f6 := ⟨Tryz.f155.name, by decide, Tryz.func155.trans (congrArg some (by kernel_rfl))⟩
  f14 := ⟨Tryz.f229.name, by decide, Tryz.func229.trans (congrArg some (by kernel_rfl))⟩
  f15 := Tryz.func165.trans (congrArg some (by kernel_rfl))
  f20 := ⟨Tryz.f282.name, by decide, Tryz.func282.trans (congrArg some (by kernel_rfl))⟩
  f21 := ⟨Tryz.f283.name, by decide, Tryz.func283.trans (congrArg some (by kernel_rfl))⟩
  f22 := ⟨Tryz.f284.name, by decide, Tryz.func284.trans (congrArg some (by kernel_rfl))⟩
  f23 := ⟨Tryz.f285.name, by decide, Tryz.func285.trans (congrArg some (by kernel_rfl))⟩
  f24 := ⟨Tryz.f286.name, by decide, Tryz.func286.trans (congrArg some (by kernel_rfl))⟩
  f25 := ⟨Tryz.f287.name, by decide, Tryz.func287.trans (congrArg some (by kernel_rfl))⟩
  f26 := ⟨Tryz.f288.name, by decide, Tryz.func288.trans (congrArg some (by kernel_rfl))⟩
  f27 := ⟨Tryz.f289.name, by decide, Tryz.func289.trans (congrArg some (by kernel_rfl))⟩
  f28 := Tryz.func240.trans (congrArg some (by kernel_rfl))
  f29 := Tryz.func241.trans (congrArg some (by kernel_rfl))
  f46 := ⟨Tryz.f319.name, by decide, Tryz.func319.trans (congrArg some (by kernel_rfl))⟩
  f47 := Tryz.func292.trans (congrArg some (by kernel_rfl))
  f48 := Tryz.func293.trans (congrArg some (by kernel_rfl))
  f49 := ⟨Tryz.f320.name, by decide, Tryz.func320.trans (congrArg some (by kernel_rfl))⟩
  f50 := ⟨Tryz.f321.name, by decide, Tryz.func321.trans (congrArg some (by kernel_rfl))⟩
  f57 := ⟨Tryz.f334.name, by decide, Tryz.func334.trans (congrArg some (by kernel_rfl))⟩
  t0 := Tryz.underlying0
  a0 := Tryz.isAgg0
  z0 := Tryz.sizeOf0
  v0 := Tryz.zeroValue0
  t3 := Tryz.underlying3
  a3 := Tryz.isAgg3
  z3 := Tryz.sizeOf3
  v3 := Tryz.zeroValue3
  t4 := Tryz.underlying4
  a4 := Tryz.isAgg4
  z4 := Tryz.sizeOf4
  v4 := Tryz.zeroValue4
  t5 := Tryz.underlying5
  a5 := Tryz.isAgg5
  z5 := Tryz.sizeOf5
  v5 := Tryz.zeroValue5
  t9 := Tryz.underlying9
  a9 := Tryz.isAgg9
  z9 := Tryz.sizeOf9
  v9 := Tryz.zeroValue9
  t22 := Tryz.underlying38
  a22 := Tryz.isAgg38
  z22 := Tryz.sizeOf38
  v22 := Tryz.zeroValue38
  t25 := Tryz.underlying237
  a25 := Tryz.isAgg237
  z25 := Tryz.sizeOf237
  v25 := Tryz.zeroValue237
  t39 := Tryz.underlying155
  a39 := Tryz.isAgg155
  z39 := Tryz.sizeOf155
  v39 := Tryz.zeroValue155
  t45 := Tryz.underlying295
  a45 := Tryz.isAgg295
  z45 := Tryz.sizeOf295
  v45 := Tryz.zeroValue295
  t46 := Tryz.underlying296
  a46 := Tryz.isAgg296
  z46 := Tryz.sizeOf296
  v46 := Tryz.zeroValue296
  t50 := Tryz.underlying103
  a50 := Tryz.isAgg103
  z50 := Tryz.sizeOf103
  v50 := Tryz.zeroValue103
  t53 := Tryz.underlying302
  a53 := Tryz.isAgg302
  z53 := Tryz.sizeOf302
  v53 := Tryz.zeroValue302
  t55 := Tryz.underlying110
  a55 := Tryz.isAgg110
  z55 := Tryz.sizeOf110
  v55 := Tryz.zeroValue110
  t66 := Tryz.underlying330
  a66 := Tryz.isAgg330
  z66 := Tryz.sizeOf330
  v66 := Tryz.zeroValue330
  t70 := Tryz.underlying334
  a70 := Tryz.isAgg334
  z70 := Tryz.sizeOf334
  v70 := Tryz.zeroValue334
  t76 := Tryz.underlying353
  a76 := Tryz.isAgg353
  z76 := Tryz.sizeOf353
  v76 := Tryz.zeroValue353
  t77 := Tryz.underlying354
  a77 := Tryz.isAgg354
  z77 := Tryz.sizeOf354
  v77 := Tryz.zeroValue354 }
def Tryz.cloneTh_ren : Go.Shelf.Ren := ⟨fun | 41 => 89 | n => n, fun | 22 => 38 | 23 => 25 | 4 => 4 | n => n, fun | n => n⟩
theorem Tryz.cloneTh : Go.Proofs.SlLaysE0.n41 Tryz.prog Tryz.cloneTh_ren := {
  mixed := by kernel_rfl
  f41 := ⟨Tryz.f89.name, by decide, Tryz.func89.trans (congrArg some (by kernel_rfl))⟩
  t4 := Tryz.underlying4
  a4 := Tryz.isAgg4
  z4 := Tryz.sizeOf4
  v4 := Tryz.zeroValue4
  t22 := Tryz.underlying38
  a22 := Tryz.isAgg38
  z22 := Tryz.sizeOf38
  v22 := Tryz.zeroValue38 }
end Go.Proofs
namespace Go.Proofs.YtoegmdnfbemppaaGreatDoor
open Go.RowKit

section
variable {P : Program} {ops : Array Oper} {Q : Exit → Act → World → Prop} {md : Region.Mode} {S : World → Prop} {E : List Nat}
/-- Whatever order is picked; S holds behind each operation of E. -/
def wpAnyE (P : Program) (md : Region.Mode) (ops : Array Oper) (Q : Exit → Act → World → Prop) (S : World → Prop) (E : List Nat) : Nat → Array Bool → Act → World → Prop
  | 0, listed, a, w => Region.ready md ops listed = [] ∧ Q .normal a w
  | fuel + 1, listed, a, w => (Region.ready md ops listed = [] → Q .normal a w) ∧
    ∀ i ∈ Region.ready md ops listed, wpOp P ops Q i (fun a' w' => (E.contains i = true → S w') ∧ wpAnyE P md ops Q S E fuel (listed.setIfInBounds i true) a' w') a w
theorem wpAny_of_E : ∀ (fuel : Nat) (listed : Array Bool) (a : Act) (w : World), wpAnyE P md ops Q S E fuel listed a w → wpAny P md ops Q fuel listed a w
  | 0, _, _, _, h => h
  | fuel + 1, _, _, _, h => ⟨h.1, fun i hi => wpOp_mono (fun a' w' h' => wpAny_of_E fuel _ a' w' h'.2) (h.2 i hi)⟩
/-- Operation j waits for i, through others too. -/
def waitsT (md : Region.Mode) (ops : Array Oper) : Nat → Nat → Nat → Bool
  | 0, _, _ => false
  | f + 1, j, i => match ops[j]? with
    | some oj => oj.after.any fun e => Region.binds md e && (e.on == i || waitsT md ops f e.on i)
    | none => false
def Closed (md : Region.Mode) (ops : Array Oper) (listed : Array Bool) : Prop := ∀ (j : Nat) (oj : Oper), ops[j]? = some oj → listed.getD j false = true → ∀ e ∈ oj.after, Region.binds md e = true → listed.getD e.on false = true
def closedB (md : Region.Mode) (ops : Array Oper) (listed : Array Bool) : Bool := (List.range ops.size).all fun j => !listed.getD j false || (match ops[j]? with
  | some oj => oj.after.all fun e => !Region.binds md e || listed.getD e.on false
  | none => true)
theorem closed_of {listed : Array Bool} (h : closedB md ops listed = true) : Closed md ops listed := fun j oj hoj hl e he hb => by
  have hjs : j < ops.size := (Array.getElem?_eq_some_iff.1 hoj).1
  have h1 := List.all_eq_true.1 h j (List.mem_range.2 hjs)
  rw [hl, hoj] at h1
  simp only [Bool.not_true, Bool.false_or] at h1
  have h2 := Array.all_eq_true'.1 h1 e he
  rw [hb] at h2
  simpa using h2
theorem Closed.set {listed : Array Bool} {i : Nat} (h : Closed md ops listed) (hi : i ∈ Region.ready md ops listed) : Closed md ops (listed.setIfInBounds i true) := fun j oj hoj hl e he hb => by
  obtain ⟨_, oi, hoi, hall⟩ := mem_ready.1 hi
  by_cases hij : i = j
  · subst hij
    rw [hoi] at hoj
    cases hoj
    exact getD_set_true (hall e he hb)
  · rw [getD_set_ne false hij] at hl
    exact getD_set_true (h j oj hoj hl e he hb)
theorem waits_listed {listed : Array Bool} (h : Closed md ops listed) {i : Nat} : ∀ (f j : Nat) (oj : Oper), ops[j]? = some oj → (∀ e ∈ oj.after, Region.binds md e = true → listed.getD e.on false = true) → waitsT md ops f j i = true → listed.getD i false = true
  | 0, _, _, _, _, hw => by cases hw
  | f + 1, j, oj, hoj, hall, hw => by
    unfold waitsT at hw
    rw [hoj] at hw
    simp only [] at hw
    obtain ⟨e, he, hb⟩ := Array.any_eq_true'.1 hw
    simp only [Bool.and_eq_true, Bool.or_eq_true, beq_iff_eq] at hb
    have hl := hall e he hb.1
    rcases hb.2 with h1 | h1
    · rw [← h1]; exact hl
    · cases hok : ops[e.on]? with
      | none =>
        cases f with
        | zero => cases h1
        | succ f => unfold waitsT at h1; rw [hok] at h1; cases h1
      | some ok => exact waits_listed h f e.on ok hok (fun e2 he2 hb2 => h e.on ok hok hl e2 he2 hb2) h1
/-- Each operation that may come up ahead of i stands in E. -/
def aheadB (md : Region.Mode) (ops : Array Oper) (E : List Nat) (listed : Array Bool) (i : Nat) : Bool := closedB md ops listed && (List.range ops.size).all fun j => j == i || listed.getD j true || waitsT md ops ops.size j i || E.contains j
def Ahead (md : Region.Mode) (ops : Array Oper) (E : List Nat) (listed : Array Bool) (i : Nat) : Prop := Closed md ops listed ∧ ∀ j, j < ops.size → j = i ∨ listed.getD j true = true ∨ waitsT md ops ops.size j i = true ∨ E.contains j = true
theorem ahead_of {listed : Array Bool} {i : Nat} (h : aheadB md ops E listed i = true) : Ahead md ops E listed i := by
  unfold aheadB at h
  rw [Bool.and_eq_true] at h
  refine ⟨closed_of h.1, fun j hj => ?_⟩
  have := List.all_eq_true.1 h.2 j (List.mem_range.2 hj)
  simp only [Bool.or_eq_true, beq_iff_eq] at this
  rcases this with ((h | h) | h) | h
  · exact Or.inl h
  · exact Or.inr (Or.inl h)
  · exact Or.inr (Or.inr (Or.inl h))
  · exact Or.inr (Or.inr (Or.inr h))
theorem wpAnyE_first {i : Nat} {oi : Oper} {v : Value} {S' : World → Prop} (hi : ops[i]? = some oi) (hsel : ∀ (j : Nat) (o : Oper) cs b, ops[j]? = some o → o.op ≠ .select cs b)
    (hQ : ∀ c a w, Q (.panic c) (a.put oi.dst v) w → Q (.panic c) a w) :
    ∀ (fuel : Nat) (listed : Array Bool) (a : Act) (w : World), ((E.contains i = false ∧ ∀ w, S' w) ∨ (Ahead md ops E listed i ∧ ∀ w, S w → S' w)) →
      (∀ j oj, ops[j]? = some oj → j ≠ i → listed.getD j true = false → (∀ e ∈ oj.after, Region.binds md e = true → e.on ≠ i) → oi.apart ops oj = true) →
      i ∈ Region.ready md ops listed → YieldsIf P ops S' oi v a → (E.contains i = true → S w) → S' w →
      wpAnyE P md ops Q S E fuel (listed.setIfInBounds i true) (a.put oi.dst v) w → wpAnyE P md ops Q S E (fuel + 1) listed a w := by
  intro fuel
  induction fuel with
  | zero =>
    intro listed a w _ _ hr hy hS hS' H
    refine ⟨fun h => (by rw [h] at hr; cases hr), fun j hj => ?_⟩
    by_cases hji : j = i
    · subst hji; exact hy.wpOp hi hS' ⟨hS, H⟩
    · have := ready_mono hj hji
      rw [H.1] at this
      cases this
  | succ fuel ih =>
    intro listed a w hcase hfree hr hy hS hS' H
    refine ⟨fun h => (by rw [h] at hr; cases hr), fun j hj => ?_⟩
    by_cases hji : j = i
    · subst hji; exact hy.wpOp hi hS' ⟨hS, H⟩
    · have h1 := H.2 j (ready_mono hj hji)
      obtain ⟨hjun, oj, hoj, hall⟩ := mem_ready.1 hj
      have hnot : ∀ e ∈ oj.after, Region.binds md e = true → e.on ≠ i := fun e he hb heq => by
        have h1 := hall e he hb
        rw [heq, getD_both (mem_ready.1 hr).1] at h1
        cases h1
      have h2 := wpOp_putIf hoj (hfree j oj hoj hji hjun hnot) (fun cs b => hsel i oi cs b hi) (fun cs b => hsel j oj cs b hoj) hQ hy h1
      have hfree' : ∀ k ok, ops[k]? = some ok → k ≠ i → (listed.setIfInBounds j true).getD k true = false →
          (∀ e ∈ ok.after, Region.binds md e = true → e.on ≠ i) → oi.apart ops ok = true := fun k ok hk hki hun hno => by
        refine hfree k ok hk hki ?_ hno
        by_cases hjk : j = k
        · subst hjk; exact hjun
        · rw [getD_set_ne true hjk] at hun; exact hun
      have hswap : ∀ (a' : Act) (w' : World), wpAnyE P md ops Q S E fuel ((listed.setIfInBounds i true).setIfInBounds j true) a' w' → wpAnyE P md ops Q S E fuel ((listed.setIfInBounds j true).setIfInBounds i true) a' w' := fun a' w' h => by
        rw [Array.setIfInBounds_comm _ _ hji]; exact h
      rcases hcase with ⟨hE, hall'⟩ | ⟨hah, hSS⟩
      · exact wpOp_mono (fun a' w' h3 => ⟨h3.2.1, ih (listed.setIfInBounds j true) a' w' (Or.inl ⟨hE, hall'⟩) hfree' (ready_mono hr (Ne.symm hji)) h3.1 (fun e => by rw [hE] at e; cases e) (hall' w') (hswap _ _ h3.2.2)⟩) h2
      · have hjE : E.contains j = true := by
          have hjs : j < ops.size := (Array.getElem?_eq_some_iff.1 hoj).1
          rcases hah.2 j hjs with h | h | h | h
          · exact absurd h hji
          · rw [hjun] at h; cases h
          · have := waits_listed hah.1 _ j oj hoj hall h
            rw [getD_both (mem_ready.1 hr).1] at this
            cases this
          · exact h
        have hah' : Ahead md ops E (listed.setIfInBounds j true) i := by
          refine ⟨hah.1.set hj, fun k hk => ?_⟩
          by_cases hjk : j = k
          · subst hjk; exact Or.inr (Or.inr (Or.inr hjE))
          · rw [getD_set_ne true hjk]; exact hah.2 k hk
        exact wpOp_mono (fun a' w' h3 => ⟨h3.2.1, ih (listed.setIfInBounds j true) a' w' (Or.inr ⟨hah', hSS⟩) hfree' (ready_mono hr (Ne.symm hji)) h3.1 (fun _ => h3.2.1 hjE) (hSS _ (h3.2.1 hjE)) (hswap _ _ h3.2.2)⟩) h2
/-- What reads no memory is taken first. -/
theorem wpE_pure {i : Nat} {oi : Oper} {v : Value} {fuel : Nat} {listed : Array Bool} {a : Act} {w : World} (hi : ops[i]? = some oi) (hE : E.contains i = false)
    (hs : Region.noSelect ops = true) (hf : Region.free md ops listed i = true) (hr : (Region.ready md ops listed).contains i = true)
    (hQ : ∀ c a w, Q (.panic c) (a.put oi.dst v) w → Q (.panic c) a w) (hy : YieldsIf P ops (fun _ => True) oi v a)
    (h : wpAnyE P md ops Q S E fuel (listed.setIfInBounds i true) (a.put oi.dst v) w) : wpAnyE P md ops Q S E (fuel + 1) listed a w :=
  wpAnyE_first hi (Region.noSelect_spec hs) hQ fuel listed a w (Or.inl ⟨hE, fun _ => trivial⟩) (Region.free_spec hi hf) (by simpa using hr) hy (fun e => by rw [hE] at e; cases e) trivial h
/-- What yields in each world of S is taken first. -/
theorem wpE_take {i : Nat} {oi : Oper} {v : Value} {fuel : Nat} {listed : Array Bool} {a : Act} {w : World} (hi : ops[i]? = some oi) (hE : aheadB md ops E listed i = true)
    (hs : Region.noSelect ops = true) (hf : Region.free md ops listed i = true) (hr : (Region.ready md ops listed).contains i = true)
    (hQ : ∀ c a w, Q (.panic c) (a.put oi.dst v) w → Q (.panic c) a w) (hy : YieldsIf P ops S oi v a) (hS : S w)
    (h : wpAnyE P md ops Q S E fuel (listed.setIfInBounds i true) (a.put oi.dst v) w) : wpAnyE P md ops Q S E (fuel + 1) listed a w :=
  wpAnyE_first hi (Region.noSelect_spec hs) hQ fuel listed a w (Or.inr ⟨ahead_of hE, fun _ h => h⟩) (Region.free_spec hi hf) (by simpa using hr) hy (fun _ => hS) hS h
/-- Just one may come up. -/
theorem wpE_one {i : Nat} {o : Oper} {fuel : Nat} {listed : Array Bool} {a : Act} {w : World} (hr : Region.ready md ops listed = [i]) (ho : ops[i]? = some o)
    (h : ∀ K' : Act → World → Prop, Shut (∀ a w, S w → wpAnyE P md ops Q S E fuel (listed.setIfInBounds i true) a w → K' a w) → if Region.wanted o (yielded ops a.tmps) = true then Oper.wp P o a w K' Q else K' (a.put o.dst undef) w) :
    wpAnyE P md ops Q S E (fuel + 1) listed a w := by
  refine ⟨fun h0 => (by rw [hr] at h0; cases h0), fun j hj => ?_⟩
  rw [hr, List.mem_singleton] at hj
  subst hj
  exact wpOp_step ho (fun K' hK => h K' (fun a w hS hW => hK a w ⟨fun _ => hS, hW⟩))
/-- One of two may come up. -/
theorem wpE_two {i j : Nat} {o p : Oper} {fuel : Nat} {listed : Array Bool} {a : Act} {w : World} (hr : Region.ready md ops listed = [i, j]) (ho : ops[i]? = some o) (hp : ops[j]? = some p)
    (h : ∀ K' : Act → World → Prop, Shut (∀ a w, S w → wpAnyE P md ops Q S E fuel (listed.setIfInBounds i true) a w → K' a w) → if Region.wanted o (yielded ops a.tmps) = true then Oper.wp P o a w K' Q else K' (a.put o.dst undef) w)
    (h2 : ∀ K' : Act → World → Prop, Shut (∀ a w, S w → wpAnyE P md ops Q S E fuel (listed.setIfInBounds j true) a w → K' a w) → if Region.wanted p (yielded ops a.tmps) = true then Oper.wp P p a w K' Q else K' (a.put p.dst undef) w) :
    wpAnyE P md ops Q S E (fuel + 1) listed a w := by
  refine ⟨fun h0 => (by rw [hr] at h0; cases h0), fun k hk => ?_⟩
  rw [hr] at hk
  rcases List.mem_cons.1 hk with rfl | hk
  · exact wpOp_step ho (fun K' hK => h K' (fun a w hS hW => hK a w ⟨fun _ => hS, hW⟩))
  · rw [List.mem_singleton] at hk
    subst hk
    exact wpOp_step hp (fun K' hK => h2 K' (fun a w hS hW => hK a w ⟨fun _ => hS, hW⟩))
/-- What is left comes up one after another, and nothing of it stands in E. -/
def seqE (md : Region.Mode) (ops : Array Oper) (E : List Nat) : Nat → Nat → Array Bool → Bool
  | 0, _, listed => (Region.ready md ops listed).isEmpty
  | g + 1, k, listed => decide (Region.ready md ops listed = [k]) && !E.contains k && seqE md ops E g (k + 1) (listed.setIfInBounds k true)
theorem wpE_seq : ∀ (l : List Oper) (k : Nat) (listed : Array Bool) (a : Act) (w : World), (∀ j, l[j]? = ops[k + j]?) →
    seqE md ops E l.length k listed = true → wpList P ops Q l a w → wpAnyE P md ops Q S E l.length listed a w
  | [], _, _, _, _, _, hB, h => ⟨by simpa [seqE] using hB, h⟩
  | o :: l, k, listed, a, w, hl, hB, h => by
    have h0 : ops[k]? = some o := by simpa using (hl 0).symm
    simp only [List.length_cons, seqE, Bool.and_eq_true, decide_eq_true_eq, Bool.not_eq_true'] at hB
    refine ⟨fun h1 => (by rw [hB.1.1] at h1; cases h1), fun i hi => ?_⟩
    rw [hB.1.1] at hi
    have hik : i = k := by simpa using hi
    subst hik
    have hw : wpOp P ops Q i (wpList P ops Q l) a w := by unfold wpOp; simp only [h0]; exact h
    exact wpOp_mono (fun a' w' h' => ⟨fun he => (by rw [hB.1.2] at he; cases he), wpE_seq l (i + 1) _ a' w' (fun j => by have := hl (j + 1); simpa [Nat.add_assoc, Nat.add_comm 1 j] using this) hB.2 h'⟩) hw
end
theorem Blk.sets {w : World} {p : Nat} {t : TypeId} : ∀ (vs : List Value) (k : Nat) (cs : Array Value), Blk w p t cs → Blk (w.setCells p k vs) p t (vs.foldl (fun (s : Array Value × Nat) v => (s.1.setIfInBounds s.2 v, s.2 + 1)) (cs, k)).1
  | [], _, _, h => h
  | v :: r, k, _cs, h => Blk.sets r (k + 1) _ (h.set_ k v)
theorem blk_farS {w : World} {g p : Nat} {t : TypeId} {cs : Array Value} (h : Blk w g t cs) (hne : g ≠ p) : ∀ (vs : List Value) (k : Nat), Blk (w.setCells p k vs) g t cs := by
  intro vs
  induction vs generalizing w with
  | nil => intro _; exact h
  | cons v r ih => intro k; exact ih (h.far hne v) (k + 1)
theorem below_sets {W w : World} {B p : Nat} (h : Below B W w) (hp : B ≤ p) : ∀ (vs : List Value) (k : Nat), Below B W (w.setCells p k vs) := by
  intro vs
  induction vs generalizing w with
  | nil => intro _; exact h
  | cons v r ih => intro k; exact ih (h.setCell (p := ⟨p, k, none⟩) hp v) (k + 1)
theorem Blk.sets5 {w : World} {p : Nat} {t : TypeId} {cs : Array Value} (h : Blk w p t cs) (hs : cs.size = 5) (a b c d e : Value) : Blk (w.setCells p 0 [a, b, c, d, e]) p t #[a, b, c, d, e] := by
  have hc : ([a, b, c, d, e].foldl (fun (s : Array Value × Nat) v => (s.1.setIfInBounds s.2 v, s.2 + 1)) (cs, 0)).1 = #[a, b, c, d, e] := by
    obtain ⟨l⟩ := cs
    have hl : l.length = 5 := hs
    obtain ⟨x0, l, rfl⟩ := List.exists_cons_of_length_eq_add_one hl
    obtain ⟨x1, l, rfl⟩ := List.exists_cons_of_length_eq_add_one (Nat.succ.inj hl)
    obtain ⟨x2, l, rfl⟩ := List.exists_cons_of_length_eq_add_one (Nat.succ.inj (Nat.succ.inj hl))
    obtain ⟨x3, l, rfl⟩ := List.exists_cons_of_length_eq_add_one (Nat.succ.inj (Nat.succ.inj (Nat.succ.inj hl)))
    obtain ⟨x4, l, rfl⟩ := List.exists_cons_of_length_eq_add_one (Nat.succ.inj (Nat.succ.inj (Nat.succ.inj (Nat.succ.inj hl))))
    have h0 : l = [] := List.eq_nil_of_length_eq_zero (Nat.succ.inj (Nat.succ.inj (Nat.succ.inj (Nat.succ.inj (Nat.succ.inj hl)))))
    subst h0
    simp
  rw [← hc]
  exact Blk.sets [a, b, c, d, e] 0 cs h
theorem there_blk {w : World} {p : Nat} {t : TypeId} {cs : Array Value} (h : Blk w p t cs) (n : Nat) (hn : n ≤ cs.size) : w.there p 0 n := fun j hj => by
  refine ⟨?_, h.frozen _⟩
  rw [h.cell, Option.isSome_iff_exists]
  exact ⟨_, Array.getElem?_eq_getElem (by omega)⟩
theorem wpE_start {P : Program} {id : Nat} {Q : Exit → Act → World → Prop} {a : Act} {w : World} {l : List Oper} (S : World → Prop) (E : List Nat) (hm : P.follows .mixedOrders = true) (hS : S w.drew)
    (h : S w.drew → wpAnyE P .any l.toArray Q S E l.length (Array.replicate l.toArray.size false) a w.drew) : (Code.region id l.toArray true).wp P Q a w :=
  wp_region_any hm (wpAny_of_E _ _ _ _ (by simpa using h hS))
/-- From operation n on the rest is a list. -/
theorem wpE_tail {P : Program} {md : Region.Mode} {Q : Exit → Act → World → Prop} {S : World → Prop} {E : List Nat} {a : Act} {w : World} {l : List Oper} {listed : Array Bool} {f : Nat} (n : Nat) (hf : l.length - n = f) (hB : seqE md l.toArray E f n listed = true)
    (h : wpList P l.toArray Q (l.drop n) a w) : wpAnyE P md l.toArray Q S E f listed a w := by
  have hd : (l.drop n).length = f := by simp [hf]
  have := wpE_seq (md := md) (S := S) (E := E) (l.drop n) n listed a w (fun j => by simp [List.getElem?_drop]) (by rw [hd]; exact hB) h
  rwa [hd] at this
section
variable {P : Program} {ops : Array Oper} {Q : Exit → Act → World → Prop} {md : Region.Mode} {S : World → Prop} {E : List Nat}
/-- What reads no memory, in short. -/
theorem wpP (i : Nat) {oi : Oper} {v : Value} {fuel : Nat} {listed : Array Bool} {a : Act} {w : World} (hi : ops[i]? = some oi)
    (hc : (!E.contains i && Region.noSelect ops && Region.free md ops listed i && (Region.ready md ops listed).contains i && Region.wanted oi (yielded ops a.tmps)) = true)
    (hy : ∀ x', (execOp a.eval oi).run P x' = .ok (.value v) x') (h : wpAnyE P md ops Q S E fuel (listed.setIfInBounds i true) (a.put oi.dst v) w)
    (hQ : ∀ c a w, Q (.panic c) (a.put oi.dst v) w → Q (.panic c) a w := by exact fun _ _ _ h => h) : wpAnyE P md ops Q S E (fuel + 1) listed a w := by
  simp only [Bool.and_eq_true, Bool.not_eq_true'] at hc
  exact wpE_pure hi hc.1.1.1.1 hc.1.1.1.2 hc.1.1.2 hc.1.2 hQ (Or.inl ⟨hc.2, fun x' _ => hy x'⟩) h
/-- What is loaded where S holds, in short. -/
theorem wpT (i : Nat) {oi : Oper} {v : Value} {fuel : Nat} {listed : Array Bool} {a : Act} {w : World} (hi : ops[i]? = some oi)
    (hc : (aheadB md ops E listed i && Region.noSelect ops && Region.free md ops listed i && (Region.ready md ops listed).contains i && Region.wanted oi (yielded ops a.tmps)) = true)
    (hy : ∀ x', S x' → (execOp a.eval oi).run P x' = .ok (.value v) x') (hS : S w) (h : wpAnyE P md ops Q S E fuel (listed.setIfInBounds i true) (a.put oi.dst v) w)
    (hQ : ∀ c a w, Q (.panic c) (a.put oi.dst v) w → Q (.panic c) a w := by exact fun _ _ _ h => h) : wpAnyE P md ops Q S E (fuel + 1) listed a w := by
  simp only [Bool.and_eq_true] at hc
  exact wpE_take hi hc.1.1.1.1 hc.1.1.1.2 hc.1.1.2 hc.1.2 hQ (Or.inl ⟨hc.2, hy⟩) hS h
/-- What its guard leaves out, in short. -/
theorem wpS (i : Nat) {oi : Oper} {fuel : Nat} {listed : Array Bool} {a : Act} {w : World} (hi : ops[i]? = some oi)
    (hc : (!E.contains i && Region.noSelect ops && Region.free md ops listed i && (Region.ready md ops listed).contains i && !Region.wanted oi (yielded ops a.tmps)) = true)
    (h : wpAnyE P md ops Q S E fuel (listed.setIfInBounds i true) (a.put oi.dst undef) w)
    (hQ : ∀ c a w, Q (.panic c) (a.put oi.dst undef) w → Q (.panic c) a w := by exact fun _ _ _ h => h) : wpAnyE P md ops Q S E (fuel + 1) listed a w := by
  simp only [Bool.and_eq_true, Bool.not_eq_true'] at hc
  exact wpE_pure hi hc.1.1.1.1 hc.1.1.1.2 hc.1.1.2 hc.1.2 hQ (Or.inr ⟨hc.2, rfl⟩) h
end
section
universe u
variable {α : Type u}
theorem pa1 {xs : List α} {i : Nat} (h : i < xs.toArray.size) : xs.toArray[i] = xs[i]'(by simpa using h) := List.getElem_toArray h
theorem pa2 (a : α) (bs : List α) (i : Nat) (h : i + 1 < (a :: bs).length) : (a :: bs)[i + 1] = bs[i]'(Nat.lt_of_succ_lt_succ h) := rfl
theorem pa3 (a : α) (bs : List α) (h : 0 < (a :: bs).length) : (a :: bs)[0] = a := rfl
theorem pa4 (l : List α) (i : Nat) (a : α) : l.toArray.setIfInBounds i a = (l.set i a).toArray := List.setIfInBounds_toArray ..
theorem pa5 (x : α) (xs : List α) (a : α) : (x :: xs).set 0 a = a :: xs := rfl
theorem pa6 (x : α) (xs : List α) (n : Nat) (a : α) : (x :: xs).set (n + 1) a = x :: xs.set n a := rfl
end
end Go.Proofs.YtoegmdnfbemppaaGreatDoor
namespace Go.Proofs.YtoegmdnfbemppaaGreatDoor
open Go.RowKit
open Go.Maps

/-- Whether one node holds, its kids' answers at hand. -/
def hOf (f : Th → Int) (k t r : Int) (l : List UInt8) (v : Int) (bs : List Bool) : Bool :=
  if k = 2 then decide (f (t, r, l) = v) else if k = 3 then !(bs.headD true) else if k = 4 then bs.all id else if k = 5 then bs.any id else true
def hL (f : Th → Int) : Fr → List Bool
  | .nil => []
  | .cons k t r l v kids rest => hOf f k t r l v (hL f kids) :: hL f rest
theorem MapIs.below {w w' : World} {b n : Nat} {f : Th → Int} (h : MapIs w b n f) (hb : Below w.heap.size w w') : MapIs w' b n f := by
  obtain ⟨D, ⟨es, clock, hh, F⟩, hD, ha⟩ := h
  have hlt : b < w.heap.size := (Array.getElem?_eq_some_iff.1 hh).1
  exact ⟨D, ⟨es, clock, (hb.block b hlt).trans hh, F⟩, hD, ha⟩
section
variable {f : Th → Int} {k t r v : Int} {l : List UInt8} {kids : Fr}
end

theorem still_all {P : Program} {id : Nat} {Q : Exit → Act → World → Prop} {a : Act} {w : World} {l : List Oper} (hm : P.follows .mixedOrders = true) (hB : Region.lexB .any l.toArray = true)
    (h : wpStill P l.toArray w.drew (fun a' => Q .normal a' w.drew) l a) : (Code.region id l.toArray true).wp P Q a w := wp_region_still_lit hm hB h
section
variable {f : Th → Int} {k t r v : Int} {l : List UInt8} {kids : Fr}
end

section
variable {w : World}
def IntsAt (w : World) (A : Option Addr) (st : List Int) : Prop := ∀ i v, st[i]? = some v → ∃ b o, A = some ⟨b, o, none⟩ ∧ w.cell? ⟨b, o + i, none⟩ = some (.int .i64 v)
theorem IntsAt.below {w w' : World} {A : Option Addr} {st : List Int} (h : IntsAt w A st) (hb : Below w.heap.size w w') : IntsAt w' A st := fun i v hv => by
  obtain ⟨b, o, e, c⟩ := h i v hv
  exact ⟨b, o, e, (hb.cell (p := ⟨b, o + i, none⟩) (World.block_lt_of_cell? w _ c)).trans c⟩
end
end Go.Proofs.YtoegmdnfbemppaaGreatDoor
