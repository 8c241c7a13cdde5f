/- Layer 8: the reference's order of things, plain: what its loops compute. Layer 8: the reference's Before, and gather at an atom, walked. -/
import Derived.Test.YtmlnibjnacfanaaGreatDoorEi
import Derived.Test.YtmlnibjnacfanaaGreatDoorEa
import Derived.Test.YtmlnibjnacfanaaGreatDoorCh
import Derived.WalkLawsBesides
namespace Go.Proofs.YtmlnibjnacfanaaGreatDoor
open Go.RowKit

theorem less_cmp : ∀ a b : List UInt8, Op.bytesLess a b = decide (Lib.compareBytes a b < 0)
  | [], [] => by simp [Op.bytesLess, Lib.compareBytes]
  | [], _ :: _ => by simp [Op.bytesLess, Lib.compareBytes]
  | _ :: _, [] => by simp [Op.bytesLess, Lib.compareBytes]
  | x :: a, y :: b => by
    rw [Bool.eq_iff_iff, decide_eq_true_iff, cmpB_lt]
    unfold Op.bytesLess
    rw [less_cmp a b]
    simp [UInt8.lt_iff_toNat_lt, ← UInt8.toNat_inj]
/-- The reference's Before. -/
def befC (x y : Th) : Bool :=
  if decide (x.1 = -1) != decide (y.1 = -1) then decide (y.1 = -1)
  else if x.1 ≠ y.1 then decide (x.1 < y.1) else if x.2.1 ≠ y.2.1 then decide (x.2.1 < y.2.1) else decide (Lib.compareBytes x.2.2 y.2.2 < 0)
def putT (x : Th) : List Th → List Th
  | [] => [x]
  | y :: r => if befC x y then x :: y :: r else y :: putT x r
def insT (x : Th) (l : List Th) : List Th := if x ∈ l then l else putT x l
def gatL (L acc : List Th) : List Th := L.foldl (fun a x => insT x a) acc
/-- What stands so far: x put in, if its place has been met. -/
def putO (x : Th) (l : List Th) : List Th := if l.any (befC x) then putT x l else l
theorem putT_no {x : Th} : ∀ {l : List Th}, l.any (befC x) = false → putT x l = l ++ [x]
  | [], _ => rfl
  | y :: r, h => by
    simp only [List.any_cons, Bool.or_eq_false_iff] at h
    simp [putT, h.1, putT_no h.2]
theorem putT_snoc {x y : Th} : ∀ {l : List Th}, l.any (befC x) = true → putT x (l ++ [y]) = putT x l ++ [y]
  | [], h => by simp at h
  | z :: r, h => by
    by_cases hz : befC x z = true
    · simp [putT, hz]
    · simp only [List.any_cons, Bool.or_eq_true] at h
      have := putT_snoc (y := y) (h.resolve_left hz)
      simp [putT, hz, this]
theorem putT_at {x y : Th} : ∀ {l : List Th}, l.any (befC x) = false → befC x y = true → putT x (l ++ [y]) = l ++ [x, y]
  | [], _, h => by simp [putT, h]
  | z :: r, h, k => by
    simp only [List.any_cons, Bool.or_eq_false_iff] at h
    simp [putT, h.1, putT_at h.2 k]
theorem putO_step1 {x y : Th} {l : List Th} (h : l.any (befC x) = true) : putO x (l ++ [y]) = putO x l ++ [y] := by
  unfold putO
  rw [if_pos (by simp [h]), if_pos h, putT_snoc h]
theorem putO_step2 {x y : Th} {l : List Th} (h : l.any (befC x) = false) (k : befC x y = true) : putO x (l ++ [y]) = putO x l ++ [x] ++ [y] := by
  unfold putO
  rw [if_pos (by simp [k]), if_neg (by simp [h]), putT_at h k]; simp
theorem putO_step3 {x y : Th} {l : List Th} (h : l.any (befC x) = false) (k : befC x y = false) : putO x (l ++ [y]) = putO x l ++ [y] := by
  unfold putO
  rw [if_neg (by simp [h, k]), if_neg (by simp [h])]
theorem putO_end1 {x : Th} {l : List Th} (h : l.any (befC x) = true) : putT x l = putO x l := by unfold putO; rw [if_pos h]
theorem putO_end2 {x : Th} {l : List Th} (h : l.any (befC x) = false) : putT x l = putO x l ++ [x] := by unfold putO; rw [if_neg (by simp [h]), putT_no h]
theorem putT_len (x : Th) : ∀ l, (putT x l).length = l.length + 1
  | [] => rfl
  | y :: r => by unfold putT; split <;> simp [putT_len x r]
theorem putO_len (x : Th) (l : List Th) : (putO x l).length ≤ l.length + 1 := by unfold putO; split <;> simp [putT_len]
theorem insT_len (x : Th) (l : List Th) : (insT x l).length ≤ l.length + 1 := by unfold insT; split <;> simp [putT_len]
theorem gatL_len : ∀ (L acc : List Th), (gatL L acc).length ≤ acc.length + L.length
  | [], _ => by simp [gatL]
  | x :: L, acc => by
    have h1 := gatL_len L (insT x acc)
    have h2 := insT_len x acc
    simp only [gatL, List.foldl_cons, List.length_cons] at h1 ⊢
    omega
theorem gatL_append (L M acc : List Th) : gatL (L ++ M) acc = gatL M (gatL L acc) := by simp [gatL, List.foldl_append]

/-- A slice of things. -/
def ThsB (w : World) (A : Option Addr) (T : List Th) : Prop := ∀ i x, T[i]? = some x → ∃ b o, A = some ⟨b, o, none⟩ ∧ w.cell? ⟨b, o + i * 3, none⟩ = some (.int .i64 x.1) ∧ w.cell? ⟨b, o + i * 3 + 1, none⟩ = some (.int .i64 x.2.1) ∧ w.cell? ⟨b, o + i * 3 + 2, none⟩ = some (.string ⟨x.2.2.toArray⟩)
theorem ThsB.below {w w' : World} {A : Option Addr} {T : List Th} (h : ThsB w A T) (hb : Below w.heap.size w w') : ThsB w' A T := fun i x hx => by
  obtain ⟨b, o, e, c0, c1, c2⟩ := h i x hx
  exact ⟨b, o, e, cell_go c0 hb, cell_go c1 hb, cell_go c2 hb⟩
theorem ThsB.nil (w : World) (A : Option Addr) : ThsB w A [] := fun i x h => by simp at h
/-- A list that lies in blocks from N on, if it has any. -/
def NewA (N : Nat) (A : Option Addr) : Prop := ∀ p, A = some p → N ≤ p.block
/-- A list of things in blocks from N on. -/
def ThsN (N : Nat) (w : World) (A : Option Addr) (T : List Th) : Prop := ThsB w A T ∧ NewA N A
theorem ThsN.below {N : Nat} {w w' : World} {A : Option Addr} {T : List Th} (h : ThsN N w A T) (hb : Below w.heap.size w w') : ThsN N w' A T := ⟨h.1.below hb, h.2⟩
def GaPost (N : Nat) (T : List Th) (w : World) (e : Ending) (w' : World) : Prop := ∃ A cap, e = .returned (.slice A T.length cap) ∧ ThsN N w' A T ∧ Below w.heap.size w w'
theorem thCells_at' : ∀ (L : List Th) (i : Nat) (x : Th), L[i]? = some x → (thCells L)[i * 3]? = some (.int .i64 x.1) ∧ (thCells L)[i * 3 + 1]? = some (.int .i64 x.2.1) ∧ (thCells L)[i * 3 + 2]? = some (.string ⟨x.2.2.toArray⟩)
  | [], _, _, h => by simp at h
  | y :: r, 0, x, h => by
    simp only [List.getElem?_cons_zero, Option.some.injEq] at h
    subst h
    exact ⟨rfl, rfl, rfl⟩
  | y :: r, i + 1, x, h => by
    obtain ⟨a, b, c⟩ := thCells_at' r i x (by simpa using h)
    have e : (i + 1) * 3 = i * 3 + 1 + 1 + 1 := by omega
    rw [e]
    exact ⟨by simpa [thCells, thCs] using a, by simpa [thCells, thCs] using b, by simpa [thCells, thCs] using c⟩
theorem own_thsB {w : World} {B : Nat} {v : Value} {T : List Th} (h : w.ownsRow B 23 3 v T.length (thCells T)) : ∃ A cap, v = .slice A T.length cap ∧ ThsB w A T := by
  obtain ⟨A, cap, rfl⟩ := own_shp h
  refine ⟨A, cap, rfl, fun i x hx => ?_⟩
  have hi := (List.getElem?_eq_some_iff.1 hx).1
  obtain ⟨a, b, c⟩ := thCells_at' T i x hx
  rcases h.2 with ⟨e, h0⟩ | ⟨g, cap', cur, e, _⟩
  · omega
  simp only [Value.slice.injEq, true_and] at e
  obtain ⟨rfl, rfl⟩ := e
  have hl := thCells_len T
  refine ⟨g, 0, rfl, ?_, ?_, ?_⟩
  · rw [Nat.zero_add, h.cellAt _ (by omega)]; exact a
  · rw [Nat.zero_add, h.cellAt _ (by omega)]; exact b
  · rw [Nat.zero_add, h.cellAt _ (by omega)]; exact c
section
variable {w : World}
set_option maxHeartbeats 2000000 in
set_option maxRecDepth 100000 in
theorem befR (t r : Int) (l : List UInt8) (t' r' : Int) (l' : List UInt8) (w : World) :
    Calls Tryz.prog 96 #[thVal t r l, thVal t' r' l'] w fun e w' => e = .returned (.bool (befC (t, r, l) (t', r', l'))) ∧ Below w.heap.size w w' := by
  have HR := Lib.hid (show befC (t, r, l) (t', r', l') = if decide (t = -1) != decide (t' = -1) then decide (t' = -1) else if t ≠ t' then decide (t < t') else if r ≠ r' then decide (r < r') else Op.bytesLess l l' by rw [less_cmp]; rfl)
  by_cases h1 : t = -1
  · by_cases h2 : t' = -1
    · subst h1 h2
      by_cases h4 : r = r'
      · subst h4
        have H := Lib.hid (show befC (-1, r, l) (-1, r, l') = Op.bytesLess l l' by rw [HR.out]; simp)
        go_enter Tryz.func96, Tryz.ntmps96
        go_wp2_with fail
        go_ret
        exact ⟨ret_bool (by rw [H.out]; try simp), below_alloc (alloc_b _ _) _⟩
      · have H := Lib.hid (show befC (-1, r, l) (-1, r', l') = decide (r < r') by rw [HR.out]; simp [h4])
        have h5 : (r != r') = true := by simpa using h4
        go_enter Tryz.func96, Tryz.ntmps96
        go_wp2_with fail
        go_ret
        exact ⟨ret_bool (by rw [H.out]; try simp), below_alloc (alloc_b _ _) _⟩
    · subst h1
      have H := Lib.hid (show befC (-1, r, l) (t', r', l') = false by rw [HR.out]; simp [h2])
      have h5 : (t' == -1) = false := by simpa using h2
      go_enter Tryz.func96, Tryz.ntmps96
      go_wp2_with fail
      go_ret
      exact ⟨ret_bool (by rw [H.out]; try simp), below_alloc (alloc_b _ _) _⟩
  · have h3 : (t == -1) = false := by simpa using h1
    by_cases h2 : t' = -1
    · subst h2
      have H := Lib.hid (show befC (t, r, l) (-1, r', l') = true by rw [HR.out]; simp [h1])
      go_enter Tryz.func96, Tryz.ntmps96
      go_wp2_with fail
      go_ret
      exact ⟨ret_bool (by rw [H.out]; try simp), below_alloc (alloc_b _ _) _⟩
    · have h5 : (t' == -1) = false := by simpa using h2
      by_cases h6 : t = t'
      · subst h6
        by_cases h4 : r = r'
        · subst h4
          have H := Lib.hid (show befC (t, r, l) (t, r, l') = Op.bytesLess l l' by rw [HR.out]; simp)
          go_enter Tryz.func96, Tryz.ntmps96
          go_wp2_with fail
          go_ret
          exact ⟨ret_bool (by rw [H.out]; try simp), below_alloc (alloc_b _ _) _⟩
        · have H := Lib.hid (show befC (t, r, l) (t, r', l') = decide (r < r') by rw [HR.out]; simp [h4])
          have h7 : (r != r') = true := by simpa using h4
          go_enter Tryz.func96, Tryz.ntmps96
          go_wp2_with fail
          go_ret
          exact ⟨ret_bool (by rw [H.out]; try simp), below_alloc (alloc_b _ _) _⟩
      · have H := Lib.hid (show befC (t, r, l) (t', r', l') = decide (t < t') by rw [HR.out]; simp [h1, h2, h6])
        have h7 : (t != t') = true := by simpa using h6
        go_enter Tryz.func96, Tryz.ntmps96
        go_wp2_with fail
        go_ret
        exact ⟨ret_bool (by rw [H.out]; try simp), below_alloc (alloc_b _ _) _⟩
end
end Go.Proofs.YtmlnibjnacfanaaGreatDoor
