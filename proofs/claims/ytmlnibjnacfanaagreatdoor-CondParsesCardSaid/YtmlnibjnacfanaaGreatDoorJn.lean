/- Layer 8: grouping, plain and in memory: forests taken, dropped and put together. -/
import Derived.Test.YtmlnibjnacfanaaGreatDoorJh
import Derived.OwnWalk
namespace Go.Proofs.YtmlnibjnacfanaaGreatDoor
open Go.RowKit

def Fr.take : Nat → Fr → Fr
  | 0, _ => .nil
  | _ + 1, .nil => .nil
  | n + 1, .cons k t r l v kids rest => .cons k t r l v kids (rest.take n)
theorem Fr.take_len : ∀ (n : Nat) (f : Fr), n ≤ f.len → (f.take n).len = n
  | 0, _, _ => rfl
  | _ + 1, .nil, h => by simp [Fr.len] at h
  | n + 1, .cons _ _ _ _ _ _ rest, h => by
    simp only [Fr.len] at h
    simp [Fr.take, Fr.len, Fr.take_len n rest (by omega)]
theorem Fr.take_drop : ∀ (n : Nat) (f : Fr), (f.take n).append (f.drop n) = f
  | 0, f => by cases f <;> rfl
  | _ + 1, .nil => rfl
  | n + 1, .cons _ _ _ _ _ _ rest => by simp [Fr.take, Fr.append, Fr.drop, Fr.take_drop n rest]
theorem atomsF_app : ∀ a b : Fr, atomsF (a.append b) = atomsF a ++ atomsF b
  | .nil, _ => rfl
  | .cons _ _ _ _ _ _ rest, b => by simp [Fr.append, atomsF, atomsF_app rest b]
theorem hL_app (f : Th → Int) : ∀ a b : Fr, hL f (a.append b) = hL f a ++ hL f b
  | .nil, _ => rfl
  | .cons _ _ _ _ _ _ rest, b => by simp [Fr.append, hL, hL_app f rest b]
theorem Fr.len_app : ∀ a b : Fr, (a.append b).len = a.len + b.len
  | .nil, _ => by simp [Fr.append, Fr.len]
  | .cons _ _ _ _ _ _ rest, b => by simp [Fr.append, Fr.len, Fr.len_app rest b]; omega
/-- The list with its last kids put into a list of the same kind. -/
def grp (kd : Int) (k : Nat) (f : Fr) : Fr := (f.take k).append (.cons kd 0 0 [] 0 (f.drop k) .nil)
theorem grp_len (kd : Int) {k : Nat} {f : Fr} (h : k ≤ f.len) : (grp kd k f).len = k + 1 := by
  unfold grp
  rw [Fr.len_app, Fr.take_len k f h]
  rfl
theorem grp_atoms {kd : Int} (hk : kd = 4 ∨ kd = 5) (k : Nat) (f : Fr) : atomsF (grp kd k f) = atomsF f := by
  unfold grp
  rw [atomsF_app]
  conv => rhs; rw [← Fr.take_drop k f, atomsF_app]
  have : atL kd 0 0 [] = [] := by rcases hk with rfl | rfl <;> rfl
  simp [atomsF, this]
theorem grp_holds {kd : Int} (hk : kd = 4 ∨ kd = 5) (k : Nat) (f : Fr) (g : Th → Int) : hOf g kd 0 0 [] 0 (hL g (grp kd k f)) = hOf g kd 0 0 [] 0 (hL g f) := by
  unfold grp
  rw [hL_app]
  conv => rhs; rw [← Fr.take_drop k f, hL_app]
  rcases hk with rfl | rfl
  · simp [hL, hOf]
  · simp [hL, hOf]
theorem grp_eval {kd : Int} (hk : kd = 4 ∨ kd = 5) (k : Nat) (f : Fr) (st : List Int) (h1 : checkC 2 1 kd 0 0 [] 0 f = 0) (h2 : checkC 2 1 kd 0 0 [] 0 (grp kd k f) = 0) : evalU 1 kd 0 0 [] 0 (grp kd k f) st = evalU 1 kd 0 0 [] 0 f st := by
  unfold evalU holdsU
  rw [if_pos h1, if_pos h2, grp_atoms hk]
  simp only [grp_holds hk]
/-- A row's cells. -/
def RowC (w : World) (hi : Nat) : Fr → List Value → Prop
  | .nil, cs => cs = []
  | .cons k t r l v kids rest, cs => ∃ kv cr, cs = .int .i64 k :: .int .i64 t :: .int .i64 r :: .string ⟨l.toArray⟩ :: .int .i64 v :: kv :: cr ∧ l.length ≤ 9223372036854775807 ∧ SlAt w hi kv kids ∧ RowC w hi rest cr
theorem rowC_of {w : World} {hi : Nat} : ∀ (f : Fr) (b o : Nat), RowAt w hi b o f → ∃ cs, RowC w hi f cs ∧ ∀ j u, cs[j]? = some u → w.cell? ⟨b, o + j, none⟩ = some u
  | .nil, _, _, _ => ⟨[], rfl, fun j u h => by simp at h⟩
  | .cons k t r l v kids rest, b, o, h => by
    have hr := h.2.2.2.2.2.2.2
    obtain ⟨kv, h0, h1, h2, h3, h4, h5, hl, hs⟩ := h.head
    obtain ⟨cr, hc, hcc⟩ := rowC_of rest b (o + 6) hr
    refine ⟨_, ⟨kv, cr, rfl, hl, hs, hc⟩, fun j u hj => ?_⟩
    match j, hj with
    | 0, hj => simp only [List.getElem?_cons_zero, Option.some.injEq] at hj; subst hj; exact h0
    | 1, hj => simp only [List.getElem?_cons_succ, List.getElem?_cons_zero, Option.some.injEq] at hj; subst hj; exact h1
    | 2, hj => simp only [List.getElem?_cons_succ, List.getElem?_cons_zero, Option.some.injEq] at hj; subst hj; exact h2
    | 3, hj => simp only [List.getElem?_cons_succ, List.getElem?_cons_zero, Option.some.injEq] at hj; subst hj; exact h3
    | 4, hj => simp only [List.getElem?_cons_succ, List.getElem?_cons_zero, Option.some.injEq] at hj; subst hj; exact h4
    | 5, hj => simp only [List.getElem?_cons_succ, List.getElem?_cons_zero, Option.some.injEq] at hj; subst hj; exact h5
    | j + 6, hj =>
      simp only [List.getElem?_cons_succ] at hj
      have := hcc j u hj
      rw [show o + 6 + j = o + (j + 6) by omega] at this
      exact this
theorem RowC.at_ {w : World} {hi : Nat} : ∀ (f : Fr) (cs : List Value) (b o : Nat), RowC w hi f cs → (∀ j u, cs[j]? = some u → w.cell? ⟨b, o + j, none⟩ = some u) → RowAt w hi b o f
  | .nil, _, _, _, _, _ => trivial
  | .cons k t r l v kids rest, _, b, o, ⟨kv, cr, e, hl, hs, hr⟩, hc => by
    subst e
    obtain ⟨A, cap, rfl, s1, s2, s3⟩ := hs
    refine ⟨hc 0 _ rfl, hc 1 _ rfl, hc 2 _ rfl, hc 3 _ rfl, hc 4 _ rfl, hl, ⟨A, cap, hc 5 _ rfl, s1, s2, s3⟩, RowC.at_ rest cr b (o + 6) hr fun j u hj => ?_⟩
    have := hc (j + 6) u (by simpa using hj)
    rw [show o + 6 + j = o + (j + 6) by omega]
    exact this
theorem RowC.len {w : World} {hi : Nat} : ∀ (f : Fr) (cs : List Value), RowC w hi f cs → cs.length = f.len * 6
  | .nil, _, h => by rw [show _ = [] from h]; simp [Fr.len]
  | .cons _ _ _ _ _ _ rest, _, ⟨kv, cr, e, hl, hs, hr⟩ => by
    subst e
    have := hr.len
    simp [Fr.len, this]; omega
theorem RowC.one {w : World} {hi : Nat} : ∀ (f : Fr) (cs : List Value), RowC w hi f cs → ∀ u ∈ cs, u.oneCell' = true
  | .nil, _, h, u, hu => by rw [show _ = [] from h] at hu; simp at hu
  | .cons _ _ _ _ _ _ rest, _, ⟨kv, cr, e, hl, hs, hr⟩, u, hu => by
    subst e
    obtain ⟨A, cap, rfl, _⟩ := hs
    simp only [List.mem_cons] at hu
    rcases hu with rfl | rfl | rfl | rfl | rfl | rfl | hu
    · rfl
    · rfl
    · rfl
    · rfl
    · rfl
    · rfl
    · exact hr.one rest cr u hu
theorem RowC.below {w w' : World} {hi : Nat} (hh : hi ≤ w.heap.size) (hb : Below w.heap.size w w') : ∀ (f : Fr) (cs : List Value), RowC w hi f cs → RowC w' hi f cs
  | .nil, _, h => h
  | .cons _ _ _ _ _ _ rest, _, ⟨kv, cr, e, hl, hs, hr⟩ => ⟨kv, cr, e, hl, hs.below hh hb, RowC.below hh hb rest cr hr⟩
theorem RowC.app {w : World} {hi : Nat} : ∀ (f g : Fr) (cs ds : List Value), RowC w hi f cs → RowC w hi g ds → RowC w hi (f.append g) (cs ++ ds)
  | .nil, _, _, _, h, k => by rw [show _ = [] from h]; exact k
  | .cons _ _ _ _ _ _ rest, g, _, ds, ⟨kv, cr, e, hl, hs, hr⟩, k => by
    subst e
    exact ⟨kv, cr ++ ds, rfl, hl, hs, RowC.app rest g cr ds hr k⟩
theorem RowAt.take {w : World} {hi : Nat} : ∀ (n : Nat) (f : Fr) (b o : Nat), RowAt w hi b o f → RowAt w hi b o (f.take n)
  | 0, _, _, _, _ => trivial
  | _ + 1, .nil, _, _, h => h
  | n + 1, .cons _ _ _ _ _ _ rest, b, o, h => ⟨h.1, h.2.1, h.2.2.1, h.2.2.2.1, h.2.2.2.2.1, h.2.2.2.2.2.1, h.2.2.2.2.2.2.1, RowAt.take n rest b (o + 6) h.2.2.2.2.2.2.2⟩
/-- An owned row of nodes reads as its forest. -/
theorem RowC.own {w : World} {hi B : Nat} {v : Value} {f : Fr} {cs : List Value} (h : RowC w hi f cs) (ho : w.ownsRow B 26 6 v f.len cs) (hn : f.len * 72 ≤ 140737488351232) (hh : hi ≤ w.heap.size) : SlAt w w.heap.size v f := by
  have h' : ∀ A len cap, v = .slice A len cap → len = f.len → SlAt w w.heap.size v f := fun A len cap e e2 => by
    rcases ho.2 with ⟨rfl, h0⟩ | ⟨g, cap', cur, rfl, _, hg, hc1, hc2, _⟩
    · rw [show (Value.slice none 0 0) = .slice none f.len 0 by rw [h0]]
      exact ⟨none, 0, rfl, by omega, ⟨by omega, by omega⟩, fun hp => by omega⟩
    · unfold maxLen at hc2
      refine ⟨some ⟨g, 0, none⟩, cap', rfl, hc1, ⟨by omega, by omega⟩, fun hp => ⟨g, 0, rfl, (ho.lt g rfl).2, ?_⟩⟩
      refine RowAt.up hh f g 0 (RowC.at_ f cs g 0 h fun j u hj => ?_)
      rw [Nat.zero_add, ho.cellAt j (by rw [← ho.1]; exact (List.getElem?_eq_some_iff.1 hj).1)]
      exact hj
  obtain ⟨A, cap, e⟩ := own_shp ho
  exact h' A _ cap e rfl
theorem own_empty (w : World) (t : TypeId) (z : Nat) : (w.alloc (.cells #[] t (0, 0))).ownsRow w.heap.size t z (.slice (some ⟨w.heap.size, 0, none⟩) 0 0) 0 [] :=
  ⟨by simp, .inr ⟨w.heap.size, 0, #[], rfl, Nat.le_refl _, Blk.new w t #[], Nat.le_refl _, by unfold maxLen; omega, by simp, by simp⟩⟩
end Go.Proofs.YtmlnibjnacfanaaGreatDoor
