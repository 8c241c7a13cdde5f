/- Layer 8: lists of nodes with all below them (Fr), and how they lie in memory. -/
import Derived.Test.YtmlnibjnacfanaaGreatDoorCa
namespace Go.Proofs.YtmlnibjnacfanaaGreatDoor
open Go.RowKit

/-- A list of nodes: the first one's own parts, its kids, and the rest. -/
inductive Fr where
  | nil
  | cons (k t r : Int) (l : List UInt8) (v : Int) (kids rest : Fr)
def Fr.len : Fr → Nat
  | .nil => 0
  | .cons _ _ _ _ _ _ rest => rest.len + 1
def Fr.drop : Nat → Fr → Fr
  | 0, f => f
  | _ + 1, .nil => .nil
  | n + 1, .cons _ _ _ _ _ _ rest => rest.drop n
def Fr.append : Fr → Fr → Fr
  | .nil, g => g
  | .cons k t r l v kids rest, g => .cons k t r l v kids (rest.append g)
theorem Fr.drop_lt : ∀ (f : Fr) (j : Nat), j < f.len → ∃ k t r l v kids rest, f.drop j = .cons k t r l v kids rest
  | .nil, _, h => by simp [Fr.len] at h
  | .cons k t r l v kids rest, 0, _ => ⟨_, _, _, _, _, _, _, rfl⟩
  | .cons _ _ _ _ _ _ rest, j + 1, h => rest.drop_lt j (by simp [Fr.len] at h; omega)
theorem Fr.drop_ge : ∀ (f : Fr) (j : Nat), f.len ≤ j → f.drop j = .nil
  | .nil, 0, _ => rfl
  | .nil, _ + 1, _ => rfl
  | .cons _ _ _ _ _ _ _, 0, h => by simp [Fr.len] at h
  | .cons _ _ _ _ _ _ rest, j + 1, h => rest.drop_ge j (by simp [Fr.len] at h; omega)
theorem Fr.drop_next : ∀ (f : Fr) (j : Nat) {k t r : Int} {l : List UInt8} {v : Int} {kids rest : Fr}, f.drop j = .cons k t r l v kids rest → f.drop (j + 1) = rest
  | .nil, 0, _, _, _, _, _, _, _, h => by cases h
  | .nil, _ + 1, _, _, _, _, _, _, _, h => by cases h
  | .cons _ _ _ _ _ _ rest, 0, _, _, _, _, _, _, _, h => by cases h; cases rest <;> rfl
  | .cons _ _ _ _ _ _ rest, j + 1, _, _, _, _, _, _, _, h => rest.drop_next j h
theorem Fr.drop_len : ∀ (f : Fr) (j : Nat), j ≤ f.len → (f.drop j).len = f.len - j
  | .nil, 0, _ => rfl
  | .nil, j + 1, h => by simp [Fr.len] at h
  | .cons _ _ _ _ _ _ _, 0, _ => rfl
  | .cons _ _ _ _ _ _ rest, j + 1, h => by
    have := rest.drop_len j (by simp [Fr.len] at h; omega)
    simp only [Fr.drop, Fr.len, this]; omega

/-- The nodes' cells, from an offset of a block on; all blocks below hi. -/
def RowAt (w : World) (hi : Nat) : Nat → Nat → Fr → Prop
  | _, _, .nil => True
  | b, o, .cons k t r l v kids rest =>
    w.cell? ⟨b, o, none⟩ = some (.int .i64 k) ∧ w.cell? ⟨b, o + 1, none⟩ = some (.int .i64 t) ∧ w.cell? ⟨b, o + 2, none⟩ = some (.int .i64 r) ∧ w.cell? ⟨b, o + 3, none⟩ = some (.string ⟨l.toArray⟩) ∧
    w.cell? ⟨b, o + 4, none⟩ = some (.int .i64 v) ∧ l.length ≤ 9223372036854775807 ∧
    (∃ A cap, w.cell? ⟨b, o + 5, none⟩ = some (.slice A kids.len cap) ∧ kids.len ≤ cap ∧ (kids.len * 72 ≤ 140737488351232 ∧ cap ≤ 9223372036854775807) ∧ (0 < kids.len → ∃ b' o', A = some ⟨b', o', none⟩ ∧ b' < hi ∧ RowAt w hi b' o' kids)) ∧
    RowAt w hi b (o + 6) rest
/-- A slice of nodes. -/
def SlAt (w : World) (hi : Nat) (kv : Value) (f : Fr) : Prop :=
  ∃ A cap, kv = .slice A f.len cap ∧ f.len ≤ cap ∧ (f.len * 72 ≤ 140737488351232 ∧ cap ≤ 9223372036854775807) ∧ (0 < f.len → ∃ b o, A = some ⟨b, o, none⟩ ∧ b < hi ∧ RowAt w hi b o f)
theorem RowAt.keep {w w' : World} {hi : Nat} (hk : ∀ b o, b < hi → w'.cell? ⟨b, o, none⟩ = w.cell? ⟨b, o, none⟩) : ∀ (f : Fr) (b o : Nat), b < hi → RowAt w hi b o f → RowAt w' hi b o f
  | .nil, _, _, _, _ => trivial
  | .cons k t r l v kids rest, b, o, hb, ⟨h0, h1, h2, h3, h4, h5, ⟨A, cap, h6, h7, h8, h9⟩, h10⟩ =>
    ⟨(hk _ _ hb).trans h0, (hk _ _ hb).trans h1, (hk _ _ hb).trans h2, (hk _ _ hb).trans h3, (hk _ _ hb).trans h4, h5,
      ⟨A, cap, (hk _ _ hb).trans h6, h7, h8, fun hp => by
        obtain ⟨b', o', e, hb', hr⟩ := h9 hp
        exact ⟨b', o', e, hb', RowAt.keep hk kids b' o' hb' hr⟩⟩, RowAt.keep hk rest b (o + 6) hb h10⟩
theorem SlAt.keep {w w' : World} {hi : Nat} {kv : Value} {f : Fr} (h : SlAt w hi kv f) (hk : ∀ b o, b < hi → w'.cell? ⟨b, o, none⟩ = w.cell? ⟨b, o, none⟩) : SlAt w' hi kv f := by
  obtain ⟨A, cap, h1, h2, h3, h4⟩ := h
  refine ⟨A, cap, h1, h2, h3, fun hp => ?_⟩
  obtain ⟨b, o, e, hb, hr⟩ := h4 hp
  exact ⟨b, o, e, hb, RowAt.keep hk f b o hb hr⟩
theorem SlAt.below {w w' : World} {hi : Nat} {kv : Value} {f : Fr} (h : SlAt w hi kv f) (hh : hi ≤ w.heap.size) (hb : Below w.heap.size w w') : SlAt w' hi kv f :=
  h.keep fun b o h1 => hb.cell (p := ⟨b, o, none⟩) (Nat.lt_of_lt_of_le h1 hh)
theorem SlAt.only {w w' : World} {hi g : Nat} {kv : Value} {f : Fr} (h : SlAt w hi kv f) (hh : hi ≤ w.heap.size) (hg : hi ≤ g) (hb : Only g w w') : SlAt w' hi kv f :=
  h.keep fun b o h1 => World.cell?_of_block (hb.block b (Nat.lt_of_lt_of_le h1 hh) (fun e => by injection e with e; omega))
theorem RowAt.up {w : World} {hi hi' : Nat} (hh : hi ≤ hi') : ∀ (f : Fr) (b o : Nat), RowAt w hi b o f → RowAt w hi' b o f
  | .nil, _, _, _ => trivial
  | .cons k t r l v kids rest, b, o, ⟨h0, h1, h2, h3, h4, h5, ⟨A, cap, h6, h7, h8, h9⟩, h10⟩ =>
    ⟨h0, h1, h2, h3, h4, h5, ⟨A, cap, h6, h7, h8, fun hp => by
        obtain ⟨b', o', e, hb', hr⟩ := h9 hp
        exact ⟨b', o', e, by omega, RowAt.up hh kids b' o' hr⟩⟩, RowAt.up hh rest b (o + 6) h10⟩
theorem SlAt.up {w : World} {hi hi' : Nat} {kv : Value} {f : Fr} (h : SlAt w hi kv f) (hh : hi ≤ hi') : SlAt w hi' kv f := by
  obtain ⟨A, cap, h1, h2, h3, h4⟩ := h
  refine ⟨A, cap, h1, h2, h3, fun hp => ?_⟩
  obtain ⟨b, o, e, hb, hr⟩ := h4 hp
  exact ⟨b, o, e, by omega, RowAt.up hh f b o hr⟩
theorem RowAt.at_ {w : World} {hi : Nat} : ∀ (f : Fr) (b o j : Nat), RowAt w hi b o f → RowAt w hi b (o + j * 6) (f.drop j)
  | .nil, _, _, 0, _ => trivial
  | .nil, _, _, _ + 1, _ => trivial
  | .cons _ _ _ _ _ _ _, _, _, 0, h => by simpa [Fr.drop] using h
  | .cons _ _ _ _ _ _ rest, b, o, j + 1, h => by
    have := RowAt.at_ rest b (o + 6) j h.2.2.2.2.2.2.2
    rw [show o + 6 + j * 6 = o + (j + 1) * 6 by omega] at this
    exact this
theorem SlAt.nil (w : World) (hi : Nat) (A : Option Addr) (cap : Nat) (hc : cap ≤ 9223372036854775807) : SlAt w hi (.slice A 0 cap) .nil := ⟨A, cap, rfl, Nat.zero_le _, ⟨by simp [Fr.len], hc⟩, fun h => by simp [Fr.len] at h⟩
/-- What one node's cells are. -/
theorem RowAt.head {w : World} {hi b o : Nat} {k t r : Int} {l : List UInt8} {v : Int} {kids rest : Fr} (h : RowAt w hi b o (.cons k t r l v kids rest)) :
    ∃ kv, w.cell? ⟨b, o, none⟩ = some (.int .i64 k) ∧ w.cell? ⟨b, o + 1, none⟩ = some (.int .i64 t) ∧ w.cell? ⟨b, o + 2, none⟩ = some (.int .i64 r) ∧ w.cell? ⟨b, o + 3, none⟩ = some (.string ⟨l.toArray⟩) ∧
      w.cell? ⟨b, o + 4, none⟩ = some (.int .i64 v) ∧ w.cell? ⟨b, o + 5, none⟩ = some kv ∧ l.length ≤ 9223372036854775807 ∧ SlAt w hi kv kids := by
  obtain ⟨h0, h1, h2, h3, h4, h5, ⟨A, cap, h6, h7, h8, h9⟩, _⟩ := h
  exact ⟨_, h0, h1, h2, h3, h4, h6, h5, A, cap, rfl, h7, h8, h9⟩
end Go.Proofs.YtmlnibjnacfanaaGreatDoor
