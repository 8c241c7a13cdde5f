/- Layer 8: what Spoil may turn: rows of nodes become blank ones; plain lemmas. -/
import Derived.Test.YtmlnibjnacfanaaGreatDoorJn
import Derived.Test.YtmlnibjnacfanaaGreatDoorDj
namespace Go.Proofs.YtmlnibjnacfanaaGreatDoor
open Go.RowKit

/-- The six cells of row j of block b. -/
def RowIs (w : World) (b j : Nat) (k t r v : Int) (l : ByteArray) (kv : Value) : Prop :=
  w.cell? ⟨b, j * 6, none⟩ = some (.int .i64 k) ∧ w.cell? ⟨b, j * 6 + 1, none⟩ = some (.int .i64 t) ∧ w.cell? ⟨b, j * 6 + 2, none⟩ = some (.int .i64 r) ∧ w.cell? ⟨b, j * 6 + 3, none⟩ = some (.string l) ∧ w.cell? ⟨b, j * 6 + 4, none⟩ = some (.int .i64 v) ∧ w.cell? ⟨b, j * 6 + 5, none⟩ = some kv
def Blank (w : World) (b j : Nat) : Prop := ∃ k t r v l, RowIs w b j k t r v l (.slice none 0 0)
def NBlk (w : World) (b m : Nat) : Prop := ∃ cur, w.heap[b]? = some (.cells cur 26 (0, 0)) ∧ cur.size = m * 6
/-- From w to w': blocks outside S stay; in S rows of nodes may become blank; blocks may be added. -/
structure Bl (S : Nat → Prop) (w w' : World) : Prop where
  os : w'.os = w.os
  tape : w'.tape = w.tape
  output : w'.output = w.output
  size : w.heap.size ≤ w'.heap.size
  out : ∀ i, i < w.heap.size → ¬ S i → w'.heap[i]? = w.heap[i]?
  inn : ∀ i m, S i → NBlk w i m → NBlk w' i m ∧ ∀ j, j < m → (∀ d, d < 6 → w'.cell? ⟨i, j * 6 + d, none⟩ = w.cell? ⟨i, j * 6 + d, none⟩) ∨ Blank w' i j
theorem NBlk.lt {w : World} {b m : Nat} (h : NBlk w b m) : b < w.heap.size := by
  obtain ⟨cur, h, _⟩ := h
  exact (Array.getElem?_eq_some_iff.1 h).1
theorem NBlk.cell {w : World} {b m : Nat} (h : NBlk w b m) {i : Nat} (hi : i < m * 6) : (w.cell? ⟨b, i, none⟩).isSome = true ∧ w.frozen? ⟨b, i, none⟩ = false := by
  obtain ⟨cur, h, hs⟩ := h
  have hb : Blk w b 26 cur := h
  refine ⟨?_, hb.frozen i⟩
  rw [hb.cell i, Array.getElem?_eq_getElem (by omega)]; rfl
theorem heap_cell {w w' : World} {b : Nat} (h : w'.heap[b]? = w.heap[b]?) (o : Nat) : w'.cell? ⟨b, o, none⟩ = w.cell? ⟨b, o, none⟩ := by
  unfold World.cell?
  simp only [h]
theorem NBlk.same {w w' : World} {b m : Nat} (h : NBlk w b m) (he : w'.heap[b]? = w.heap[b]?) : NBlk w' b m := by
  obtain ⟨cur, h, hs⟩ := h
  exact ⟨cur, he.trans h, hs⟩
theorem RowIs.same {w w' : World} {b j : Nat} {k t r v : Int} {l : ByteArray} {kv : Value} (h : RowIs w b j k t r v l kv) (he : ∀ d, d < 6 → w'.cell? ⟨b, j * 6 + d, none⟩ = w.cell? ⟨b, j * 6 + d, none⟩) : RowIs w' b j k t r v l kv :=
  ⟨(he 0 (by omega)).trans h.1, (he 1 (by omega)).trans h.2.1, (he 2 (by omega)).trans h.2.2.1, (he 3 (by omega)).trans h.2.2.2.1, (he 4 (by omega)).trans h.2.2.2.2.1, (he 5 (by omega)).trans h.2.2.2.2.2⟩
theorem Blank.same {w w' : World} {b j : Nat} (h : Blank w b j) (he : ∀ d, d < 6 → w'.cell? ⟨b, j * 6 + d, none⟩ = w.cell? ⟨b, j * 6 + d, none⟩) : Blank w' b j := by
  obtain ⟨k, t, r, v, l, h⟩ := h
  exact ⟨k, t, r, v, l, h.same he⟩
theorem Bl.refl (S : Nat → Prop) (w : World) : Bl S w w := ⟨rfl, rfl, rfl, Nat.le_refl _, fun _ _ _ => rfl, fun _ _ _ h => ⟨h, fun _ _ => .inl fun _ _ => rfl⟩⟩
theorem Bl.trans {S : Nat → Prop} {a b c : World} (h : Bl S a b) (k : Bl S b c) : Bl S a c :=
  ⟨k.os.trans h.os, k.tape.trans h.tape, k.output.trans h.output, Nat.le_trans h.size k.size,
    fun i hi hS => (k.out i (Nat.lt_of_lt_of_le hi h.size) hS).trans (h.out i hi hS),
    fun i m hS hN => by
      obtain ⟨h1, h2⟩ := h.inn i m hS hN
      obtain ⟨k1, k2⟩ := k.inn i m hS h1
      refine ⟨k1, fun j hj => ?_⟩
      rcases k2 j hj with k3 | k3
      · rcases h2 j hj with h3 | h3
        · exact .inl fun d hd => (k3 d hd).trans (h3 d hd)
        · exact .inr (h3.same k3)
      · exact .inr k3⟩
theorem Bl.of_below {S : Nat → Prop} {a b : World} (h : Below a.heap.size a b) : Bl S a b :=
  ⟨h.os, h.tape, h.output, h.size, fun i hi _ => h.block i hi, fun i _m _ hN => ⟨hN.same (h.block i hN.lt), fun _j _ => .inl fun _d _ => heap_cell (h.block i hN.lt) _⟩⟩
theorem Bl.below {S : Nat → Prop} {B : Nat} {a b : World} (h : Bl S a b) (hS : ∀ i, S i → B ≤ i) (hB : B ≤ a.heap.size) : Below B a b :=
  ⟨h.os, h.tape, h.output, h.size, fun i hi => h.out i (by omega) (fun e => by have := hS i e; omega)⟩
/-- Rows that are as they were, or blank; what they hang together with likewise. -/
def PartRow (w : World) (S : Nat → Prop) : Fr → Nat → Nat → Prop
  | .nil, _, _ => True
  | .cons _ _ _ _ _ kids rest, b, j =>
    (∃ k t r v l kv, RowIs w b j k t r v l kv ∧ (kv = .slice none 0 0 ∨ ∃ g cap, kv = .slice (some ⟨g, 0, none⟩) kids.len cap ∧ S g ∧ NBlk w g cap ∧ kids.len ≤ cap ∧ cap ≤ 9223372036854775807 ∧ kids.len ≤ 300000 ∧ PartRow w S kids g 0)) ∧ PartRow w S rest b (j + 1)
def PartKid (w : World) (S : Nat → Prop) (f : Fr) (kv : Value) : Prop :=
  kv = .slice none 0 0 ∨ ∃ g cap, kv = .slice (some ⟨g, 0, none⟩) f.len cap ∧ S g ∧ NBlk w g cap ∧ f.len ≤ cap ∧ cap ≤ 9223372036854775807 ∧ f.len ≤ 300000 ∧ PartRow w S f g 0
theorem PartRow.bl {w w' : World} {S : Nat → Prop} (hb : Bl S w w') : ∀ (f : Fr) (b j m : Nat), S b → NBlk w b m → j + f.len ≤ m → PartRow w S f b j → PartRow w' S f b j
  | .nil, _, _, _, _, _, _, _ => trivial
  | .cons k0 t0 r0 l0 v0 kids rest, b, j, m, hS, hN, hj, ⟨⟨k, t, r, v, l, kv, hr, hk⟩, hrest⟩ => by
    simp only [Fr.len] at hj
    refine ⟨?_, PartRow.bl hb rest b (j + 1) m hS hN (by omega) hrest⟩
    rcases (hb.inn b m hS hN).2 j (by omega) with h1 | h1
    · refine ⟨k, t, r, v, l, kv, hr.same h1, ?_⟩
      rcases hk with hk | ⟨g, cap, e, hSg, hNg, h2, h3, h4, h5⟩
      · exact .inl hk
      · exact .inr ⟨g, cap, e, hSg, (hb.inn g cap hSg hNg).1, h2, h3, h4, PartRow.bl hb kids g 0 cap hSg hNg (by omega) h5⟩
    · obtain ⟨k', t', r', v', l', h2⟩ := h1
      exact ⟨k', t', r', v', l', _, h2, .inl rfl⟩
theorem PartKid.bl {w w' : World} {S : Nat → Prop} {f : Fr} {kv : Value} (h : PartKid w S f kv) (hb : Bl S w w') : PartKid w' S f kv := by
  rcases h with h | ⟨g, cap, e, hSg, hNg, h2, h3, h4, h5⟩
  · exact .inl h
  · exact .inr ⟨g, cap, e, hSg, (hb.inn g cap hSg hNg).1, h2, h3, h4, PartRow.bl hb f g 0 cap hSg hNg (by omega) h5⟩
theorem PartRow.at_ {w : World} {S : Nat → Prop} : ∀ (f : Fr) (b j i : Nat) {k t r : Int} {l : List UInt8} {v : Int} {kids rest : Fr}, PartRow w S f b j → f.drop i = .cons k t r l v kids rest → ∃ k t r v l kv, RowIs w b (j + i) k t r v l kv ∧ PartKid w S kids kv
  | .nil, _, _, 0, _, _, _, _, _, _, _, _, h => by cases h
  | .nil, _, _, _ + 1, _, _, _, _, _, _, _, _, h => by cases h
  | .cons _ _ _ _ _ _ _, _, _, 0, _, _, _, _, _, _, _, h, e => by cases e; exact h.1
  | .cons _ _ _ _ _ _ rest, b, j, i + 1, _, _, _, _, _, _, _, h, e => by
    have := PartRow.at_ rest b (j + 1) i h.2 e
    rw [show j + (i + 1) = j + 1 + i by omega]
    exact this
/-- A forest that the call made is one. -/
theorem frc_part {w : World} {S : Nat → Prop} : ∀ (f : Fr) (cs : List Value) (b j : Nat), FrC w S f cs → (∀ i u, cs[i]? = some u → w.cell? ⟨b, j * 6 + i, none⟩ = some u) → PartRow w S f b j
  | .nil, _, _, _, _, _ => trivial
  | .cons k t r l v kids rest, _, b, j, ⟨kv, ck, cr, e, hl, ho, hn, hs, h1, h2⟩, hc => by
    subst e
    refine ⟨⟨k, t, r, v, ⟨l.toArray⟩, kv, ⟨hc 0 _ rfl, hc 1 _ rfl, hc 2 _ rfl, hc 3 _ rfl, hc 4 _ rfl, hc 5 _ rfl⟩, ?_⟩, ?_⟩
    · rcases ho.2 with ⟨h3, _⟩ | ⟨g, cap, cur, rfl, _, hg, hc1, hc2, hc3, htk⟩
      · exact .inl h3
      · unfold maxLen at hc2
        refine .inr ⟨g, cap, rfl, hs g rfl, ⟨cur, hg, hc3⟩, hc1, by omega, hn, frc_part kids ck g 0 h1 fun i u hu => ?_⟩
        rw [Nat.zero_mul, Nat.zero_add, ho.cellAt i (by rw [← ho.1]; exact (List.getElem?_eq_some_iff.1 hu).1)]
        exact hu
    · refine frc_part rest cr b (j + 1) h2 fun i u hu => ?_
      have := hc (i + 6) u (by simpa using hu)
      rw [show (j + 1) * 6 + i = j * 6 + (i + 6) by omega]
      exact this
theorem KidC.part {w : World} {S : Nat → Prop} {kv : Value} {f : Fr} (h : KidC w S kv f) : PartKid w S f kv := by
  obtain ⟨ck, ho, hn, hs, hf⟩ := h
  rcases ho.2 with ⟨h3, _⟩ | ⟨g, cap, cur, rfl, _, hg, hc1, hc2, hc3, htk⟩
  · exact .inl h3
  · unfold maxLen at hc2
    refine .inr ⟨g, cap, rfl, hs g rfl, ⟨cur, hg, hc3⟩, hc1, by omega, hn, frc_part f ck g 0 hf fun i u hu => ?_⟩
    rw [Nat.zero_mul, Nat.zero_add, ho.cellAt i (by rw [← ho.1]; exact (List.getElem?_eq_some_iff.1 hu).1)]
    exact hu
theorem nblk_setCells {g m : Nat} : ∀ (vs : List Value) (o : Nat) (w : World), NBlk w g m → NBlk (w.setCells g o vs) g m
  | [], _, _, h => h
  | v :: r, o, w, h => by
    obtain ⟨cur, h1, h2⟩ := h
    have hb : Blk w g 26 cur := h1
    exact nblk_setCells r (o + 1) (w.setCell ⟨g, o, none⟩ v) ⟨_, hb.set_ o v, by simpa using h2⟩
abbrev blankCs (k v : Int) : List Value := [.int .i64 k, .int .i64 0, .int .i64 0, .string ⟨#[]⟩, .int .i64 v, .slice none 0 0]
/-- Six stores make a row blank. -/
theorem bl_put {w : World} {S : Nat → Prop} {g m j : Nat} (hS : S g) (hN : NBlk w g m) (hj : j < m) (k v : Int) : Bl S w (w.setCells g (j * 6) (blankCs k v)) := by
  have ho := only_setCells g (blankCs k v) (j * 6) w w (Only.refl _ _)
  refine ⟨ho.os, ho.tape, ho.output, ho.size, fun i hi hSi => ho.block i hi (fun e => by injection e with e; exact hSi (e ▸ hS)), fun i m' hSi hNi => ?_⟩
  by_cases hig : i = g
  · subst hig
    refine ⟨nblk_setCells _ _ _ hNi, fun j' hj' => ?_⟩
    by_cases hjj : j' = j
    · subst hjj
      right
      have hin := fun d (hd : d < 6) => World.cell?_setCells_in i (blankCs k v) (j' * 6) w (fun d' hd' => (hN.cell (by simp at hd'; omega)).1) d (by simpa using hd)
      exact ⟨k, 0, 0, v, ⟨#[]⟩, hin 0 (by omega), hin 1 (by omega), hin 2 (by omega), hin 3 (by omega), hin 4 (by omega), hin 5 (by omega)⟩
    · left
      intro d hd
      exact World.cell?_setCells_out i _ _ _ _ (fun _ _ => by simp; omega)
  · have hh := ho.block i hNi.lt (fun e => hig (by injection e))
    exact ⟨hNi.same hh, fun j' _ => .inl fun d _ => heap_cell hh _⟩
/-- A slice that append put marks behind: nil, or a row of a block in S or of a new one. -/
def MarkV (S : Nat → Prop) (H : Nat) (w : World) (v : Value) (n : Nat) : Prop :=
  (v = .slice none 0 0 ∧ n = 0) ∨ ∃ g cap, v = .slice (some ⟨g, 0, none⟩) n cap ∧ (S g ∨ H ≤ g) ∧ NBlk w g cap ∧ n ≤ cap ∧ cap ≤ 9223372036854775807
theorem bl_put' {w0 w : World} {S : Nat → Prop} {g m j : Nat} (hb : Bl S w0 w) (hS : S g ∨ w0.heap.size ≤ g) (hN : NBlk w g m) (hj : j < m) (k v : Int) : Bl S w0 (w.setCells g (j * 6) (blankCs k v)) := by
  by_cases h : S g
  · exact hb.trans (bl_put h hN hj k v)
  · have hg := hS.resolve_left h
    have ho := only_setCells g (blankCs k v) (j * 6) w w (Only.refl _ _)
    refine ⟨ho.os.trans hb.os, ho.tape.trans hb.tape, ho.output.trans hb.output, Nat.le_trans hb.size ho.size, fun i hi hSi => ?_, fun i m' hSi hNi => ?_⟩
    · exact (ho.block i (Nat.lt_of_lt_of_le hi hb.size) (fun e => by injection e with e; omega)).trans (hb.out i hi hSi)
    · obtain ⟨h1, h2⟩ := hb.inn i m' hSi hNi
      have hh := ho.block i h1.lt (fun e => h (by injection e with e; exact e ▸ hSi))
      exact ⟨h1.same hh, fun j' hj' => by
        rcases h2 j' hj' with h3 | h3
        · exact .inl fun d hd => (heap_cell hh _).trans (h3 d hd)
        · exact .inr (h3.same fun d _ => heap_cell hh _)⟩
theorem bl_grown {w0 w w' : World} {S : Nat → Prop} (hb : Bl S w0 w) (hg : w.grownBy w' none) : Bl S w0 w' :=
  hb.trans (Bl.of_below ⟨hg.os, hg.tape, hg.output, hg.size, fun i hi => hg.block i hi (fun e => by cases e)⟩)
end Go.Proofs.YtmlnibjnacfanaaGreatDoor
