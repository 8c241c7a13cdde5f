/- Layer 8: forests in memory that the call itself made. -/
import Derived.ArgAppend
import Derived.Test.YtmlnibjnacfanaaGreatDoorDi
namespace Go.Proofs.YtmlnibjnacfanaaGreatDoor
open Go.RowKit

/-- A forest's cells, one behind the other; the kids in blocks of S, each as append leaves it. -/
def FrC (w : World) (S : Nat → Prop) : Fr → List Value → Prop
  | .nil, cs => cs = []
  | .cons k t r l v kids rest, cs => ∃ kv ck cr, cs = .int .i64 k :: .int .i64 t :: .int .i64 r :: .string ⟨l.toArray⟩ :: .int .i64 v :: kv :: cr ∧ l.length ≤ 262144 ∧
      w.ownsRow 0 26 6 kv kids.len ck ∧ kids.len ≤ 300000 ∧ (∀ b, kv.ownBlock = some b → S b) ∧ FrC w S kids ck ∧ FrC w S rest cr
/-- A slice of nodes that the call made. -/
def KidC (w : World) (S : Nat → Prop) (kv : Value) (f : Fr) : Prop :=
  ∃ ck, w.ownsRow 0 26 6 kv f.len ck ∧ f.len ≤ 300000 ∧ (∀ b, kv.ownBlock = some b → S b) ∧ FrC w S f ck
theorem own_keep {w w' : World} {B : Nat} {t : TypeId} {z n : Nat} {v : Value} {cs : List Value} (h : w.ownsRow B t z v n cs) (hk : ∀ b, v.ownBlock = some b → w'.heap[b]? = w.heap[b]?) : w'.ownsRow B t z v n cs := by
  obtain ⟨h1, h2⟩ := h
  refine ⟨h1, ?_⟩
  rcases h2 with h2 | ⟨g, cap, cur, rfl, h3, h4, h5⟩
  · exact .inl h2
  · exact .inr ⟨g, cap, cur, rfl, h3, (hk g rfl).trans h4, h5⟩
theorem own_zero {w : World} {B : Nat} {t : TypeId} {z n : Nat} {v : Value} {cs : List Value} (h : w.ownsRow B t z v n cs) : w.ownsRow 0 t z v n cs := by
  obtain ⟨h1, h2⟩ := h
  refine ⟨h1, ?_⟩
  rcases h2 with h2 | ⟨g, cap, cur, rfl, _, h4, h5⟩
  · exact .inl h2
  · exact .inr ⟨g, cap, cur, rfl, Nat.zero_le _, h4, h5⟩
theorem own_nil {w : World} {B : Nat} {t : TypeId} {z : Nat} {v : Value} {cs : List Value} (h : w.ownsRow B t z v 0 cs) : cs = [] := List.eq_nil_of_length_eq_zero (by rw [h.1]; simp)
theorem FrC.keep {w w' : World} {S : Nat → Prop} (hk : ∀ b, S b → w'.heap[b]? = w.heap[b]?) : ∀ (f : Fr) (cs : List Value), FrC w S f cs → FrC w' S f cs
  | .nil, _, h => h
  | .cons _k _t _r _l _v kids rest, _, ⟨kv, ck, cr, e, hl, ho, hn, hs, h1, h2⟩ => ⟨kv, ck, cr, e, hl, own_keep ho (fun b hb => hk b (hs b hb)), hn, hs, FrC.keep hk kids ck h1, FrC.keep hk rest cr h2⟩
theorem FrC.mono {w : World} {S S' : Nat → Prop} (hk : ∀ b, S b → S' b) : ∀ (f : Fr) (cs : List Value), FrC w S f cs → FrC w S' f cs
  | .nil, _, h => h
  | .cons _k _t _r _l _v kids rest, _, ⟨kv, ck, cr, e, hl, ho, hn, hs, h1, h2⟩ => ⟨kv, ck, cr, e, hl, ho, hn, fun b hb => hk b (hs b hb), FrC.mono hk kids ck h1, FrC.mono hk rest cr h2⟩
theorem KidC.keep {w w' : World} {S : Nat → Prop} {kv : Value} {f : Fr} (h : KidC w S kv f) (hk : ∀ b, S b → w'.heap[b]? = w.heap[b]?) : KidC w' S kv f := by
  obtain ⟨ck, ho, hn, hs, hf⟩ := h
  exact ⟨ck, own_keep ho (fun b hb => hk b (hs b hb)), hn, hs, hf.keep hk f ck⟩
theorem KidC.mono {w : World} {S S' : Nat → Prop} {kv : Value} {f : Fr} (h : KidC w S kv f) (hk : ∀ b, S b → S' b) : KidC w S' kv f := by
  obtain ⟨ck, ho, hn, hs, hf⟩ := h
  exact ⟨ck, ho, hn, fun b hb => hk b (hs b hb), hf.mono hk f ck⟩
theorem KidC.shape {w : World} {S : Nat → Prop} {kv : Value} {f : Fr} (h : KidC w S kv f) : ∃ A cap, kv = .slice A f.len cap := by
  obtain ⟨ck, ho, _⟩ := h
  rcases ho.2 with ⟨rfl, h0⟩ | ⟨g, cap, cur, rfl, _⟩
  · exact ⟨none, 0, by rw [h0]⟩
  · exact ⟨_, _, rfl⟩
theorem KidC.nil (w : World) (S : Nat → Prop) : KidC w S (.slice none 0 0) .nil := ⟨[], World.ownsRow_nil _ _ _ _, by simp [Fr.len], fun b h => by simp [Value.ownBlock] at h, rfl⟩
theorem FrC.len {w : World} {S : Nat → Prop} : ∀ (f : Fr) (cs : List Value), FrC w S f cs → cs.length = f.len * 6
  | .nil, _, h => by rw [show _ = [] from h]; simp [Fr.len]
  | .cons k t r l v kids rest, _, ⟨kv, ck, cr, e, hl, ho, hn, hs, h1, h2⟩ => by
    subst e
    have := h2.len
    simp [Fr.len, this]; omega
def nodeCs (n : Nd) (kv : Value) : List Value := [.int .i64 n.k, .int .i64 n.t, .int .i64 n.r, .string ⟨n.l.toArray⟩, .int .i64 n.v, kv]
theorem FrC.snoc {w : World} {S : Nat → Prop} {n : Nd} {kv : Value} (hl : n.l.length ≤ 262144) (hk : KidC w S kv n.kids) : ∀ (l : List Nd) (cs : List Value), FrC w S (frOf l) cs → FrC w S (frOf (l ++ [n])) (cs ++ nodeCs n kv)
  | [], cs, h => by
    obtain ⟨ck, ho, hn, hs, hf⟩ := hk
    rw [show cs = [] from h]
    exact ⟨kv, ck, [], rfl, hl, ho, hn, hs, hf, rfl⟩
  | m :: r, cs, ⟨kv', ck, cr, e, hl', ho, hn, hs, h1, h2⟩ => by
    subst e
    exact ⟨kv', ck, cr ++ nodeCs n kv, rfl, hl', ho, hn, hs, h1, FrC.snoc hl hk r cr h2⟩
theorem FrC.one {w : World} {S : Nat → Prop} {n : Nd} {cs : List Value} (h : FrC w S (frOf [n]) cs) : n.l.length ≤ 262144 ∧ ∃ kv, cs = nodeCs n kv ∧ KidC w S kv n.kids := by
  obtain ⟨kv, ck, cr, e, hl, ho, hn, hs, h1, h2⟩ := h
  rw [show cr = [] from h2] at e
  exact ⟨hl, kv, e, ck, ho, hn, hs, h1⟩
/-- Such a forest reads as one that came in. -/
theorem FrC.row {w : World} {S : Nat → Prop} {hi : Nat} (hS : ∀ b, S b → b < hi) : ∀ (f : Fr) (cs : List Value) (b o : Nat), FrC w S f cs → (∀ j u, cs[j]? = some u → w.cell? ⟨b, o + j, none⟩ = some u) → RowAt w hi b o f
  | .nil, _, _, _, _, _ => trivial
  | .cons k t r l v kids rest, _, b, o, ⟨kv, ck, cr, e, hl, ho, hn, hs, h1, h2⟩, hc => by
    subst e
    refine ⟨hc 0 _ rfl, hc 1 _ rfl, hc 2 _ rfl, hc 3 _ rfl, hc 4 _ rfl, by omega, ?_, ?_⟩
    · have h5 := hc 5 _ rfl
      rcases ho.2 with ⟨rfl, h0⟩ | ⟨g, cap, cur, rfl, _, hg, hc1, hc2, hc3, htk⟩
      · exact ⟨none, 0, by rw [h0]; exact h5, by omega, ⟨by omega, by omega⟩, fun h => by omega⟩
      · refine ⟨some ⟨g, 0, none⟩, cap, h5, hc1, ⟨by omega, by unfold maxLen at hc2; omega⟩, fun _ => ⟨g, 0, rfl, hS g (hs g rfl), FrC.row hS kids ck g 0 h1 fun j u hu => ?_⟩⟩
        rw [Nat.zero_add, ho.cellAt j (by rw [← ho.1]; exact (List.getElem?_eq_some_iff.1 hu).1)]
        exact hu
    · refine FrC.row hS rest cr b (o + 6) h2 fun j u hu => ?_
      have := hc (j + 6) u (by simpa using hu)
      rw [show o + 6 + j = o + (j + 6) by omega]
      exact this
theorem KidC.sl {w : World} {S : Nat → Prop} {hi : Nat} {kv : Value} {f : Fr} (hS : ∀ b, S b → b < hi) (h : KidC w S kv f) : SlAt w hi kv f := by
  obtain ⟨ck, ho, hn, hs, hf⟩ := h
  rcases ho.2 with ⟨rfl, h0⟩ | ⟨g, cap, cur, rfl, _, hg, hc1, hc2, hc3, htk⟩
  · exact ⟨none, 0, by rw [h0], by omega, ⟨by omega, by omega⟩, fun h => by omega⟩
  · refine ⟨some ⟨g, 0, none⟩, cap, rfl, hc1, ⟨by omega, by unfold maxLen at hc2; omega⟩, fun _ => ⟨g, 0, rfl, hS g (hs g rfl), FrC.row hS f ck g 0 hf fun j u hu => ?_⟩⟩
    rw [Nat.zero_add, ho.cellAt j (by rw [← ho.1]; exact (List.getElem?_eq_some_iff.1 hu).1)]
    exact hu
/-- A node that a reader hands back: its kids lie in memory made since w0. -/
def NV (w0 : World) (n : Nd) (w' : World) (v : Value) : Prop := n.l.length ≤ 262144 ∧ ∃ kv, v = nodeV n.k n.t n.r n.l n.v kv ∧ KidC w' (fun b => w0.heap.size ≤ b ∧ b < w'.heap.size) kv n.kids
def nextOf (w : World) (g : Nat) : Nat := match w.cell? ⟨g, 3, none⟩ with
  | some (.int _ n) => n.toNat
  | _ => 0
theorem Rd.nextOf {w : World} {g : Nat} {a : Int} {s : ByteArray} {A : Option Addr} {cap : Nat} {all : List Tok} {k : Nat} (h : Rd w g a s A cap all k) : nextOf w g = k := by
  unfold Go.Proofs.YtmlnibjnacfanaaGreatDoor.nextOf
  rw [h.c3]
  simp
/-- What a function that reads one node does. -/
def OneP (fid : Nat) (one : List Tok → Rs Nd) (g : Nat) (a : Int) (s : ByteArray) (A : Option Addr) (cap : Nat) (all : List Tok) (N : Nat) : Prop :=
  ∀ (w : World) (k : Nat), Rd w g a s A cap all k → Env w → 6 ≤ g → all.length - k < N → Calls Tryz.prog fid #[.pointer (some ⟨g, 0, none⟩)] w (Pst g a s A cap all k w (NV w) (one (all.drop k)))
theorem grown_some {w w' : World} {g : Nat} (h : w.grownBy w' none) : w.grownBy w' (some g) := ⟨h.os, h.tape, h.output, h.size, fun i hi _ => h.block i hi (by simp)⟩
/-- One more at the end of a row of one's own: it stays where it was, or moves to a new block. -/
theorem append_more {P : Program} (w : World) {ops : Array Oper} {rest : List Oper} {o : Oper} {a : Act} {Q : Exit → Act → World → Prop}
    (hg : o.guard = none) (s x : Operand) (t : TypeId) (hop : o.op = Op.call { callee := Callee.builtin Builtin.append, args := #[s, x], argTypes := #[t, t] })
    (base : Nat) (e : TypeId) (i : TypeInfo) (z : Value) (size bytes : Nat) (h1 : P.underlying t = some (.slice e)) (h2 : P.info? e = some i) (h3 : i.zero = some z) (h4 : i.size = size) (h5 : i.bytes = bytes) (h6 : z.cells.size = size) (h7 : 0 < size)
    (g n cap : Nat) (xs : List Value) (hs : a.eval s = .slice (some ⟨g, 0, none⟩) n cap) (hown : w.ownsRow base e size (.slice (some ⟨g, 0, none⟩) n cap) n xs) (ad : Addr) (m c : Nat) (news : List Value) (hx : a.eval x = .slice (some ad) m c) (hn : news.length = m * size)
    (hc : ∀ j u, news[j]? = some u → w.cell? (ad.add j) = some u) (h1c : ∀ u ∈ news, u.oneCell' = true) (b1 : n + m ≤ maxLen) (b2 : (n + m) * bytes ≤ 140737488355328) (hb : base ≤ w.heap.size)
    (hK : ∀ g' cap' w', w'.ownsRow base e size (.slice (some ⟨g', 0, none⟩) (n + m) cap') (n + m) (xs ++ news) → w.grownBy w' (some g) → (g' = g ∨ w.heap.size ≤ g') → wpList P ops Q rest (a.put o.dst (.slice (some ⟨g', 0, none⟩) (n + m) cap')) w') :
    0 < m → wpList P ops Q (o :: rest) a w := by
  intro hm
  by_cases hcap : n + m ≤ cap
  · exact wpList_append_fits w hg s x t hop base e i size h1 h2 h4 g n cap xs hs hown ad m c news hx hn hc h1c hcap fun w' r1 r2 => hK g cap w' r1 r2 (.inl rfl)
  · refine wpList_append_grows w hg s x t hop e i z size bytes h1 h2 h3 h4 h5 h6 h7 (some ⟨g, 0, none⟩) n cap xs hs (fun h => by cases h) hown.1 (fun b hb j u hu => ?_) ad m c news hx hn hc h1c (by omega) b1 b2 fun v' w' r1 r2 => ?_
    · cases hb
      exact hown.cells rfl j u hu
    · have r1' := r1
      rcases r1.2 with ⟨_, h0⟩ | ⟨g', cap', cur, rfl, hg', r⟩
      · omega
      · refine hK g' cap' w' ⟨r1'.1, .inr ⟨g', cap', cur, rfl, Nat.le_trans hb hg', r⟩⟩ (grown_some r2) (.inr hg')
theorem Only.grow {w x y : World} {g q : Nat} (h : Only g w x) (hg : x.grownBy y (some q)) (hq : w.heap.size ≤ q) : Only g w y :=
  ⟨hg.os.trans h.os, hg.tape.trans h.tape, hg.output.trans h.output, Nat.le_trans h.size hg.size, fun i hi hne => (hg.block i (Nat.lt_of_lt_of_le hi h.size) (fun e => by injection e; omega)).trans (h.block i hi hne)⟩
theorem Rd.grow {w0 x y : World} {g : Nat} {a : Int} {s : ByteArray} {A : Option Addr} {cap : Nat} {all : List Tok} {k0 k q : Nat} (h0 : Rd w0 g a s A cap all k0) (h : Rd x g a s A cap all k) (hg : x.grownBy y (some q)) (hq : w0.heap.size ≤ q) : Rd y g a s A cap all k := by
  have hlt := h0.blk.lt
  refine ⟨h.blk.only hg (by omega), fun i t ht => ?_, h.len, h.size, h.le, h.txt⟩
  obtain ⟨gt, e, hne, c0, c1⟩ := h.tok i t ht
  obtain ⟨gt', e', _, c0', _⟩ := h0.tok i t ht
  rw [e] at e'
  simp only [Option.some.injEq, Addr.mk.injEq, and_true] at e'
  subst e'
  have hlt2 := World.block_lt_of_cell? w0 ⟨gt, i * 2, none⟩ c0'
  simp only at hlt2
  exact ⟨gt, e, hne, Only.cell c0 hg (by omega), Only.cell c1 hg (by omega)⟩
theorem infoNode : (Tryz.prog.info? 26).map (fun i => (i.zero, i.size, i.bytes)) = some (some (.agg #[.int .i64 0, .int .i64 0, .int .i64 0, .string ⟨#[]⟩, .int .i64 0, .slice none 0 0]), 6, 72) := by kernel_rfl
end Go.Proofs.YtmlnibjnacfanaaGreatDoor
