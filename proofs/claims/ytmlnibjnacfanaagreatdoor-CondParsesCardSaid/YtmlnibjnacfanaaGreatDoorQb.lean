/- Layer 8: Few and Twin, plain: how many nodes there are and how deep; lists of nodes whose blocks lie in a set. Layer 8: Few, walked: how many nodes there are, told from a number down; and small. -/
import Derived.Test.YtmlnibjnacfanaaGreatDoorJn
namespace Go.Proofs.YtmlnibjnacfanaaGreatDoor
open Go.RowKit

/-- How many may still come, once a list of nodes was counted. -/
def fewF : Fr → Nat → Nat → Option Nat
  | .nil, left, _ => some left
  | .cons _ _ _ _ _ kids rest, left, deep => if left = 0 ∨ deep = 0 then none else (fewF kids (left - 1) (deep - 1)).bind fun m => fewF rest m deep
def fewN (kids : Fr) (left deep : Nat) : Option Nat := if left = 0 ∨ deep = 0 then none else fewF kids (left - 1) (deep - 1)
def fewV : Option Nat → Int
  | none => -1
  | some m => m
theorem fewF_step {k t r : Int} {l : List UInt8} {v : Int} {kids rest : Fr} {left deep : Nat} : fewF (.cons k t r l v kids rest) left deep = (fewN kids left deep).bind fun m => fewF rest m deep := by
  rw [fewF, fewN]
  by_cases h : left = 0 ∨ deep = 0
  · rw [if_pos h, if_pos h]; rfl
  · rw [if_neg h, if_neg h]
theorem fewF_le : ∀ (f : Fr) (left deep m : Nat), fewF f left deep = some m → m + f.len ≤ left
  | .nil, left, _, m, h => by simp only [fewF, Option.some.injEq] at h; simp [Fr.len, h]
  | .cons _ _ _ _ _ kids rest, left, deep, m, h => by
    unfold fewF at h
    split at h
    · cases h
    · cases hk : fewF kids (left - 1) (deep - 1) with
      | none => rw [hk] at h; cases h
      | some m' =>
        rw [hk] at h
        have h1 := fewF_le kids _ _ _ hk
        have h2 := fewF_le rest m' deep m h
        simp only [Fr.len]
        omega
theorem few_of_walk (a : Int) : ∀ (f : Fr) (met deep : Nat), met ≤ 1024 → deep ≤ 64 → (walkF a f met deep).2 = 0 → fewF f (1024 - met) (64 - deep) = some (1024 - (walkF a f met deep).1)
  | .nil, _, _, _, _, _ => rfl
  | .cons k t r l v kids rest, met, deep, h1, h2, h => by
    rw [walkF_step] at h ⊢
    by_cases hf : 1024 ≤ met ∨ 64 ≤ deep
    · rw [walkN_full hf] at h; simp at h
    · cases ho : ownB a k t r l v kids.len with
      | false => rw [walkN_bad hf ho] at h; simp at h
      | true =>
        rw [walkN_go hf ho] at h ⊢
        by_cases h0 : (walkF a kids (met + 1) (deep + 1)).2 = 0
        · rw [if_pos h0] at h ⊢
          have k1 := few_of_walk a kids (met + 1) (deep + 1) (by omega) (by omega) h0
          have k2 := few_of_walk a rest (walkF a kids (met + 1) (deep + 1)).1 deep (walkF_met a kids _ _ (by omega)) h2 h
          rw [fewF_step, fewN, if_neg (by omega), show 1024 - met - 1 = 1024 - (met + 1) by omega, show 64 - deep - 1 = 64 - (deep + 1) by omega, k1]
          exact k2
        · rw [if_neg h0] at h
          exact absurd h h0
/-- Where there are too many, or they stand too deep, the condition may not be. -/
theorem few_check {q k t r : Int} {l : List UInt8} {v : Int} {kids : Fr} (h : fewN kids 1024 64 = none) : checkC 2 q k t r l v kids ≠ 0 := by
  intro hc
  unfold checkC at hc
  split at hc
  · cases hc
  · split at hc
    · cases hc
    · have := few_of_walk 2 (.cons k t r l v kids .nil) 0 0 (by omega) (by omega) hc
      rw [fewF_step] at this
      rw [show 1024 - 0 = 1024 from rfl, show 64 - 0 = 64 from rfl, h] at this
      cases this
/-- No deeper than so, and no list longer than 1024. -/
def smallF : Fr → Nat → Prop
  | .nil, _ => True
  | .cons _ _ _ _ _ kids rest, d => 0 < d ∧ kids.len ≤ 1024 ∧ smallF kids (d - 1) ∧ smallF rest d
theorem smallF.mono : ∀ (f : Fr) (d d' : Nat), d ≤ d' → smallF f d → smallF f d'
  | .nil, _, _, _, _ => trivial
  | .cons _ _ _ _ _ kids rest, d, d', h, ⟨h1, h2, h3, h4⟩ => ⟨by omega, h2, smallF.mono kids _ _ (by omega) h3, smallF.mono rest _ _ h h4⟩
theorem smallF.at_ {d : Nat} : ∀ (f : Fr) (j : Nat) {k t r : Int} {l : List UInt8} {v : Int} {kids rest : Fr}, smallF f d → f.drop j = .cons k t r l v kids rest → 0 < d ∧ kids.len ≤ 1024 ∧ smallF kids (d - 1)
  | .nil, 0, _, _, _, _, _, _, _, _, h => by cases h
  | .nil, _ + 1, _, _, _, _, _, _, _, _, h => by cases h
  | .cons _ _ _ _ _ _ _, 0, _, _, _, _, _, _, _, h, e => by cases e; exact ⟨h.1, h.2.1, h.2.2.1⟩
  | .cons _ _ _ _ _ _ rest, j + 1, _, _, _, _, _, _, _, h, e => smallF.at_ rest j h.2.2.2 e
theorem few_small : ∀ (f : Fr) (left deep m : Nat), left ≤ 1024 → fewF f left deep = some m → smallF f deep
  | .nil, _, _, _, _, _ => trivial
  | .cons _ _ _ _ _ kids rest, left, deep, m, hl, h => by
    unfold fewF at h
    split at h
    · cases h
    · cases hk : fewF kids (left - 1) (deep - 1) with
      | none => rw [hk] at h; cases h
      | some m' =>
        rw [hk] at h
        have h1 := fewF_le kids _ _ _ hk
        exact ⟨by omega, by omega, few_small kids _ _ _ (by omega) hk, few_small rest m' deep m (by omega) h⟩
theorem few_root {kids : Fr} {m : Nat} (h : fewN kids 1024 64 = some m) : kids.len ≤ 1024 ∧ smallF kids 70 := by
  unfold fewN at h
  rw [if_neg (by omega)] at h
  have h1 := fewF_le kids _ _ _ h
  exact ⟨by omega, smallF.mono kids _ _ (by omega) (few_small kids _ _ _ (by omega) h)⟩

/-- The nodes' cells, from an offset of a block on; all blocks of lists below in S. -/
def RowS (w : World) (S : Nat → Prop) : Nat → Nat → Fr → Prop
  | _, _, .nil => True
  | b, o, .cons k t r l v kids rest =>
    w.cell? ⟨b, o, none⟩ = some (.int .i64 k) ∧ w.cell? ⟨b, o + 1, none⟩ = some (.int .i64 t) ∧ w.cell? ⟨b, o + 2, none⟩ = some (.int .i64 r) ∧ w.cell? ⟨b, o + 3, none⟩ = some (.string ⟨l.toArray⟩) ∧
    w.cell? ⟨b, o + 4, none⟩ = some (.int .i64 v) ∧ l.length ≤ 9223372036854775807 ∧
    (∃ A cap, w.cell? ⟨b, o + 5, none⟩ = some (.slice A kids.len cap) ∧ kids.len ≤ cap ∧ (kids.len * 72 ≤ 140737488351232 ∧ cap ≤ 9223372036854775807) ∧ (0 < kids.len → ∃ b' o', A = some ⟨b', o', none⟩ ∧ S b' ∧ RowS w S b' o' kids)) ∧
    RowS w S b (o + 6) rest
def SlS (w : World) (S : Nat → Prop) (kv : Value) (f : Fr) : Prop :=
  ∃ A cap, kv = .slice A f.len cap ∧ f.len ≤ cap ∧ (f.len * 72 ≤ 140737488351232 ∧ cap ≤ 9223372036854775807) ∧ (0 < f.len → ∃ b o, A = some ⟨b, o, none⟩ ∧ S b ∧ RowS w S b o f)
theorem RowS.keep {w w' : World} {S : Nat → Prop} (hk : ∀ b, S b → w'.heap[b]? = w.heap[b]?) : ∀ (f : Fr) (b o : Nat), S b → RowS w S b o f → RowS w' S b o f
  | .nil, _, _, _, _ => trivial
  | .cons k t r l v kids rest, b, o, hb, ⟨h0, h1, h2, h3, h4, h5, ⟨A, cap, h6, h7, h8, h9⟩, h10⟩ =>
    have hc := fun o => World.cell?_of_block (a := ⟨b, o, none⟩) (hk b hb)
    ⟨(hc _).trans h0, (hc _).trans h1, (hc _).trans h2, (hc _).trans h3, (hc _).trans h4, h5,
      ⟨A, cap, (hc _).trans h6, h7, h8, fun hp => by
        obtain ⟨b', o', e, hb', hr⟩ := h9 hp
        exact ⟨b', o', e, hb', RowS.keep hk kids b' o' hb' hr⟩⟩, RowS.keep hk rest b (o + 6) hb h10⟩
theorem RowS.mono {w : World} {S S' : Nat → Prop} (hS : ∀ b, S b → S' b) : ∀ (f : Fr) (b o : Nat), RowS w S b o f → RowS w S' b o f
  | .nil, _, _, _ => trivial
  | .cons k t r l v kids rest, b, o, ⟨h0, h1, h2, h3, h4, h5, ⟨A, cap, h6, h7, h8, h9⟩, h10⟩ =>
    ⟨h0, h1, h2, h3, h4, h5, ⟨A, cap, h6, h7, h8, fun hp => by
        obtain ⟨b', o', e, hb', hr⟩ := h9 hp
        exact ⟨b', o', e, hS b' hb', RowS.mono hS kids b' o' hr⟩⟩, RowS.mono hS rest b (o + 6) h10⟩
theorem RowS.at_ {w : World} {S : Nat → Prop} {hi : Nat} (hS : ∀ b, S b → b < hi) : ∀ (f : Fr) (b o : Nat), RowS w S b o f → RowAt w hi b o f
  | .nil, _, _, _ => trivial
  | .cons k t r l v kids rest, b, o, ⟨h0, h1, h2, h3, h4, h5, ⟨A, cap, h6, h7, h8, h9⟩, h10⟩ =>
    ⟨h0, h1, h2, h3, h4, h5, ⟨A, cap, h6, h7, h8, fun hp => by
        obtain ⟨b', o', e, hb', hr⟩ := h9 hp
        exact ⟨b', o', e, hS b' hb', RowS.at_ hS kids b' o' hr⟩⟩, RowS.at_ hS rest b (o + 6) h10⟩
theorem SlS.keep {w w' : World} {S : Nat → Prop} {kv : Value} {f : Fr} (h : SlS w S kv f) (hk : ∀ b, S b → w'.heap[b]? = w.heap[b]?) : SlS w' S kv f := by
  obtain ⟨A, cap, h1, h2, h3, h4⟩ := h
  refine ⟨A, cap, h1, h2, h3, fun hp => ?_⟩
  obtain ⟨b, o, e, hb, hr⟩ := h4 hp
  exact ⟨b, o, e, hb, RowS.keep hk f b o hb hr⟩
theorem SlS.mono {w : World} {S S' : Nat → Prop} {kv : Value} {f : Fr} (h : SlS w S kv f) (hS : ∀ b, S b → S' b) : SlS w S' kv f := by
  obtain ⟨A, cap, h1, h2, h3, h4⟩ := h
  refine ⟨A, cap, h1, h2, h3, fun hp => ?_⟩
  obtain ⟨b, o, e, hb, hr⟩ := h4 hp
  exact ⟨b, o, e, hS b hb, RowS.mono hS f b o hr⟩
theorem SlS.sl {w : World} {S : Nat → Prop} {hi : Nat} {kv : Value} {f : Fr} (hS : ∀ b, S b → b < hi) (h : SlS w S kv f) : SlAt w hi kv f := by
  obtain ⟨A, cap, h1, h2, h3, h4⟩ := h
  refine ⟨A, cap, h1, h2, h3, fun hp => ?_⟩
  obtain ⟨b, o, e, hb, hr⟩ := h4 hp
  exact ⟨b, o, e, hS b hb, RowS.at_ hS f b o hr⟩
theorem SlS.nil (w : World) (S : Nat → Prop) : SlS w S (.slice none 0 0) .nil := ⟨none, 0, rfl, Nat.zero_le _, ⟨by simp [Fr.len], by omega⟩, fun h => by simp [Fr.len] at h⟩
/-- The cells of a row, in order. -/
def RowD (w : World) (S : Nat → Prop) : Fr → List Value → Prop
  | .nil, cs => cs = []
  | .cons k t r l v kids rest, cs => ∃ kv cr, cs = .int .i64 k :: .int .i64 t :: .int .i64 r :: .string ⟨l.toArray⟩ :: .int .i64 v :: kv :: cr ∧ l.length ≤ 9223372036854775807 ∧ SlS w S kv kids ∧ RowD w S rest cr
theorem RowD.keep {w w' : World} {S : Nat → Prop} (hk : ∀ b, S b → w'.heap[b]? = w.heap[b]?) : ∀ (f : Fr) (cs : List Value), RowD w S f cs → RowD w' S f cs
  | .nil, _, h => h
  | .cons _ _ _ _ _ _ rest, _, ⟨kv, cr, e, hl, hs, hr⟩ => ⟨kv, cr, e, hl, hs.keep hk, RowD.keep hk rest cr hr⟩
theorem RowD.mono {w : World} {S S' : Nat → Prop} (hS : ∀ b, S b → S' b) : ∀ (f : Fr) (cs : List Value), RowD w S f cs → RowD w S' f cs
  | .nil, _, h => h
  | .cons _ _ _ _ _ _ rest, _, ⟨kv, cr, e, hl, hs, hr⟩ => ⟨kv, cr, e, hl, hs.mono hS, RowD.mono hS rest cr hr⟩
theorem RowD.app {w : World} {S : Nat → Prop} : ∀ (f g : Fr) (cs ds : List Value), RowD w S f cs → RowD w S g ds → RowD w S (f.append g) (cs ++ ds)
  | .nil, _, _, _, h, k => by rw [show _ = [] from h]; exact k
  | .cons _ _ _ _ _ _ rest, g, _, ds, ⟨kv, cr, e, hl, hs, hr⟩, k => by
    subst e
    exact ⟨kv, cr ++ ds, rfl, hl, hs, RowD.app rest g cr ds hr k⟩
theorem RowD.len {w : World} {S : Nat → Prop} : ∀ (f : Fr) (cs : List Value), RowD w S f cs → cs.length = f.len * 6
  | .nil, _, h => by rw [show _ = [] from h]; simp [Fr.len]
  | .cons _ _ _ _ _ _ rest, _, ⟨kv, cr, e, hl, hs, hr⟩ => by
    subst e
    have := hr.len
    simp [Fr.len, this]; omega
theorem RowD.row {w : World} {S : Nat → Prop} : ∀ (f : Fr) (cs : List Value) (b o : Nat), RowD w S f cs → (∀ j u, cs[j]? = some u → w.cell? ⟨b, o + j, none⟩ = some u) → RowS w S b o f
  | .nil, _, _, _, _, _ => trivial
  | .cons k t r l v kids rest, _, b, o, ⟨kv, cr, e, hl, hs, hr⟩, hc => by
    subst e
    obtain ⟨A, cap, rfl, s1, s2, s3⟩ := hs
    refine ⟨hc 0 _ rfl, hc 1 _ rfl, hc 2 _ rfl, hc 3 _ rfl, hc 4 _ rfl, hl, ⟨A, cap, hc 5 _ rfl, s1, s2, s3⟩, RowD.row rest cr b (o + 6) hr fun j u hj => ?_⟩
    have := hc (j + 6) u (by simpa using hj)
    rw [show o + 6 + j = o + (j + 6) by omega]
    exact this
theorem Fr.take_step : ∀ (f : Fr) (j : Nat) {k t r : Int} {l : List UInt8} {v : Int} {kids rest : Fr}, f.drop j = .cons k t r l v kids rest → f.take (j + 1) = (f.take j).append (.cons k t r l v kids .nil)
  | .nil, 0, _, _, _, _, _, _, _, h => by cases h
  | .nil, _ + 1, _, _, _, _, _, _, _, h => by cases h
  | .cons _ _ _ _ _ _ rest, 0, _, _, _, _, _, _, _, h => by cases h; simp [Fr.take, Fr.append]
  | .cons _ _ _ _ _ _ rest, j + 1, _, _, _, _, _, _, _, h => by
    simp only [Fr.drop] at h
    rw [Fr.take, rest.take_step j h]
    rfl
theorem Fr.take_all : ∀ (f : Fr) (j : Nat), f.len ≤ j → f.take j = f
  | .nil, 0, _ => rfl
  | .nil, _ + 1, _ => rfl
  | .cons _ _ _ _ _ _ _, 0, h => by simp [Fr.len] at h
  | .cons _ _ _ _ _ _ rest, j + 1, h => by rw [Fr.take, rest.take_all j (by simp [Fr.len] at h; omega)]
/-- A row of the call's own, and what its lists hang together with: a list of nodes. -/
theorem RowD.own {w : World} {S : Nat → Prop} {B : Nat} {v : Value} {f : Fr} {cs : List Value} (h : RowD w S f cs) (ho : w.ownsRow B 26 6 v f.len cs) (hn : f.len ≤ 1024) (hS : ∀ b, v.ownBlock = some b → S b) : SlS w S v f := by
  have h' : ∀ A len cap, v = .slice A len cap → len = f.len → SlS w S v f := fun A len cap e e2 => by
    rcases ho.2 with ⟨rfl, h0⟩ | ⟨g, cap', cur, rfl, _, hg, hc1, hc2, _⟩
    · rw [show (Value.slice none 0 0) = .slice none f.len 0 by rw [h0]]
      exact ⟨none, 0, rfl, by omega, ⟨by omega, by omega⟩, fun hp => by omega⟩
    · unfold maxLen at hc2
      refine ⟨some ⟨g, 0, none⟩, cap', rfl, hc1, ⟨by omega, by omega⟩, fun hp => ⟨g, 0, rfl, hS g rfl, ?_⟩⟩
      refine RowD.row f cs g 0 h fun j u hj => ?_
      rw [Nat.zero_add, ho.cellAt j (by rw [← ho.1]; exact (List.getElem?_eq_some_iff.1 hj).1)]
      exact hj
  obtain ⟨A, cap, e⟩ := own_shp ho
  exact h' A _ cap e rfl

def FewR (kids : Fr) : Prop :=
  ∀ (w : World) (hi : Nat) (k t r v : Int) (l : List UInt8) (kv : Value) (x y : Int) (left deep : Nat), x = left → y = deep → hi ≤ w.heap.size → left ≤ 1024 → deep ≤ 64 → SlAt w hi kv kids →
    Calls Tryz.prog 53 #[nodeV k t r l v kv, .int .i64 x, .int .i64 y] w fun e w' => e = .returned (.int .i64 (fewV (fewN kids left deep))) ∧ Below w.heap.size w w'
def AllFew : Fr → Prop
  | .nil => True
  | .cons _ _ _ _ _ kids rest => FewR kids ∧ AllFew rest
theorem AllFew.at_ : ∀ (f : Fr) (j : Nat) {k t r : Int} {l : List UInt8} {v : Int} {kids rest : Fr}, AllFew f → f.drop j = .cons k t r l v kids rest → FewR kids
  | .nil, 0, _, _, _, _, _, _, _, _, h => by cases h
  | .nil, _ + 1, _, _, _, _, _, _, _, _, h => by cases h
  | .cons _ _ _ _ _ _ _, 0, _, _, _, _, _, _, _, h, e => by cases e; exact h.1
  | .cons _ _ _ _ _ _ rest, j + 1, _, _, _, _, _, _, _, h, e => AllFew.at_ rest j h.2 e
section
variable {kids : Fr}
set_option maxHeartbeats 600000 in
set_option maxRecDepth 100000 in
theorem fewR_step (hk : AllFew kids) : FewR kids := by
  intro w hi k t r v l kv x y left deep hx hy hh hleft hdeep hs
  obtain ⟨A, cap, rfl, s1, s2, s3⟩ := hs
  have S3 := Lib.hid s3
  have HK := Lib.hid hk
  clear s3 hk
  by_cases hm : left = 0
  · have HR := Lib.hid (show fewV (fewN kids left deep) = -1 by simp [fewN, hm, fewV])
    have i1 : x ≤ 0 := by omega
    go_enter Tryz.func53, Tryz.ntmps53
    go_wp2_with fail
    go_ret
    exact ⟨by rw [HR.out]; rfl, alloc_b _ _⟩
  by_cases hd : deep = 0
  · have HR := Lib.hid (show fewV (fewN kids left deep) = -1 by simp [fewN, hd, fewV])
    have i1 : decide (x ≤ 0) = false := by simp; omega
    have i2 : y ≤ 0 := by omega
    go_enter Tryz.func53, Tryz.ntmps53
    go_wp2_with fail
    go_ret
    exact ⟨by rw [HR.out]; rfl, alloc_b _ _⟩
  have i1 : decide (x ≤ 0) = false := by simp; omega
  have i2 : decide (y ≤ 0) = false := by simp; omega
  have w1 : IntKind.i64.wrap (x - 1) = x - 1 := by rw [IntKind.wrap_i64]; omega
  have w2 : IntKind.i64.wrap (y - 1) = y - 1 := by rw [IntKind.wrap_i64]; omega
  have HX := Lib.hid (show x - 1 = ((left - 1 : Nat) : Int) by omega)
  have HY := Lib.hid (show y - 1 = ((deep - 1 : Nat) : Int) by omega)
  clear hx hy
  have HR := Lib.hid (show fewN kids left deep = fewF kids (left - 1) (deep - 1) by simp [fewN, hm, hd])
  have HC5 := Lib.hid (cell_new w #[.int .i64 k, .int .i64 t, .int .i64 r, .string ⟨l.toArray⟩, .int .i64 v, .slice A kids.len cap] 26 (0, 0) 5)
  have c5 := HC5.out
  have HB := Lib.hid (alloc_b w (.cells #[.int .i64 k, .int .i64 t, .int .i64 r, .string ⟨l.toArray⟩, .int .i64 v, .slice A kids.len cap] 26 (0, 0)))
  go_enter Tryz.func53, Tryz.ntmps53
  go_wp2_with fail
  clear c5
  generalize hW : w.alloc (.cells #[.int .i64 k, .int .i64 t, .int .i64 r, .string ⟨l.toArray⟩, .int .i64 v, .slice A kids.len cap] 26 (0, 0)) = x1
  have hc := HC5.out
  have hb1 := HB.out
  rw [hW] at hc hb1
  have HCC := Lib.hid hc
  have HBB := Lib.hid hb1
  clear hW HC5 HB hc hb1
  go_loopw [1, 7] (fun s i wr => ∃ j m : Nat, j ≤ kids.len ∧ i = .int .i64 j ∧ s = .int .i64 m ∧ m ≤ 1024 ∧ fewF kids (left - 1) (deep - 1) = fewF (kids.drop j) m (deep - 1) ∧ Below x1.heap.size x1 wr) (fun _ i _ => kids.len - (intOf i).toNat)
  case atStart => exact ⟨0, left - 1, Nat.zero_le _, rfl, by rw [HX.out], by omega, rfl, Below.refl _ _⟩
  case round =>
    obtain ⟨j, m, hj, rfl, rfl, hm', hwk, hbr⟩ := hrel
    have HF := Lib.hid hwk
    have HBR := Lib.hid (below_trans HBB.out hbr)
    have hzr : w.heap.size ≤ wr.heap.size := HBR.out.size
    have hc5 := cell_go HCC.out hbr
    have HBX := Lib.hid hbr
    clear hwk hbr
    by_cases hlt : j < kids.len
    · obtain ⟨b, o, rfl, hb, hrow⟩ := S3.out (by omega)
      obtain ⟨k', t', r', l', v', kids', rest', hdr⟩ := kids.drop_lt j hlt
      have hrow' := RowAt.keep (w' := wr) (fun b o hb => HBR.out.cell (p := ⟨b, o, none⟩) (show b < w.heap.size by omega)) kids b o hb hrow
      have hat := RowAt.at_ kids b o j hrow'
      rw [hdr] at hat
      obtain ⟨kv', q0, q1, q2, q3, q4, q5, hl', hsl'⟩ := hat.head
      obtain ⟨A', cap', rfl, hsl''⟩ := hsl'
      have HSL := Lib.hid (⟨A', cap', rfl, hsl''⟩ : SlAt wr hi (.slice A' kids'.len cap') kids')
      have HC := Lib.hid (AllFew.at_ kids j HK.out hdr)
      have HNX := Lib.hid (kids.drop_next j hdr)
      have HST := Lib.hid (show fewF kids (left - 1) (deep - 1) = (fewN kids' m (deep - 1)).bind fun m' => fewF rest' m' (deep - 1) by rw [HF.out, hdr]; exact fewF_step)
      have HLE := Lib.hid (fun m' (h : fewN kids' m (deep - 1) = some m') => show m' ≤ 1024 by unfold fewN at h; split at h <;> first | (cases h; done) | (have := fewF_le _ _ _ _ h; omega))
      clear hrow hrow' hat hsl'' hdr
      obtain ⟨rr, hrr⟩ : ∃ rr, fewN kids' m (deep - 1) = rr := ⟨_, rfl⟩
      have HRR := Lib.hid hrr
      clear hrr
      cases rr with
      | some m' =>
        have HV := Lib.hid (show fewV (fewN kids' m (deep - 1)) = (m' : Int) by rw [HRR.out]; rfl)
        have hm2 := HLE.out m' HRR.out
        have i3 : decide ((m' : Int) < 0) = false := decide_eq_false (by omega)
        have HCL := Lib.hid (HC.out wr hi k' t' r' v' l' (.slice A' kids'.len cap') m (y - 1) m (deep - 1) rfl HY.out (by omega) hm' (by omega) HSL.out)
        rw [HV.out] at HCL
        go_wp2_with (go_at_call 53; refine HCL.out.mono ?_; rintro e w9 ⟨rfl, hb2⟩)
        go_roundw
        case rel => exact ⟨j + 1, m', by omega, by go_num, rfl, hm2, by rw [HST.out, HRR.out, HNX.out]; rfl, below_trans HBX.out hb2⟩
        case measure => simp [intOf]; omega
      | none =>
        have HV := Lib.hid (show fewV (fewN kids' m (deep - 1)) = -1 by rw [HRR.out]; rfl)
        have HCL := Lib.hid (HC.out wr hi k' t' r' v' l' (.slice A' kids'.len cap') m (y - 1) m (deep - 1) rfl HY.out (by omega) hm' (by omega) HSL.out)
        rw [HV.out] at HCL
        go_wp2_with (go_at_call 53; refine HCL.out.mono ?_; rintro e w9 ⟨rfl, hb2⟩)
        go_ret
        have HFIN := Lib.hid (show fewV (fewN kids left deep) = -1 by rw [HR.out, HST.out, HRR.out]; rfl)
        exact ⟨by rw [HFIN.out]; rfl, below_trans HBR.out hb2⟩
    · have HFIN := Lib.hid (show fewV (fewN kids left deep) = (m : Int) by rw [HR.out, HF.out, Fr.drop_ge kids j (by omega)]; rfl)
      go_wp2_with fail
      go_ret
      exact ⟨by rw [HFIN.out]; rfl, HBR.out⟩
theorem allFew : ∀ f, AllFew f
  | .nil => trivial
  | .cons _ _ _ _ _ kids rest => ⟨fewR_step (allFew kids), allFew rest⟩
theorem fewR : FewR kids := fewR_step (allFew kids)
end
/-- Whether the condition is small. -/
def smallB (kids : Fr) : Bool := (fewN kids 1024 64).isSome
set_option maxHeartbeats 2000000 in
set_option maxRecDepth 100000 in
theorem smallR (q k t r : Int) (l : List UInt8) (v : Int) (kv : Value) (kids : Fr) (w : World) (hs : SlAt w w.heap.size kv kids) :
    Calls Tryz.prog 21 #[condV q k t r l v kv] w fun e w' => e = .returned (.bool (smallB kids)) ∧ Below w.heap.size w w' := by
  obtain ⟨A, cap, rfl, hs'⟩ := hs
  have HS := Lib.hid ((show SlAt w w.heap.size (.slice A kids.len cap) kids from ⟨A, cap, rfl, hs'⟩).below (Nat.le_refl _) (alloc_b w (.cells #[.int .i64 q, .int .i64 k, .int .i64 t, .int .i64 r, .string ⟨l.toArray⟩, .int .i64 v, .slice A kids.len cap] 28 (0, 0))))
  clear hs'
  obtain ⟨x, hx⟩ : ∃ x, fewV (fewN kids 1024 64) = x := ⟨_, rfl⟩
  have HV := Lib.hid hx
  have HB := Lib.hid (show smallB kids = decide (0 ≤ x) by rw [← hx]; unfold smallB; cases fewN kids 1024 64 <;> simp [fewV])
  clear hx
  go_enter Tryz.func21, Tryz.ntmps21
  go_wp2_with (go_at_call 53; refine (fewR _ w.heap.size _ _ _ _ _ _ _ _ 1024 64 rfl rfl (by simp) (Nat.le_refl _) (Nat.le_refl _) HS.out).mono ?_; rw [HV.out]; rintro e w9 ⟨rfl, hb2⟩)
  go_ret
  exact ⟨by rw [HB.out]; rfl, below_trans (alloc_b w _) hb2⟩
end Go.Proofs.YtmlnibjnacfanaaGreatDoor
