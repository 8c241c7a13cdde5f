/- Layer 8: lists of nodes with all below them (Fr), and how they lie in memory. Layer 8: Che -/
import Derived.Test.YtjhafgnmahhacaaGreatDoorTe04

namespace Go.Proofs.YtjhafgnmahhacaaGreatDoor
open Go.RowKit
/-- A list of nodes: the first one's own parts, its kids, and the rest. -/
inductive Fr where
  | nil
  | cons (k t r : Int) (l : List UInt8) (v : Int) (kids rest : Fr)
def Fr.len : Fr → Nat
  | .nil => 0
  | .cons _ _ _ _ _ _ rest => rest.len + 1
def Fr.drop : Nat → Fr → Fr
  | 0, f => f
  | _ + 1, .nil => .nil
  | n + 1, .cons _ _ _ _ _ _ rest => rest.drop n
theorem Fr.drop_lt : ∀ (f : Fr) (j : Nat), j < f.len → ∃ k t r l v kids rest, f.drop j = .cons k t r l v kids rest
  | .nil, _, h => by simp [Fr.len] at h
  | .cons k t r l v kids rest, 0, _ => ⟨_, _, _, _, _, _, _, rfl⟩
  | .cons _ _ _ _ _ _ rest, j + 1, h => rest.drop_lt j (by simp [Fr.len] at h; omega)
theorem Fr.drop_ge : ∀ (f : Fr) (j : Nat), f.len ≤ j → f.drop j = .nil
  | .nil, 0, _ => rfl
  | .nil, _ + 1, _ => rfl
  | .cons _ _ _ _ _ _ _, 0, h => by simp [Fr.len] at h
  | .cons _ _ _ _ _ _ rest, j + 1, h => rest.drop_ge j (by simp [Fr.len] at h; omega)
theorem Fr.drop_next : ∀ (f : Fr) (j : Nat) {k t r : Int} {l : List UInt8} {v : Int} {kids rest : Fr}, f.drop j = .cons k t r l v kids rest → f.drop (j + 1) = rest
  | .nil, 0, _, _, _, _, _, _, _, h => by cases h
  | .nil, _ + 1, _, _, _, _, _, _, _, h => by cases h
  | .cons _ _ _ _ _ _ rest, 0, _, _, _, _, _, _, _, h => by cases h; cases rest <;> rfl
  | .cons _ _ _ _ _ _ rest, j + 1, _, _, _, _, _, _, _, h => rest.drop_next j h
/-- The nodes' cells, from an offset of a block on; all blocks below hi. -/
def RowAt (w : World) (hi : Nat) : Nat → Nat → Fr → Prop
  | _, _, .nil => True
  | b, o, .cons k t r l v kids rest =>
    w.cell? ⟨b, o, none⟩ = some (.int .i64 k) ∧ w.cell? ⟨b, o + 1, none⟩ = some (.int .i64 t) ∧ w.cell? ⟨b, o + 2, none⟩ = some (.int .i64 r) ∧ w.cell? ⟨b, o + 3, none⟩ = some (.string ⟨l.toArray⟩) ∧
    w.cell? ⟨b, o + 4, none⟩ = some (.int .i64 v) ∧ l.length ≤ 9223372036854775807 ∧
    (∃ A cap, w.cell? ⟨b, o + 5, none⟩ = some (.slice A kids.len cap) ∧ kids.len ≤ cap ∧ (kids.len * 72 ≤ 140737488351232 ∧ cap ≤ 9223372036854775807) ∧ (0 < kids.len → ∃ b' o', A = some ⟨b', o', none⟩ ∧ b' < hi ∧ RowAt w hi b' o' kids)) ∧
    RowAt w hi b (o + 6) rest
/-- A slice of nodes. -/
def SlAt (w : World) (hi : Nat) (kv : Value) (f : Fr) : Prop :=
  ∃ A cap, kv = .slice A f.len cap ∧ f.len ≤ cap ∧ (f.len * 72 ≤ 140737488351232 ∧ cap ≤ 9223372036854775807) ∧ (0 < f.len → ∃ b o, A = some ⟨b, o, none⟩ ∧ b < hi ∧ RowAt w hi b o f)
theorem RowAt.keep {w w' : World} {hi : Nat} (hk : ∀ b o, b < hi → w'.cell? ⟨b, o, none⟩ = w.cell? ⟨b, o, none⟩) : ∀ (f : Fr) (b o : Nat), b < hi → RowAt w hi b o f → RowAt w' hi b o f
  | .nil, _, _, _, _ => trivial
  | .cons k t r l v kids rest, b, o, hb, ⟨h0, h1, h2, h3, h4, h5, ⟨A, cap, h6, h7, h8, h9⟩, h10⟩ =>
    ⟨(hk _ _ hb).trans h0, (hk _ _ hb).trans h1, (hk _ _ hb).trans h2, (hk _ _ hb).trans h3, (hk _ _ hb).trans h4, h5,
      ⟨A, cap, (hk _ _ hb).trans h6, h7, h8, fun hp => by
        obtain ⟨b', o', e, hb', hr⟩ := h9 hp
        exact ⟨b', o', e, hb', RowAt.keep hk kids b' o' hb' hr⟩⟩, RowAt.keep hk rest b (o + 6) hb h10⟩
theorem SlAt.keep {w w' : World} {hi : Nat} {kv : Value} {f : Fr} (h : SlAt w hi kv f) (hk : ∀ b o, b < hi → w'.cell? ⟨b, o, none⟩ = w.cell? ⟨b, o, none⟩) : SlAt w' hi kv f := by
  obtain ⟨A, cap, h1, h2, h3, h4⟩ := h
  refine ⟨A, cap, h1, h2, h3, fun hp => ?_⟩
  obtain ⟨b, o, e, hb, hr⟩ := h4 hp
  exact ⟨b, o, e, hb, RowAt.keep hk f b o hb hr⟩
theorem SlAt.below {w w' : World} {hi : Nat} {kv : Value} {f : Fr} (h : SlAt w hi kv f) (hh : hi ≤ w.heap.size) (hb : Below w.heap.size w w') : SlAt w' hi kv f :=
  h.keep fun b o h1 => hb.cell (p := ⟨b, o, none⟩) (Nat.lt_of_lt_of_le h1 hh)
theorem RowAt.up {w : World} {hi hi' : Nat} (hh : hi ≤ hi') : ∀ (f : Fr) (b o : Nat), RowAt w hi b o f → RowAt w hi' b o f
  | .nil, _, _, _ => trivial
  | .cons k t r l v kids rest, b, o, ⟨h0, h1, h2, h3, h4, h5, ⟨A, cap, h6, h7, h8, h9⟩, h10⟩ =>
    ⟨h0, h1, h2, h3, h4, h5, ⟨A, cap, h6, h7, h8, fun hp => by
        obtain ⟨b', o', e, hb', hr⟩ := h9 hp
        exact ⟨b', o', e, by omega, RowAt.up hh kids b' o' hr⟩⟩, RowAt.up hh rest b (o + 6) h10⟩
theorem SlAt.up {w : World} {hi hi' : Nat} {kv : Value} {f : Fr} (h : SlAt w hi kv f) (hh : hi ≤ hi') : SlAt w hi' kv f := by
  obtain ⟨A, cap, h1, h2, h3, h4⟩ := h
  refine ⟨A, cap, h1, h2, h3, fun hp => ?_⟩
  obtain ⟨b, o, e, hb, hr⟩ := h4 hp
  exact ⟨b, o, e, by omega, RowAt.up hh f b o hr⟩
theorem RowAt.at_ {w : World} {hi : Nat} : ∀ (f : Fr) (b o j : Nat), RowAt w hi b o f → RowAt w hi b (o + j * 6) (f.drop j)
  | .nil, _, _, 0, _ => trivial
  | .nil, _, _, _ + 1, _ => trivial
  | .cons _ _ _ _ _ _ _, _, _, 0, h => by simpa [Fr.drop] using h
  | .cons _ _ _ _ _ _ rest, b, o, j + 1, h => by
    have := RowAt.at_ rest b (o + 6) j h.2.2.2.2.2.2.2
    rw [show o + 6 + j * 6 = o + (j + 1) * 6 by omega] at this
    exact this
/-- What one node's cells are. -/
theorem RowAt.head {w : World} {hi b o : Nat} {k t r : Int} {l : List UInt8} {v : Int} {kids rest : Fr} (h : RowAt w hi b o (.cons k t r l v kids rest)) :
    ∃ kv, w.cell? ⟨b, o, none⟩ = some (.int .i64 k) ∧ w.cell? ⟨b, o + 1, none⟩ = some (.int .i64 t) ∧ w.cell? ⟨b, o + 2, none⟩ = some (.int .i64 r) ∧ w.cell? ⟨b, o + 3, none⟩ = some (.string ⟨l.toArray⟩) ∧
      w.cell? ⟨b, o + 4, none⟩ = some (.int .i64 v) ∧ w.cell? ⟨b, o + 5, none⟩ = some kv ∧ l.length ≤ 9223372036854775807 ∧ SlAt w hi kv kids := by
  obtain ⟨h0, h1, h2, h3, h4, h5, ⟨A, cap, h6, h7, h8, h9⟩, _⟩ := h
  exact ⟨_, h0, h1, h2, h3, h4, h6, h5, A, cap, rfl, h7, h8, h9⟩
/-- How many nodes were met, and what is told. -/
def walkF (a : Int) : Fr → Nat → Nat → Nat × Int
  | .nil, met, _ => (met, 0)
  | .cons k t r l v kids rest, met, deep =>
    if 1024 ≤ met ∨ 64 ≤ deep then (met, 2)
    else if ownB a k t r l v kids.len = false then (met, 80)
    else if (walkF a kids (met + 1) (deep + 1)).2 = 0 then walkF a rest (walkF a kids (met + 1) (deep + 1)).1 deep
    else walkF a kids (met + 1) (deep + 1)
def walkN (a : Int) (k t r : Int) (l : List UInt8) (v : Int) (kids : Fr) (met deep : Nat) : Nat × Int := walkF a (.cons k t r l v kids .nil) met deep
section
variable {a k t r v : Int} {l : List UInt8} {kids : Fr} {met deep : Nat}
theorem walkN_full (h : 1024 ≤ met ∨ 64 ≤ deep) : walkN a k t r l v kids met deep = (met, 2) := by simp [walkN, walkF, h]
theorem walkN_bad (h : ¬ (1024 ≤ met ∨ 64 ≤ deep)) (ho : ownB a k t r l v kids.len = false) : walkN a k t r l v kids met deep = (met, 80) := by simp only [walkN, walkF, if_neg h, ho, if_true]
theorem walkN_go (h : ¬ (1024 ≤ met ∨ 64 ≤ deep)) (ho : ownB a k t r l v kids.len = true) : walkN a k t r l v kids met deep = walkF a kids (met + 1) (deep + 1) := by
  simp only [walkN, walkF, if_neg h, ho, Bool.true_eq_false, if_false]
  split
  · rename_i h0; rw [← h0]
  · rfl
theorem walkF_step {rest : Fr} : walkF a (.cons k t r l v kids rest) met deep = if (walkN a k t r l v kids met deep).2 = 0 then walkF a rest (walkN a k t r l v kids met deep).1 deep else walkN a k t r l v kids met deep := by
  by_cases h : 1024 ≤ met ∨ 64 ≤ deep
  · rw [walkN_full h]; simp [walkF, h]
  · cases ho : ownB a k t r l v kids.len with
    | false => rw [walkN_bad h ho]; simp only [walkF, if_neg h, ho]; simp
    | true => rw [walkN_go h ho]; simp only [walkF, if_neg h, ho]; simp
end
theorem walkF_met (a : Int) : ∀ (f : Fr) (met deep : Nat), met ≤ 1024 → (walkF a f met deep).1 ≤ 1024
  | .nil, _, _, h => h
  | .cons k t r l v kids rest, met, deep, h => by
    unfold walkF
    split
    · exact h
    · rename_i h0
      split
      · exact h
      · have := walkF_met a kids (met + 1) (deep + 1) (by omega)
        split
        · exact walkF_met a rest _ _ this
        · exact this
/-- The walker. -/
def Wk (w : World) (g : Nat) (a s e : Int) : Prop := w.cell? ⟨g, 0, none⟩ = some (.int .i64 a) ∧ w.cell? ⟨g, 1, none⟩ = some (.int .i64 s) ∧ w.cell? ⟨g, 2, none⟩ = some (.int .i64 e) ∧ ∀ o, w.frozen? ⟨g, o, none⟩ = false
theorem Wk.below {w w' : World} {g : Nat} {a s e : Int} (h : Wk w g a s e) (hb : Below w.heap.size w w') : Wk w' g a s e :=
  ⟨cell_go h.1 hb, cell_go h.2.1 hb, cell_go h.2.2.1 hb, fun o => fr_go (h.2.2.2 o) (World.block_lt_of_cell? w ⟨g, 0, none⟩ h.1) hb⟩
def WkPost (a : Int) (g : Nat) (rr : Nat × Int) (w : World) (e : Ending) (w' : World) : Prop :=
  e = .returned (.bool (decide (rr.2 = 0))) ∧ Only g w w' ∧ ∃ s : Int, Wk w' g a s rr.2 ∧ (rr.2 = 0 → s = rr.1)
/-- What one node's walk does, at every place and in every world. -/
def NodeP (a k t r : Int) (l : List UInt8) (v : Int) (kids : Fr) : Prop :=
  ∀ (w : World) (g hi : Nat) (kv : Value) (met deep : Nat), Wk w g a met 0 → hi ≤ g → hi ≤ w.heap.size → met ≤ 1024 → deep ≤ 64 → l.length ≤ 9223372036854775807 → SlAt w hi kv kids →
    Calls Tryz.prog 197 #[.pointer (some ⟨g, 0, none⟩), nodeV k t r l v kv, .int .i64 deep] w (WkPost a g (walkN a k t r l v kids met deep) w)
def AllP (a : Int) : Fr → Prop
  | .nil => True
  | .cons k t r l v kids rest => NodeP a k t r l v kids ∧ AllP a rest
theorem AllP.at_ {a : Int} : ∀ (f : Fr) (j : Nat) {k t r : Int} {l : List UInt8} {v : Int} {kids rest : Fr}, AllP a f → f.drop j = .cons k t r l v kids rest → NodeP a k t r l v kids
  | .nil, 0, _, _, _, _, _, _, _, _, h => by cases h
  | .nil, _ + 1, _, _, _, _, _, _, _, _, h => by cases h
  | .cons _ _ _ _ _ _ _, 0, _, _, _, _, _, _, _, h, e => by cases e; exact h.1
  | .cons _ _ _ _ _ _ rest, j + 1, _, _, _, _, _, _, _, h, e => AllP.at_ rest j h.2 e
theorem Wk.set1 {w : World} {g : Nat} {a s e : Int} (h : Wk w g a s e) (u : Int) : Wk (w.setCell ⟨g, 1, none⟩ (.int .i64 u)) g a u e :=
  ⟨set_off h.1 (by omega), set_same (by rw [h.2.1]; rfl), set_off h.2.2.1 (by omega), fun o => by rw [World.frozen?_setCell]; exact h.2.2.2 o⟩
theorem Wk.set2 {w : World} {g : Nat} {a s e : Int} (h : Wk w g a s e) (u : Int) : Wk (w.setCell ⟨g, 2, none⟩ (.int .i64 u)) g a s u :=
  ⟨set_off h.1 (by omega), set_off h.2.1 (by omega), set_same (by rw [h.2.2.1]; rfl), fun o => by rw [World.frozen?_setCell]; exact h.2.2.2 o⟩
theorem Wk.al {w : World} {g : Nat} {a s e : Int} (h : Wk w g a s e) (o : Obj) : Wk (w.alloc o) g a s e := h.below (alloc_b w o)
section
variable {a k t r v : Int} {l : List UInt8} {kids : Fr}
set_option maxHeartbeats 4000000 in
set_option maxRecDepth 100000 in
theorem nodeP_step (hk : AllP a kids) : NodeP a k t r l v kids := by
  intro w g hi kv met deep hw hg hh hmet hdeep hl hs
  obtain ⟨A, cap, rfl, s1, s2, s3⟩ := hs
  have hgw : g < w.heap.size := World.block_lt_of_cell? w ⟨g, 0, none⟩ hw.1
  have HW := Lib.hid hw
  obtain ⟨c0, c1, c2, wf⟩ := hw
  have f1 := wf 1
  have f2 := wf 2
  have S3 := Lib.hid s3
  have HK := Lib.hid hk
  clear wf s3 hk
  by_cases hm : 1024 ≤ met
  · have HR := Lib.hid (walkN_full (a := a) (k := k) (t := t) (r := r) (l := l) (v := v) (kids := kids) (met := met) (deep := deep) (.inl hm))
    go_enter Tryz.func197, Tryz.ntmps197
    go_wp2_with fail
    go_ret
    refine ⟨by rw [HR.out]; rfl, ?_, met + 1, ?_, by rw [HR.out]; intro h; cases h⟩
    · exact (((Only.refl g w).set 1 _).set 2 _).alloc _
    · rw [HR.out]; exact ((HW.out.set1 _).set2 _).al _
  by_cases hd : 64 ≤ deep
  · have HR := Lib.hid (walkN_full (a := a) (k := k) (t := t) (r := r) (l := l) (v := v) (kids := kids) (met := met) (deep := deep) (.inr hd))
    go_enter Tryz.func197, Tryz.ntmps197
    go_wp2_with fail
    go_ret
    refine ⟨by rw [HR.out]; rfl, ?_, met + 1, ?_, by rw [HR.out]; intro h; cases h⟩
    · exact (((Only.refl g w).set 1 _).set 2 _).alloc _
    · rw [HR.out]; exact ((HW.out.set1 _).set2 _).al _
  have hnf : ¬ (1024 ≤ met ∨ 64 ≤ deep) := by omega
  have dm : decide ((1024 : Int) < (met : Int) + 1) = false := by simp; omega
  have dd : decide ((64 : Int) ≤ (deep : Int)) = false := by simp; omega
  obtain ⟨ob, hob⟩ : ∃ b, ownB a k t r l v kids.len = b := ⟨_, rfl⟩
  have HO := Lib.hid hob
  have HN := Lib.hid hnf
  clear hnf hob c0 c1 c2 f1 f2
  have hw1 := (HW.out.set1 (met + 1)).al (.cells #[.int .i64 k, .int .i64 t, .int .i64 r, .string ⟨l.toArray⟩, .int .i64 v, .slice A kids.len cap] 28 (0, 0))
  have hn1 := fun o => cell_new (w.setCell ⟨g, 1, none⟩ (.int .i64 (met + 1))) #[.int .i64 k, .int .i64 t, .int .i64 r, .string ⟨l.toArray⟩, .int .i64 v, .slice A kids.len cap] 28 (0, 0) o
  have ho1 := ((Only.refl g w).set 1 (.int .i64 (met + 1))).alloc (.cells #[.int .i64 k, .int .i64 t, .int .i64 r, .string ⟨l.toArray⟩, .int .i64 v, .slice A kids.len cap] 28 (0, 0))
  have H1 := Lib.hid hw1
  have N1 := Lib.hid hn1
  have O1 := Lib.hid ho1
  clear hw1 hn1 ho1
  obtain ⟨c0, c1, c2, wf⟩ := HW.out
  have f1 := wf 1
  clear wf
  go_enter Tryz.func197, Tryz.ntmps197
  go_wp2_with fail
  clear c0 c1 c2 f1
  generalize hW1 : (w.setCell ⟨g, 1, none⟩ (.int .i64 (met + 1))).alloc (.cells #[.int .i64 k, .int .i64 t, .int .i64 r, .string ⟨l.toArray⟩, .int .i64 v, .slice A kids.len cap] 28 (0, 0)) = W1
  have h1 := H1.out
  have n1 := N1.out
  have o1 := O1.out
  rw [hW1] at h1 n1 o1
  simp only [World.size_setCell] at n1
  clear hW1 H1 N1 O1
  have hgn : g < W1.heap.size := World.block_lt_of_cell? W1 ⟨g, 0, none⟩ h1.1
  have HW1 := Lib.hid h1
  have HO1 := Lib.hid o1
  have hS : ∀ x, Below W1.heap.size W1 x → x.cell? ⟨g, 0, none⟩ = some (.int .i64 a) ∧ x.cell? ⟨w.heap.size, 0, none⟩ = some (.int .i64 k) ∧ x.cell? ⟨w.heap.size, 1, none⟩ = some (.int .i64 t) ∧ x.cell? ⟨w.heap.size, 2, none⟩ = some (.int .i64 r) ∧
      x.cell? ⟨w.heap.size, 3, none⟩ = some (.string ⟨l.toArray⟩) ∧ x.cell? ⟨w.heap.size, 4, none⟩ = some (.int .i64 v) ∧ x.cell? ⟨w.heap.size, 5, none⟩ = some (.slice A kids.len cap) := fun x hx =>
    ⟨cell_go h1.1 hx, cell_go (n1 0) hx, cell_go (n1 1) hx, cell_go (n1 2) hx, cell_go (n1 3) hx, cell_go (n1 4) hx, cell_go (n1 5) hx⟩
  have HS := Lib.hid hS
  clear hS h1 o1 n1
  go_region_held3 (fun x => x.cell? ⟨g, 0, none⟩ = some (.int .i64 a) ∧ x.cell? ⟨w.heap.size, 0, none⟩ = some (.int .i64 k) ∧ x.cell? ⟨w.heap.size, 1, none⟩ = some (.int .i64 t) ∧ x.cell? ⟨w.heap.size, 2, none⟩ = some (.int .i64 r) ∧
      x.cell? ⟨w.heap.size, 3, none⟩ = some (.string ⟨l.toArray⟩) ∧ x.cell? ⟨w.heap.size, 4, none⟩ = some (.int .i64 v) ∧ x.cell? ⟨w.heap.size, 5, none⟩ = some (.slice A kids.len cap))
    (first | exact HS.out _ (Below.refl _ _).drew | exact HS.out _ (below_of_drew hb1))
    (first | (go_at_call 266; refine (mayP_c hl _).mono ?_; rw [HO.out]; rintro e x1 ⟨rfl, hb1⟩))
  have hb1' := below_of_drew hb1
  have HX1 := Lib.hid (HW1.out.below hb1')
  have HOX := Lib.hid (HO1.out.back hb1')
  have hs0 := (HS.out x1 hb1').2.2.2.2.2.2
  have hzx : W1.heap.size ≤ x1.heap.size := hb1'.size
  clear HS HW1 HO1 hb1 hb1'
  cases ob with
  | false =>
    obtain ⟨c0, c1, c2, wf⟩ := HX1.out
    have f2 := wf 2
    clear wf hs0
    have HR := Lib.hid (walkN_bad HN.out HO.out)
    go_wp2_with fail
    go_ret
    refine ⟨by rw [HR.out]; rfl, ?_, met + 1, ?_, by rw [HR.out]; intro h; cases h⟩
    · exact HOX.out.set 2 _
    · rw [HR.out]; exact HX1.out.set2 _
  | true =>
    have HR := Lib.hid (walkN_go HN.out HO.out)
    go_wp2_with fail
    clear hs0
    simp only [Bool.not_true]
    go_loopw [43] (fun i wr => ∃ j m : Nat, j ≤ kids.len ∧ i = .int .i64 j ∧ m ≤ 1024 ∧ walkF a kids (met + 1) (deep + 1) = walkF a (kids.drop j) m (deep + 1) ∧ Wk wr g a m 0 ∧ Only g w wr ∧ x1.heap.size ≤ wr.heap.size) (fun i _ => kids.len - (intOf i).toNat)
    case atStart => exact ⟨0, met + 1, Nat.zero_le _, rfl, (by omega), rfl, (by simpa using HX1.out), HOX.out, Nat.le_refl _⟩
    case round =>
      obtain ⟨j, m, hj, rfl, hm', hwk, hwr, how, hzr⟩ := hrel
      have HF := Lib.hid hwk
      have HWR := Lib.hid hwr
      have HOR := Lib.hid how
      have hgr : g < wr.heap.size := World.block_lt_of_cell? wr ⟨g, 0, none⟩ hwr.1
      clear hwk hwr how
      by_cases hlt : j < kids.len
      · obtain ⟨b, o, rfl, hb, hrow⟩ := S3.out (by omega)
        obtain ⟨k', t', r', l', v', kids', rest', hdr⟩ := kids.drop_lt j hlt
        have hrow' := RowAt.keep (w' := wr) (fun b o hb => World.cell?_of_block (HOR.out.block b (show b < w.heap.size by omega) (fun e => by injection e with e; omega))) kids b o hb hrow
        have hat := RowAt.at_ kids b o j hrow'
        rw [hdr] at hat
        obtain ⟨kv', q0, q1, q2, q3, q4, q5, hl', hsl'⟩ := hat.head
        obtain ⟨A', cap', rfl, hsl''⟩ := hsl'
        have hsl' : SlAt wr hi (.slice A' kids'.len cap') kids' := ⟨A', cap', rfl, hsl''⟩
        clear hsl''
        have HSL := Lib.hid (hsl'.below (show hi ≤ wr.heap.size by omega) (alloc_b wr (.cells #[.int .i64 k', .int .i64 t', .int .i64 r', .string ⟨l'.toArray⟩, .int .i64 v', .slice A' kids'.len cap'] 28 (0, 0))))
        have HC := Lib.hid (AllP.at_ kids j HK.out hdr)
        have HNX := Lib.hid (kids.drop_next j hdr)
        have HST := Lib.hid (show walkF a kids (met + 1) (deep + 1) = if (walkN a k' t' r' l' v' kids' m (deep + 1)).2 = 0 then walkF a rest' (walkN a k' t' r' l' v' kids' m (deep + 1)).1 (deep + 1) else walkN a k' t' r' l' v' kids' m (deep + 1) by rw [HF.out, hdr]; exact walkF_step)
        clear hrow hrow' hat hsl' hdr
        by_cases he : (walkN a k' t' r' l' v' kids' m (deep + 1)).2 = 0
        · have HE := Lib.hid he
          clear he
          go_wp2_with (go_at_call 197; refine (HC.out _ g hi _ m (deep + 1) (HWR.out.al _) hg (by simp; omega) hm' (by omega) hl' HSL.out).mono ?_; rintro e w2 ⟨he, ho2, s, hw2, hs2⟩; rw [HE.out] at he hw2 hs2; simp only [decide_true] at he; subst he; have hs2' := hs2 rfl; subst hs2')
          go_roundw
          case rel => exact ⟨j + 1, _, by omega, by go_num, by have := walkF_met a (.cons k' t' r' l' v' kids' .nil) m (deep + 1) hm'; exact this, by rw [HST.out, if_pos HE.out, HNX.out], hw2, HOR.out.trans ((Only.of_below (alloc_b wr _)).trans ho2), by have := ho2.size; simp at this; omega⟩
          case measure => simp [intOf]; omega
        · have HE := Lib.hid he
          clear he
          go_wp2_with (go_at_call 197; refine (HC.out _ g hi _ m (deep + 1) (HWR.out.al _) hg (by simp; omega) hm' (by omega) hl' HSL.out).mono ?_; rintro e w2 ⟨he, ho2, s, hw2, hs2⟩; rw [decide_eq_false HE.out] at he; subst he)
          go_ret
          have HFIN := Lib.hid (HR.out.trans (HST.out.trans (if_neg HE.out)))
          refine ⟨ret_bool (a := false) (by rw [HFIN.out]; exact (decide_eq_false HE.out).symm), HOR.out.trans ((Only.of_below (alloc_b wr _)).trans ho2), s, by rw [HFIN.out]; exact hw2, fun h => ?_⟩
          rw [HFIN.out] at h
          exact absurd h HE.out
      · have HFIN := Lib.hid (show walkN a k t r l v kids met deep = (m, 0) by rw [HR.out, HF.out, Fr.drop_ge kids j (by omega)]; rfl)
        go_wp2_with fail
        go_ret
        refine ⟨by rw [HFIN.out]; rfl, HOR.out, m, by rw [HFIN.out]; exact HWR.out, fun _ => by rw [HFIN.out]⟩
theorem allP (a : Int) : ∀ f, AllP a f
  | .nil => trivial
  | .cons _ _ _ _ _ kids rest => ⟨nodeP_step (allP a kids), allP a rest⟩
theorem nodeP_all : NodeP a k t r l v kids := nodeP_step (allP a kids)
end
abbrev condV (q k t r : Int) (l : List UInt8) (v : Int) (kv : Value) : Value := .agg #[.int .i64 q, .int .i64 k, .int .i64 t, .int .i64 r, .string ⟨l.toArray⟩, .int .i64 v, kv]
def checkC (a q k t r : Int) (l : List UInt8) (v : Int) (kids : Fr) : Int :=
  if archB a = false then 5 else if q < 1 ∨ 3 < q then 80 else (walkN a k t r l v kids 0 0).2
set_option maxHeartbeats 2000000 in
set_option maxRecDepth 100000 in
theorem checkP (a q k t r : Int) (l : List UInt8) (v : Int) (kv : Value) (kids : Fr) (w : World) (hl : l.length ≤ 9223372036854775807) (hs : SlAt w w.heap.size kv kids) :
    Calls Tryz.prog 127 #[.int .i64 a, condV q k t r l v kv] w fun e w' => e = .returned (.int .i64 (checkC a q k t r l v kids)) ∧ Below w.heap.size w w' := by
  obtain ⟨A, cap, rfl, hs'⟩ := hs
  have hs : SlAt w w.heap.size (.slice A kids.len cap) kids := ⟨A, cap, rfl, hs'⟩
  clear hs'
  cases ha : archB a with
  | false =>
    have HV := Lib.hid (show checkC a q k t r l v kids = 5 by simp [checkC, ha])
    have HA := Lib.hid ha
    clear ha
    go_enter Tryz.func127, Tryz.ntmps127
    go_wp2_with (go_at_call 196; refine (archP _ _).mono ?_; rw [HA.out]; rintro e w' ⟨rfl, rfl⟩)
    go_ret
    exact ⟨ret_int HV.out.symm, alloc_b _ _⟩
  | true =>
    have HA := Lib.hid ha
    by_cases hq : q < 1 ∨ 3 < q
    · have HV := Lib.hid (show checkC a q k t r l v kids = 80 by simp [checkC, ha, hq])
      clear ha
      rcases hq with hq | hq
      all_goals
        go_enter Tryz.func127, Tryz.ntmps127
        go_wp2_with (go_at_call 196; refine (archP _ _).mono ?_; rw [HA.out]; rintro e w' ⟨rfl, rfl⟩)
        go_ret
        exact ⟨ret_int HV.out.symm, alloc_b _ _⟩
    · have HV := Lib.hid (show checkC a q k t r l v kids = (walkN a k t r l v kids 0 0).2 by simp [checkC, ha, hq])
      have hq1 : decide (q < 1) = false := by simp; omega
      have hq2 : decide (3 < q) = false := by simp; omega
      have HS := Lib.hid hs
      clear ha hq hs
      have hB : Below w.heap.size w ((w.alloc (.cells #[.int .i64 q, .int .i64 k, .int .i64 t, .int .i64 r, .string ⟨l.toArray⟩, .int .i64 v, .slice A kids.len cap] 30 (0, 0))).alloc (.cells #[.int .i64 a, .int .i64 0, .int .i64 0] 281 (0, 0))) := below_alloc (alloc_b w _) _
      have hWk : Wk ((w.alloc (.cells #[.int .i64 q, .int .i64 k, .int .i64 t, .int .i64 r, .string ⟨l.toArray⟩, .int .i64 v, .slice A kids.len cap] 30 (0, 0))).alloc (.cells #[.int .i64 a, .int .i64 0, .int .i64 0] 281 (0, 0))) (w.heap.size + 1) a ((0 : Nat) : Int) 0 :=
        ⟨by simp [go_sem], by simp [go_sem], by simp [go_sem], fun o => by simp [go_sem]⟩
      have HB := Lib.hid hB
      have HW := Lib.hid hWk
      clear hB hWk
      go_enter Tryz.func127, Tryz.ntmps127
      go_wp2_with (first | (go_at_call 196; refine (archP _ _).mono ?_; rw [HA.out]; rintro e w' ⟨rfl, rfl⟩) | (go_at_call 197; refine (nodeP_all _ (w.heap.size + 1) w.heap.size _ 0 0 HW.out (Nat.le_succ _) (by simp; omega) (by omega) (by omega) hl (HS.out.below (Nat.le_refl _) HB.out)).mono ?_; rintro e w2 ⟨rfl, ho2, s, hw2, _⟩; have w22 := hw2.2.2.1))
      go_ret
      exact ⟨ret_int HV.out.symm, Only.below HB.out (Nat.le_succ _) ho2⟩
end Go.Proofs.YtjhafgnmahhacaaGreatDoor
