/- Layer 8: the program's Things at any condition. Layer 8: the reference's list of things is the program's. -/
import Derived.Test.YtmlnibjnacfanaaGreatDoorHc
import Derived.Test.YtmlnibjnacfanaaGreatDoorCk
import Derived.Test.YtmlnibjnacfanaaGreatDoorJb
namespace Go.Proofs.YtmlnibjnacfanaaGreatDoor
open Go.RowKit
open Go.Lib (compactUpTo keeps)

theorem all_size : ∀ f : Fr, f.all = f.size
  | .nil => rfl
  | .cons _ _ _ _ _ kids rest => by simp only [Fr.all, Fr.size, all_size kids, all_size rest]; omega
theorem atL_ok {k t r : Int} {l : List UInt8} {v : Int} {n : Nat} (h : ownB 2 k t r l v n = true) : ∀ x ∈ atL k t r l, vthB x := by
  intro x hx
  unfold atL at hx
  split at hx
  · rename_i h2
    simp only [List.mem_singleton] at hx
    subst hx
    unfold ownB at h
    rw [if_pos h2] at h
    simp only [Bool.and_eq_true] at h
    exact h.1.1
  · simp at hx
theorem atomsF_ok : ∀ f : Fr, okF 2 f → ∀ x ∈ atomsF f, vthB x
  | .nil, _, x, hx => by simp [atomsF] at hx
  | .cons k t r l v kids rest, h, x, hx => by
    simp only [atomsF, List.mem_append] at hx
    rcases hx with (hx | hx) | hx
    · exact atL_ok h.1 x hx
    · exact atomsF_ok kids h.2.1 x hx
    · exact atomsF_ok rest h.2.2 x hx
/-- What a condition that may be is made of. -/
theorem cond_ok {q k t r : Int} {l : List UInt8} {v : Int} {kids : Fr} (h : checkC 2 q k t r l v kids = 0) : ownB 2 k t r l v kids.len = true ∧ okF 2 kids ∧ 1 + kids.all ≤ 1000000 ∧ (∀ x ∈ atL k t r l ++ atomsF kids, vthB x) ∧ (atL k t r l ++ atomsF kids).length ≤ 1024 := by
  obtain ⟨_, _, _, h1, h2, h3⟩ := checkC_ok h
  have ha := all_size kids
  have hn := atomsF_len kids
  have h4 : (atL k t r l).length ≤ 1 := by unfold atL; split <;> simp
  refine ⟨h1, h2, by omega, fun x hx => ?_, by simp; omega⟩
  rcases List.mem_append.1 hx with hx | hx
  · exact atL_ok h1 x hx
  · exact atomsF_ok kids h2 x hx
theorem compact_sub {α : Type} [Inhabited α] [DecidableEq α] (d : Array α) : ∀ m, m ≤ d.size → ∀ x ∈ Lib.compactUpTo d m, x ∈ d.toList := by
  intro m
  induction m with
  | zero => intro _ x hx; simp [Lib.compactUpTo] at hx
  | succ m ih =>
    intro hm x hx
    rw [Lib.compactUpTo_succ] at hx
    rcases List.mem_append.1 hx with hx | hx
    · exact ih (by omega) x hx
    · split at hx
      · simp only [List.mem_singleton] at hx
        subst hx
        rw [getElem!_pos d m (by omega)]
        simp
      · simp at hx
theorem compact_le {α : Type} [Inhabited α] [DecidableEq α] (d : Array α) : ∀ m, (Lib.compactUpTo d m).length ≤ m := by
  intro m
  induction m with
  | zero => simp [Lib.compactUpTo]
  | succ m ih =>
    rw [Lib.compactUpTo_succ, List.length_append]
    split <;> simp <;> omega
theorem thsU_len (L : List Th) : (thsU L).length ≤ L.length := by
  have := compact_le (sortT L).toArray (sortT L).toArray.size
  simpa [thsU, sortT_len] using this
theorem thsU_sub (L : List Th) : ∀ x ∈ thsU L, x ∈ L := fun x hx => (sortT_perm L).mem_iff.1 (by simpa using compact_sub (sortT L).toArray _ (Nat.le_refl _) x hx)
/-- What Things answers: the things, or none and why. -/
def topT (q k t r : Int) (l : List UInt8) (v : Int) (kids : Fr) : List Th := if checkC 2 q k t r l v kids = 0 then thsU (atL k t r l ++ atomsF kids) else []
def TopG (T : List Th) (E : Int) (w : World) (e : Ending) (w' : World) : Prop := ∃ u, e = .returned (.tuple #[u, .int .i64 E]) ∧ OwnTh w w' u T ∧ Below w.heap.size w w'
theorem OwnTh.old {w0 w w' : World} {v : Value} {T : List Th} (h : OwnTh w w' v T) (hw : w0.heap.size ≤ w.heap.size) : OwnTh w0 w' v T := by
  obtain ⟨h1, h2⟩ := h
  refine ⟨h1, ?_⟩
  rcases h2 with h2 | ⟨g, cap, cur, rfl, h3, h4, h5⟩
  · exact .inl h2
  · exact .inr ⟨g, cap, cur, rfl, by omega, h4, h5⟩
section
variable {w : World} {q k t r v : Int} {l : List UInt8} {kids : Fr}
set_option maxHeartbeats 2000000 in
set_option maxRecDepth 100000 in
theorem topG (hi : Nat) (kv : Value) (hhi : hi ≤ w.heap.size) (hs : SlAt w hi kv kids) (hl : l.length ≤ 9223372036854775807) :
    Calls Tryz.prog 22 #[condV q k t r l v kv] w (TopG (topT q k t r l v kids) (checkC 2 q k t r l v kids) w) := by
  obtain ⟨A, cap, rfl, s'⟩ := hs
  have hs2 : SlAt w hi (.slice A kids.len cap) kids := ⟨A, cap, rfl, s'⟩
  have hb1 := alloc_b w (.cells #[.int .i64 q, .int .i64 k, .int .i64 t, .int .i64 r, .string ⟨l.toArray⟩, .int .i64 v, .slice A kids.len cap] 28 (0, 0))
  have hs3 := hs2.below hhi hb1
  have HS := Lib.hid hs3
  have HSU := Lib.hid (hs3.up (show hi ≤ (w.alloc (.cells #[.int .i64 q, .int .i64 k, .int .i64 t, .int .i64 r, .string ⟨l.toArray⟩, .int .i64 v, .slice A kids.len cap] 28 (0, 0))).heap.size by simp; omega))
  have HB1 := Lib.hid hb1
  have HBN := Lib.hid (Blk.new w 28 #[.int .i64 q, .int .i64 k, .int .i64 t, .int .i64 r, .string ⟨l.toArray⟩, .int .i64 v, .slice A kids.len cap])
  by_cases hck : checkC 2 q k t r l v kids = 0
  · obtain ⟨ho, hk, hall, hv, hnl⟩ := cond_ok hck
    have HCK := Lib.hid hck
    have HTP := Lib.hid (fun (w2 : World) (h1 : hi ≤ w2.heap.size) (h2 : SlAt w2 hi (.slice A kids.len cap) kids) => thingsG (w := w2) (v := v) hi _ h1 h2 hl hall hv)
    rw [show topT q k t r l v kids = thsU (atL k t r l ++ atomsF kids) by unfold topT; rw [if_pos hck], hck]
    obtain ⟨L, hL⟩ : ∃ L, atL k t r l ++ atomsF kids = L := ⟨_, rfl⟩
    rw [hL] at hnl HTP ⊢
    have hul := thsU_len L
    clear s' hs2 hs3 hb1 hv hck hL ho hk hall
    go_enter Tryz.func22, Tryz.ntmps22
    go_wp2_with (first
      | (go_at_call 12; refine (checkP 2 q k t r l v _ kids _ hl HSU.out).mono ?_; rw [HCK.out]; rintro e w2 ⟨rfl, hb2⟩; have hB := HBN.out.go hb2; have c1 := hB.cell 1; have c2 := hB.cell 2; have c3 := hB.cell 3; have c4 := hB.cell 4; have c5 := hB.cell 5; have c6 := hB.cell 6; have HB2 := Lib.hid hb2; have hz2 := hb2.size; simp at hz2; have HS2 := Lib.hid (HS.out.below (by simp; omega) hb2); clear hB hb2)
      | (go_at_call 55; refine (HTP.out _ (by omega) HS2.out).mono ?_; rintro e w3 ⟨g, cg, rfl, hg, ht, hb3⟩; have HT := Lib.hid ht; have HG := Lib.hid hg; have HB3 := Lib.hid hb3; have hz3 := hb3.size; clear ht hb3 hg)
      | (go_at_call 54; refine (cloneG g cg (thsU L) (by omega) HG.out HT.out).mono ?_; rintro e w4 ⟨v4, rfl, ho4, hb4⟩))
    go_ret2
    exact ⟨v4, rfl, ho4.old (by omega), ((HB1.out.trans (HB2.out.mono (by simp))).trans (HB3.out.mono (by omega))).trans (hb4.mono (by omega))⟩
  · obtain ⟨E, hE⟩ : ∃ E, checkC 2 q k t r l v kids = E := ⟨_, rfl⟩
    rw [show topT q k t r l v kids = [] by unfold topT; rw [if_neg hck], hE]
    rw [hE] at hck
    have HCK := Lib.hid hE
    have e1 : (E != 0) = true := by simpa using hck
    clear s' hs2 hs3 hb1 hck hE
    go_enter Tryz.func22, Tryz.ntmps22
    go_wp2_with (go_at_call 12; refine (checkP 2 q k t r l v _ kids _ hl HSU.out).mono ?_; rw [HCK.out]; rintro e w2 ⟨rfl, hb2⟩)
    go_ret2
    exact ⟨_, rfl, World.ownsRow_nil _ _ _ _, HB1.out.trans (hb2.mono (by simp))⟩
end

theorem befC_stand {x y : Th} (hx : vthB x) (hy : vthB y) : befC x y = decide (standC x y < 0) := by
  have px := vth_parts ⟨x, hx⟩
  have py := vth_parts ⟨y, hy⟩
  simp only at px py
  unfold befC standC
  have e0 := cmpB_irr ([] : List UInt8)
  by_cases h1 : x.1 = -1 <;> by_cases h2 : y.1 = -1
  · have e1 : x.1 = y.1 := by omega
    have e2 : x.2.1 = y.2.1 := by omega
    simp [h1, h2, e2]
  · simp [h1, h2]
  · simp [h1, h2]
  · by_cases h3 : x.1 = y.1
    · by_cases h4 : x.2.1 = y.2.1
      · have e3 : x.2.2 = [] := by rcases px with p | p; exact absurd p.1 h1; exact p.2.2.2.2
        have e4 : y.2.2 = [] := by rcases py with p | p; exact absurd p.1 h2; exact p.2.2.2.2
        simp [h2, h3, h4, e3, e4, e0]
      · simp [h2, h3, h4]; omega
    · simp [h1, h2, h3]; omega
theorem st_irr {x : Th} (hx : vthB x) : ¬ standC x x < 0 := by
  have := ltT_swo.irrefl ⟨x, hx⟩
  simpa [ltT] using this
theorem st_trans {x y z : Th} (hx : vthB x) (hy : vthB y) (hz : vthB z) (h : standC x y < 0) (k : standC y z < 0) : standC x z < 0 := by
  have := ltT_swo.trans ⟨x, hx⟩ ⟨y, hy⟩ ⟨z, hz⟩ (by simpa [ltT] using h) (by simpa [ltT] using k)
  simpa [ltT] using this
theorem st_ntrans {x y z : Th} (hx : vthB x) (hy : vthB y) (hz : vthB z) (h : ¬ standC x y < 0) (k : ¬ standC y z < 0) : ¬ standC x z < 0 := by
  have := ltT_swo.ntrans ⟨x, hx⟩ ⟨y, hy⟩ ⟨z, hz⟩ (by simpa [ltT] using h) (by simpa [ltT] using k)
  simpa [ltT] using this
theorem st_total {x y : Th} (hx : vthB x) (hy : vthB y) (h : ¬ standC x y < 0) (k : ¬ standC y x < 0) : x = y := by
  have := ltT_total ⟨x, hx⟩ ⟨y, hy⟩ (by simpa [ltT] using h) (by simpa [ltT] using k)
  exact congrArg Subtype.val this
theorem st_asym {x y : Th} (hx : vthB x) (hy : vthB y) (h : standC x y < 0) : ¬ standC y x < 0 := fun k => st_irr hx (st_trans hx hy hx h k)
theorem putT_mem (x : Th) : ∀ (l : List Th) (z : Th), z ∈ putT x l ↔ z = x ∨ z ∈ l
  | [], z => by simp [putT]
  | y :: r, z => by
    unfold putT
    split
    · simp
    · simp only [List.mem_cons, putT_mem x r]
      constructor
      · rintro (h | h | h)
        · exact .inr (.inl h)
        · exact .inl h
        · exact .inr (.inr h)
      · rintro (h | h | h)
        · exact .inr (.inl h)
        · exact .inl h
        · exact .inr (.inr h)
theorem insT_mem (x : Th) (l : List Th) (z : Th) : z ∈ insT x l ↔ z = x ∨ z ∈ l := by
  unfold insT
  split
  · rename_i h
    constructor
    · exact .inr
    · rintro (rfl | k)
      · exact h
      · exact k
  · exact putT_mem x l z
theorem gatL_mem : ∀ (L acc : List Th) (z : Th), z ∈ gatL L acc ↔ z ∈ acc ∨ z ∈ L
  | [], acc, z => by simp [gatL]
  | x :: L, acc, z => by
    have := gatL_mem L (insT x acc) z
    simp only [gatL, List.foldl_cons] at this ⊢
    rw [this, insT_mem, List.mem_cons]
    constructor
    · rintro ((h | h) | h)
      · exact .inr (.inl h)
      · exact .inl h
      · exact .inr (.inr h)
    · rintro (h | h | h)
      · exact .inl (.inr h)
      · exact .inl (.inl h)
      · exact .inr h
def Str (T : List Th) : Prop := T.Pairwise fun x y => standC x y < 0
theorem putT_str {x : Th} (hx : vthB x) : ∀ {l : List Th}, (∀ y ∈ l, vthB y) → x ∉ l → Str l → Str (putT x l)
  | [], _, _, _ => by simp [putT, Str]
  | y :: r, hv, hn, hs => by
    have hy := hv y (by simp)
    have hsr := List.pairwise_cons.1 hs
    unfold putT
    split
    · rename_i hb
      rw [befC_stand hx hy, decide_eq_true_iff] at hb
      refine List.pairwise_cons.2 ⟨fun z hz => ?_, hs⟩
      rcases List.mem_cons.1 hz with rfl | hz
      · exact hb
      · exact st_trans hx hy (hv z (by simp [hz])) hb (hsr.1 z hz)
    · rename_i hb
      rw [befC_stand hx hy, decide_eq_true_iff] at hb
      refine List.pairwise_cons.2 ⟨fun z hz => ?_, putT_str hx (fun z hz => hv z (by simp [hz])) (fun h => hn (by simp [h])) hsr.2⟩
      rcases (putT_mem x r z).1 hz with rfl | hz
      · exact Decidable.byContradiction fun h => hn (by simp [st_total hx hy hb h])
      · exact hsr.1 z hz
theorem insT_str {x : Th} (hx : vthB x) {l : List Th} (hv : ∀ y ∈ l, vthB y) (hs : Str l) : Str (insT x l) := by
  unfold insT
  split
  · exact hs
  · rename_i h
    exact putT_str hx hv h hs
theorem gatL_str : ∀ (L acc : List Th), (∀ x ∈ L, vthB x) → (∀ x ∈ acc, vthB x) → Str acc → Str (gatL L acc)
  | [], _, _, _, h => h
  | x :: L, acc, hL, ha, hs => by
    have hx := hL x (by simp)
    exact gatL_str L (insT x acc) (fun y hy => hL y (by simp [hy])) (fun y hy => by
      rcases (insT_mem x acc y).1 hy with rfl | hy
      · exact hx
      · exact ha y hy) (insT_str hx ha hs)
theorem str_unique : ∀ {a b : List Th}, (∀ x ∈ a, vthB x) → Str a → Str b → (∀ x, x ∈ a ↔ x ∈ b) → a = b
  | [], [], _, _, _, _ => rfl
  | [], y :: b, _, _, _, h => absurd ((h y).2 (by simp)) (by simp)
  | x :: a, [], _, _, _, h => absurd ((h x).1 (by simp)) (by simp)
  | x :: a, y :: b, hv, ha, hb, h => by
    have ha' := List.pairwise_cons.1 ha
    have hb' := List.pairwise_cons.1 hb
    have hxv := hv x (by simp)
    have hyv := hv y ((h y).2 (by simp))
    have hxy : x = y := by
      rcases List.mem_cons.1 ((h x).1 (by simp)) with e | e
      · exact e
      rcases List.mem_cons.1 ((h y).2 (by simp)) with e' | e'
      · exact e'.symm
      exact absurd (ha'.1 y e') (st_asym hyv hxv (hb'.1 x e))
    subst hxy
    congr 1
    refine str_unique (fun z hz => hv z (by simp [hz])) ha'.2 hb'.2 fun z => ?_
    constructor
    · intro hz
      rcases List.mem_cons.1 ((h z).1 (by simp [hz])) with e | e
      · subst e; exact absurd (ha'.1 _ hz) (st_irr hxv)
      · exact e
    · intro hz
      rcases List.mem_cons.1 ((h z).2 (by simp [hz])) with e | e
      · subst e; exact absurd (hb'.1 _ hz) (st_irr hxv)
      · exact e
theorem sortT_pair {L : List Th} (hv : ∀ x ∈ L, vthB x) : (sortT L).Pairwise fun x y => ¬ standC y x < 0 := by
  rw [← toV_sort L hv, List.pairwise_map]
  have := List.pairwise_mergeSort (le := fun x y : VTh => !ltT y x) (fun a b c h k => by
    simp only [Bool.not_eq_true'] at h k ⊢
    exact ltT_swo.ntrans c b a k h) (fun a b => by
    cases h : ltT b a with
    | false => simp
    | true =>
      cases k : ltT a b with
      | false => simp
      | true => have := ltT_swo.irrefl a; rw [ltT_swo.trans a b a k h] at this; cases this) (toV L hv)
  refine this.imp fun {x y} h => ?_
  simpa [ltT, valV] using h
theorem thsU_str {L : List Th} (hv : ∀ x ∈ L, vthB x) : Str (thsU L) := by
  have hp := sortT_pair hv
  have hvs : ∀ x ∈ sortT L, vthB x := fun x hx => hv x ((sortT_perm L).mem_iff.1 hx)
  obtain ⟨S, hS⟩ : ∃ S, sortT L = S := ⟨_, rfl⟩
  unfold thsU
  rw [hS] at hp hvs ⊢
  rw [List.pairwise_iff_getElem] at hp
  have hget : ∀ i, (h : i < S.length) → S.toArray[i]! = S[i] := fun i h => by rw [getElem!_pos S.toArray i (by simpa using h)]; simp
  unfold compactUpTo Str
  rw [List.pairwise_map]
  have hr : ((List.range S.toArray.size).filter (keeps S.toArray)).Pairwise (· < ·) := List.Pairwise.filter _ List.pairwise_lt_range
  refine List.Pairwise.imp_of_mem (fun {i j} hi hj hij => ?_) hr
  simp only [List.mem_filter, List.mem_range, List.size_toArray] at hi hj
  have hk := hj.2
  unfold keeps at hk
  rw [decide_eq_true_iff] at hk
  have hk' := hk.resolve_left (by omega)
  rw [hget i hi.1, hget j hj.1]
  rw [hget j hj.1, hget (j - 1) (by omega)] at hk'
  have vi := hvs S[i] (List.getElem_mem hi.1)
  have vj := hvs S[j] (List.getElem_mem hj.1)
  have vm := hvs S[j - 1] (List.getElem_mem (by omega))
  have h1 : ¬ standC S[j] S[j - 1] < 0 := hp (j - 1) j (by omega) hj.1 (by omega)
  have h2 : ¬ standC S[j - 1] S[i] < 0 := by
    by_cases e : i = j - 1
    · subst e; exact st_irr vm
    · exact hp i (j - 1) hi.1 (by omega) (by omega)
  refine Decidable.byContradiction fun h3 => ?_
  have h4 : ¬ standC S[j - 1] S[j] < 0 := st_ntrans vm vi vj h2 h3
  exact hk' (st_total vj vm h1 h4)
theorem compact_has (d : Array Th) : ∀ m, m ≤ d.size → ∀ i, i < m → d[i]! ∈ compactUpTo d m := by
  intro m
  induction m with
  | zero => intro _ i hi; omega
  | succ m ih =>
    intro hm i hi
    rw [Lib.compactUpTo_succ, List.mem_append]
    by_cases hlt : i < m
    · exact .inl (ih (by omega) i hlt)
    obtain rfl : i = m := by omega
    by_cases hk : keeps d i = true
    · rw [if_pos hk]; exact .inr (by simp)
    · unfold keeps at hk
      simp only [decide_eq_true_eq, not_or, Decidable.not_not, ne_eq] at hk
      rw [hk.2]
      exact .inl (ih (by omega) (i - 1) (by omega))
theorem thsU_mem (L : List Th) (x : Th) : x ∈ thsU L ↔ x ∈ L := by
  refine ⟨thsU_sub L x, fun h => ?_⟩
  obtain ⟨i, hi, rfl⟩ := List.mem_iff_getElem.1 ((sortT_perm L).mem_iff.2 h)
  have := compact_has (sortT L).toArray (sortT L).toArray.size (Nat.le_refl _) i (by simpa using hi)
  rw [getElem!_pos (sortT L).toArray i (by simpa using hi)] at this
  simpa [thsU] using this
theorem gatL_thsU {L : List Th} (hv : ∀ x ∈ L, vthB x) : gatL L [] = thsU L := by
  refine str_unique (fun x hx => ?_) (gatL_str L [] hv (fun _ h => by simp at h) List.Pairwise.nil) (thsU_str hv) fun x => ?_
  · rcases (gatL_mem L [] x).1 hx with h | h
    · simp at h
    · exact hv x h
  · rw [gatL_mem, thsU_mem]; simp
end Go.Proofs.YtmlnibjnacfanaaGreatDoor
