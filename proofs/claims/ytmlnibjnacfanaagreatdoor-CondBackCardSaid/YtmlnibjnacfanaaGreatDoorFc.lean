/- Layer 8: what is printed is read as what it was: plain. -/
import Derived.Test.YtmlnibjnacfanaaGreatDoorFb
namespace Go.Proofs.YtmlnibjnacfanaaGreatDoor
open Go.RowKit

def ndsOf : Fr → List Nd
  | .nil => []
  | .cons k t r l v kids rest => ⟨k, t, r, l, v, kids⟩ :: ndsOf rest
theorem frOf_nds : ∀ f, frOf (ndsOf f) = f
  | .nil => rfl
  | .cons k t r l v kids rest => by simp [ndsOf, frOf, Nd.on, frOf_nds rest]
theorem nds_len : ∀ f, (ndsOf f).length = f.len
  | .nil => rfl
  | .cons k t r l v kids rest => by simp [ndsOf, Fr.len, nds_len rest]
def NoS (s : List UInt8) (x : List UInt8) : Prop := ∀ q, hd (toks q x) ≠ s
/-- One reader reads one kid's text, whatever stands behind it (W: of what it may be). -/
def OneB (a : Int) (one : List Tok → Rs Nd) (m : Int) (W : List UInt8 → Prop) (k t r : Int) (l : List UInt8) (v : Int) (kids : Fr) : Prop :=
  ∀ p x, Stop x → W x → one (toks p (brkT (brkB m k) (nodeT a k t r l v kids) ++ x)) = .ok ⟨k, t, r, l, v, kids⟩ (toks (p + (brkT (brkB m k) (nodeT a k t r l v kids)).length) x)
def AllB (a : Int) (one : List Tok → Rs Nd) (m : Int) (W : List UInt8 → Prop) : Fr → Prop
  | .nil => True
  | .cons k t r l v kids rest => OneB a one m W k t r l v kids ∧ AllB a one m W rest
theorem txt_cons {a : Int} {k t r : Int} {l : List UInt8} {v : Int} {kids rest : Fr} {m : Int} {b : Bool} : txtF a (.cons k t r l v kids rest) m b = (if b then [] else sepT m) ++ brkT (brkB m k) (nodeT a k t r l v kids) ++ txtF a rest m false := rfl
theorem stop_rest {a m : Int} (hm : m = 4 ∨ m = 5) {x : List UInt8} (hx : Stop x) : ∀ f : Fr, Stop (txtF a f m false ++ x)
  | .nil => hx
  | .cons k t r l v kids rest => by
    rw [txt_cons]
    simp only [Bool.false_eq_true, if_false, List.append_assoc]
    exact Stop.sep hm _
theorem w_rest {a m : Int} {W : List UInt8 → Prop} (hW : ∀ y, W (sepT m ++ y)) {x : List UInt8} (hx : W x) : ∀ f : Fr, W (txtF a f m false ++ x)
  | .nil => hx
  | .cons k t r l v kids rest => by
    rw [txt_cons]
    simp only [Bool.false_eq_true, if_false, List.append_assoc]
    exact hW _
section
variable {a m : Int} {one : List Tok → Rs Nd} {W : List UInt8 → Prop} (hm : m = 4 ∨ m = 5) (hW : ∀ y, W (sepT m ++ y))
include hm hW
theorem rowA_back {x : List UInt8} (hx : Stop x) (hwx : W x) (hn : NoS (signT m) x) : ∀ (f : Fr) (acc : List Nd) (p g : Nat), AllB a one m W f → f.len + 1 ≤ g →
    rowA one (signT m) g acc (toks p (txtF a f m false ++ x)) = .ok (acc ++ ndsOf f) (toks (p + (txtF a f m false).length) x)
  | .nil, acc, p, g, _, hg => by
    obtain ⟨g, rfl⟩ : ∃ g', g = g' + 1 := ⟨g - 1, by omega⟩
    show rowA one (signT m) (g + 1) acc (toks p x) = .ok (acc ++ []) (toks (p + 0) x)
    simp only [rowA]
    rw [if_neg (hn p), List.append_nil, Nat.add_zero]
  | .cons k t r l v kids rest, acc, p, g, hA, hg => by
    obtain ⟨g, rfl⟩ : ∃ g', g = g' + 1 := ⟨g - 1, by omega⟩
    rw [txt_cons]
    simp only [Bool.false_eq_true, if_false, List.append_assoc]
    rw [toks_sep hm]
    simp only [rowA, hd, List.tail_cons, if_true]
    rw [hA.1 (p + 4) (txtF a rest m false ++ x) (stop_rest hm hx rest) (w_rest hW hwx rest)]
    simp only [Rs.go]
    rw [rowA_back hx hwx hn rest _ _ g hA.2 (by simp [Fr.len] at hg; omega)]
    have h4 : (sepT m).length = 4 := by rcases hm with rfl | rfl <;> rfl
    simp only [List.length_append, h4, ndsOf, List.append_assoc, List.singleton_append]
    congr 2; omega
theorem rowN_back {x : List UInt8} (hx : Stop x) (hwx : W x) (hn : NoS (signT m) x) {k t r : Int} {l : List UInt8} {v : Int} {kids rest : Fr} (p g : Nat) (hA : AllB a one m W (.cons k t r l v kids rest)) (hg : rest.len + 1 ≤ g) (m' : Int) :
    rowN m' (signT m) one g (toks p (txtF a (.cons k t r l v kids rest) m true ++ x)) = .ok (rowE m' (⟨k, t, r, l, v, kids⟩ :: ndsOf rest)) (toks (p + (txtF a (.cons k t r l v kids rest) m true).length) x) := by
  rw [txt_cons]
  simp only [if_true, List.nil_append, List.append_assoc]
  unfold rowN
  rw [hA.1 p (txtF a rest m false ++ x) (stop_rest hm hx rest) (w_rest hW hwx rest)]
  simp only [Rs.go]
  rw [rowA_back hm hW hx hwx hn rest _ _ g hA.2 hg]
  simp only [List.singleton_append, List.length_append]
  congr 2; omega
end
theorem rowN_one {a m : Int} {one : List Tok → Rs Nd} {W : List UInt8 → Prop} {x : List UInt8} (hx : Stop x) (hwx : W x) (s : List UInt8) (hn : NoS s x) {k t r : Int} {l : List UInt8} {v : Int} {kids : Fr} (p g : Nat) (hA : OneB a one m W k t r l v kids) (hg : 1 ≤ g) (m' : Int) :
    rowN m' s one g (toks p (brkT (brkB m k) (nodeT a k t r l v kids) ++ x)) = .ok ⟨k, t, r, l, v, kids⟩ (toks (p + (brkT (brkB m k) (nodeT a k t r l v kids)).length) x) := by
  obtain ⟨g, rfl⟩ : ∃ g', g = g' + 1 := ⟨g - 1, by omega⟩
  unfold rowN
  rw [hA p x hx hwx]
  simp only [Rs.go, rowA]
  rw [if_neg (hn _)]
  rfl
theorem own_pos {a k t r : Int} {l : List UInt8} {v : Int} {n : Nat} (h : ownB a k t r l v n = true) {s : List UInt8} (hs : n ≤ s.length) : 1 ≤ (ownT a k t r l v s).length := by
  unfold ownB at h
  unfold ownT
  split
  · simp
  · rename_i h1
    split
    · simp [atomT]; omega
    · rename_i h2
      rw [if_neg h2, if_neg h1] at h
      split
      · simp
      · rename_i h3
        rw [if_neg h3] at h
        simp only [Bool.and_eq_true] at h
        have := h.2
        split at this
        · have : 2 ≤ n := by simpa using this
          omega
        · cases this
theorem txtF_ge {a : Int} : ∀ (f : Fr) (m : Int) (b : Bool), okF a f → f.len ≤ (txtF a f m b).length
  | .nil, _, _, _ => Nat.zero_le _
  | .cons k t r l v kids rest, m, b, h => by
    have h1 := txtF_ge kids k true h.2.1
    have h2 := txtF_ge rest m false h.2.2
    have h3 := own_pos h.1 h1
    have h4 : (nodeT a k t r l v kids).length ≤ (brkT (brkB m k) (nodeT a k t r l v kids)).length := by unfold brkT; split <;> simp <;> omega
    have h5 : 1 ≤ (nodeT a k t r l v kids).length := h3
    rw [txt_cons]
    simp only [Fr.len, List.length_append]
    omega
def NotB (a k t r : Int) (l : List UInt8) (v : Int) (kids : Fr) : Prop := ∀ e f, (brkT (brkB 4 k) (nodeT a k t r l v kids)).length ≤ f → OneB a (pNot e a f) 4 (fun _ => True) k t r l v kids
def AndB (a k t r : Int) (l : List UInt8) (v : Int) (kids : Fr) : Prop := ∀ e f, (brkT (brkB 5 k) (nodeT a k t r l v kids)).length ≤ f → OneB a (pAnd e a f) 5 (NoS [47, 92]) k t r l v kids
def OrB (a k t r : Int) (l : List UInt8) (v : Int) (kids : Fr) : Prop := ∀ e f p x, (nodeT a k t r l v kids).length ≤ f → Stop x → NoS [47, 92] x → NoS [92, 47] x →
  pOr e a f (toks p (nodeT a k t r l v kids ++ x)) = .ok ⟨k, t, r, l, v, kids⟩ (toks (p + (nodeT a k t r l v kids).length) x)
def AllNB (a : Int) : Fr → Prop
  | .nil => True
  | .cons k t r l v kids rest => NotB a k t r l v kids ∧ AndB a k t r l v kids ∧ AllNB a rest
theorem allNot {a : Int} (e n : Nat) : ∀ (f : Fr) (b : Bool), AllNB a f → (txtF a f 4 b).length ≤ n → AllB a (pNot e a n) 4 (fun _ => True) f
  | .nil, _, _, _ => trivial
  | .cons k t r l v kids rest, b, h, hl => by
    rw [txt_cons] at hl
    simp only [List.length_append] at hl
    exact ⟨h.1 e n (by omega), allNot e n rest false h.2.2 (by omega)⟩
theorem allAnd {a : Int} (e n : Nat) : ∀ (f : Fr) (b : Bool), AllNB a f → (txtF a f 5 b).length ≤ n → AllB a (pAnd e a n) 5 (NoS [47, 92]) f
  | .nil, _, _, _ => trivial
  | .cons k t r l v kids rest, b, h, hl => by
    rw [txt_cons] at hl
    simp only [List.length_append] at hl
    exact ⟨h.2.1 e n (by omega), allAnd e n rest false h.2.2 (by omega)⟩
theorem noS_41 (s x : List UInt8) (h : s ≠ [41]) : NoS s (41 :: x) := fun q => by rw [toks_41]; exact fun e => h e.symm
theorem noS_sep {m : Int} (hm : m = 4 ∨ m = 5) (s x : List UInt8) (h : s ≠ signT m) : NoS s (sepT m ++ x) := fun q => by rw [toks_sep hm]; exact fun e => h e.symm
theorem zero_of {t r v : Int} {l : List UInt8} (h : zeroB t r l v = true) : t = 0 ∧ r = 0 ∧ l = [] ∧ v = 0 := by
  simp [zeroB] at h
  exact ⟨h.1.1.1, h.1.1.2, h.1.2, h.2⟩
section
variable {a k t r v : Int} {l : List UInt8} {kids : Fr}
theorem row_of {x : List UInt8} {one : List Tok → Rs Nd} {m : Int} {W : List UInt8 → Prop} (hm : m = 4 ∨ m = 5) (hW : ∀ y, W (sepT m ++ y)) (hx : Stop x) (hwx : W x) (hn : NoS (signT m) x) (p g : Nat) (hA : AllB a one m W kids) (h2 : 2 ≤ kids.len) (hg : kids.len ≤ g) :
    rowN m (signT m) one g (toks p (txtF a kids m true ++ x)) = .ok ⟨m, 0, 0, [], 0, kids⟩ (toks (p + (txtF a kids m true).length) x) := by
  cases kids with
  | nil => simp [Fr.len] at h2
  | cons k' t' r' l' v' kids' rest' =>
    rw [rowN_back hm hW hx hwx hn p g hA (by simp [Fr.len] at hg; omega) m]
    have : rowE m (⟨k', t', r', l', v', kids'⟩ :: ndsOf rest') = ⟨m, 0, 0, [], 0, frOf (ndsOf (.cons k' t' r' l' v' kids' rest'))⟩ := rowE_many (by rw [List.length_cons, nds_len]; simp [Fr.len] at h2; omega)
    rw [this, frOf_nds]
theorem not_brk (hk : k = 4 ∨ k = 5) (hO : OrB a k t r l v kids) : NotB a k t r l v kids := by
  have hb : brkB 4 k = true := by rcases hk with rfl | rfl <;> rfl
  intro e f hf p x hx _
  rw [hb] at hf ⊢
  simp only [brkT, if_true, List.cons_append, List.length_cons, List.length_append, List.length_nil, List.append_assoc, List.nil_append] at hf ⊢
  obtain ⟨f, rfl⟩ : ∃ f', f = f' + 1 := ⟨f - 1, by omega⟩
  rw [toks_40]
  have h1 : ¬ (([40] : List UInt8) = [126]) := by decide
  simp only [pNot, hd, h1, if_false, if_true, List.tail_cons]
  have := hO e f (p + 1) (41 :: x) (by omega) (Stop.close x) (noS_41 _ _ (by decide)) (noS_41 _ _ (by decide))
  unfold pOr pAnd at this
  rw [this]
  simp only [Rs.go, toks_41, pTake, hd, if_true, List.tail_cons]
  congr 2; omega
theorem and_of (hk : k ≠ 4) (ho : 1 ≤ (nodeT a k t r l v kids).length) (hN : NotB a k t r l v kids) : AndB a k t r l v kids := by
  have hb : brkB 5 k = brkB 4 k := by simp [brkB, hk]
  intro e f hf p x hx hwx
  rw [hb] at hf ⊢
  have hl : (nodeT a k t r l v kids).length ≤ (brkT (brkB 4 k) (nodeT a k t r l v kids)).length := by unfold brkT; split <;> simp <;> omega
  exact rowN_one (W := fun _ => True) hx trivial [47, 92] hwx p f (hN e f hf) (by omega) 4
theorem or_of (hk : k ≠ 5) (ho : 1 ≤ (nodeT a k t r l v kids).length) (hN : AndB a k t r l v kids) : OrB a k t r l v kids := by
  have hb : brkB 5 k = false := by simp [brkB, hk]
  intro e f p x hf hx h1 h2
  have := rowN_one (m := 5) hx h1 [92, 47] h2 p f (hN e f (by rw [hb]; exact hf)) (by omega) 5
  rw [hb] at this
  exact this
theorem node_back (ha : archB a = true) (ho : ownB a k t r l v kids.len = true) (hk : okF a kids) (hA : AllNB a kids) : NotB a k t r l v kids ∧ AndB a k t r l v kids ∧ OrB a k t r l v kids := by
  have hge := txtF_ge kids k true hk
  have hpos : 1 ≤ (nodeT a k t r l v kids).length := own_pos ho hge
  unfold ownB at ho
  by_cases h2 : k = 2
  · subst h2
    rw [if_pos rfl] at ho
    simp only [Bool.and_eq_true, decide_eq_true_eq] at ho
    obtain ⟨⟨ht, hv⟩, hz⟩ := ho
    have hkn : kids = .nil := by
      cases kids with
      | nil => rfl
      | cons => simp [Fr.len] at hz
    subst hkn
    have hN : NotB a 2 t r l v .nil := by
      intro e f hf p x hx _
      have e1 : brkT (brkB 4 2) (nodeT a 2 t r l v .nil) = atomT a t r l v := rfl
      rw [e1] at hf ⊢
      obtain ⟨f, rfl⟩ : ∃ f', f = f' + 1 := ⟨f - 1, by have : 1 ≤ (atomT a t r l v).length := hpos; omega⟩
      exact atom_back e p x ha ht hv hx f
    have hA := and_of (by omega) hpos hN
    exact ⟨hN, hA, or_of (by omega) hpos hA⟩
  rw [if_neg h2] at ho
  simp only [Bool.and_eq_true] at ho
  obtain ⟨hz, ho⟩ := ho
  obtain ⟨rfl, rfl, rfl, rfl⟩ := zero_of hz
  by_cases h1 : k = 1
  · subst h1
    rw [if_pos rfl] at ho
    have hz : kids.len = 0 := by simpa using ho
    have hkn : kids = .nil := by
      cases kids with
      | nil => rfl
      | cons => simp [Fr.len] at hz
    subst hkn
    have hN : NotB a 1 0 0 [] 0 .nil := by
      intro e f hf p x hx _
      have e1 : brkT (brkB 4 1) (nodeT a 1 0 0 [] 0 .nil) = [116, 114, 117, 101] := rfl
      rw [e1] at hf ⊢
      obtain ⟨f, rfl⟩ : ∃ f', f = f' + 1 := ⟨f - 1, by simp at hf; omega⟩
      rw [toks_word p 116 [114, 117, 101] x (by decide) (by decide) hx.part]
      have n1 : ¬ (([116, 114, 117, 101] : List UInt8) = [126]) := by decide
      have n2 : ¬ (([116, 114, 117, 101] : List UInt8) = [40]) := by decide
      have n3 : hd (toks (p + 4) x) ≠ [61] := hx.no61 _
      simp only [pNot, hd, n1, n2, if_false, List.tail_cons, List.length_cons, List.length_nil]
      rw [if_pos ⟨trivial, n3⟩]
    have hA := and_of (by omega) hpos hN
    exact ⟨hN, hA, or_of (by omega) hpos hA⟩
  rw [if_neg h1] at ho
  by_cases h3 : k = 3
  · subst h3
    rw [if_pos rfl] at ho
    have hz : kids.len = 1 := by simpa using ho
    cases kids with
    | nil => simp [Fr.len] at hz
    | cons k' t' r' l' v' kids' rest' =>
      have hr : rest' = .nil := by
        cases rest' with
        | nil => rfl
        | cons => simp [Fr.len] at hz
      subst hr
      have hN : NotB a 3 0 0 [] 0 (.cons k' t' r' l' v' kids' .nil) := by
        intro e f hf p x hx _
        have e1 : brkT (brkB 4 3) (nodeT a 3 0 0 [] 0 (.cons k' t' r' l' v' kids' .nil)) = 126 :: brkT (brkB 4 k') (nodeT a k' t' r' l' v' kids') := by
          show 126 :: txtF a (.cons k' t' r' l' v' kids' .nil) 3 true = _
          rw [txt_cons]
          simp [txtF, brkB]
        rw [e1] at hf ⊢
        simp only [List.length_cons, List.cons_append] at hf ⊢
        obtain ⟨f, rfl⟩ : ∃ f', f = f' + 1 := ⟨f - 1, by omega⟩
        rw [toks_126]
        simp only [pNot, hd, if_true, List.tail_cons]
        rw [hA.1 e f (by omega) (p + 1) x hx trivial]
        simp only [Rs.go, Nd.on]
        congr 2; omega
      have hA := and_of (by omega) hpos hN
      exact ⟨hN, hA, or_of (by omega) hpos hA⟩
  rw [if_neg h3] at ho
  split at ho
  · rename_i h45
    have hk2 : 2 ≤ kids.len := by simpa using ho
    rcases h45 with rfl | rfl
    · have hAnd : AndB a 4 0 0 [] 0 kids := by
        intro e f hf p x hx hwx
        have e1 : brkT (brkB 5 4) (nodeT a 4 0 0 [] 0 kids) = txtF a kids 4 true := rfl
        rw [e1] at hf ⊢
        exact row_of (.inl rfl) (fun _ => trivial) hx trivial hwx p f (allNot e f kids true hA hf) hk2 (by omega)
      have hOr := or_of (by omega) hpos hAnd
      exact ⟨not_brk (.inl rfl) hOr, hAnd, hOr⟩
    · have hOr : OrB a 5 0 0 [] 0 kids := by
        intro e f p x hf hx h47 h92
        have e1 : nodeT a 5 0 0 [] 0 kids = txtF a kids 5 true := rfl
        rw [e1] at hf ⊢
        exact row_of (.inr rfl) (fun y => noS_sep (.inr rfl) _ y (by decide)) hx h47 h92 p f (allAnd e f kids true hA hf) hk2 (by omega)
      have hNot := not_brk (.inr rfl) hOr
      exact ⟨hNot, and_of (by omega) hpos hNot, hOr⟩
  · cases ho
end
theorem all_back {a : Int} (ha : archB a = true) : ∀ f : Fr, okF a f → AllNB a f
  | .nil, _ => trivial
  | .cons k t r l v kids rest, h => by
    have := node_back ha h.1 h.2.1 (all_back ha kids h.2.1)
    exact ⟨this.1, this.2.1, all_back ha rest h.2.2⟩
/-- P8.5: what is printed is read as what it was. -/
theorem parse_print {a q k t r : Int} {l : List UInt8} {v : Int} {kids : Fr} (h : checkC a q k t r l v kids = 0) : parseC a (condT a q k t r l v kids) = ((q, ⟨k, t, r, l, v, kids⟩), 0, 0) := by
  obtain ⟨ha, hq1, hq3, ho, hk, _⟩ := checkC_ok h
  have hlen := condT_len h
  have hO := (node_back ha ho hk (all_back ha kids hk)).2.2
  unfold parseC
  rw [if_neg (by simp [ha]), if_neg (by omega)]
  obtain ⟨L, hL⟩ : ∃ L, condT a q k t r l v kids = L := ⟨_, rfl⟩
  have hc : ∀ e f p, (nodeT a k t r l v kids).length ≤ f → pCond e a f ((if q = 3 then [([102, 111, 114, 97, 108, 108], 0)] else if q = 2 then [([126], 0), (existsT, 1)] else [(existsT, 0)]) ++ ([40], p) :: toks (p + 1) (nodeT a k t r l v kids ++ [41])) = .ok (q, ⟨k, t, r, l, v, kids⟩) [] := by
    intro e f p hf
    have hor := hO e f (p + 1) [41] hf (Stop.close []) (noS_41 _ _ (by decide)) (noS_41 _ _ (by decide))
    have hT : ∀ z, (pTake e [41] (toks z [41])) = .ok () [] := fun z => by rw [toks_41]; rfl
    have hq : q = 1 ∨ q = 2 ∨ q = 3 := by omega
    rcases hq with rfl | rfl | rfl
    all_goals
      simp [pCond, pHead, pTake, hd, Rs.go, existsT, hor]
      rw [toks_41]
      simp [toks_nil, pEnd]
  have ht : toks 0 (condT a q k t r l v kids) = (if q = 3 then [([102, 111, 114, 97, 108, 108], 0)] else if q = 2 then [([126], 0), (existsT, 1)] else [(existsT, 0)]) ++ ([40], (quantT q).length - 1) :: toks ((quantT q).length - 1 + 1) (nodeT a k t r l v kids ++ [41]) := by
    have hq : q = 1 ∨ q = 2 ∨ q = 3 := by omega
    rcases hq with rfl | rfl | rfl
    · show toks 0 ((101 :: [120, 105, 115, 116, 115]) ++ (32 :: 40 :: (nodeT a k t r l v kids ++ [41]))) = _
      rw [toks_word 0 101 _ _ (by decide) (by decide) (noHd_cons (by decide) _), toks_32, toks_40]; rfl
    · show toks 0 (126 :: ((101 :: [120, 105, 115, 116, 115]) ++ (32 :: 40 :: (nodeT a k t r l v kids ++ [41])))) = _
      rw [toks_126, toks_word _ 101 _ _ (by decide) (by decide) (noHd_cons (by decide) _), toks_32, toks_40]; rfl
    · show toks 0 ((102 :: [111, 114, 97, 108, 108]) ++ (32 :: 40 :: (nodeT a k t r l v kids ++ [41]))) = _
      rw [toks_word 0 102 _ _ (by decide) (by decide) (noHd_cons (by decide) _), toks_32, toks_40]; rfl
  have hnl : (nodeT a k t r l v kids).length ≤ (condT a q k t r l v kids).length + 1 := by simp [condT]; omega
  rw [ht, hc _ _ _ hnl]
  simp only
  rw [if_pos h]
end Go.Proofs.YtmlnibjnacfanaaGreatDoor
