/- Layer 8: the things of a condition: atoms, and what they are handed to. Layer 8: how two things stand: the program's stand. Layer 8: the order of things: plain. Layer 8: slices.Compact at things of which no two neighbours are the same. -/
import Derived.Test.YtoegmdnfbemppaaGreatDoorKb06
import Derived.Test.YtoegmdnfbemppaaGreatDoorKb07
import Derived.ArgAppend
import Derived.Sort.Statements
import Derived.Laws.StructEq
namespace Go.Proofs.YtoegmdnfbemppaaGreatDoor
open Go.RowKit

abbrev Th := Int × Int × List UInt8
def thCs (x : Th) : List Value := [.int .i64 x.1, .int .i64 x.2.1, .string ⟨x.2.2.toArray⟩]
def thCells : List Th → List Value
  | [] => []
  | x :: r => thCs x ++ thCells r
theorem thCells_len : ∀ l, (thCells l).length = l.length * 3
  | [] => rfl
  | _ :: r => by simp [thCells, thCs, thCells_len r]; omega
theorem thCells_snoc : ∀ l (x : Th), thCells (l ++ [x]) = thCells l ++ thCs x
  | [], x => by simp [thCells]
  | _ :: r, x => by simp [thCells, thCells_snoc r x]
def atL (k t r : Int) (l : List UInt8) : List Th := if k = 2 then [(t, r, l)] else []
/-- The atoms' things, in the order of the text. -/
def atomsF : Fr → List Th
  | .nil => []
  | .cons k t r l _ kids rest => atL k t r l ++ atomsF kids ++ atomsF rest
def Fr.all : Fr → Nat
  | .nil => 0
  | .cons _ _ _ _ _ kids rest => 1 + kids.all + rest.all
theorem atomsF_len : ∀ f, (atomsF f).length ≤ f.all
  | .nil => by simp [atomsF, Fr.all]
  | .cons k t r l _ kids rest => by
    have h1 := atomsF_len kids
    have h2 := atomsF_len rest
    have h3 : (atL k t r l).length ≤ 1 := by unfold atL; split <;> simp
    simp [atomsF, Fr.all]; omega
/-- The captured list: its cell bl, its row behind it. -/
def Acc (w : World) (bl : Nat) (L : List Th) : Prop := ∃ v, Blk w bl 38 #[v] ∧ w.ownsRow (bl + 1) 25 3 v L.length (thCells L)
theorem infoThing : (Tryz.prog.info? 25).map (fun i => (i.zero, i.size, i.bytes)) = some (some (.agg #[.int .i64 0, .int .i64 0, .string ⟨#[]⟩]), 3, 32) := by kernel_rfl
theorem Acc.lt {w : World} {bl : Nat} {L : List Th} (h : Acc w bl L) : bl < w.heap.size := by
  obtain ⟨v, h1, _⟩ := h
  exact h1.lt
theorem Acc.below {w w' : World} {bl : Nat} {L : List Th} (h : Acc w bl L) (hb : Below w.heap.size w w') : Acc w' bl L := by
  obtain ⟨v, h1, h2⟩ := h
  exact ⟨v, h1.go hb, h2.kept (row := some w.heap.size) ⟨hb.os, hb.tape, hb.output, hb.size, fun i hi _ => hb.block i hi⟩ (.inr fun e => by have := (h2.lt _ e).2; omega)⟩
theorem Acc.fresh {w : World} {bl : Nat} {L : List Th} (h : Acc w bl L) (o : Obj) : ∀ u, Blk (w.alloc o) bl 38 #[u] → u.ownBlock ≠ some w.heap.size := by
  obtain ⟨v, h1, h2⟩ := h
  intro u hu e
  have h3 := h1.alloc o
  unfold Blk at hu h3
  rw [h3] at hu
  simp only [Option.some.injEq, Obj.cells.injEq, Array.mk.injEq, List.cons.injEq, and_true] at hu
  subst hu
  have := (h2.lt _ e).2
  omega
theorem own_shape {w : World} {B : Nat} {t : TypeId} {z n : Nat} {v : Value} {cs : List Value} (h : w.ownsRow B t z v n cs) : ∃ A cap, v = .slice A n cap := by
  rcases h.2 with ⟨rfl, rfl⟩ | ⟨g, cap, cur, rfl, _⟩
  · exact ⟨none, 0, rfl⟩
  · exact ⟨_, _, rfl⟩
theorem own_keep' {w w' : World} {B : Nat} {t : TypeId} {z n : Nat} {v : Value} {cs : List Value} (h : w.ownsRow B t z v n cs) (hk : ∀ b, v.ownBlock = some b → w'.heap[b]? = w.heap[b]?) : w'.ownsRow B t z v n cs := by
  obtain ⟨h1, h2⟩ := h
  refine ⟨h1, ?_⟩
  rcases h2 with h2 | ⟨g, cap, cur, rfl, h3, h4, h5⟩
  · exact .inl h2
  · exact .inr ⟨g, cap, cur, rfl, h3, (hk g rfl).trans h4, h5⟩
section
variable {w : World} {bl : Nat} {L : List Th} {k t r v : Int} {l : List UInt8} {A : Option Addr} {n cap : Nat}
set_option maxHeartbeats 2000000 in
set_option maxRecDepth 100000 in
theorem askP (h : Acc w bl L) (hlen : L.length ≤ 1000000) :
    Calls Tryz.prog 154 #[nodeV k t r l v (.slice A n cap), .pointer (some ⟨bl, 0, none⟩)] w fun e w' => e = .returned (.tuple #[]) ∧ Acc w' bl (L ++ [(t, r, l)]) ∧ Below bl w w' ∧
      ∀ i, i < w.heap.size → i ≠ bl → (∀ u, Blk w bl 38 #[u] → u.ownBlock ≠ some i) → w'.heap[i]? = w.heap[i]? := by
  obtain ⟨i0, hi, hz0, hz1, hz2⟩ := info_parts infoThing
  obtain ⟨u, hbl, hown⟩ := h
  obtain ⟨Au, cu, rfl⟩ := own_shape hown
  have hlt := hbl.lt
  have HBL := Lib.hid hbl
  have HOW := Lib.hid hown
  have hB1 := hbl.alloc (.cells #[.int .i64 k, .int .i64 t, .int .i64 r, .string ⟨l.toArray⟩, .int .i64 v, .slice A n cap] 28 (0, 0))
  have c0 := hB1.cell 0
  have f0 := hB1.frozen 0
  have how2 := Lib.hid ((hown.alloc (.cells #[.int .i64 k, .int .i64 t, .int .i64 r, .string ⟨l.toArray⟩, .int .i64 v, .slice A n cap] 28 (0, 0))).alloc (.cells (thCs (t, r, l)).toArray 25 (0, 0)))
  clear hbl hown hB1
  go_enter Tryz.func154, Tryz.ntmps154
  go_wp2_with (at_builtin; refine wpList_append_own _ rfl _ _ 38 rfl (bl + 1) 25 i0 (.agg #[.int .i64 0, .int .i64 0, .string ⟨#[]⟩]) 3 32 Tryz.underlying38 hi hz0 hz1 hz2 rfl (by decide) _ _ _ rfl how2.out ⟨w.heap.size + 1, 0, none⟩ 1 1 (thCs (t, r, l)) rfl rfl ?c1 ?c2 ?c3 ?c4 ?c5 ?_)
  case c1 =>
    intro j u hj
    rw [show (⟨w.heap.size + 1, 0, none⟩ : Addr).add j = ⟨w.heap.size + 1, j, none⟩ by simp [Addr.add]; intro e; exact e.symm]
    have := cell_new (w.alloc (.cells #[.int .i64 k, .int .i64 t, .int .i64 r, .string ⟨l.toArray⟩, .int .i64 v, .slice A n cap] 28 (0, 0))) (thCs (t, r, l)).toArray 25 (0, 0) j
    simp only [World.size_alloc] at this
    exact this.trans (by simpa using hj)
  case c2 => intro u hu; simp [thCs] at hu; rcases hu with rfl | rfl | rfl <;> rfl
  case c3 => unfold maxLen; omega
  case c4 => omega
  case c5 => simp; omega
  intro v' w1 hown' hgrow _
  obtain ⟨Av, cv, rfl⟩ := own_shape hown'
  have hob : ∀ i, (Value.slice Au L.length cu).ownBlock = some i → bl + 1 ≤ i := fun i hi => (HOW.out.lt i hi).1
  have hk1 : ∀ i, i < w.heap.size → (Value.slice Au L.length cu).ownBlock ≠ some i → w1.heap[i]? = w.heap[i]? := fun i hi hne =>
    (hgrow.block i (by simp; omega) (fun e => hne e.symm)).trans ((Below.heap_alloc _ _ _ (by simp; omega)).trans (Below.heap_alloc _ _ _ hi))
  have hb1 : Blk w1 bl 38 #[.slice Au L.length cu] := (hk1 bl hlt (fun e => by have := hob bl e; omega)).trans HBL.out
  have hbel : Below bl w w1 := (Below.alloc (B := bl) (Below.alloc (B := bl) (Below.refl _ _) (by omega) (.cells #[.int .i64 k, .int .i64 t, .int .i64 r, .string ⟨l.toArray⟩, .int .i64 v, .slice A n cap] 28 (0, 0))) (by simp; omega) (.cells (thCs (t, r, l)).toArray 25 (0, 0))).grown hgrow (by simp; omega) (fun j hj => by have := hob j hj; omega)
  have HK1 := Lib.hid hk1
  have HB1 := Lib.hid hb1
  have HBE := Lib.hid hbel
  have HO1 := Lib.hid hown'
  have d0 := hb1.cell 0
  have e0 := hb1.frozen 0
  clear hown' hgrow hk1 hb1 hbel c0 f0
  go_wp2
  go_end0
  refine ⟨rfl, ⟨_, HB1.out.set_ 0 _, ?_⟩, HBE.out.setCell (p := ⟨bl, 0, none⟩) (Nat.le_refl _) _, fun i hi hne hv => ?_⟩
  · rw [thCells_snoc, List.length_append]
    refine own_keep' HO1.out fun j hj => Below.heap_setCell _ _ _ _ ?_
    have := (HO1.out.lt j hj).1
    dsimp only
    omega
  · rw [Below.heap_setCell _ _ _ _ hne]
    exact HK1.out i hi (hv _ HBL.out)
end
/-- What atoms does at one node. -/
def NodeA (k t r : Int) (l : List UInt8) (v : Int) (kids : Fr) : Prop :=
  ∀ (w : World) (bl hi : Nat) (kv : Value) (L : List Th), hi ≤ bl → Acc w bl L → SlAt w hi kv kids → l.length ≤ 9223372036854775807 → L.length + 1 + kids.all ≤ 1000000 →
    Calls Tryz.prog 153 #[nodeV k t r l v kv, .func (.func 154) #[] #[.pointer (some ⟨bl, 0, none⟩)]] w fun e w' =>
      e = .returned (.tuple #[]) ∧ Acc w' bl (L ++ (atL k t r l ++ atomsF kids)) ∧ Below bl w w'
def AllA : Fr → Prop
  | .nil => True
  | .cons k t r l v kids rest => NodeA k t r l v kids ∧ AllA rest
theorem AllA.at_ : ∀ (f : Fr) (j : Nat) {k t r : Int} {l : List UInt8} {v : Int} {kids rest : Fr}, AllA f → f.drop j = .cons k t r l v kids rest → NodeA k t r l v kids
  | .nil, 0, _, _, _, _, _, _, _, _, h => by cases h
  | .nil, _ + 1, _, _, _, _, _, _, _, _, h => by cases h
  | .cons _ _ _ _ _ _ _, 0, _, _, _, _, _, _, _, h, e => by cases e; exact h.1
  | .cons _ _ _ _ _ _ rest, j + 1, _, _, _, _, _, _, _, h, e => AllA.at_ rest j h.2 e
section
variable {k t r v : Int} {l : List UInt8} {kids : Fr}
set_option maxHeartbeats 2000000 in
set_option maxRecDepth 100000 in
theorem nodeA_step (hk : AllA kids) : NodeA k t r l v kids := by
  intro w bl hi kv L hhi hacc hs hl hlen
  obtain ⟨A, cap, rfl, s1, s2, s3⟩ := hs
  have S3 := Lib.hid s3
  have HK := Lib.hid hk
  have hlt := hacc.lt
  have HB0 := Lib.hid (Blk.new w 28 #[.int .i64 k, .int .i64 t, .int .i64 r, .string ⟨l.toArray⟩, .int .i64 v, .slice A kids.len cap])
  have HA0 := Lib.hid (hacc.below (alloc_b w (.cells #[.int .i64 k, .int .i64 t, .int .i64 r, .string ⟨l.toArray⟩, .int .i64 v, .slice A kids.len cap] 28 (0, 0))))
  have hbe : Below bl w (w.alloc (.cells #[.int .i64 k, .int .i64 t, .int .i64 r, .string ⟨l.toArray⟩, .int .i64 v, .slice A kids.len cap] 28 (0, 0))) := (alloc_b w _).mono (Nat.le_of_lt hlt)
  have HBE := Lib.hid hbe
  have HFR := Lib.hid (fun o => hacc.fresh (o := o))
  clear s3 hk hacc hbe
  by_cases h2 : k = 2
  · subst h2
    have HT := Lib.hid (show atL 2 t r l = [(t, r, l)] by simp [atL])
    go_enter Tryz.func153, Tryz.ntmps153
    go_wp2_with (go_at_call 154; refine (askP HA0.out (by omega)).mono ?_; rintro e w1 ⟨rfl, ha1, hb1, hk1⟩; have hB1 : Blk w1 w.heap.size 28 #[.int .i64 2, .int .i64 t, .int .i64 r, .string ⟨l.toArray⟩, .int .i64 v, .slice A kids.len cap] := (hk1 _ (by simp) (by omega) (HFR.out _)).trans HB0.out; have c3 := hB1.cell 5)
    have HA1 := Lib.hid ha1
    have HB1 := Lib.hid (HBE.out.trans hb1)
    have hs1 := hb1.size
    simp at hs1
    clear ha1 hb1 hk1 hB1 c3
    go_loopw [15] (fun i wr => ∃ (j : Nat) (M : List Th), j ≤ kids.len ∧ i = .int .i64 j ∧ Acc wr bl M ∧ M ++ atomsF (kids.drop j) = (L ++ [(t, r, l)]) ++ atomsF kids ∧ M.length + (kids.drop j).all ≤ (L ++ [(t, r, l)]).length + kids.all ∧ Below bl w wr) (fun i _ => kids.len - (intOf i).toNat)
    case atStart => exact ⟨0, (L ++ [(t, r, l)]), Nat.zero_le _, rfl, HA1.out, by rw [show kids.drop 0 = kids by cases kids <;> rfl], by rw [show kids.drop 0 = kids by cases kids <;> rfl]; exact Nat.le_refl _, HB1.out⟩
    case round =>
      obtain ⟨j, M, hj, rfl, hacc, hM, hML, hbr⟩ := hrel
      have HAC := Lib.hid hacc
      have HMM := Lib.hid hM
      have HBR := Lib.hid hbr
      have hltr := hacc.lt
      have hlz : M.length + (kids.drop j).all ≤ L.length + 1 + kids.all := by
        try simp only [List.length_append, List.length_cons, List.length_nil] at hML
        omega
      have HML := Lib.hid hML
      clear hM hacc hbr hML
      by_cases hlt : j < kids.len
      · obtain ⟨b, o, rfl, hb, hrow⟩ := S3.out (by omega)
        obtain ⟨k', t', r', l', v', kids', rest', hdr⟩ := kids.drop_lt j hlt
        have hrow' := RowAt.keep (w' := wr) (fun b o hb => HBR.out.cell (p := ⟨b, o, none⟩) (show b < bl by omega)) kids b o hb hrow
        have hat := RowAt.at_ kids b o j hrow'
        rw [hdr] at hat
        obtain ⟨kv', q0, q1, q2, q3, q4, q5, hl', hsl'⟩ := hat.head
        obtain ⟨A', cap', rfl, hsl''⟩ := hsl'
        have hsl3 : SlAt wr hi (.slice A' kids'.len cap') kids' := ⟨A', cap', rfl, hsl''⟩
        have HSL := Lib.hid (hsl3.keep (w' := wr.alloc (.cells #[.int .i64 k', .int .i64 t', .int .i64 r', .string ⟨l'.toArray⟩, .int .i64 v', .slice A' kids'.len cap'] 28 (0, 0))) (fun b o hb => (alloc_b wr _).cell (p := ⟨b, o, none⟩) (show b < wr.heap.size by omega)))
        have HC := Lib.hid (AllA.at_ kids j HK.out hdr)
        have HNX := Lib.hid (kids.drop_next j hdr)
        have hall : (kids.drop j).all = 1 + kids'.all + rest'.all := by rw [hdr]; rfl
        have HAF := Lib.hid (show atomsF (kids.drop j) = atL k' t' r' l' ++ atomsF kids' ++ atomsF rest' by rw [hdr]; rfl)
        have hat1 : (atL k' t' r' l').length ≤ 1 := by unfold atL; split <;> simp
        have haf1 := atomsF_len kids'
        have HAC2 := Lib.hid (HAC.out.below (alloc_b wr (.cells #[.int .i64 k', .int .i64 t', .int .i64 r', .string ⟨l'.toArray⟩, .int .i64 v', .slice A' kids'.len cap'] 28 (0, 0))))
        have HBR2 := Lib.hid (HBR.out.trans ((alloc_b wr (.cells #[.int .i64 k', .int .i64 t', .int .i64 r', .string ⟨l'.toArray⟩, .int .i64 v', .slice A' kids'.len cap'] 28 (0, 0))).mono (Nat.le_of_lt hltr)))
        clear hrow hrow' hat hsl'' hsl3 hdr
        go_wp2_with (go_at_call 153; refine (HC.out _ bl hi _ M hhi HAC2.out HSL.out hl' (by omega)).mono ?_; rintro e w2 ⟨rfl, ha2, hb2⟩)
        go_roundw
        case rel => exact ⟨j + 1, _, by omega, by go_num, ha2, by rw [HNX.out, ← HMM.out, HAF.out]; simp, by have := HML.out; rw [HNX.out]; simp only [List.length_append] at this ⊢; omega, HBR2.out.trans hb2⟩
        case measure => simp [intOf]; omega
      · have HFIN := Lib.hid (show M = (L ++ [(t, r, l)]) ++ atomsF kids by have := HMM.out; rw [Fr.drop_ge kids j (by omega)] at this; simpa [atomsF] using this)
        go_wp2_with fail
        go_end0
        exact ⟨rfl, by rw [HT.out]; have := HAC.out; rw [HFIN.out] at this; simpa using this, HBR.out⟩
  · have HT := Lib.hid (show atL k t r l = [] by simp [atL, h2])
    have h2' : (k == 2) = false := by simpa using h2
    clear h2
    go_enter Tryz.func153, Tryz.ntmps153
    go_wp2_with fail
    have hs1 : w.heap.size + 1 ≤ (w.alloc (.cells #[.int .i64 k, .int .i64 t, .int .i64 r, .string ⟨l.toArray⟩, .int .i64 v, .slice A kids.len cap] 28 (0, 0))).heap.size := by simp
    have HA1 := HA0
    have HB1 := HBE
    go_loopw [15] (fun i wr => ∃ (j : Nat) (M : List Th), j ≤ kids.len ∧ i = .int .i64 j ∧ Acc wr bl M ∧ M ++ atomsF (kids.drop j) = L ++ atomsF kids ∧ M.length + (kids.drop j).all ≤ L.length + kids.all ∧ Below bl w wr) (fun i _ => kids.len - (intOf i).toNat)
    case atStart => exact ⟨0, L, Nat.zero_le _, rfl, HA1.out, by rw [show kids.drop 0 = kids by cases kids <;> rfl], by rw [show kids.drop 0 = kids by cases kids <;> rfl]; exact Nat.le_refl _, HB1.out⟩
    case round =>
      obtain ⟨j, M, hj, rfl, hacc, hM, hML, hbr⟩ := hrel
      have HAC := Lib.hid hacc
      have HMM := Lib.hid hM
      have HBR := Lib.hid hbr
      have hltr := hacc.lt
      have hlz : M.length + (kids.drop j).all ≤ L.length + 1 + kids.all := by
        try simp only [List.length_append, List.length_cons, List.length_nil] at hML
        omega
      have HML := Lib.hid hML
      clear hM hacc hbr hML
      by_cases hlt : j < kids.len
      · obtain ⟨b, o, rfl, hb, hrow⟩ := S3.out (by omega)
        obtain ⟨k', t', r', l', v', kids', rest', hdr⟩ := kids.drop_lt j hlt
        have hrow' := RowAt.keep (w' := wr) (fun b o hb => HBR.out.cell (p := ⟨b, o, none⟩) (show b < bl by omega)) kids b o hb hrow
        have hat := RowAt.at_ kids b o j hrow'
        rw [hdr] at hat
        obtain ⟨kv', q0, q1, q2, q3, q4, q5, hl', hsl'⟩ := hat.head
        obtain ⟨A', cap', rfl, hsl''⟩ := hsl'
        have hsl3 : SlAt wr hi (.slice A' kids'.len cap') kids' := ⟨A', cap', rfl, hsl''⟩
        have HSL := Lib.hid (hsl3.keep (w' := wr.alloc (.cells #[.int .i64 k', .int .i64 t', .int .i64 r', .string ⟨l'.toArray⟩, .int .i64 v', .slice A' kids'.len cap'] 28 (0, 0))) (fun b o hb => (alloc_b wr _).cell (p := ⟨b, o, none⟩) (show b < wr.heap.size by omega)))
        have HC := Lib.hid (AllA.at_ kids j HK.out hdr)
        have HNX := Lib.hid (kids.drop_next j hdr)
        have hall : (kids.drop j).all = 1 + kids'.all + rest'.all := by rw [hdr]; rfl
        have HAF := Lib.hid (show atomsF (kids.drop j) = atL k' t' r' l' ++ atomsF kids' ++ atomsF rest' by rw [hdr]; rfl)
        have hat1 : (atL k' t' r' l').length ≤ 1 := by unfold atL; split <;> simp
        have haf1 := atomsF_len kids'
        have HAC2 := Lib.hid (HAC.out.below (alloc_b wr (.cells #[.int .i64 k', .int .i64 t', .int .i64 r', .string ⟨l'.toArray⟩, .int .i64 v', .slice A' kids'.len cap'] 28 (0, 0))))
        have HBR2 := Lib.hid (HBR.out.trans ((alloc_b wr (.cells #[.int .i64 k', .int .i64 t', .int .i64 r', .string ⟨l'.toArray⟩, .int .i64 v', .slice A' kids'.len cap'] 28 (0, 0))).mono (Nat.le_of_lt hltr)))
        clear hrow hrow' hat hsl'' hsl3 hdr
        go_wp2_with (go_at_call 153; refine (HC.out _ bl hi _ M hhi HAC2.out HSL.out hl' (by omega)).mono ?_; rintro e w2 ⟨rfl, ha2, hb2⟩)
        go_roundw
        case rel => exact ⟨j + 1, _, by omega, by go_num, ha2, by rw [HNX.out, ← HMM.out, HAF.out]; simp, by have := HML.out; rw [HNX.out]; simp only [List.length_append] at this ⊢; omega, HBR2.out.trans hb2⟩
        case measure => simp [intOf]; omega
      · have HFIN := Lib.hid (show M = L ++ atomsF kids by have := HMM.out; rw [Fr.drop_ge kids j (by omega)] at this; simpa [atomsF] using this)
        go_wp2_with fail
        go_end0
        exact ⟨rfl, by rw [HT.out]; have := HAC.out; rw [HFIN.out] at this; simpa using this, HBR.out⟩
theorem allA : ∀ f, AllA f
  | .nil => trivial
  | .cons _ _ _ _ _ kids rest => ⟨nodeA_step (allA kids), allA rest⟩
theorem nodeA_all : NodeA k t r l v kids := nodeA_step (allA kids)
end
end Go.Proofs.YtoegmdnfbemppaaGreatDoor
namespace Go.Proofs.YtoegmdnfbemppaaGreatDoor
open Go.RowKit

def standC (x y : Th) : Int :=
  if x.1 = -1 ∧ y.1 = -1 then Lib.compareBytes x.2.2 y.2.2
  else if x.1 = -1 then 1 else if y.1 = -1 then -1
  else if x.1 ≠ y.1 then x.1 - y.1 else x.2.1 - y.2.1
theorem grow_two (w : World) (a b : Obj) : ∃ q os', (w.alloc a).alloc b = Sort.grow (w.drewN q) os' := ⟨0, #[a, b], by rw [Sort.alloc_eq_grow, Sort.alloc_eq_grow, Sort.grow_grow]; rfl⟩
abbrev thVal (t r : Int) (l : List UInt8) : Value := .agg #[.int .i64 t, .int .i64 r, .string ⟨l.toArray⟩]
section
variable {t r t' r' : Int} {l l' : List UInt8} {w : World}
set_option maxHeartbeats 2000000 in
set_option maxRecDepth 100000 in
theorem standP (h1 : -1 ≤ t) (h2 : t ≤ 15) (h3 : 0 ≤ r) (h4 : r ≤ 31) (h1' : -1 ≤ t') (h2' : t' ≤ 15) (h3' : 0 ≤ r') (h4' : r' ≤ 31) :
    Calls Tryz.prog 156 #[thVal t r l, thVal t' r' l'] w fun e w' => e = .returned (.int .i64 (standC (t, r, l) (t', r', l'))) ∧ ∃ q os', w' = Sort.grow (w.drewN q) os' := by
  have HG := Lib.hid (grow_two w (.cells #[.int .i64 t, .int .i64 r, .string ⟨l.toArray⟩] 25 (0, 0)) (.cells #[.int .i64 t', .int .i64 r', .string ⟨l'.toArray⟩] 25 (0, 0)))
  by_cases ha : t = -1
  · subst ha
    by_cases hb : t' = -1
    · subst hb
      have HV := Lib.hid (show standC (-1, r, l) (-1, r', l') = Lib.compareBytes l l' by simp [standC])
      go_enter Tryz.func156, Tryz.ntmps156
      go_wp2_with (go_at_call 230; refine (compare_c _ _ _).mono ?_; rintro e w' ⟨rfl, rfl⟩)
      go_ret
      exact ⟨ret_int HV.out.symm, HG.out⟩
    · have hb' : (t' == -1) = false := by simpa using hb
      have HV := Lib.hid (show standC (-1, r, l) (t', r', l') = 1 by simp [standC, hb])
      clear hb
      go_enter Tryz.func156, Tryz.ntmps156
      go_wp2_with fail
      go_ret
      exact ⟨ret_int HV.out.symm, HG.out⟩
  · have ha' : (t == -1) = false := by simpa using ha
    by_cases hb : t' = -1
    · subst hb
      have HV := Lib.hid (show standC (t, r, l) (-1, r', l') = -1 by simp [standC, ha])
      clear ha
      go_enter Tryz.func156, Tryz.ntmps156
      go_wp2_with fail
      go_ret
      exact ⟨ret_int HV.out.symm, HG.out⟩
    · have hb' : (t' == -1) = false := by simpa using hb
      by_cases hc : t = t'
      · subst hc
        have HV := Lib.hid (show standC (t, r, l) (t, r', l') = r - r' by simp [standC, ha])
        clear ha hb
        go_enter Tryz.func156, Tryz.ntmps156
        go_wp2_with fail
        go_ret
        exact ⟨ret_int HV.out.symm, HG.out⟩
      · have HV := Lib.hid (show standC (t, r, l) (t', r', l') = t - t' by simp [standC, ha, hb, hc])
        have hc' : (t == t') = false := by simpa using hc
        have hc'' : (t != t') = true := by simpa using hc
        clear ha hb hc
        go_enter Tryz.func156, Tryz.ntmps156
        go_wp2_with fail
        go_ret
        exact ⟨ret_int HV.out.symm, HG.out⟩
end

/-- A thing that may be. -/
def VTh : Type := {x : Th // thingB 2 x.1 x.2.1 x.2.2 = true}
theorem cmpB_irr : ∀ a, Lib.compareBytes a a = 0
  | [] => rfl
  | x :: r => by simp [Lib.compareBytes, cmpB_irr r]
theorem cmpB_lt (x y : UInt8) (r q : List UInt8) : Lib.compareBytes (x :: r) (y :: q) < 0 ↔ x.toNat < y.toNat ∨ (x.toNat = y.toNat ∧ Lib.compareBytes r q < 0) := by
  simp only [Lib.compareBytes, UInt8.lt_iff_toNat_lt]
  by_cases h1 : x.toNat < y.toNat
  · simp [h1]
  · by_cases h2 : y.toNat < x.toNat
    · simp only [if_neg h1, if_pos h2]
      omega
    · simp only [if_neg h1, if_neg h2]
      omega
theorem cmpB_trans : ∀ a b c, Lib.compareBytes a b < 0 → Lib.compareBytes b c < 0 → Lib.compareBytes a c < 0
  | [], [], _, h, _ => by simp [Lib.compareBytes] at h
  | [], _ :: _, [], _, h => by simp [Lib.compareBytes] at h
  | [], _ :: _, _ :: _, _, _ => by simp [Lib.compareBytes]
  | _ :: _, [], _, h, _ => by simp [Lib.compareBytes] at h
  | _ :: _, _ :: _, [], _, h => by simp [Lib.compareBytes] at h
  | x :: a, y :: b, z :: c, h, k => by
    rw [cmpB_lt] at h k ⊢
    have ih := cmpB_trans a b c
    rcases h with h | ⟨h, h'⟩ <;> rcases k with k | ⟨k, k'⟩
    · left; omega
    · left; omega
    · left; omega
    · exact .inr ⟨by omega, ih h' k'⟩
theorem cmpB_ntrans : ∀ a b c, ¬ Lib.compareBytes a b < 0 → ¬ Lib.compareBytes b c < 0 → ¬ Lib.compareBytes a c < 0
  | [], [], _, _, k => k
  | [], _ :: _, _, h, _ => by simp [Lib.compareBytes] at h
  | _ :: _, _, [], _, _ => by simp [Lib.compareBytes]
  | _ :: _, [], _ :: _, _, k => by simp [Lib.compareBytes] at k
  | x :: a, y :: b, z :: c, h, k => by
    rw [cmpB_lt] at h k ⊢
    have ih := cmpB_ntrans a b c
    rintro (h1 | ⟨h1, h2⟩)
    · exact absurd h1 (by omega)
    · by_cases h3 : x.toNat = y.toNat
      · have a1 : ¬ Lib.compareBytes a b < 0 := fun e => h (.inr ⟨h3, e⟩)
        have a2 : ¬ Lib.compareBytes b c < 0 := fun e => k (.inr ⟨by omega, e⟩)
        exact ih a1 a2 h2
      · omega
theorem cmpB_eq : ∀ a b, ¬ Lib.compareBytes a b < 0 → ¬ Lib.compareBytes b a < 0 → a = b
  | [], [], _, _ => rfl
  | [], _ :: _, h, _ => by simp [Lib.compareBytes] at h
  | _ :: _, [], _, h => by simp [Lib.compareBytes] at h
  | x :: r, y :: q, h, k => by
    rw [cmpB_lt] at h k
    have he : x.toNat = y.toNat := by omega
    have h1 : ¬ Lib.compareBytes r q < 0 := fun e => h (.inr ⟨he, e⟩)
    have k1 : ¬ Lib.compareBytes q r < 0 := fun e => k (.inr ⟨he.symm, e⟩)
    rw [UInt8.toNat_inj.1 he, cmpB_eq r q h1 k1]
theorem vth_parts (x : VTh) : (x.1.1 = -1 ∧ x.1.2.1 = 0 ∧ x.1.2.2.length ≤ 32) ∨ (0 ≤ x.1.1 ∧ x.1.1 < 16 ∧ 0 ≤ x.1.2.1 ∧ x.1.2.1 < 32 ∧ x.1.2.2 = []) := by
  have h := x.2
  unfold thingB at h
  split at h
  · rename_i h1
    simp at h
    refine .inl ⟨h1, h.1, ?_⟩
    have h2 := h.2
    revert h2
    cases x.1.2.2 with
    | nil => simp
    | cons c r => simp [nameB]; omega
  · simp [regs] at h
    exact .inr ⟨h.1.1.1.1, h.1.1.1.2, h.1.1.2, h.1.2, h.2⟩
def ltT (x y : VTh) : Bool := decide (standC x.1 y.1 < 0)
theorem ltT_iff (x y : VTh) : ltT x y = true ↔ (x.1.1 = -1 ∧ y.1.1 = -1 ∧ Lib.compareBytes x.1.2.2 y.1.2.2 < 0) ∨ (x.1.1 ≠ -1 ∧ y.1.1 = -1) ∨ (x.1.1 ≠ -1 ∧ y.1.1 ≠ -1 ∧ (x.1.1 < y.1.1 ∨ (x.1.1 = y.1.1 ∧ x.1.2.1 < y.1.2.1))) := by
  unfold ltT
  rw [decide_eq_true_iff]
  unfold standC
  by_cases h1 : x.1.1 = -1 <;> by_cases h2 : y.1.1 = -1
  · simp [h1, h2]
  · simp [h1, h2]
  · simp [h1, h2]
  · by_cases h3 : x.1.1 = y.1.1
    · simp [h2, h3]; omega
    · simp [h1, h2, h3]; omega
theorem ltT_swo : Sort.SWO ltT where
  irrefl x := by
    rw [Bool.eq_false_iff]
    intro h
    rw [ltT_iff] at h
    have := cmpB_irr x.1.2.2
    omega
  trans x y z h k := by
    rw [ltT_iff] at h k ⊢
    have ht := cmpB_trans x.1.2.2 y.1.2.2 z.1.2.2
    rcases h with ⟨a, b, c⟩ | ⟨a, b⟩ | ⟨a, b, c⟩ <;> rcases k with ⟨a', b', c'⟩ | ⟨a', b'⟩ | ⟨a', b', c'⟩
    · exact .inl ⟨a, b', ht c c'⟩
    all_goals omega
  ntrans x y z h k := by
    rw [Bool.eq_false_iff] at h k ⊢
    rw [Ne, ltT_iff] at h k ⊢
    have ht := cmpB_ntrans x.1.2.2 y.1.2.2 z.1.2.2
    intro hh
    rcases hh with ⟨a, b, c⟩ | ⟨a, b⟩ | ⟨a, b, c⟩
    · by_cases hy : y.1.1 = -1
      · exact ht (fun e => h (.inl ⟨a, hy, e⟩)) (fun e => k (.inl ⟨hy, b, e⟩)) c
      · exact k (.inr (.inl ⟨hy, b⟩))
    · by_cases hy : y.1.1 = -1
      · exact h (.inr (.inl ⟨a, hy⟩))
      · exact k (.inr (.inl ⟨hy, b⟩))
    · by_cases hy : y.1.1 = -1
      · exact h (.inr (.inl ⟨a, hy⟩))
      · have h' : ¬ (x.1.1 < y.1.1 ∨ (x.1.1 = y.1.1 ∧ x.1.2.1 < y.1.2.1)) := fun e => h (.inr (.inr ⟨a, hy, e⟩))
        have k' : ¬ (y.1.1 < z.1.1 ∨ (y.1.1 = z.1.1 ∧ y.1.2.1 < z.1.2.1)) := fun e => k (.inr (.inr ⟨hy, b, e⟩))
        omega
theorem ltT_total (x y : VTh) (h : ltT x y = false) (k : ltT y x = false) : x = y := by
  rw [Bool.eq_false_iff, Ne, ltT_iff] at h k
  have hx := vth_parts x
  have hy := vth_parts y
  apply Subtype.ext
  have h1 : x.1.1 = y.1.1 := by omega
  have h2 : x.1.2.1 = y.1.2.1 := by omega
  have h3 : x.1.2.2 = y.1.2.2 := by
    by_cases hl : x.1.1 = -1
    · exact cmpB_eq _ _ (fun e => h (.inl ⟨hl, by omega, e⟩)) (fun e => k (.inl ⟨by omega, hl, e⟩))
    · rcases hx with hx | hx
      · exact absurd hx.1 hl
      · rcases hy with hy | hy
        · omega
        · rw [hx.2.2.2.2, hy.2.2.2.2]
  obtain ⟨⟨a, b, c⟩, _⟩ := x
  obtain ⟨⟨a', b', c'⟩, _⟩ := y
  simp only at h1 h2 h3
  subst h1 h2 h3
  rfl

theorem struct_thing : Tryz.prog.underlying 25 = some (.struct (Tryz.prog.fieldsOf 25)) := by kernel_rfl
theorem guard_thing : Tryz.prog.eqGuardType Tryz.prog.depth 25 = false := by kernel_rfl
theorem eql_thing (x y : Th) (w : World) : (binOp .eql 25 (thVal x.1 x.2.1 x.2.2) (thVal y.1 y.2.1 y.2.2)).run Tryz.prog w = .ok (.bool (decide (x = y))) w := by
  have hp : Tryz.prog.stoodInHeld 25 = false := by kernel_rfl
  have u3 := Tryz.underlying3
  have a3 := Tryz.isAgg3
  have z3 := Tryz.sizeOf3
  have u9 := Tryz.underlying9
  have a9 := Tryz.isAgg9
  have z9 := Tryz.sizeOf9
  obtain ⟨t, r, l⟩ := x
  obtain ⟨t', r', l'⟩ := y
  rw [run_eql_struct, show (10000 : Nat) = 9999 + 1 from rfl, run_equalIn_agg w 9999 25 _ _ struct_thing hp]
  simp only [Program.fieldsOf, Tryz.underlying25]
  go_simp
  by_cases h1 : t = t' <;> by_cases h2 : r = r' <;> by_cases h3 : l = l' <;> simp [h1, h2, h3]
section
variable {w : World}
end
end Go.Proofs.YtoegmdnfbemppaaGreatDoor
