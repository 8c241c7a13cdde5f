/- Layer 8: the things of a condition: atoms, and what they are handed to. -/
import Derived.Test.YtjhafgnmahhacaaGreatDoorTe06
import Derived.ArgAppend
import Derived.Shelf.Strings.Builder1
import Derived.Shelf.Strings.Trim
import Derived.Shelf.Small.Utf8
import Derived.Shelf.Small.Bits
import Derived.Shelf.Small.Strs
import Derived.Shelf.Strconv.Itoa0
import Derived.Shelf.Strconv.Itoa1
import Derived.Shelf.LaysM
import Derived.Shelf.Strconv.Itoa2
import Derived.Shelf.Strconv.Itoa3
import Derived.Shelf.Strings.Search1
import Derived.Shelf.Sort.Plain
import Derived.Shelf.Unicode.Decode
import Derived.Shelf.Strings.Runes
import Derived.Shelf.Strings.AsciiSet
import Derived.Shelf.Unicode.DecodeSlow
import Derived.Shelf.Unicode.DecodeAny
import Derived.Shelf.Unicode.DecodeLast
import Derived.Ground.Names2Prog
import Derived.Shelf.Slices.Clone
import Derived.Shelf.Slices.CompactS
import Derived.Shelf.Slices.Cells
import Derived.Shelf.Slices.In.SortNone
import Derived.Ground.SlgnProg
import Derived.Shelf.SlicesE.Clone
import Derived.Shelf.Strings.SlTrimAscii
namespace Go.Proofs.YtjhafgnmahhacaaGreatDoor
open Go.RowKit
abbrev Th := Int × Int × List UInt8
def thCs (x : Th) : List Value := [.int .i64 x.1, .int .i64 x.2.1, .string ⟨x.2.2.toArray⟩]
def thCells : List Th → List Value
  | [] => []
  | x :: r => thCs x ++ thCells r
theorem thCells_len : ∀ l, (thCells l).length = l.length * 3
  | [] => rfl
  | _ :: r => by simp [thCells, thCs, thCells_len r]; omega
theorem thCells_snoc : ∀ l (x : Th), thCells (l ++ [x]) = thCells l ++ thCs x
  | [], x => by simp [thCells]
  | _ :: r, x => by simp [thCells, thCells_snoc r x]
def atL (k t r : Int) (l : List UInt8) : List Th := if k = 2 then [(t, r, l)] else []
/-- The atoms' things, in the order of the text. -/
def atomsF : Fr → List Th
  | .nil => []
  | .cons k t r l _ kids rest => atL k t r l ++ atomsF kids ++ atomsF rest
def Fr.all : Fr → Nat
  | .nil => 0
  | .cons _ _ _ _ _ kids rest => 1 + kids.all + rest.all
theorem atomsF_len : ∀ f, (atomsF f).length ≤ f.all
  | .nil => by simp [atomsF, Fr.all]
  | .cons k t r l _ kids rest => by
    have h1 := atomsF_len kids
    have h2 := atomsF_len rest
    have h3 : (atL k t r l).length ≤ 1 := by unfold atL; split <;> simp
    simp [atomsF, Fr.all]; omega
/-- The captured list: its cell bl, its row behind it. -/
def Acc (w : World) (bl : Nat) (L : List Th) : Prop := ∃ v, Blk w bl 38 #[v] ∧ w.ownsRow (bl + 1) 25 3 v L.length (thCells L)
theorem infoThing : (Tryz.prog.info? 25).map (fun i => (i.zero, i.size, i.bytes)) = some (some (.agg #[.int .i64 0, .int .i64 0, .string ⟨#[]⟩]), 3, 32) := by kernel_rfl
theorem Acc.lt {w : World} {bl : Nat} {L : List Th} (h : Acc w bl L) : bl < w.heap.size := by
  obtain ⟨v, h1, _⟩ := h
  exact h1.lt
theorem Acc.below {w w' : World} {bl : Nat} {L : List Th} (h : Acc w bl L) (hb : Below w.heap.size w w') : Acc w' bl L := by
  obtain ⟨v, h1, h2⟩ := h
  exact ⟨v, h1.go hb, h2.kept (row := some w.heap.size) ⟨hb.os, hb.tape, hb.output, hb.size, fun i hi _ => hb.block i hi⟩ (.inr fun e => by have := (h2.lt _ e).2; omega)⟩
theorem Acc.fresh {w : World} {bl : Nat} {L : List Th} (h : Acc w bl L) (o : Obj) : ∀ u, Blk (w.alloc o) bl 38 #[u] → u.ownBlock ≠ some w.heap.size := by
  obtain ⟨v, h1, h2⟩ := h
  intro u hu e
  have h3 := h1.alloc o
  unfold Blk at hu h3
  rw [h3] at hu
  simp only [Option.some.injEq, Obj.cells.injEq, Array.mk.injEq, List.cons.injEq, and_true] at hu
  subst hu
  have := (h2.lt _ e).2
  omega
theorem own_shape {w : World} {B : Nat} {t : TypeId} {z n : Nat} {v : Value} {cs : List Value} (h : w.ownsRow B t z v n cs) : ∃ A cap, v = .slice A n cap := by
  rcases h.2 with ⟨rfl, rfl⟩ | ⟨g, cap, cur, rfl, _⟩
  · exact ⟨none, 0, rfl⟩
  · exact ⟨_, _, rfl⟩
theorem own_keep' {w w' : World} {B : Nat} {t : TypeId} {z n : Nat} {v : Value} {cs : List Value} (h : w.ownsRow B t z v n cs) (hk : ∀ b, v.ownBlock = some b → w'.heap[b]? = w.heap[b]?) : w'.ownsRow B t z v n cs := by
  obtain ⟨h1, h2⟩ := h
  refine ⟨h1, ?_⟩
  rcases h2 with h2 | ⟨g, cap, cur, rfl, h3, h4, h5⟩
  · exact .inl h2
  · exact .inr ⟨g, cap, cur, rfl, h3, (hk g rfl).trans h4, h5⟩
section
variable {w : World} {bl : Nat} {L : List Th} {k t r v : Int} {l : List UInt8} {A : Option Addr} {n cap : Nat}
set_option maxHeartbeats 2000000 in
set_option maxRecDepth 100000 in
theorem askP (h : Acc w bl L) (hlen : L.length ≤ 1000000) :
    Calls Tryz.prog 202 #[nodeV k t r l v (.slice A n cap), .pointer (some ⟨bl, 0, none⟩)] w fun e w' => e = .returned (.tuple #[]) ∧ Acc w' bl (L ++ [(t, r, l)]) ∧ Below bl w w' ∧
      ∀ i, i < w.heap.size → i ≠ bl → (∀ u, Blk w bl 38 #[u] → u.ownBlock ≠ some i) → w'.heap[i]? = w.heap[i]? := by
  obtain ⟨i0, hi, hz0, hz1, hz2⟩ := info_parts infoThing
  obtain ⟨u, hbl, hown⟩ := h
  obtain ⟨Au, cu, rfl⟩ := own_shape hown
  have hlt := hbl.lt
  have HBL := Lib.hid hbl
  have HOW := Lib.hid hown
  have hB1 := hbl.alloc (.cells #[.int .i64 k, .int .i64 t, .int .i64 r, .string ⟨l.toArray⟩, .int .i64 v, .slice A n cap] 28 (0, 0))
  have c0 := hB1.cell 0
  have f0 := hB1.frozen 0
  have how2 := Lib.hid ((hown.alloc (.cells #[.int .i64 k, .int .i64 t, .int .i64 r, .string ⟨l.toArray⟩, .int .i64 v, .slice A n cap] 28 (0, 0))).alloc (.cells (thCs (t, r, l)).toArray 25 (0, 0)))
  clear hbl hown hB1
  go_enter Tryz.func202, Tryz.ntmps202
  go_wp2_with (at_builtin; refine wpList_append_own _ rfl _ _ 38 rfl (bl + 1) 25 i0 (.agg #[.int .i64 0, .int .i64 0, .string ⟨#[]⟩]) 3 32 Tryz.underlying38 hi hz0 hz1 hz2 rfl (by decide) _ _ _ rfl how2.out ⟨w.heap.size + 1, 0, none⟩ 1 1 (thCs (t, r, l)) rfl rfl ?c1 ?c2 ?c3 ?c4 ?c5 ?_)
  case c1 =>
    intro j u hj
    rw [show (⟨w.heap.size + 1, 0, none⟩ : Addr).add j = ⟨w.heap.size + 1, j, none⟩ by simp [Addr.add]; intro e; exact e.symm]
    have := cell_new (w.alloc (.cells #[.int .i64 k, .int .i64 t, .int .i64 r, .string ⟨l.toArray⟩, .int .i64 v, .slice A n cap] 28 (0, 0))) (thCs (t, r, l)).toArray 25 (0, 0) j
    simp only [World.size_alloc] at this
    exact this.trans (by simpa using hj)
  case c2 => intro u hu; simp [thCs] at hu; rcases hu with rfl | rfl | rfl <;> rfl
  case c3 => unfold maxLen; omega
  case c4 => omega
  case c5 => simp; omega
  intro v' w1 hown' hgrow _
  obtain ⟨Av, cv, rfl⟩ := own_shape hown'
  have hob : ∀ i, (Value.slice Au L.length cu).ownBlock = some i → bl + 1 ≤ i := fun i hi => (HOW.out.lt i hi).1
  have hk1 : ∀ i, i < w.heap.size → (Value.slice Au L.length cu).ownBlock ≠ some i → w1.heap[i]? = w.heap[i]? := fun i hi hne =>
    (hgrow.block i (by simp; omega) (fun e => hne e.symm)).trans ((Below.heap_alloc _ _ _ (by simp; omega)).trans (Below.heap_alloc _ _ _ hi))
  have hb1 : Blk w1 bl 38 #[.slice Au L.length cu] := (hk1 bl hlt (fun e => by have := hob bl e; omega)).trans HBL.out
  have hbel : Below bl w w1 := (Below.alloc (B := bl) (Below.alloc (B := bl) (Below.refl _ _) (by omega) (.cells #[.int .i64 k, .int .i64 t, .int .i64 r, .string ⟨l.toArray⟩, .int .i64 v, .slice A n cap] 28 (0, 0))) (by simp; omega) (.cells (thCs (t, r, l)).toArray 25 (0, 0))).grown hgrow (by simp; omega) (fun j hj => by have := hob j hj; omega)
  have HK1 := Lib.hid hk1
  have HB1 := Lib.hid hb1
  have HBE := Lib.hid hbel
  have HO1 := Lib.hid hown'
  have d0 := hb1.cell 0
  have e0 := hb1.frozen 0
  clear hown' hgrow hk1 hb1 hbel c0 f0
  go_wp2
  go_end0
  refine ⟨rfl, ⟨_, HB1.out.set_ 0 _, ?_⟩, HBE.out.setCell (p := ⟨bl, 0, none⟩) (Nat.le_refl _) _, fun i hi hne hv => ?_⟩
  · rw [thCells_snoc, List.length_append]
    refine own_keep' HO1.out fun j hj => Below.heap_setCell _ _ _ _ ?_
    have := (HO1.out.lt j hj).1
    dsimp only
    omega
  · rw [Below.heap_setCell _ _ _ _ hne]
    exact HK1.out i hi (hv _ HBL.out)
end
/-- What atoms does at one node. -/
def NodeA (k t r : Int) (l : List UInt8) (v : Int) (kids : Fr) : Prop :=
  ∀ (w : World) (bl hi : Nat) (kv : Value) (L : List Th), hi ≤ bl → Acc w bl L → SlAt w hi kv kids → l.length ≤ 9223372036854775807 → L.length + 1 + kids.all ≤ 1000000 →
    Calls Tryz.prog 201 #[nodeV k t r l v kv, .func (.func 202) #[] #[.pointer (some ⟨bl, 0, none⟩)]] w fun e w' =>
      e = .returned (.tuple #[]) ∧ Acc w' bl (L ++ (atL k t r l ++ atomsF kids)) ∧ Below bl w w'
def AllA : Fr → Prop
  | .nil => True
  | .cons k t r l v kids rest => NodeA k t r l v kids ∧ AllA rest
theorem AllA.at_ : ∀ (f : Fr) (j : Nat) {k t r : Int} {l : List UInt8} {v : Int} {kids rest : Fr}, AllA f → f.drop j = .cons k t r l v kids rest → NodeA k t r l v kids
  | .nil, 0, _, _, _, _, _, _, _, _, h => by cases h
  | .nil, _ + 1, _, _, _, _, _, _, _, _, h => by cases h
  | .cons _ _ _ _ _ _ _, 0, _, _, _, _, _, _, _, h, e => by cases e; exact h.1
  | .cons _ _ _ _ _ _ rest, j + 1, _, _, _, _, _, _, _, h, e => AllA.at_ rest j h.2 e
section
variable {k t r v : Int} {l : List UInt8} {kids : Fr}
set_option maxHeartbeats 2000000 in
set_option maxRecDepth 100000 in
theorem nodeA_step (hk : AllA kids) : NodeA k t r l v kids := by
  intro w bl hi kv L hhi hacc hs hl hlen
  obtain ⟨A, cap, rfl, s1, s2, s3⟩ := hs
  have S3 := Lib.hid s3
  have HK := Lib.hid hk
  have hlt := hacc.lt
  have HB0 := Lib.hid (Blk.new w 28 #[.int .i64 k, .int .i64 t, .int .i64 r, .string ⟨l.toArray⟩, .int .i64 v, .slice A kids.len cap])
  have HA0 := Lib.hid (hacc.below (alloc_b w (.cells #[.int .i64 k, .int .i64 t, .int .i64 r, .string ⟨l.toArray⟩, .int .i64 v, .slice A kids.len cap] 28 (0, 0))))
  have hbe : Below bl w (w.alloc (.cells #[.int .i64 k, .int .i64 t, .int .i64 r, .string ⟨l.toArray⟩, .int .i64 v, .slice A kids.len cap] 28 (0, 0))) := (alloc_b w _).mono (Nat.le_of_lt hlt)
  have HBE := Lib.hid hbe
  have HFR := Lib.hid (fun o => hacc.fresh (o := o))
  clear s3 hk hacc hbe
  by_cases h2 : k = 2
  · subst h2
    have HT := Lib.hid (show atL 2 t r l = [(t, r, l)] by simp [atL])
    go_enter Tryz.func201, Tryz.ntmps201
    go_wp2_with (go_at_call 202; refine (askP HA0.out (by omega)).mono ?_; rintro e w1 ⟨rfl, ha1, hb1, hk1⟩; have hB1 : Blk w1 w.heap.size 28 #[.int .i64 2, .int .i64 t, .int .i64 r, .string ⟨l.toArray⟩, .int .i64 v, .slice A kids.len cap] := (hk1 _ (by simp) (by omega) (HFR.out _)).trans HB0.out; have c3 := hB1.cell 5)
    have HA1 := Lib.hid ha1
    have HB1 := Lib.hid (HBE.out.trans hb1)
    have hs1 := hb1.size
    simp at hs1
    clear ha1 hb1 hk1 hB1 c3
    go_loopw [15] (fun i wr => ∃ (j : Nat) (M : List Th), j ≤ kids.len ∧ i = .int .i64 j ∧ Acc wr bl M ∧ M ++ atomsF (kids.drop j) = (L ++ [(t, r, l)]) ++ atomsF kids ∧ M.length + (kids.drop j).all ≤ (L ++ [(t, r, l)]).length + kids.all ∧ Below bl w wr) (fun i _ => kids.len - (intOf i).toNat)
    case atStart => exact ⟨0, (L ++ [(t, r, l)]), Nat.zero_le _, rfl, HA1.out, by rw [show kids.drop 0 = kids by cases kids <;> rfl], by rw [show kids.drop 0 = kids by cases kids <;> rfl]; exact Nat.le_refl _, HB1.out⟩
    case round =>
      obtain ⟨j, M, hj, rfl, hacc, hM, hML, hbr⟩ := hrel
      have HAC := Lib.hid hacc
      have HMM := Lib.hid hM
      have HBR := Lib.hid hbr
      have hltr := hacc.lt
      have hlz : M.length + (kids.drop j).all ≤ L.length + 1 + kids.all := by
        try simp only [List.length_append, List.length_cons, List.length_nil] at hML
        omega
      have HML := Lib.hid hML
      clear hM hacc hbr hML
      by_cases hlt : j < kids.len
      · obtain ⟨b, o, rfl, hb, hrow⟩ := S3.out (by omega)
        obtain ⟨k', t', r', l', v', kids', rest', hdr⟩ := kids.drop_lt j hlt
        have hrow' := RowAt.keep (w' := wr) (fun b o hb => HBR.out.cell (p := ⟨b, o, none⟩) (show b < bl by omega)) kids b o hb hrow
        have hat := RowAt.at_ kids b o j hrow'
        rw [hdr] at hat
        obtain ⟨kv', q0, q1, q2, q3, q4, q5, hl', hsl'⟩ := hat.head
        obtain ⟨A', cap', rfl, hsl''⟩ := hsl'
        have hsl3 : SlAt wr hi (.slice A' kids'.len cap') kids' := ⟨A', cap', rfl, hsl''⟩
        have HSL := Lib.hid (hsl3.keep (w' := wr.alloc (.cells #[.int .i64 k', .int .i64 t', .int .i64 r', .string ⟨l'.toArray⟩, .int .i64 v', .slice A' kids'.len cap'] 28 (0, 0))) (fun b o hb => (alloc_b wr _).cell (p := ⟨b, o, none⟩) (show b < wr.heap.size by omega)))
        have HC := Lib.hid (AllA.at_ kids j HK.out hdr)
        have HNX := Lib.hid (kids.drop_next j hdr)
        have hall : (kids.drop j).all = 1 + kids'.all + rest'.all := by rw [hdr]; rfl
        have HAF := Lib.hid (show atomsF (kids.drop j) = atL k' t' r' l' ++ atomsF kids' ++ atomsF rest' by rw [hdr]; rfl)
        have hat1 : (atL k' t' r' l').length ≤ 1 := by unfold atL; split <;> simp
        have haf1 := atomsF_len kids'
        have HAC2 := Lib.hid (HAC.out.below (alloc_b wr (.cells #[.int .i64 k', .int .i64 t', .int .i64 r', .string ⟨l'.toArray⟩, .int .i64 v', .slice A' kids'.len cap'] 28 (0, 0))))
        have HBR2 := Lib.hid (HBR.out.trans ((alloc_b wr (.cells #[.int .i64 k', .int .i64 t', .int .i64 r', .string ⟨l'.toArray⟩, .int .i64 v', .slice A' kids'.len cap'] 28 (0, 0))).mono (Nat.le_of_lt hltr)))
        clear hrow hrow' hat hsl'' hsl3 hdr
        go_wp2_with (go_at_call 201; refine (HC.out _ bl hi _ M hhi HAC2.out HSL.out hl' (by omega)).mono ?_; rintro e w2 ⟨rfl, ha2, hb2⟩)
        go_roundw
        case rel => exact ⟨j + 1, _, by omega, by go_num, ha2, by rw [HNX.out, ← HMM.out, HAF.out]; simp, by have := HML.out; rw [HNX.out]; simp only [List.length_append] at this ⊢; omega, HBR2.out.trans hb2⟩
        case measure => simp [intOf]; omega
      · have HFIN := Lib.hid (show M = (L ++ [(t, r, l)]) ++ atomsF kids by have := HMM.out; rw [Fr.drop_ge kids j (by omega)] at this; simpa [atomsF] using this)
        go_wp2_with fail
        go_end0
        exact ⟨rfl, by rw [HT.out]; have := HAC.out; rw [HFIN.out] at this; simpa using this, HBR.out⟩
  · have HT := Lib.hid (show atL k t r l = [] by simp [atL, h2])
    have h2' : (k == 2) = false := by simpa using h2
    clear h2
    go_enter Tryz.func201, Tryz.ntmps201
    go_wp2_with fail
    have hs1 : w.heap.size + 1 ≤ (w.alloc (.cells #[.int .i64 k, .int .i64 t, .int .i64 r, .string ⟨l.toArray⟩, .int .i64 v, .slice A kids.len cap] 28 (0, 0))).heap.size := by simp
    have HA1 := HA0
    have HB1 := HBE
    go_loopw [15] (fun i wr => ∃ (j : Nat) (M : List Th), j ≤ kids.len ∧ i = .int .i64 j ∧ Acc wr bl M ∧ M ++ atomsF (kids.drop j) = L ++ atomsF kids ∧ M.length + (kids.drop j).all ≤ L.length + kids.all ∧ Below bl w wr) (fun i _ => kids.len - (intOf i).toNat)
    case atStart => exact ⟨0, L, Nat.zero_le _, rfl, HA1.out, by rw [show kids.drop 0 = kids by cases kids <;> rfl], by rw [show kids.drop 0 = kids by cases kids <;> rfl]; exact Nat.le_refl _, HB1.out⟩
    case round =>
      obtain ⟨j, M, hj, rfl, hacc, hM, hML, hbr⟩ := hrel
      have HAC := Lib.hid hacc
      have HMM := Lib.hid hM
      have HBR := Lib.hid hbr
      have hltr := hacc.lt
      have hlz : M.length + (kids.drop j).all ≤ L.length + 1 + kids.all := by
        try simp only [List.length_append, List.length_cons, List.length_nil] at hML
        omega
      have HML := Lib.hid hML
      clear hM hacc hbr hML
      by_cases hlt : j < kids.len
      · obtain ⟨b, o, rfl, hb, hrow⟩ := S3.out (by omega)
        obtain ⟨k', t', r', l', v', kids', rest', hdr⟩ := kids.drop_lt j hlt
        have hrow' := RowAt.keep (w' := wr) (fun b o hb => HBR.out.cell (p := ⟨b, o, none⟩) (show b < bl by omega)) kids b o hb hrow
        have hat := RowAt.at_ kids b o j hrow'
        rw [hdr] at hat
        obtain ⟨kv', q0, q1, q2, q3, q4, q5, hl', hsl'⟩ := hat.head
        obtain ⟨A', cap', rfl, hsl''⟩ := hsl'
        have hsl3 : SlAt wr hi (.slice A' kids'.len cap') kids' := ⟨A', cap', rfl, hsl''⟩
        have HSL := Lib.hid (hsl3.keep (w' := wr.alloc (.cells #[.int .i64 k', .int .i64 t', .int .i64 r', .string ⟨l'.toArray⟩, .int .i64 v', .slice A' kids'.len cap'] 28 (0, 0))) (fun b o hb => (alloc_b wr _).cell (p := ⟨b, o, none⟩) (show b < wr.heap.size by omega)))
        have HC := Lib.hid (AllA.at_ kids j HK.out hdr)
        have HNX := Lib.hid (kids.drop_next j hdr)
        have hall : (kids.drop j).all = 1 + kids'.all + rest'.all := by rw [hdr]; rfl
        have HAF := Lib.hid (show atomsF (kids.drop j) = atL k' t' r' l' ++ atomsF kids' ++ atomsF rest' by rw [hdr]; rfl)
        have hat1 : (atL k' t' r' l').length ≤ 1 := by unfold atL; split <;> simp
        have haf1 := atomsF_len kids'
        have HAC2 := Lib.hid (HAC.out.below (alloc_b wr (.cells #[.int .i64 k', .int .i64 t', .int .i64 r', .string ⟨l'.toArray⟩, .int .i64 v', .slice A' kids'.len cap'] 28 (0, 0))))
        have HBR2 := Lib.hid (HBR.out.trans ((alloc_b wr (.cells #[.int .i64 k', .int .i64 t', .int .i64 r', .string ⟨l'.toArray⟩, .int .i64 v', .slice A' kids'.len cap'] 28 (0, 0))).mono (Nat.le_of_lt hltr)))
        clear hrow hrow' hat hsl'' hsl3 hdr
        go_wp2_with (go_at_call 201; refine (HC.out _ bl hi _ M hhi HAC2.out HSL.out hl' (by omega)).mono ?_; rintro e w2 ⟨rfl, ha2, hb2⟩)
        go_roundw
        case rel => exact ⟨j + 1, _, by omega, by go_num, ha2, by rw [HNX.out, ← HMM.out, HAF.out]; simp, by have := HML.out; rw [HNX.out]; simp only [List.length_append] at this ⊢; omega, HBR2.out.trans hb2⟩
        case measure => simp [intOf]; omega
      · have HFIN := Lib.hid (show M = L ++ atomsF kids by have := HMM.out; rw [Fr.drop_ge kids j (by omega)] at this; simpa [atomsF] using this)
        go_wp2_with fail
        go_end0
        exact ⟨rfl, by rw [HT.out]; have := HAC.out; rw [HFIN.out] at this; simpa using this, HBR.out⟩
theorem allA : ∀ f, AllA f
  | .nil => trivial
  | .cons _ _ _ _ _ kids rest => ⟨nodeA_step (allA kids), allA rest⟩
theorem nodeA_all : NodeA k t r l v kids := nodeA_step (allA kids)
end
end Go.Proofs.YtjhafgnmahhacaaGreatDoor
namespace Go.Proofs
open Go.Shelf
def Tryz.lays160_ren : Go.Shelf.Ren := ⟨fun | 160 => 124 | 232 => 188 | 231 => 187 | 227 => 189 | 234 => 191 | 233 => 190 | 236 => 193 | 235 => 192 | 228 => 258 | 271 => 261 | 151 => 260 | 197 => 259 | 120 => 307 | 152 => 306 | 260 => 305 | 137 => 347 | 119 => 348 | 224 => 349 | 225 => 350 | 217 => 366 | 266 => 373 | n => n, fun | 9 => 9 | 4 => 4 | 3 => 3 | 5 => 5 | 117 => 274 | 116 => 273 | 0 => 0 | 124 => 277 | 21 => 21 | 105 => 320 | 46 => 208 | 119 => 380 | 139 => 383 | 138 => 382 | n => n, fun | 3 => 1 | 4 => 2 | n => n⟩
theorem Tryz.lays160 : Go.Proofs.Lays.n160 Tryz.prog Tryz.lays160_ren := {
  mixed := by kernel_rfl
  f119 := Tryz.func348.trans (congrArg some (by kernel_rfl))
  f120 := Tryz.func307.trans (congrArg some (by kernel_rfl))
  f137 := Tryz.func347.trans (congrArg some (by kernel_rfl))
  f151 := Tryz.func260.trans (congrArg some (by kernel_rfl))
  f152 := Tryz.func306.trans (congrArg some (by kernel_rfl))
  f160 := Tryz.func124.trans (congrArg some (by kernel_rfl))
  f197 := Tryz.func259.trans (congrArg some (by kernel_rfl))
  f217 := Tryz.func366.trans (congrArg some (by kernel_rfl))
  f224 := Tryz.func349.trans (congrArg some (by kernel_rfl))
  f225 := Tryz.func350.trans (congrArg some (by kernel_rfl))
  f227 := Tryz.func189.trans (congrArg some (by kernel_rfl))
  f228 := Tryz.func258.trans (congrArg some (by kernel_rfl))
  f231 := Tryz.func187.trans (congrArg some (by kernel_rfl))
  f232 := Tryz.func188.trans (congrArg some (by kernel_rfl))
  f233 := Tryz.func190.trans (congrArg some (by kernel_rfl))
  f234 := Tryz.func191.trans (congrArg some (by kernel_rfl))
  f235 := Tryz.func192.trans (congrArg some (by kernel_rfl))
  f236 := Tryz.func193.trans (congrArg some (by kernel_rfl))
  f260 := Tryz.func305.trans (congrArg some (by kernel_rfl))
  f266 := Tryz.func373.trans (congrArg some (by kernel_rfl))
  f271 := Tryz.func261.trans (congrArg some (by kernel_rfl))
  t0 := Tryz.underlying0
  a0 := Tryz.isAgg0
  z0 := Tryz.sizeOf0
  v0 := Tryz.zeroValue0
  t3 := Tryz.underlying3
  a3 := Tryz.isAgg3
  z3 := Tryz.sizeOf3
  v3 := Tryz.zeroValue3
  t4 := Tryz.underlying4
  a4 := Tryz.isAgg4
  z4 := Tryz.sizeOf4
  v4 := Tryz.zeroValue4
  t5 := Tryz.underlying5
  a5 := Tryz.isAgg5
  z5 := Tryz.sizeOf5
  v5 := Tryz.zeroValue5
  t9 := Tryz.underlying9
  a9 := Tryz.isAgg9
  z9 := Tryz.sizeOf9
  v9 := Tryz.zeroValue9
  t21 := Tryz.underlying21
  a21 := Tryz.isAgg21
  z21 := Tryz.sizeOf21
  v21 := Tryz.zeroValue21
  t46 := Tryz.underlying208
  a46 := Tryz.isAgg208
  z46 := Tryz.sizeOf208
  v46 := Tryz.zeroValue208
  t105 := Tryz.underlying320
  a105 := Tryz.isAgg320
  z105 := Tryz.sizeOf320
  v105 := Tryz.zeroValue320
  t116 := Tryz.underlying273
  a116 := Tryz.isAgg273
  z116 := Tryz.sizeOf273
  t117 := Tryz.underlying274
  a117 := Tryz.isAgg274
  z117 := Tryz.sizeOf274
  v117 := Tryz.zeroValue274
  t119 := Tryz.underlying380
  a119 := Tryz.isAgg380
  z119 := Tryz.sizeOf380
  t124 := Tryz.underlying277
  a124 := Tryz.isAgg277
  z124 := Tryz.sizeOf277
  v124 := Tryz.zeroValue277
  t138 := Tryz.underlying382
  a138 := Tryz.isAgg382
  z138 := Tryz.sizeOf382
  v138 := Tryz.zeroValue382
  t139 := Tryz.underlying383
  a139 := Tryz.isAgg383
  z139 := Tryz.sizeOf383
  v139 := Tryz.zeroValue383
  g3 := by kernel_rfl
  g4 := by kernel_rfl }
open Go.RowKit in
/-- strings.Trim: "Trim returns a slice of the string s with all leading and trailing Unicode code points contained in cutset removed.": AT A cutset OF ONE ASCII BYTE. THE WORLD BEHIND IT: as it was, or (where s is not empty) with ONE DRAW MORE off the tape: the statement 'return trimLeftByte(trimRightByte(s, c), c)' draws its order of evaluation. (LAID: no walk: one application.) -/
theorem Tryz.strings_Trim_one (s : ByteArray) (c : UInt8) (hc : c.toNat < 128) (w : World) (hs : s.size ≤ 9223372036854775807) :
    Calls Tryz.prog 124 #[.string s, .string ⟨#[c]⟩] w fun e w' => e = .returned (.string ⟨(Lib.trimB s.data.toList c).toArray⟩) ∧ (w' = w ∨ w' = w.drew) := Any.strings_Trim_one Tryz.lays160 s c hc w hs
def Tryz.lays213_ren : Go.Shelf.Ren := ⟨fun | 213 => 326 | 265 => 359 | n => n, fun | 9 => 9 | 3 => 3 | n => n, fun | n => n⟩
def Tryz.lays106_ren : Go.Shelf.Ren := ⟨fun | 106 => 269 | 213 => 326 | 265 => 359 | n => n, fun | 9 => 9 | 3 => 3 | n => n, fun | n => n⟩
theorem Tryz.lays106 : Go.Proofs.Lays.n106 Tryz.prog Tryz.lays106_ren := {
  mixed := by kernel_rfl
  f106 := Tryz.func269.trans (congrArg some (by kernel_rfl))
  f213 := Tryz.func326.trans (congrArg some (by kernel_rfl))
  f265 := Tryz.func359.trans (congrArg some (by kernel_rfl))
  t3 := Tryz.underlying3
  a3 := Tryz.isAgg3
  z3 := Tryz.sizeOf3
  v3 := Tryz.zeroValue3
  t9 := Tryz.underlying9
  a9 := Tryz.isAgg9
  z9 := Tryz.sizeOf9
  v9 := Tryz.zeroValue9 }
open Go.RowKit in
/-- strings.Compare: "Compare returns an integer comparing two strings lexicographically. The result will be 0 if a == b, -1 if a < b, and +1 if a > b.": IT RETURNS 'Lib.compareBytes a b'; the world is as it was. (LAID: no walk: one application.) -/
theorem Tryz.strings_Compare (a b : ByteArray) (w : World) :
    Calls Tryz.prog 269 #[.string a, .string b] w fun e w' => e = .returned (.int .i64 (Lib.compareBytes a.data.toList b.data.toList)) ∧ w' = w := Any.strings_Compare Tryz.lays106 a b w
def Tryz.lays190_ren : Go.Shelf.Ren := ⟨fun | 190 => 198 | 125 => 213 | 258 => 267 | 128 => 279 | 129 => 280 | 302 => 310 | 303 => 311 | 304 => 312 | 305 => 313 | 306 => 314 | 307 => 315 | 308 => 131 | 309 => 316 | 310 => 317 | 333 => 353 | 329 => 328 | 330 => 329 | 334 => 354 | 335 => 355 | 336 => 200 | 344 => 369 | n => n, fun | 31 => 33 | 9 => 9 | 3 => 3 | 46 => 208 | 0 => 0 | 51 => 340 | 53 => 139 | 4 => 4 | 183 => 334 | 182 => 333 | 131 => 132 | 5 => 5 | 218 => 369 | 222 => 373 | 228 => 390 | 229 => 391 | n => n, fun | n => n⟩
theorem Tryz.lays190 : Go.Proofs.Lays.n190 Tryz.prog Tryz.lays190_ren := {
  mixed := by kernel_rfl
  f125 := Tryz.func213.trans (congrArg some (by kernel_rfl))
  f128 := Tryz.func279.trans (congrArg some (by kernel_rfl))
  f129 := Tryz.func280.trans (congrArg some (by kernel_rfl))
  f190 := Tryz.func198.trans (congrArg some (by kernel_rfl))
  f258 := Tryz.func267.trans (congrArg some (by kernel_rfl))
  f302 := Tryz.func310.trans (congrArg some (by kernel_rfl))
  f303 := Tryz.func311.trans (congrArg some (by kernel_rfl))
  f304 := Tryz.func312.trans (congrArg some (by kernel_rfl))
  f305 := Tryz.func313.trans (congrArg some (by kernel_rfl))
  f306 := Tryz.func314.trans (congrArg some (by kernel_rfl))
  f307 := Tryz.func315.trans (congrArg some (by kernel_rfl))
  f308 := Tryz.func131.trans (congrArg some (by kernel_rfl))
  f309 := Tryz.func316.trans (congrArg some (by kernel_rfl))
  f310 := Tryz.func317.trans (congrArg some (by kernel_rfl))
  f329 := Tryz.func328.trans (congrArg some (by kernel_rfl))
  f330 := Tryz.func329.trans (congrArg some (by kernel_rfl))
  f333 := Tryz.func353.trans (congrArg some (by kernel_rfl))
  f334 := Tryz.func354.trans (congrArg some (by kernel_rfl))
  f335 := Tryz.func355.trans (congrArg some (by kernel_rfl))
  f336 := Tryz.func200.trans (congrArg some (by kernel_rfl))
  f344 := Tryz.func369.trans (congrArg some (by kernel_rfl))
  t0 := Tryz.underlying0
  a0 := Tryz.isAgg0
  z0 := Tryz.sizeOf0
  v0 := Tryz.zeroValue0
  t3 := Tryz.underlying3
  a3 := Tryz.isAgg3
  z3 := Tryz.sizeOf3
  v3 := Tryz.zeroValue3
  t4 := Tryz.underlying4
  a4 := Tryz.isAgg4
  z4 := Tryz.sizeOf4
  v4 := Tryz.zeroValue4
  t5 := Tryz.underlying5
  a5 := Tryz.isAgg5
  z5 := Tryz.sizeOf5
  v5 := Tryz.zeroValue5
  t9 := Tryz.underlying9
  a9 := Tryz.isAgg9
  z9 := Tryz.sizeOf9
  v9 := Tryz.zeroValue9
  t31 := Tryz.underlying33
  a31 := Tryz.isAgg33
  z31 := Tryz.sizeOf33
  v31 := Tryz.zeroValue33
  t46 := Tryz.underlying208
  a46 := Tryz.isAgg208
  z46 := Tryz.sizeOf208
  v46 := Tryz.zeroValue208
  t51 := Tryz.underlying340
  a51 := Tryz.isAgg340
  z51 := Tryz.sizeOf340
  v51 := Tryz.zeroValue340
  t53 := Tryz.underlying139
  a53 := Tryz.isAgg139
  z53 := Tryz.sizeOf139
  v53 := Tryz.zeroValue139
  t131 := Tryz.underlying132
  a131 := Tryz.isAgg132
  z131 := Tryz.sizeOf132
  v131 := Tryz.zeroValue132
  t182 := Tryz.underlying333
  a182 := Tryz.isAgg333
  z182 := Tryz.sizeOf333
  v182 := Tryz.zeroValue333
  t183 := Tryz.underlying334
  a183 := Tryz.isAgg334
  z183 := Tryz.sizeOf334
  v183 := Tryz.zeroValue334
  t218 := Tryz.underlying369
  a218 := Tryz.isAgg369
  z218 := Tryz.sizeOf369
  v218 := Tryz.zeroValue369
  t222 := Tryz.underlying373
  a222 := Tryz.isAgg373
  z222 := Tryz.sizeOf373
  v222 := Tryz.zeroValue373
  t228 := Tryz.underlying390
  a228 := Tryz.isAgg390
  z228 := Tryz.sizeOf390
  v228 := Tryz.zeroValue390
  t229 := Tryz.underlying391
  a229 := Tryz.isAgg391
  z229 := Tryz.sizeOf391
  v229 := Tryz.zeroValue391 }
open Go.Sort Go.RowKit in
theorem Tryz.slices_Sort_string (blk off cap : Nat) (ss : List (List UInt8)) (w : World) (hH : Holds encStr w blk off ss.toArray) (hblk : blk < w.heap.size) (hsz : ss.length < 4611686018427387904) :
    Calls Tryz.prog 198 #[.slice (some ⟨blk, off, none⟩) ss.length cap] w fun e w' =>
      e = .returned (.tuple #[]) ∧ ∃ n os, w' = grow (putRow encStr (Sort.ahead w n) blk off (ss.mergeSort fun x y => decide (x ≤ y)).toArray) os := Any.slices_Sort_string Tryz.lays190 blk off cap ss w hH hblk hsz
def Tryz.laysNm216_ren : Go.Shelf.Ren := ⟨fun | 16 => 130 | n => n, fun | 24 => 33 | 9 => 9 | 4 => 4 | n => n, fun | n => n⟩
theorem Tryz.laysNm216 : Go.Proofs.Lays2.n16 Tryz.prog Tryz.laysNm216_ren := {
  mixed := by kernel_rfl
  f16 := Tryz.func130.trans (congrArg some (by kernel_rfl))
  t4 := Tryz.underlying4
  a4 := Tryz.isAgg4
  z4 := Tryz.sizeOf4
  v4 := Tryz.zeroValue4
  t9 := Tryz.underlying9
  a9 := Tryz.isAgg9
  z9 := Tryz.sizeOf9
  v9 := Tryz.zeroValue9
  t24 := Tryz.underlying33
  a24 := Tryz.isAgg33
  z24 := Tryz.sizeOf33
  v24 := Tryz.zeroValue33
  i9 := by kernel_rfl }
open Go.RowKit Go.Lib in
/-- slices.Clone at []string: "Clone returns a copy of the slice. The elements are copied using assignment, so this is a shallow clone. The result may have additional unused capacity. The result preserves the nilness of s.": OF A SLICE THAT IS NOT nil IT RETURNS A SLICE THAT IS NOT nil, OF THE SAME ELEMENTS, IN MEMORY OF THE CALL's OWN: in the how-to's words (6f): 'w'.ownsRow B e 1 v' n cells': v' begins at the head of a row among the blocks from B on (B: the heap's size at the call), not frozen, whose first cells are the elements · 'Below B w w'': below B all is as it was. The capacity is whatever the run-time gives. 'zs': what the cells behind the slice's address hold; 'zs.take n': its elements. (LAID: no walk: one application.) -/
theorem Tryz.slices_Clone_string (b off n c : Nat) (zs : List ByteArray) (w : World) (hz : n ≤ zs.length) (hbig : n * 16 ≤ 140737488355328) (hc : ∀ j, j < zs.length → w.cell? ⟨b, off + j, none⟩ = some (.string (zs.getD j ByteArray.empty))) :
    Calls Tryz.prog 130 #[.slice (some ⟨b, off, none⟩) n c] w fun e w' => ∃ v', e = .returned v' ∧ w'.ownsRow w.heap.size 9 1 v' n ((zs.take n).map (Value.string)) ∧ v' ≠ .slice none 0 0 ∧ Below w.heap.size w w' := Any.slices_Clone_string Tryz.laysNm216 b off n c zs w hz hbig hc
open Go.RowKit Go.Lib in
/-- The same at nil: nil comes back; the world is as it was. (LAID: no walk: one application.) -/
theorem Tryz.slices_Clone_string_nil (n c : Nat) (w : World) :
    Calls Tryz.prog 130 #[.slice none n c] w fun e w' => e = .returned (.slice none 0 0) ∧ w' = w := Any.slices_Clone_string_nil Tryz.laysNm216 n c w
open Go.RowKit Go.Lib in
/-- The same at a slice of length 0 that is not nil, WHATEVER ITS ADDRESS (no cell is asked for): a slice that is not nil and owns nothing comes back. (LAID: no walk: one application.) -/
theorem Tryz.slices_Clone_string_zero (a : Addr) (c : Nat) (w : World) :
    Calls Tryz.prog 130 #[.slice (some a) 0 c] w fun e w' => ∃ v', e = .returned v' ∧ w'.ownsRow w.heap.size 9 1 v' 0 [] ∧ v' ≠ .slice none 0 0 ∧ Below w.heap.size w w' := Any.slices_Clone_string_zero Tryz.laysNm216 a c w
def Tryz.lays194_ren : Go.Shelf.Ren := ⟨fun | 194 => 199 | n => n, fun | 31 => 33 | 9 => 9 | 3 => 3 | 4 => 4 | 0 => 0 | n => n, fun | n => n⟩
theorem Tryz.lays194 : Go.Proofs.Lays.n194 Tryz.prog Tryz.lays194_ren := {
  mixed := by kernel_rfl
  f194 := Tryz.func199.trans (congrArg some (by kernel_rfl))
  t0 := Tryz.underlying0
  a0 := Tryz.isAgg0
  z0 := Tryz.sizeOf0
  v0 := Tryz.zeroValue0
  t3 := Tryz.underlying3
  a3 := Tryz.isAgg3
  z3 := Tryz.sizeOf3
  v3 := Tryz.zeroValue3
  t4 := Tryz.underlying4
  a4 := Tryz.isAgg4
  z4 := Tryz.sizeOf4
  v4 := Tryz.zeroValue4
  t9 := Tryz.underlying9
  a9 := Tryz.isAgg9
  z9 := Tryz.sizeOf9
  v9 := Tryz.zeroValue9
  t31 := Tryz.underlying33
  a31 := Tryz.isAgg33
  z31 := Tryz.sizeOf33
  v31 := Tryz.zeroValue33 }
open Go.RowKit Go.Lib Go.Sort in
/-- slices.Compact at []string: "Compact replaces consecutive runs of equal elements with a single copy. This is like the uniq command found on Unix. Compact modifies the contents of the slice s and returns the modified slice, which may have a smaller length. Compact zeroes the elements between the new length and the original length. The result preserves the nilness of s.": IT RETURNS THE SLICE CUT TO 'Lib.compact zs'; ITS CELLS HOLD 'Lib.compact zs', THEN ZERO VALUES up to the old length; all else is as it was, but for the count of draws. IN THE WORDS OF slices.Sort's CONTRACT ('Holds', 'putRow'): so the everyday 'slices.Sort(xs); xs = slices.Compact(xs)' goes from the one contract to the other. It asks 'zs.length ≤ cap' (every slice's: the reslicing 's[:k]' looks at it). Length 0, nil: '.._empty'. (LAID: no walk: one application.) -/
theorem Tryz.slices_Compact_string (blk off cap : Nat) (zs : List (List UInt8)) (w : World) (hH : Holds encStr w blk off zs.toArray) (hsz : zs.length ≤ 9223372036854775807) (hcap : zs.length ≤ cap) :
    Calls Tryz.prog 199 #[.slice (some ⟨blk, off, none⟩) zs.length cap] w fun e w' => e = .returned (.slice (some ⟨blk, off, none⟩) (Lib.compact zs).length cap) ∧ ∃ q, w' = putRow encStr (Sort.ahead w q) blk off (Lib.compact zs ++ List.replicate (zs.length - (Lib.compact zs).length) []).toArray := Any.slices_Compact_string Tryz.lays194 blk off cap zs w hH hsz hcap
open Go.RowKit Go.Lib Go.Sort in
/-- The same at a slice of length 0, a nil one too: it comes back as it is. (LAID: no walk: one application.) -/
theorem Tryz.slices_Compact_string_empty (a : Option Addr) (cap : Nat) (w : World) :
    Calls Tryz.prog 199 #[.slice a 0 cap] w fun e w' => e = .returned (.slice a 0 cap) ∧ w' = w := Any.slices_Compact_string_empty Tryz.lays194 a cap w
open Go.RowKit Go.Sort in
/-- .. and plain. (LAID: no walk: one application.) -/
theorem Tryz.slices_Sort_string_none (p : Option Addr) (cap : Nat) (w : World) :
    Calls Tryz.prog 198 #[.slice p 0 cap] w fun e w' => e = .returned (.tuple #[]) ∧ w' = w := Any.slices_Sort_string_none Tryz.lays190 p cap w
end Go.Proofs
