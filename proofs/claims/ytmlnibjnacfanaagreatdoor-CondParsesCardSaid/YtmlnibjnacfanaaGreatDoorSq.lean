/- The reference's lists that are lent, and looked at again: Lent, Kept, Alike at ints. Layer 8: what Spoil may turn: rows of nodes become blank ones; plain lemmas. Layer 8: Spoil, walked. -/
import Derived.Test.YtmlnibjnacfanaaGreatDoorJf
import Derived.OwnWalk
import Derived.Laws.AppendOwnNone
import Derived.Test.YtmlnibjnacfanaaGreatDoorJn
import Derived.Test.YtmlnibjnacfanaaGreatDoorDj
import Derived.ArgAppend
namespace Go.Proofs.YtmlnibjnacfanaaGreatDoor
open Go.RowKit

/-- A slice of ints. -/
def IntsV (w : World) (v : Value) (st : List Int) : Prop := ∃ A cap, v = .slice A st.length cap ∧ IntsAt w A st ∧ (A = none → cap = 0) ∧ st.length ≤ cap ∧ cap ≤ 9223372036854775807 ∧ st.length * 8 ≤ 140737488351232
theorem IntsV.below {w w' : World} {v : Value} {st : List Int} (h : IntsV w v st) (hb : Below w.heap.size w w') : IntsV w' v st := by
  obtain ⟨A, cap, e, h1, h2⟩ := h
  exact ⟨A, cap, e, h1.below hb, h2⟩
def markL : List Int := (List.range 70).map fun (i : Nat) => -770000 - (i : Int)
theorem mark_at {j : Nat} (h : j < 70) : markL[j]? = some (-770000 - (j : Int)) := by
  unfold markL
  rw [List.getElem?_map, List.getElem?_range h]; rfl
theorem mark_len : markL.length = 70 := by simp [markL]
/-- A list that was lent: its numbers, and the marks behind them. -/
def LentAt (w : World) (g cap : Nat) (st : List Int) : Prop := st.length + 70 ≤ cap ∧ cap ≤ 9223372036854775807 ∧ ∀ i v, (st ++ markL)[i]? = some v → w.cell? ⟨g, i, none⟩ = some (.int .i64 v)
theorem LentAt.below {w w' : World} {g cap : Nat} {st : List Int} (h : LentAt w g cap st) (hb : Below w.heap.size w w') : LentAt w' g cap st :=
  ⟨h.1, h.2.1, fun i v hv => cell_go (h.2.2 i v hv) hb⟩
theorem LentAt.ints {w : World} {g cap : Nat} {st : List Int} (h : LentAt w g cap st) : IntsAt w (some ⟨g, 0, none⟩) st := fun i v hv =>
  ⟨g, 0, rfl, by
    have hi := (List.getElem?_eq_some_iff.1 hv).1
    rw [Nat.zero_add]
    exact h.2.2 i v (by rw [List.getElem?_append_left hi]; exact hv)⟩
def LentPost (st : List Int) (w : World) (e : Ending) (w' : World) : Prop := ∃ g cap, e = .returned (.slice (some ⟨g, 0, none⟩) st.length cap) ∧ w.heap.size ≤ g ∧ LentAt w' g cap st ∧ Below w.heap.size w w'
abbrev intC (l : List Int) : List Value := l.map fun n => .int .i64 n
theorem intC_one (l : List Int) : ∀ u ∈ intC l, u.oneCell' = true := by
  intro u hu
  obtain ⟨n, _, rfl⟩ := List.mem_map.1 hu
  rfl
theorem infoInt : (Tryz.prog.info? 3).map (fun i => (i.zero, i.size, i.bytes)) = some (some (.int .i64 0), 1, 8) := by kernel_rfl
theorem add_none' (b o j : Nat) : (⟨b, o, none⟩ : Addr).add j = ⟨b, o + j, none⟩ := by
  unfold Addr.add
  split
  · rename_i h; subst h; rfl
  · rfl
theorem ints_src {w : World} {a : Addr} {st : List Int} (h : IntsAt w (some a) st) (j : Nat) (u : Value) (hu : (intC st)[j]? = some u) : w.cell? (a.add j) = some u := by
  rw [List.getElem?_map] at hu
  obtain ⟨v, hv, rfl⟩ := Option.map_eq_some_iff.1 hu
  obtain ⟨b, o, e, hcell⟩ := h j v hv
  simp only [Option.some.injEq] at e
  subst e
  rw [add_none']; exact hcell
section
variable {w : World}
set_option maxHeartbeats 4000000 in
set_option maxRecDepth 100000 in
/-- Behind the copy: the marks are put there. -/
theorem lentR (v : Value) (st : List Int) (w : World) (hv : IntsV w v st) :
    Calls Tryz.prog 25 #[v] w (LentPost st w) := by
  obtain ⟨A, c2, rfl, hA, hno, h1, h2, h3⟩ := hv
  obtain ⟨i0, hi, hz0, hz1, hz2⟩ := info_parts infoInt
  have HA := Lib.hid hA
  have HNO := Lib.hid hno
  have hp : (st.length : Int) + 70 = ((st.length + 70 : Nat) : Int) := by omega
  have HP := Lib.hid hp
  obtain ⟨n, hn⟩ : ∃ n, st.length = n := ⟨_, rfl⟩
  rw [hn] at h1 h3 HP
  have HN := Lib.hid hn
  have hnn : st.length = n := hn
  clear hA hno hp hn
  have hb2 : i0.bytes * (n + 70) ≤ 281474976710656 := by rw [hz2]; omega
  have hm : n ≤ 17592186043904 := by omega
  have HML := Lib.hid (fun (j : Nat) (h : j < 70) => show markL.take (j + 1) = markL.take j ++ [-770000 - (j : Int)] by rw [List.take_add_one, mark_at h]; rfl)
  have HMR := Lib.hid (show intC (st ++ markL.take 70) = intC (st ++ markL) by rw [List.take_of_length_le (Nat.le_of_eq mark_len)])
  have HLN := Lib.hid (fun (j : Nat) (h : j ≤ 70) => show (st ++ markL.take j).length = n + j by rw [List.length_append, HN.out, List.length_take, mark_len]; omega)
  have fin : ∀ (wr : World), wr.ownsRow w.heap.size 3 1 (.slice (some ⟨w.heap.size, 0, none⟩) (n + 70) (n + 70)) (n + 70) (intC (st ++ markL.take 70)) → Below w.heap.size w wr → LentPost st w (.returned (.slice (some ⟨w.heap.size, 0, none⟩) n (n + 70))) wr := fun wr ho hb => by
    rw [HMR.out] at ho
    refine ⟨w.heap.size, n + 70, by rw [HN.out], Nat.le_refl _, ⟨by rw [HN.out]; exact Nat.le_refl _, by omega, fun i v hv => ?_⟩, hb⟩
    have hi := (List.getElem?_eq_some_iff.1 hv).1
    have hl : (intC (st ++ markL)).length = n + 70 := by rw [ho.1]; omega
    simp only [List.length_map] at hl
    rw [ho.cellAt i (by omega)]
    rw [List.getElem?_map, hv]; rfl
  have FIN := Lib.hid fin
  clear fin
  rw [hnn]
  clear hnn
  rcases A with _ | a
  · have hc0 : c2 = 0 := HNO.out rfl
    subst hc0
    have hn0 : n = 0 := by omega
    have HN0 := Lib.hid hn0
    have hs0 : st = [] := List.eq_nil_of_length_eq_zero (by rw [HN.out, hn0])
    have HS0 := Lib.hid hs0
    clear hs0 hn0
    go_enter Tryz.func25, Tryz.ntmps25
    go_wp2_with (first | (at_make; refine wpList_make_own _ rfl _ _ 40 rfl w.heap.size 3 i0 (.int .i64 0) 1 Tryz.underlying40 hi hz0 hz1 .i64 .i64 _ (n + 70) rfl rfl HP.out hb2 (by unfold maxLen; omega) (Nat.le_refl _) ?_; intro w1 hown1 hg1; have HO1 := Lib.hid hown1; have HG1 := Lib.hid (show Below w.heap.size w w1 from (Below.refl _ _).grown hg1 (Nat.le_refl _) (fun j hj => by cases hj)); clear hown1 hg1) | (at_builtin; refine wpList_append_own_none rfl _ _ 40 rfl w.heap.size 3 i0 1 Tryz.underlying40 hi _ _ _ rfl HO1.out (show Value.slice none n 0 = .slice none 0 0 by rw [HN0.out]) ?_; have HOW := Lib.hid (show w1.ownsRow w.heap.size 3 1 (.slice (some ⟨w.heap.size, 0, none⟩) 0 (n + 70)) 0 (intC st) by rw [HS0.out]; exact HO1.out); have HBW := HG1))
    go_loopw [3, 4] (fun v3 i wr => ∃ j : Nat, j ≤ 70 ∧ i = .int .i64 j ∧ v3 = .slice (some ⟨w.heap.size, 0, none⟩) (n + j) (n + 70) ∧ wr.ownsRow w.heap.size 3 1 v3 (n + j) (intC (st ++ markL.take j)) ∧ Below w.heap.size w wr) (fun _ i _ => 70 - (intOf i).toNat)
    case atStart => exact ⟨0, by omega, rfl, by rw [HN0.out], by have h := HOW.out; rw [Nat.add_zero, List.take_zero, List.append_nil]; rw [HN0.out] at h ⊢; exact h, HBW.out⟩
    case round =>
      obtain ⟨j, hj, rfl, rfl, hown, hb⟩ := hrel
      have HO := Lib.hid hown
      have HB := Lib.hid hb
      clear hown hb
      by_cases hlt : j < 70
      · have hl := HML.out j hlt
        have HST := Lib.hid (show intC (st ++ markL.take (j + 1)) = intC (st ++ markL.take j) ++ [.int .i64 (-770000 - (j : Int))] by rw [hl]; simp)
        have HOA := Lib.hid (HO.out.alloc (.cells #[.int .i64 (-770000 - (j : Int))] 3 (0, 0)))
        have HBA := Lib.hid (below_alloc HB.out (.cells #[.int .i64 (-770000 - (j : Int))] 3 (0, 0)))
        clear hl
        go_wp2_with (at_builtin; refine wpList_append_fits _ rfl _ _ 40 rfl w.heap.size 3 i0 1 Tryz.underlying40 hi hz1 w.heap.size (n + j) (n + 70) _ rfl HOA.out ⟨wr.heap.size, 0, none⟩ 1 1 [.int .i64 (-770000 - (j : Int))] rfl rfl (fun jj u hu => by rw [add_none', Nat.zero_add, cell_new]; simpa using hu) (intC_one [_]) (by omega) ?_; intro w2 hown2 hg2; have HO2 := Lib.hid hown2; have HB2 := Lib.hid (HBA.out.grown hg2 HBA.out.size (fun j hj => by cases hj; exact Nat.le_refl _)); clear hown2 hg2)
        go_roundw
        case rel => exact ⟨j + 1, by omega, by go_num, by rw [Nat.add_assoc], by rw [HST.out, ← Nat.add_assoc]; exact HO2.out, HB2.out⟩
        case measure => simp [intOf]; omega
      · obtain rfl : j = 70 := by omega
        go_wp2_with fail
        go_ret
        have hf := FIN.out _ HO.out HB.out
        have e : Value.slice (some ⟨w.heap.size, 0, none⟩) n (n + 70) = .slice (some ⟨w.heap.size, 0, none⟩) 0 (n + 70) := by simp [HN0.out]
        rw [e] at hf
        exact hf
  · go_enter Tryz.func25, Tryz.ntmps25
    go_wp2_with (first | (at_make; refine wpList_make_own _ rfl _ _ 40 rfl w.heap.size 3 i0 (.int .i64 0) 1 Tryz.underlying40 hi hz0 hz1 .i64 .i64 _ (n + 70) rfl rfl HP.out hb2 (by unfold maxLen; omega) (Nat.le_refl _) ?_; intro w1 hown1 hg1; have HO1 := Lib.hid hown1; have HG1 := Lib.hid (show Below w.heap.size w w1 from (Below.refl _ _).grown hg1 (Nat.le_refl _) (fun j hj => by cases hj)); clear hown1 hg1) | (at_builtin; refine wpList_append_fits _ rfl _ _ 40 rfl w.heap.size 3 i0 1 Tryz.underlying40 hi hz1 w.heap.size 0 (n + 70) [] rfl HO1.out a n c2 (intC st) rfl (by rw [List.length_map, HN.out]; omega) (ints_src (HA.out.below HG1.out)) (intC_one _) (by omega) ?_; intro w2 hown2 hg2; rw [Nat.zero_add, List.nil_append] at hown2; have HOW := Lib.hid hown2; have HBW := Lib.hid (HG1.out.grown hg2 HG1.out.size (fun j hj => by cases hj; exact Nat.le_refl _)); clear hown2 hg2))
    go_loopw [3, 4] (fun v3 i wr => ∃ j : Nat, j ≤ 70 ∧ i = .int .i64 j ∧ v3 = .slice (some ⟨w.heap.size, 0, none⟩) (n + j) (n + 70) ∧ wr.ownsRow w.heap.size 3 1 v3 (n + j) (intC (st ++ markL.take j)) ∧ Below w.heap.size w wr) (fun _ i _ => 70 - (intOf i).toNat)
    case atStart => exact ⟨0, by omega, rfl, by simp, by simpa using HOW.out, HBW.out⟩
    case round =>
      obtain ⟨j, hj, rfl, rfl, hown, hb⟩ := hrel
      have HO := Lib.hid hown
      have HB := Lib.hid hb
      clear hown hb
      by_cases hlt : j < 70
      · have hl := HML.out j hlt
        have HST := Lib.hid (show intC (st ++ markL.take (j + 1)) = intC (st ++ markL.take j) ++ [.int .i64 (-770000 - (j : Int))] by rw [hl]; simp)
        have HOA := Lib.hid (HO.out.alloc (.cells #[.int .i64 (-770000 - (j : Int))] 3 (0, 0)))
        have HBA := Lib.hid (below_alloc HB.out (.cells #[.int .i64 (-770000 - (j : Int))] 3 (0, 0)))
        clear hl
        go_wp2_with (at_builtin; refine wpList_append_fits _ rfl _ _ 40 rfl w.heap.size 3 i0 1 Tryz.underlying40 hi hz1 w.heap.size (n + j) (n + 70) _ rfl HOA.out ⟨wr.heap.size, 0, none⟩ 1 1 [.int .i64 (-770000 - (j : Int))] rfl rfl (fun jj u hu => by rw [add_none', Nat.zero_add, cell_new]; simpa using hu) (intC_one [_]) (by omega) ?_; intro w2 hown2 hg2; have HO2 := Lib.hid hown2; have HB2 := Lib.hid (HBA.out.grown hg2 HBA.out.size (fun j hj => by cases hj; exact Nat.le_refl _)); clear hown2 hg2)
        go_roundw
        case rel => exact ⟨j + 1, by omega, by go_num, by rw [Nat.add_assoc], by rw [HST.out, ← Nat.add_assoc]; exact HO2.out, HB2.out⟩
        case measure => simp [intOf]; omega
      · obtain rfl : j = 70 := by omega
        go_wp2_with fail
        go_ret
        exact FIN.out _ HO.out HB.out
end

/-- The six cells of row j of block b. -/
def RowIs (w : World) (b j : Nat) (k t r v : Int) (l : ByteArray) (kv : Value) : Prop :=
  w.cell? ⟨b, j * 6, none⟩ = some (.int .i64 k) ∧ w.cell? ⟨b, j * 6 + 1, none⟩ = some (.int .i64 t) ∧ w.cell? ⟨b, j * 6 + 2, none⟩ = some (.int .i64 r) ∧ w.cell? ⟨b, j * 6 + 3, none⟩ = some (.string l) ∧ w.cell? ⟨b, j * 6 + 4, none⟩ = some (.int .i64 v) ∧ w.cell? ⟨b, j * 6 + 5, none⟩ = some kv
def Blank (w : World) (b j : Nat) : Prop := ∃ k t r v l, RowIs w b j k t r v l (.slice none 0 0)
def NBlk (w : World) (b m : Nat) : Prop := ∃ cur, w.heap[b]? = some (.cells cur 26 (0, 0)) ∧ cur.size = m * 6
/-- From w to w': blocks outside S stay; in S rows of nodes may become blank; blocks may be added. -/
structure Bl (S : Nat → Prop) (w w' : World) : Prop where
  os : w'.os = w.os
  tape : w'.tape = w.tape
  output : w'.output = w.output
  size : w.heap.size ≤ w'.heap.size
  out : ∀ i, i < w.heap.size → ¬ S i → w'.heap[i]? = w.heap[i]?
  inn : ∀ i m, S i → NBlk w i m → NBlk w' i m ∧ ∀ j, j < m → (∀ d, d < 6 → w'.cell? ⟨i, j * 6 + d, none⟩ = w.cell? ⟨i, j * 6 + d, none⟩) ∨ Blank w' i j
theorem NBlk.lt {w : World} {b m : Nat} (h : NBlk w b m) : b < w.heap.size := by
  obtain ⟨cur, h, _⟩ := h
  exact (Array.getElem?_eq_some_iff.1 h).1
theorem NBlk.cell {w : World} {b m : Nat} (h : NBlk w b m) {i : Nat} (hi : i < m * 6) : (w.cell? ⟨b, i, none⟩).isSome = true ∧ w.frozen? ⟨b, i, none⟩ = false := by
  obtain ⟨cur, h, hs⟩ := h
  have hb : Blk w b 26 cur := h
  refine ⟨?_, hb.frozen i⟩
  rw [hb.cell i, Array.getElem?_eq_getElem (by omega)]; rfl
theorem heap_cell {w w' : World} {b : Nat} (h : w'.heap[b]? = w.heap[b]?) (o : Nat) : w'.cell? ⟨b, o, none⟩ = w.cell? ⟨b, o, none⟩ := by
  unfold World.cell?
  simp only [h]
theorem NBlk.same {w w' : World} {b m : Nat} (h : NBlk w b m) (he : w'.heap[b]? = w.heap[b]?) : NBlk w' b m := by
  obtain ⟨cur, h, hs⟩ := h
  exact ⟨cur, he.trans h, hs⟩
theorem RowIs.same {w w' : World} {b j : Nat} {k t r v : Int} {l : ByteArray} {kv : Value} (h : RowIs w b j k t r v l kv) (he : ∀ d, d < 6 → w'.cell? ⟨b, j * 6 + d, none⟩ = w.cell? ⟨b, j * 6 + d, none⟩) : RowIs w' b j k t r v l kv :=
  ⟨(he 0 (by omega)).trans h.1, (he 1 (by omega)).trans h.2.1, (he 2 (by omega)).trans h.2.2.1, (he 3 (by omega)).trans h.2.2.2.1, (he 4 (by omega)).trans h.2.2.2.2.1, (he 5 (by omega)).trans h.2.2.2.2.2⟩
theorem Blank.same {w w' : World} {b j : Nat} (h : Blank w b j) (he : ∀ d, d < 6 → w'.cell? ⟨b, j * 6 + d, none⟩ = w.cell? ⟨b, j * 6 + d, none⟩) : Blank w' b j := by
  obtain ⟨k, t, r, v, l, h⟩ := h
  exact ⟨k, t, r, v, l, h.same he⟩
theorem Bl.refl (S : Nat → Prop) (w : World) : Bl S w w := ⟨rfl, rfl, rfl, Nat.le_refl _, fun _ _ _ => rfl, fun _ _ _ h => ⟨h, fun _ _ => .inl fun _ _ => rfl⟩⟩
theorem Bl.trans {S : Nat → Prop} {a b c : World} (h : Bl S a b) (k : Bl S b c) : Bl S a c :=
  ⟨k.os.trans h.os, k.tape.trans h.tape, k.output.trans h.output, Nat.le_trans h.size k.size,
    fun i hi hS => (k.out i (Nat.lt_of_lt_of_le hi h.size) hS).trans (h.out i hi hS),
    fun i m hS hN => by
      obtain ⟨h1, h2⟩ := h.inn i m hS hN
      obtain ⟨k1, k2⟩ := k.inn i m hS h1
      refine ⟨k1, fun j hj => ?_⟩
      rcases k2 j hj with k3 | k3
      · rcases h2 j hj with h3 | h3
        · exact .inl fun d hd => (k3 d hd).trans (h3 d hd)
        · exact .inr (h3.same k3)
      · exact .inr k3⟩
theorem Bl.of_below {S : Nat → Prop} {a b : World} (h : Below a.heap.size a b) : Bl S a b :=
  ⟨h.os, h.tape, h.output, h.size, fun i hi _ => h.block i hi, fun i _m _ hN => ⟨hN.same (h.block i hN.lt), fun _j _ => .inl fun _d _ => heap_cell (h.block i hN.lt) _⟩⟩
theorem Bl.below {S : Nat → Prop} {B : Nat} {a b : World} (h : Bl S a b) (hS : ∀ i, S i → B ≤ i) (hB : B ≤ a.heap.size) : Below B a b :=
  ⟨h.os, h.tape, h.output, h.size, fun i hi => h.out i (by omega) (fun e => by have := hS i e; omega)⟩
/-- Rows that are as they were, or blank; what they hang together with likewise. -/
def PartRow (w : World) (S : Nat → Prop) : Fr → Nat → Nat → Prop
  | .nil, _, _ => True
  | .cons _ _ _ _ _ kids rest, b, j =>
    (∃ k t r v l kv, RowIs w b j k t r v l kv ∧ (kv = .slice none 0 0 ∨ ∃ g cap, kv = .slice (some ⟨g, 0, none⟩) kids.len cap ∧ S g ∧ NBlk w g cap ∧ kids.len ≤ cap ∧ cap ≤ 9223372036854775807 ∧ kids.len ≤ 300000 ∧ PartRow w S kids g 0)) ∧ PartRow w S rest b (j + 1)
def PartKid (w : World) (S : Nat → Prop) (f : Fr) (kv : Value) : Prop :=
  kv = .slice none 0 0 ∨ ∃ g cap, kv = .slice (some ⟨g, 0, none⟩) f.len cap ∧ S g ∧ NBlk w g cap ∧ f.len ≤ cap ∧ cap ≤ 9223372036854775807 ∧ f.len ≤ 300000 ∧ PartRow w S f g 0
theorem PartRow.bl {w w' : World} {S : Nat → Prop} (hb : Bl S w w') : ∀ (f : Fr) (b j m : Nat), S b → NBlk w b m → j + f.len ≤ m → PartRow w S f b j → PartRow w' S f b j
  | .nil, _, _, _, _, _, _, _ => trivial
  | .cons k0 t0 r0 l0 v0 kids rest, b, j, m, hS, hN, hj, ⟨⟨k, t, r, v, l, kv, hr, hk⟩, hrest⟩ => by
    simp only [Fr.len] at hj
    refine ⟨?_, PartRow.bl hb rest b (j + 1) m hS hN (by omega) hrest⟩
    rcases (hb.inn b m hS hN).2 j (by omega) with h1 | h1
    · refine ⟨k, t, r, v, l, kv, hr.same h1, ?_⟩
      rcases hk with hk | ⟨g, cap, e, hSg, hNg, h2, h3, h4, h5⟩
      · exact .inl hk
      · exact .inr ⟨g, cap, e, hSg, (hb.inn g cap hSg hNg).1, h2, h3, h4, PartRow.bl hb kids g 0 cap hSg hNg (by omega) h5⟩
    · obtain ⟨k', t', r', v', l', h2⟩ := h1
      exact ⟨k', t', r', v', l', _, h2, .inl rfl⟩
theorem PartKid.bl {w w' : World} {S : Nat → Prop} {f : Fr} {kv : Value} (h : PartKid w S f kv) (hb : Bl S w w') : PartKid w' S f kv := by
  rcases h with h | ⟨g, cap, e, hSg, hNg, h2, h3, h4, h5⟩
  · exact .inl h
  · exact .inr ⟨g, cap, e, hSg, (hb.inn g cap hSg hNg).1, h2, h3, h4, PartRow.bl hb f g 0 cap hSg hNg (by omega) h5⟩
theorem PartRow.at_ {w : World} {S : Nat → Prop} : ∀ (f : Fr) (b j i : Nat) {k t r : Int} {l : List UInt8} {v : Int} {kids rest : Fr}, PartRow w S f b j → f.drop i = .cons k t r l v kids rest → ∃ k t r v l kv, RowIs w b (j + i) k t r v l kv ∧ PartKid w S kids kv
  | .nil, _, _, 0, _, _, _, _, _, _, _, _, h => by cases h
  | .nil, _, _, _ + 1, _, _, _, _, _, _, _, _, h => by cases h
  | .cons _ _ _ _ _ _ _, _, _, 0, _, _, _, _, _, _, _, h, e => by cases e; exact h.1
  | .cons _ _ _ _ _ _ rest, b, j, i + 1, _, _, _, _, _, _, _, h, e => by
    have := PartRow.at_ rest b (j + 1) i h.2 e
    rw [show j + (i + 1) = j + 1 + i by omega]
    exact this
/-- A forest that the call made is one. -/
theorem frc_part {w : World} {S : Nat → Prop} : ∀ (f : Fr) (cs : List Value) (b j : Nat), FrC w S f cs → (∀ i u, cs[i]? = some u → w.cell? ⟨b, j * 6 + i, none⟩ = some u) → PartRow w S f b j
  | .nil, _, _, _, _, _ => trivial
  | .cons k t r l v kids rest, _, b, j, ⟨kv, ck, cr, e, hl, ho, hn, hs, h1, h2⟩, hc => by
    subst e
    refine ⟨⟨k, t, r, v, ⟨l.toArray⟩, kv, ⟨hc 0 _ rfl, hc 1 _ rfl, hc 2 _ rfl, hc 3 _ rfl, hc 4 _ rfl, hc 5 _ rfl⟩, ?_⟩, ?_⟩
    · rcases ho.2 with ⟨h3, _⟩ | ⟨g, cap, cur, rfl, _, hg, hc1, hc2, hc3, htk⟩
      · exact .inl h3
      · unfold maxLen at hc2
        refine .inr ⟨g, cap, rfl, hs g rfl, ⟨cur, hg, hc3⟩, hc1, by omega, hn, frc_part kids ck g 0 h1 fun i u hu => ?_⟩
        rw [Nat.zero_mul, Nat.zero_add, ho.cellAt i (by rw [← ho.1]; exact (List.getElem?_eq_some_iff.1 hu).1)]
        exact hu
    · refine frc_part rest cr b (j + 1) h2 fun i u hu => ?_
      have := hc (i + 6) u (by simpa using hu)
      rw [show (j + 1) * 6 + i = j * 6 + (i + 6) by omega]
      exact this
theorem KidC.part {w : World} {S : Nat → Prop} {kv : Value} {f : Fr} (h : KidC w S kv f) : PartKid w S f kv := by
  obtain ⟨ck, ho, hn, hs, hf⟩ := h
  rcases ho.2 with ⟨h3, _⟩ | ⟨g, cap, cur, rfl, _, hg, hc1, hc2, hc3, htk⟩
  · exact .inl h3
  · unfold maxLen at hc2
    refine .inr ⟨g, cap, rfl, hs g rfl, ⟨cur, hg, hc3⟩, hc1, by omega, hn, frc_part f ck g 0 hf fun i u hu => ?_⟩
    rw [Nat.zero_mul, Nat.zero_add, ho.cellAt i (by rw [← ho.1]; exact (List.getElem?_eq_some_iff.1 hu).1)]
    exact hu
theorem nblk_setCells {g m : Nat} : ∀ (vs : List Value) (o : Nat) (w : World), NBlk w g m → NBlk (w.setCells g o vs) g m
  | [], _, _, h => h
  | v :: r, o, w, h => by
    obtain ⟨cur, h1, h2⟩ := h
    have hb : Blk w g 26 cur := h1
    exact nblk_setCells r (o + 1) (w.setCell ⟨g, o, none⟩ v) ⟨_, hb.set_ o v, by simpa using h2⟩
abbrev blankCs (k v : Int) : List Value := [.int .i64 k, .int .i64 0, .int .i64 0, .string ⟨#[]⟩, .int .i64 v, .slice none 0 0]
/-- Six stores make a row blank. -/
theorem bl_put {w : World} {S : Nat → Prop} {g m j : Nat} (hS : S g) (hN : NBlk w g m) (hj : j < m) (k v : Int) : Bl S w (w.setCells g (j * 6) (blankCs k v)) := by
  have ho := only_setCells g (blankCs k v) (j * 6) w w (Only.refl _ _)
  refine ⟨ho.os, ho.tape, ho.output, ho.size, fun i hi hSi => ho.block i hi (fun e => by injection e with e; exact hSi (e ▸ hS)), fun i m' hSi hNi => ?_⟩
  by_cases hig : i = g
  · subst hig
    refine ⟨nblk_setCells _ _ _ hNi, fun j' hj' => ?_⟩
    by_cases hjj : j' = j
    · subst hjj
      right
      have hin := fun d (hd : d < 6) => World.cell?_setCells_in i (blankCs k v) (j' * 6) w (fun d' hd' => (hN.cell (by simp at hd'; omega)).1) d (by simpa using hd)
      exact ⟨k, 0, 0, v, ⟨#[]⟩, hin 0 (by omega), hin 1 (by omega), hin 2 (by omega), hin 3 (by omega), hin 4 (by omega), hin 5 (by omega)⟩
    · left
      intro d hd
      exact World.cell?_setCells_out i _ _ _ _ (fun _ _ => by simp; omega)
  · have hh := ho.block i hNi.lt (fun e => hig (by injection e))
    exact ⟨hNi.same hh, fun j' _ => .inl fun d _ => heap_cell hh _⟩
/-- A slice that append put marks behind: nil, or a row of a block in S or of a new one. -/
def MarkV (S : Nat → Prop) (H : Nat) (w : World) (v : Value) (n : Nat) : Prop :=
  (v = .slice none 0 0 ∧ n = 0) ∨ ∃ g cap, v = .slice (some ⟨g, 0, none⟩) n cap ∧ (S g ∨ H ≤ g) ∧ NBlk w g cap ∧ n ≤ cap ∧ cap ≤ 9223372036854775807
theorem bl_put' {w0 w : World} {S : Nat → Prop} {g m j : Nat} (hb : Bl S w0 w) (hS : S g ∨ w0.heap.size ≤ g) (hN : NBlk w g m) (hj : j < m) (k v : Int) : Bl S w0 (w.setCells g (j * 6) (blankCs k v)) := by
  by_cases h : S g
  · exact hb.trans (bl_put h hN hj k v)
  · have hg := hS.resolve_left h
    have ho := only_setCells g (blankCs k v) (j * 6) w w (Only.refl _ _)
    refine ⟨ho.os.trans hb.os, ho.tape.trans hb.tape, ho.output.trans hb.output, Nat.le_trans hb.size ho.size, fun i hi hSi => ?_, fun i m' hSi hNi => ?_⟩
    · exact (ho.block i (Nat.lt_of_lt_of_le hi hb.size) (fun e => by injection e with e; omega)).trans (hb.out i hi hSi)
    · obtain ⟨h1, h2⟩ := hb.inn i m' hSi hNi
      have hh := ho.block i h1.lt (fun e => h (by injection e with e; exact e ▸ hSi))
      exact ⟨h1.same hh, fun j' hj' => by
        rcases h2 j' hj' with h3 | h3
        · exact .inl fun d hd => (heap_cell hh _).trans (h3 d hd)
        · exact .inr (h3.same fun d _ => heap_cell hh _)⟩
theorem bl_grown {w0 w w' : World} {S : Nat → Prop} (hb : Bl S w0 w) (hg : w.grownBy w' none) : Bl S w0 w' :=
  hb.trans (Bl.of_below ⟨hg.os, hg.tape, hg.output, hg.size, fun i hi => hg.block i hi (fun e => by cases e)⟩)

theorem blank_one (k v : Int) : ∀ u ∈ blankCs k v, u.oneCell' = true := by
  intro u hu
  simp only [blankCs, List.mem_cons, List.not_mem_nil, or_false] at hu
  rcases hu with rfl | rfl | rfl | rfl | rfl | rfl <;> rfl
section
variable {ops : Array Oper} {rest : List Oper} {o : Oper} {a : Act} {Q : Exit → Act → World → Prop}
/-- One more node where there is room. -/
theorem mark_room (V : World) (hg : o.guard = none) (s x : Operand) (hop : o.op = Op.call { callee := Callee.builtin Builtin.append, args := #[s, x], argTypes := #[24, 24] })
    (g n cap nb : Nat) (k v : Int) (hs : a.eval s = .slice (some ⟨g, 0, none⟩) n cap) (hx : a.eval x = .slice (some ⟨nb, 0, none⟩) 1 1) (hN : NBlk V g cap) (hr : n + 1 ≤ cap) (_hcap : cap ≤ 9223372036854775807) (hn : n ≤ 1000000)
    (hc : ∀ j u, (blankCs k v)[j]? = some u → V.cell? ⟨nb, j, none⟩ = some u)
    (hK : wpList Tryz.prog ops Q rest (a.put o.dst (.slice (some ⟨g, 0, none⟩) (n + 1) cap)) (V.setCells g (n * 6) (blankCs k v))) : wpList Tryz.prog ops Q (o :: rest) a V := by
  obtain ⟨i0, hi, hz0, hz1, hz2⟩ := info_parts infoNode
  have hN' := hN
  obtain ⟨cur, hb, hsz⟩ := hN
  have hB : Blk V g 26 cur := hb
  refine wpList_append_arg V hg s x _ hop 26 i0 _ 6 72 Tryz.underlying24 hi hz0 hz1 hz2 rfl (by decide) g 0 n cap (cur.toList.take (n * 6)) hs (by simp; omega) (fun j u hj => ?_) ⟨nb, 0, none⟩ 1 1 (blankCs k v) hx rfl (fun j u hj => by rw [add_none', Nat.zero_add]; exact hc j u hj) (blank_one k v) (fun _ j hj => ?_) (by unfold maxLen; omega) (by omega) (fun _ => ?_) (fun h => by omega)
  · rw [Nat.zero_add, hB.cell j]
    rw [List.getElem?_take] at hj
    split at hj
    · simpa using hj
    · cases hj
  · have := hN'.cell (i := 0 + n * 6 + j) (by simp at hj; omega)
    exact this
  · rw [Nat.zero_add]; exact hK
/-- One more node where there is none: a new block. -/
theorem mark_new (V : World) (hg : o.guard = none) (s x : Operand) (hop : o.op = Op.call { callee := Callee.builtin Builtin.append, args := #[s, x], argTypes := #[24, 24] })
    (n nb : Nat) (k v : Int) (sv : Value) (hs : a.eval s = sv) (hsv : (sv = .slice none 0 0 ∧ n = 0) ∨ ∃ g cap, sv = .slice (some ⟨g, 0, none⟩) n cap ∧ NBlk V g cap ∧ n ≤ cap ∧ cap < n + 1) (hx : a.eval x = .slice (some ⟨nb, 0, none⟩) 1 1) (hn : n ≤ 1000000)
    (hc : ∀ j u, (blankCs k v)[j]? = some u → V.cell? ⟨nb, j, none⟩ = some u)
    (hK : ∀ g' cap' w', V.heap.size ≤ g' → NBlk w' g' cap' → n + 1 ≤ cap' → cap' ≤ 9223372036854775807 → V.grownBy w' none → wpList Tryz.prog ops Q rest (a.put o.dst (.slice (some ⟨g', 0, none⟩) (n + 1) cap')) w') : wpList Tryz.prog ops Q (o :: rest) a V := by
  obtain ⟨i0, hi, hz0, hz1, hz2⟩ := info_parts infoNode
  have hc' : ∀ j u, (blankCs k v)[j]? = some u → V.cell? ((⟨nb, 0, none⟩ : Addr).add j) = some u := fun j u hj => by rw [add_none', Nat.zero_add]; exact hc j u hj
  have hdone : ∀ xs v' w', w'.ownsRow V.heap.size 26 6 v' (n + 1) xs → V.grownBy w' none → wpList Tryz.prog ops Q rest (a.put o.dst v') w' := fun xs v' w' ho hgr => by
    rcases ho.2 with ⟨_, h0⟩ | ⟨g, cap, cur, rfl, h1, h2, h3, h4, h5, _⟩
    · omega
    · unfold maxLen at h4
      exact hK g cap w' h1 ⟨cur, h2, h5⟩ h3 h4 hgr
  rcases hsv with ⟨rfl, rfl⟩ | ⟨g, cap, rfl, hN, h1, h2⟩
  · refine wpList_append_own V hg s x _ hop V.heap.size 26 i0 _ 6 72 Tryz.underlying24 hi hz0 hz1 hz2 rfl (by decide) _ 0 [] hs (World.ownsRow_nil _ _ _ _) ⟨nb, 0, none⟩ 1 1 (blankCs k v) hx rfl hc' (blank_one k v) (by unfold maxLen; omega) (by omega) (Nat.le_refl _) fun v' w' ho hgr _ => ?_
    exact hdone _ v' w' ho hgr
  · obtain ⟨cur, hb, hsz⟩ := hN
    have hB : Blk V g 26 cur := hb
    refine wpList_append_arg V hg s x _ hop 26 i0 _ 6 72 Tryz.underlying24 hi hz0 hz1 hz2 rfl (by decide) g 0 n cap (cur.toList.take (n * 6)) hs (by simp; omega) (fun j u hj => ?_) ⟨nb, 0, none⟩ 1 1 (blankCs k v) hx rfl hc' (blank_one k v) (fun h => by omega) (by unfold maxLen; omega) (by omega) (fun h => by omega) (fun _ v' w' ho hgr => hdone _ v' w' ho hgr)
    rw [Nat.zero_add, hB.cell j]
    rw [List.getElem?_take] at hj
    split at hj
    · simpa using hj
    · cases hj
end
/-- What Spoil does at a node whose kids are f. -/
def SpoilC (f : Fr) : Prop :=
  ∀ (w : World) (S : Nat → Prop) (k t r v : Int) (l : ByteArray) (kv : Value), PartKid w S f kv → (∀ i, S i → i < w.heap.size) →
    Calls Tryz.prog 20 #[.agg #[.int .i64 k, .int .i64 t, .int .i64 r, .string l, .int .i64 v, kv]] w fun e w' => e = .returned (.tuple #[]) ∧ Bl S w w'
def AllS : Fr → Prop
  | .nil => True
  | .cons _ _ _ _ _ kids rest => SpoilC kids ∧ AllS rest
theorem AllS.at_ : ∀ (f : Fr) (j : Nat) {k t r : Int} {l : List UInt8} {v : Int} {kids rest : Fr}, AllS f → f.drop j = .cons k t r l v kids rest → SpoilC kids
  | .nil, 0, _, _, _, _, _, _, _, _, h => by cases h
  | .nil, _ + 1, _, _, _, _, _, _, _, _, h => by cases h
  | .cons _ _ _ _ _ _ _, 0, _, _, _, _, _, _, _, h, e => by cases e; exact h.1
  | .cons _ _ _ _ _ _ rest, j + 1, _, _, _, _, _, _, _, h, e => AllS.at_ rest j h.2 e
set_option maxHeartbeats 8000000 in
set_option maxRecDepth 100000 in
theorem spoil_step {f : Fr} (hF : AllS f) : SpoilC f := by
  intro w S k t r v l kv hk hS
  obtain ⟨A, n, cap, rfl, hn, hk2, hmk⟩ : ∃ A n cap, kv = .slice A n cap ∧ n ≤ 300000 ∧ (0 < n → ∃ g, A = some ⟨g, 0, none⟩ ∧ n = f.len ∧ S g ∧ NBlk w g cap ∧ f.len ≤ cap ∧ PartRow w S f g 0) ∧ (∀ H, MarkV S H w (.slice A n cap) n) := by
    rcases hk with rfl | ⟨g, cap, rfl, h1, h2, h3, h4, h5, h6⟩
    · exact ⟨none, 0, 0, rfl, by omega, fun h => by omega, fun H => .inl ⟨rfl, rfl⟩⟩
    · exact ⟨_, _, cap, rfl, h5, fun _ => ⟨g, rfl, rfl, h1, h2, h3, h6⟩, fun H => .inr ⟨g, cap, rfl, .inl h1, h2, h3, h4⟩⟩
  obtain ⟨W0, hW0⟩ : ∃ W0, w.alloc (.cells #[.int .i64 k, .int .i64 t, .int .i64 r, .string l, .int .i64 v, .slice A n cap] 26 (0, 0)) = W0 := ⟨_, rfl⟩
  have hs0 : W0.heap.size = w.heap.size + 1 := by rw [← hW0]; simp
  have hb0 : Below w.heap.size w W0 := by rw [← hW0]; exact alloc_b _ _
  have HB0 := Lib.hid (show Bl S w W0 from Bl.of_below hb0)
  have HBX := Lib.hid (show Blk W0 w.heap.size 26 #[.int .i64 k, .int .i64 t, .int .i64 r, .string l, .int .i64 v, .slice A n cap] by rw [← hW0]; exact Blk.new w _ _)
  have HK := Lib.hid (fun (wr : World) (hb : Bl S W0 wr) (j : Nat) (hj : j < n) => (show ∃ g, A = some ⟨g, 0, none⟩ ∧ S g ∧ NBlk wr g cap ∧ j < cap ∧ g < w.heap.size ∧ ∃ k' t' r' v' l' kv', RowIs wr g j k' t' r' v' l' kv' ∧ ∃ kids', SpoilC kids' ∧ PartKid wr S kids' kv' by
    obtain ⟨g, e, hnf, h1, h2, h3, h4⟩ := hk2 (by omega)
    have hbw := HB0.out.trans hb
    have h5 := PartRow.bl hbw f g 0 cap h1 h2 (by omega) h4
    obtain ⟨k0, t0, r0, l0, v0, kids', rest', hdr⟩ := f.drop_lt j (by omega)
    obtain ⟨k', t', r', v', l', kv', h6, h7⟩ := PartRow.at_ f g 0 j h5 hdr
    rw [Nat.zero_add] at h6
    exact ⟨g, e, h1, (hbw.inn g cap h1 h2).1, by omega, h2.lt, k', t', r', v', l', kv', h6, kids', AllS.at_ f j hF hdr, h7⟩))
  have HNS := Lib.hid (show ¬ S w.heap.size from fun h => by have := hS _ h; omega)
  have HSS := Lib.hid hS
  have HMK := Lib.hid (fun (wr : World) (hb : Bl S W0 wr) => (show MarkV S (w.heap.size + 1) wr (.slice A n cap) n by
    rcases hmk (w.heap.size + 1) with h | ⟨g, cap', e, h1, h2, h3, h4⟩
    · exact .inl h
    · by_cases hSg : S g
      · exact .inr ⟨g, cap', e, .inl hSg, ((HB0.out.trans hb).inn g cap' hSg h2).1, h3, h4⟩
      · exfalso
        have := h1.resolve_left hSg
        have := h2.lt
        omega))
  have HW0 := Lib.hid hW0
  clear hW0 hk hS hk2 hmk hb0
  go_enter Tryz.func20, Tryz.ntmps20
  go_wp2_with fail
  go_loopw [2] (fun i wr => ∃ j : Nat, j ≤ n ∧ i = .int .i64 j ∧ Bl S W0 wr) (fun i _ => n - (intOf i).toNat)
  case atStart => exact ⟨0, Nat.zero_le _, rfl, by rw [HW0.out]; exact Bl.refl _ _⟩
  case round =>
    obtain ⟨j, hj, rfl, hb⟩ := hrel
    have HB := Lib.hid hb
    have hbs := hb.size
    have hbx : Blk wr w.heap.size 26 #[.int .i64 k, .int .i64 t, .int .i64 r, .string l, .int .i64 v, .slice A n cap] := (hb.out _ (by omega) HNS.out).trans HBX.out
    have b5 := hbx.cell 5
    have HBXR := Lib.hid hbx
    clear hb hbx
    by_cases hlt : j < n
    · obtain ⟨g, rfl, hSg, hN, hjc, hgl, k', t', r', v', l', kv', ⟨q0, q1, q2, q3, q4, q5⟩, kids', hC, hP⟩ := HK.out wr HB.out j hlt
      have HC := Lib.hid (hC wr S k' t' r' v' l' kv' hP (fun i hi => by have := HSS.out i hi; omega))
      have i1 : (j : Int) < (n : Int) := by omega
      clear hC hP hN hSg
      go_wp2_with (go_at_call 20; refine HC.out.mono ?_; rintro e w2 ⟨rfl, hb2⟩)
      go_roundw
      case rel => exact ⟨j + 1, by omega, by go_num, HB.out.trans hb2⟩
      case measure => simp [intOf]; omega
    · go_wp2_with fail
      go_loopw [3] (fun i wr => ∃ j : Nat, j ≤ n ∧ i = .int .i64 j ∧ Bl S W0 wr) (fun i _ => n - (intOf i).toNat)
      case atStart => exact ⟨0, Nat.zero_le _, rfl, HB.out⟩
      case round =>
        obtain ⟨j2, hj2, rfl, hb⟩ := hrel
        have HB := Lib.hid hb
        have hbs := hb.size
        have hbx : Blk wr w.heap.size 26 #[.int .i64 k, .int .i64 t, .int .i64 r, .string l, .int .i64 v, .slice A n cap] := (hb.out _ (by omega) HNS.out).trans HBX.out
        have b5 := hbx.cell 5
        clear hb hbx
        by_cases hlt2 : j2 < n
        · obtain ⟨g, rfl, hSg, hN, hjc, hgl, k', t', r', v', l', kv', ⟨q0, q1, q2, q3, q4, q5⟩, kids', hC, hP⟩ := HK.out wr HB.out j2 hlt2
          have HP2 := Lib.hid (bl_put' HB.out (.inl hSg) hN hjc (-9) 77)
          have f0 := (hN.cell (i := j2 * 6) (by omega)).2
          have f1 := (hN.cell (i := j2 * 6 + 1) (by omega)).2
          have f2 := (hN.cell (i := j2 * 6 + 2) (by omega)).2
          have f3 := (hN.cell (i := j2 * 6 + 3) (by omega)).2
          have f4 := (hN.cell (i := j2 * 6 + 4) (by omega)).2
          have f5 := (hN.cell (i := j2 * 6 + 5) (by omega)).2
          have i1 : (j2 : Int) < (n : Int) := by omega
          clear hC hP hN hSg
          go_wp2_with fail
          go_roundw
          case rel => exact ⟨j2 + 1, by omega, by go_num, HP2.out⟩
          case measure => simp [intOf]; omega
        · have HMV := Lib.hid (HMK.out wr HB.out)
          go_wp2_with fail
          go_loopw [4, 5] (fun v4 i wr => ∃ j n' : Nat, j ≤ 9 ∧ i = .int .i64 j ∧ MarkV S (w.heap.size + 1) wr v4 n' ∧ n' ≤ 300000 + j ∧ Bl S W0 wr) (fun _ i _ => 9 - (intOf i).toNat)
          case atStart => exact ⟨0, n, by omega, rfl, HMV.out, by omega, HB.out⟩
          case round =>
            obtain ⟨j, n', hj, rfl, hmv, hn', hbl⟩ := hrel
            have HBL := Lib.hid hbl
            have hsz := hbl.size
            by_cases hlt : j < 9
            · have hca := fun jj u (hu : (blankCs (-8) 0)[jj]? = some u) => show (wr.alloc (.cells (blankCs (-8) 0).toArray 26 (0, 0))).cell? ⟨wr.heap.size, jj, none⟩ = some u by rw [cell_new]; simpa using hu
              have HCA := Lib.hid hca
              have HBA := Lib.hid (hbl.trans (Bl.of_below (alloc_b wr (.cells (blankCs (-8) 0).toArray 26 (0, 0)))))
              clear hca hbl
              rcases hmv with ⟨rfl, rfl⟩ | ⟨g', cap', rfl, hSg, hNg, h1, h2⟩
              · go_wp2_with (at_builtin; refine mark_new (wr.alloc (.cells (blankCs (-8) 0).toArray 26 (0, 0))) rfl _ _ rfl 0 wr.heap.size (-8) 0 _ rfl (.inl ⟨rfl, rfl⟩) rfl (by omega) HCA.out ?_; intro g2 cap2 w2 hg2 hN2 hc2 hm2 hgr; have HN2 := Lib.hid hN2; have HB2 := Lib.hid (bl_grown HBA.out hgr); clear hN2 hgr)
                go_roundw
                case rel => exact ⟨j + 1, 1, by omega, by go_num, .inr ⟨g2, cap2, rfl, .inr (by simp at hg2; omega), HN2.out, by omega, hm2⟩, by omega, HB2.out⟩
                case measure => simp [intOf]; omega
              · have HNG := Lib.hid (hNg.same (Below.heap_alloc wr (.cells (blankCs (-8) 0).toArray 26 (0, 0)) g' hNg.lt))
                have HSG := Lib.hid hSg
                clear hNg hSg
                by_cases hroom : n' + 1 ≤ cap'
                · have HB2 := Lib.hid (bl_put' HBA.out (by rcases HSG.out with h | h; exact .inl h; exact .inr (by omega)) HNG.out (show n' < cap' by omega) (-8) 0)
                  go_wp2_with (at_builtin; refine mark_room (wr.alloc (.cells (blankCs (-8) 0).toArray 26 (0, 0))) rfl _ _ rfl g' n' cap' wr.heap.size (-8) 0 rfl rfl HNG.out hroom h2 (by omega) HCA.out ?_)
                  have HN2 := Lib.hid (nblk_setCells (blankCs (-8) 0) (n' * 6) _ HNG.out)
                  go_roundw
                  case rel => exact ⟨j + 1, n' + 1, by omega, by go_num, .inr ⟨g', cap', rfl, HSG.out, HN2.out, hroom, h2⟩, by omega, HB2.out⟩
                  case measure => simp [intOf]; omega
                · go_wp2_with (at_builtin; refine mark_new (wr.alloc (.cells (blankCs (-8) 0).toArray 26 (0, 0))) rfl _ _ rfl n' wr.heap.size (-8) 0 _ rfl (.inr ⟨g', cap', rfl, HNG.out, h1, by omega⟩) rfl (by omega) HCA.out ?_; intro g2 cap2 w2 hg2 hN2 hc2 hm2 hgr; have HN2 := Lib.hid hN2; have HB2 := Lib.hid (bl_grown HBA.out hgr); clear hN2 hgr)
                  go_roundw
                  case rel => exact ⟨j + 1, n' + 1, by omega, by go_num, .inr ⟨g2, cap2, rfl, .inr (by simp at hg2; omega), HN2.out, by omega, hm2⟩, by omega, HB2.out⟩
                  case measure => simp [intOf]; omega
            · go_wp2_with fail
              go_end0
              exact ⟨rfl, HB0.out.trans HBL.out⟩
theorem allS : ∀ f, AllS f
  | .nil => trivial
  | .cons _ _ _ _ _ kids rest => ⟨spoil_step (allS kids), allS rest⟩
theorem spoilR (f : Fr) : SpoilC f := spoil_step (allS f)
end Go.Proofs.YtmlnibjnacfanaaGreatDoor
