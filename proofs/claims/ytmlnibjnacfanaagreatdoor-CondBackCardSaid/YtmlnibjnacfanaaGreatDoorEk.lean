/- Layer 8: the program's things: sorted. -/
import Derived.Test.YtmlnibjnacfanaaGreatDoorEj
namespace Go.Proofs.YtmlnibjnacfanaaGreatDoor
open Go.RowKit
open Go.Sort (sorted_unique_holds flatK size_flatK get_flatK HoldsK)

/-- A row of things lies at a block. -/
def ThsAt (w : World) (g : Nat) (T : List Th) : Prop := ∀ i x, T[i]? = some x → w.cell? ⟨g, i * 3, none⟩ = some (.int .i64 x.1) ∧ w.cell? ⟨g, i * 3 + 1, none⟩ = some (.int .i64 x.2.1) ∧ w.cell? ⟨g, i * 3 + 2, none⟩ = some (.string ⟨x.2.2.toArray⟩)
theorem ThsAt.below {w w' : World} {B g : Nat} {T : List Th} (h : ThsAt w g T) (hb : Below B w w') (hg : g < B) : ThsAt w' g T := fun i x hx =>
  ⟨(hb.cell (p := ⟨g, i * 3, none⟩) hg).trans (h i x hx).1, (hb.cell (p := ⟨g, i * 3 + 1, none⟩) hg).trans (h i x hx).2.1, (hb.cell (p := ⟨g, i * 3 + 2, none⟩) hg).trans (h i x hx).2.2⟩
theorem map_get {d : Array VTh} {T : List Th} (h : d.toList.map valV = T) {i : Nat} {x : Th} (hx : T[i]? = some x) : i < d.size ∧ (d[i]!).1 = x := by
  subst h
  simp only [List.getElem?_map, Option.map_eq_some_iff] at hx
  obtain ⟨y, hy, rfl⟩ := hx
  obtain ⟨h1, rfl⟩ := List.getElem?_eq_some_iff.1 hy
  have h2 : i < d.size := by simpa using h1
  exact ⟨h2, by rw [getElem!_pos d i h2]; rfl⟩
theorem holds_cells {w : World} {g : Nat} {d : Array VTh} {T : List Th} (hH : HoldsK encT 3 w g 0 d) (hT : d.toList.map valV = T) : ThsAt w g T := by
  intro i x hx
  obtain ⟨hi, hv⟩ := map_get hT hx
  have key : ∀ j, j < 3 → w.cell? ⟨g, i * 3 + j, none⟩ = some ((thCs x)[j]!) := by
    intro j hj
    have h1 := (hH (i * 3 + j) (by rw [size_flatK]; omega)).1
    rw [Nat.zero_add, get_flatK _ _ _ _ (by omega)] at h1
    rw [show (i * 3 + j) / 3 = i by omega, show (i * 3 + j) % 3 = j by omega] at h1
    rw [h1]
    show some ((thCs (d[i]!).1)[j]!) = _
    rw [hv]
  exact ⟨key 0 (by omega), key 1 (by omega), key 2 (by omega)⟩
theorem sortQ {w : World} {B g cap : Nat} {L : List Th} (hv : ∀ x ∈ L, vthB x) (hlen : L.length ≤ 1000000) (ho : w.ownsRow B 23 3 (.slice (some ⟨g, 0, none⟩) L.length cap) L.length (thCells L)) :
    Calls Tryz.prog 88 #[.slice (some ⟨g, 0, none⟩) L.length cap, .func (.func 89) #[] #[]] w fun e w' =>
      e = .returned (.tuple #[]) ∧ Below B w w' ∧ (∀ i, i < w.heap.size → i ≠ g → w'.heap[i]? = w.heap[i]?) ∧ ThsAt w' g (sortT L) := by
  have hH := holds_own hv ho
  have hg := ho.lt g rfl
  have hsz : (toV L hv).toArray.size = L.length := by simp [toV_len]
  have h := sortP g cap (toV L hv).toArray w hH hg.2 (by omega)
  rw [hsz] at h
  refine h.mono ?_
  rintro e w' ⟨rfl, d', n, os, hP, hSo, rfl⟩
  refine ⟨rfl, sort_below hg.1 hg.2, fun i hi hne => sort_other hi hne, ?_⟩
  have hd : d'.size = (toV L hv).toArray.size := by rw [hsz]; exact hP.1.trans hsz
  refine holds_cells (holdsK_sortWorldK_c encT 3 w g 0 (toV L hv).toArray d' n os hH hg.2 hd) ?_
  have := sorted_unique_holds ltT_swo ltT_total (toV L hv).toArray d' (by rw [hsz]; exact hP) (by rw [hsz]; exact hSo)
  rw [this]
  exact toV_sort L hv
theorem sortT_perm (L : List Th) : (sortT L).Perm L := List.mergeSort_perm _ _
theorem sortT_len (L : List Th) : (sortT L).length = L.length := (sortT_perm L).length_eq
theorem nodup_next {T : List Th} (h : T.Nodup) : ∀ i x y, T[i]? = some x → T[i + 1]? = some y → x ≠ y := by
  intro i x y hx hy e
  subst e
  obtain ⟨h1, e1⟩ := List.getElem?_eq_some_iff.1 hx
  obtain ⟨h2, e2⟩ := List.getElem?_eq_some_iff.1 hy
  have := (List.getElem_inj (h₀ := h1) (h₁ := h2) h).1 (e1.trans e2.symm)
  omega
theorem own_some {w : World} {B : Nat} {t : TypeId} {z n : Nat} {v : Value} {cs : List Value} (h : w.ownsRow B t z v n cs) (hn : 0 < n) : ∃ g cap, v = .slice (some ⟨g, 0, none⟩) n cap := by
  rcases h.2 with ⟨_, rfl⟩ | ⟨g, cap, cur, rfl, _⟩
  · omega
  · exact ⟨g, cap, rfl⟩
def ThsPost (L : List Th) (w : World) (e : Ending) (w' : World) : Prop := ∃ g cap, e = .returned (.slice (some ⟨g, 0, none⟩) L.length cap) ∧ w.heap.size ≤ g ∧ ThsAt w' g (sortT L) ∧ Below w.heap.size w w'
section
variable {w : World} {k t r v : Int} {l : List UInt8} {kids : Fr}
set_option maxHeartbeats 2000000 in
set_option maxRecDepth 100000 in
theorem thingsP (hi : Nat) (kv : Value) (hhi : hi ≤ w.heap.size) (hs : SlAt w hi kv kids) (hl : l.length ≤ 9223372036854775807) (hall : 1 + kids.all ≤ 1000000)
    (hv : ∀ x ∈ atL k t r l ++ atomsF kids, vthB x) (hnd : (atL k t r l ++ atomsF kids).Nodup) (hne : 0 < (atL k t r l ++ atomsF kids).length) :
    Calls Tryz.prog 55 #[nodeV k t r l v kv] w (ThsPost (atL k t r l ++ atomsF kids) w) := by
  obtain ⟨A, cap, rfl, s'⟩ := hs
  have hs2 : SlAt w hi (.slice A kids.len cap) kids := ⟨A, cap, rfl, s'⟩
  have hat1 : (atL k t r l).length ≤ 1 := by unfold atL; split <;> simp
  have haf1 := atomsF_len kids
  have hnl : (atL k t r l ++ atomsF kids).length ≤ 1000000 := by simp; omega
  obtain ⟨L, hL⟩ : ∃ L, atL k t r l ++ atomsF kids = L := ⟨_, rfl⟩
  rw [hL] at hnl hv hnd hne ⊢
  have HLL := Lib.hid hL
  have HNL := Lib.hid hnl
  have HV := Lib.hid hv
  have HND := Lib.hid hnd
  have HNE := Lib.hid hne
  have hb2 := ((alloc_b w (.cells #[.int .i64 k, .int .i64 t, .int .i64 r, .string ⟨l.toArray⟩, .int .i64 v, .slice A kids.len cap] 26 (0, 0))).alloc (by simp) (.cells #[.slice none 0 0] 42 (0, 0)))
  have HB2 := Lib.hid hb2
  have HS := Lib.hid (hs2.below hhi hb2)
  have hbn := Blk.new (w.alloc (.cells #[.int .i64 k, .int .i64 t, .int .i64 r, .string ⟨l.toArray⟩, .int .i64 v, .slice A kids.len cap] 26 (0, 0))) 42 #[.slice none 0 0]
  have HACC := Lib.hid (show Acc ((w.alloc (.cells #[.int .i64 k, .int .i64 t, .int .i64 r, .string ⟨l.toArray⟩, .int .i64 v, .slice A kids.len cap] 26 (0, 0))).alloc (.cells #[.slice none 0 0] 42 (0, 0))) (w.heap.size + 1) [] from ⟨_, by simpa using hbn, ⟨by simp [thCells], .inl ⟨rfl, rfl⟩⟩⟩)
  clear hs2 s' hv hnd hne hb2 hbn hat1 haf1 hL hnl
  go_enter Tryz.func55, Tryz.ntmps55
  go_wp2_with (go_at_call 86; refine (nodeA_all _ (w.heap.size + 1) hi _ [] (by omega) HACC.out HS.out hl (by simp; omega)).mono ?_; rintro e w3 ⟨rfl, ha3, hb3⟩; rw [List.nil_append, HLL.out] at ha3; obtain ⟨u, hbl, hown⟩ := ha3; obtain ⟨g, cu, rfl⟩ := own_some hown HNE.out; have c0 := hbl.cell 0; have HBL := Lib.hid hbl; have HOW := Lib.hid hown; have HB3 := Lib.hid hb3; have hz3 := hb3.size; simp at hz3; clear hbl hown hb3)
  go_wp2_with (go_at_call 88; refine (sortQ HV.out HNL.out HOW.out).mono ?_; rintro e w4 ⟨rfl, hb4, hk4, ht4⟩; have hgl := HOW.out.lt g rfl; have hB4 : Blk w4 (w.heap.size + 1) 42 #[.slice (some ⟨g, 0, none⟩) L.length cu] := (hk4 _ (by omega) (by omega)).trans HBL.out; have c1 := hB4.cell 0; have HB4 := Lib.hid hb4; have HT4 := Lib.hid ht4; have hz4 := hb4.size; clear hb4 hk4 ht4 hB4)
  have hcp := compactP_same g cu (sortT L) (by rw [sortT_len]; exact HNL.out) (nodup_next ((sortT_perm L).nodup_iff.2 HND.out)) HT4.out
  rw [sortT_len] at hcp
  have HCP := Lib.hid hcp
  clear hcp
  go_wp2_with (go_at_call 90; refine HCP.out.mono ?_; rintro e w5 ⟨rfl, hb5⟩)
  go_ret
  have hgl := HOW.out.lt g rfl
  have hb34 := (HB3.out.mono (Nat.le_succ w.heap.size)).trans (HB4.out.mono (show w.heap.size ≤ w.heap.size + 1 + 1 by omega))
  exact ⟨g, cu, rfl, by omega, HT4.out.below hb5 (by omega), (HB2.out.trans hb34).trans (hb5.mono (by omega))⟩
end
end Go.Proofs.YtmlnibjnacfanaaGreatDoor
