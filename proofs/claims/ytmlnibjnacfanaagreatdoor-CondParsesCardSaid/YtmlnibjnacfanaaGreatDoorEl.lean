/- Layer 8: slices.SortFunc at things. Layer 8: the program's things. Layer 8: the program's things: sorted. Layer 8: the program's Things. -/
import Derived.Test.YtmlnibjnacfanaaGreatDoorShelf2
import Derived.Test.YtmlnibjnacfanaaGreatDoorEi
import Derived.Test.YtmlnibjnacfanaaGreatDoorCi
import Derived.Sort.LotA
namespace Go.Proofs.YtmlnibjnacfanaaGreatDoor
open Go.RowKit
open Go.Sort
open Go.Sort (sorted_unique_holds flatK size_flatK get_flatK HoldsK)

instance instVTh : Inhabited VTh := ⟨⟨(0, 0, []), by decide⟩⟩
def encT (x : VTh) : List Value := thCs x.1
theorem lt_ltT : ltOf (fun x y : VTh => standC x.1 y.1) = ltT := rfl
theorem cmp_stand (blk off size : Nat) (w : World) : CmpLays Tryz.prog 89 #[] encT 3 (fun x y => standC x.1 y.1) blk off size w := fun m os dk _ x y => by
  obtain ⟨⟨t, r, l⟩, hx⟩ := x
  obtain ⟨⟨t', r', l'⟩, hy⟩ := y
  have px := vth_parts ⟨(t, r, l), hx⟩
  have py := vth_parts ⟨(t', r', l'), hy⟩
  simp only at px py
  exact standP (t := t) (r := r) (l := l) (t' := t') (r' := r') (l' := l') (by omega) (by omega) (by omega) (by omega) (by omega) (by omega) (by omega) (by omega)
theorem sortP (blk cap : Nat) (d : Array VTh) (w : World) (hH : HoldsK encT 3 w blk 0 d) (hblk : blk < w.heap.size) (hsz : d.size < 4611686018427387904) :
    Calls Tryz.prog 88 #[.slice (some ⟨blk, 0, none⟩) d.size cap, .func (.func 89) #[] #[]] w fun e w' =>
      e = .returned (.tuple #[]) ∧ ∃ d' n os, PermIn 0 d.size d d' ∧ SortedIn ltT 0 d.size d' ∧ w' = sortWorldK encT 3 w blk 0 n d' os := by
  have eg : ∀ args w, (callFunc 89 args).run Tryz.prog w = .ok (.enter 89 args) w := enters_of Tryz.func89 (by kernel_rfl) rfl
  exact AnyQ.slices_SortFunc Tryz.sortTh 3 Tryz.isAgg23 Tryz.sizeOf23 encT (fun _ => rfl) (fun x v hv => by simp [encT, thCs] at hv; rcases hv with rfl | rfl | rfl <;> rfl) (fun x y => standC x.1 y.1) ltT_swo 89 #[] blk 0 cap d w eg (cmp_stand blk 0 d.size w) hH hblk hsz

def leT (x y : Th) : Bool := !decide (standC y x < 0)
/-- The things in order. -/
def sortT (L : List Th) : List Th := L.mergeSort leT
def vthB (x : Th) : Prop := thingB 2 x.1 x.2.1 x.2.2 = true
def toV : (L : List Th) → (∀ x ∈ L, vthB x) → List VTh
  | [], _ => []
  | x :: r, h => ⟨x, h x (by simp)⟩ :: toV r (fun y hy => h y (by simp [hy]))
def valV (x : VTh) : Th := x.1
theorem toV_map : ∀ (L : List Th) (h : ∀ x ∈ L, vthB x), (toV L h).map valV = L
  | [], _ => rfl
  | x :: r, h => by
    show valV _ :: (toV r _).map valV = x :: r
    rw [toV_map r]
    rfl
theorem toV_len (L : List Th) (h : ∀ x ∈ L, vthB x) : (toV L h).length = L.length := by
  have := congrArg List.length (toV_map L h)
  simpa using this
theorem toV_sort (L : List Th) (h : ∀ x ∈ L, vthB x) : ((toV L h).mergeSort (fun x y => !ltT y x)).map valV = sortT L := by
  rw [List.map_mergeSort (r := fun x y => !ltT y x) (s := leT) (f := valV) (fun a _ b _ => rfl), toV_map]
  rfl
theorem thCells_at : ∀ (L : List Th) (i : Nat) (x : Th), L[i]? = some x → (thCells L)[i * 3]? = some (.int .i64 x.1) ∧ (thCells L)[i * 3 + 1]? = some (.int .i64 x.2.1) ∧ (thCells L)[i * 3 + 2]? = some (.string ⟨x.2.2.toArray⟩)
  | [], _, _, h => by simp at h
  | y :: r, 0, x, h => by simp at h; subst h; simp [thCells, thCs]
  | y :: r, i + 1, x, h => by
    have := thCells_at r i x (by simpa using h)
    rw [show (i + 1) * 3 = i * 3 + 3 by omega]
    simpa [thCells, thCs] using this
theorem sort_other {w : World} {blk n : Nat} {d : Array VTh} {os : Array Obj} {i : Nat} (hi : i < w.heap.size) (hne : i ≠ blk) : (sortWorldK encT 3 w blk 0 n d os).heap[i]? = w.heap[i]? := by
  have h1 : (Sort.mapBlock (Sort.ahead w n) blk (Sort.putCells id 0 (flatK encT 3 d))).heap[i]? = w.heap[i]? := by
    simp only [Sort.mapBlock, Array.getElem?_modify]
    rw [if_neg (fun e => hne e.symm)]
    rfl
  have h2 : (Sort.grow (Sort.mapBlock (Sort.ahead w n) blk (Sort.putCells id 0 (flatK encT 3 d))) os).heap[i]? = (Sort.mapBlock (Sort.ahead w n) blk (Sort.putCells id 0 (flatK encT 3 d))).heap[i]? := Sort.heap_grow_old _ _ (by simp [Sort.mapBlock]; exact hi)
  exact h2.trans h1
theorem sort_below {w : World} {blk n B : Nat} {d : Array VTh} {os : Array Obj} (hB : B ≤ blk) (hblk : blk < w.heap.size) : Below B w (sortWorldK encT 3 w blk 0 n d os) :=
  ⟨rfl, rfl, rfl, by show w.heap.size ≤ ((w.heap.modify blk _) ++ os).size; simp, fun i hi => sort_other (by omega) (by omega)⟩
theorem thCells_get : ∀ (L : List Th) (j : Nat), j < L.length * 3 → (thCells L)[j]? = (thCs (L.getD (j / 3) (0, 0, [])))[j % 3]?
  | [], _, h => by simp at h
  | y :: r, 0, _ => by simp [thCells, thCs]
  | y :: r, 1, _ => by simp [thCells, thCs]
  | y :: r, 2, _ => by simp [thCells, thCs]
  | y :: r, j + 3, h => by
    have := thCells_get r j (by simp at h; omega)
    rw [show (j + 3) / 3 = j / 3 + 1 by omega, show (j + 3) % 3 = j % 3 by omega]
    simpa [thCells, thCs] using this
theorem arr_succ {α : Type} [Inhabited α] (a : α) (l : List α) (i : Nat) : (a :: l).toArray[i + 1]! = l.toArray[i]! := by simp
theorem toV_get : ∀ (L : List Th) (h : ∀ x ∈ L, vthB x) (i : Nat), i < L.length → ((toV L h).toArray[i]!).1 = L.getD i (0, 0, [])
  | [], _, _, hi => by simp at hi
  | x :: r, h, 0, _ => rfl
  | x :: r, h, i + 1, hi => by
    have := toV_get r (fun y hy => h y (by simp [hy])) i (by simpa using hi)
    exact (congrArg Subtype.val (arr_succ (α := VTh) _ _ i)).trans this
theorem holds_own {w : World} {B g cap : Nat} {L : List Th} (hv : ∀ x ∈ L, vthB x) (ho : w.ownsRow B 23 3 (.slice (some ⟨g, 0, none⟩) L.length cap) L.length (thCells L)) : HoldsK encT 3 w g 0 (toV L hv).toArray := by
  intro j hj
  rw [size_flatK] at hj
  have hsz : (toV L hv).toArray.size = L.length := by simp [toV_len]
  rw [hsz] at hj
  rw [Nat.zero_add, ho.cellAt j hj, get_flatK _ _ _ _ (by rw [hsz]; exact hj), thCells_get L j hj]
  refine ⟨?_, ho.frozenAt j⟩
  show _ = some ((thCs ((toV L hv).toArray[j / 3]!).1)[j % 3]!)
  rw [toV_get L hv (j / 3) (by omega)]
  have h3 : j % 3 < (thCs (L.getD (j / 3) (0, 0, []))).length := by simp [thCs]; omega
  rw [List.getElem?_eq_getElem h3]
  exact congrArg some (getElem!_pos (thCs (L.getD (j / 3) (0, 0, []))) (j % 3) h3).symm

/-- A row of things lies at a block. -/
def ThsAt (w : World) (g : Nat) (T : List Th) : Prop := ∀ i x, T[i]? = some x → w.cell? ⟨g, i * 3, none⟩ = some (.int .i64 x.1) ∧ w.cell? ⟨g, i * 3 + 1, none⟩ = some (.int .i64 x.2.1) ∧ w.cell? ⟨g, i * 3 + 2, none⟩ = some (.string ⟨x.2.2.toArray⟩)
theorem ThsAt.below {w w' : World} {B g : Nat} {T : List Th} (h : ThsAt w g T) (hb : Below B w w') (hg : g < B) : ThsAt w' g T := fun i x hx =>
  ⟨(hb.cell (p := ⟨g, i * 3, none⟩) hg).trans (h i x hx).1, (hb.cell (p := ⟨g, i * 3 + 1, none⟩) hg).trans (h i x hx).2.1, (hb.cell (p := ⟨g, i * 3 + 2, none⟩) hg).trans (h i x hx).2.2⟩
theorem map_get {d : Array VTh} {T : List Th} (h : d.toList.map valV = T) {i : Nat} {x : Th} (hx : T[i]? = some x) : i < d.size ∧ (d[i]!).1 = x := by
  subst h
  simp only [List.getElem?_map, Option.map_eq_some_iff] at hx
  obtain ⟨y, hy, rfl⟩ := hx
  obtain ⟨h1, rfl⟩ := List.getElem?_eq_some_iff.1 hy
  have h2 : i < d.size := by simpa using h1
  exact ⟨h2, by rw [getElem!_pos d i h2]; rfl⟩
theorem holds_cells {w : World} {g : Nat} {d : Array VTh} {T : List Th} (hH : HoldsK encT 3 w g 0 d) (hT : d.toList.map valV = T) : ThsAt w g T := by
  intro i x hx
  obtain ⟨hi, hv⟩ := map_get hT hx
  have key : ∀ j, j < 3 → w.cell? ⟨g, i * 3 + j, none⟩ = some ((thCs x)[j]!) := by
    intro j hj
    have h1 := (hH (i * 3 + j) (by rw [size_flatK]; omega)).1
    rw [Nat.zero_add, get_flatK _ _ _ _ (by omega)] at h1
    rw [show (i * 3 + j) / 3 = i by omega, show (i * 3 + j) % 3 = j by omega] at h1
    rw [h1]
    show some ((thCs (d[i]!).1)[j]!) = _
    rw [hv]
  exact ⟨key 0 (by omega), key 1 (by omega), key 2 (by omega)⟩
theorem sortQ {w : World} {B g cap : Nat} {L : List Th} (hv : ∀ x ∈ L, vthB x) (hlen : L.length ≤ 1000000) (ho : w.ownsRow B 23 3 (.slice (some ⟨g, 0, none⟩) L.length cap) L.length (thCells L)) :
    Calls Tryz.prog 88 #[.slice (some ⟨g, 0, none⟩) L.length cap, .func (.func 89) #[] #[]] w fun e w' =>
      e = .returned (.tuple #[]) ∧ Below B w w' ∧ (∀ i, i < w.heap.size → i ≠ g → w'.heap[i]? = w.heap[i]?) ∧ ThsAt w' g (sortT L) := by
  have hH := holds_own hv ho
  have hg := ho.lt g rfl
  have hsz : (toV L hv).toArray.size = L.length := by simp [toV_len]
  have h := sortP g cap (toV L hv).toArray w hH hg.2 (by omega)
  rw [hsz] at h
  refine h.mono ?_
  rintro e w' ⟨rfl, d', n, os, hP, hSo, rfl⟩
  refine ⟨rfl, sort_below hg.1 hg.2, fun i hi hne => sort_other hi hne, ?_⟩
  have hd : d'.size = (toV L hv).toArray.size := by rw [hsz]; exact hP.1.trans hsz
  refine holds_cells (holdsK_sortWorldK_c encT 3 w g 0 (toV L hv).toArray d' n os hH hg.2 hd) ?_
  have := sorted_unique_holds ltT_swo ltT_total (toV L hv).toArray d' (by rw [hsz]; exact hP) (by rw [hsz]; exact hSo)
  rw [this]
  exact toV_sort L hv
theorem sortT_perm (L : List Th) : (sortT L).Perm L := List.mergeSort_perm _ _
theorem sortT_len (L : List Th) : (sortT L).length = L.length := (sortT_perm L).length_eq
theorem nodup_next {T : List Th} (h : T.Nodup) : ∀ i x y, T[i]? = some x → T[i + 1]? = some y → x ≠ y := by
  intro i x y hx hy e
  subst e
  obtain ⟨h1, e1⟩ := List.getElem?_eq_some_iff.1 hx
  obtain ⟨h2, e2⟩ := List.getElem?_eq_some_iff.1 hy
  have := (List.getElem_inj (h₀ := h1) (h₁ := h2) h).1 (e1.trans e2.symm)
  omega
theorem own_some {w : World} {B : Nat} {t : TypeId} {z n : Nat} {v : Value} {cs : List Value} (h : w.ownsRow B t z v n cs) (hn : 0 < n) : ∃ g cap, v = .slice (some ⟨g, 0, none⟩) n cap := by
  rcases h.2 with ⟨_, rfl⟩ | ⟨g, cap, cur, rfl, _⟩
  · omega
  · exact ⟨g, cap, rfl⟩
def ThsPost (L : List Th) (w : World) (e : Ending) (w' : World) : Prop := ∃ g cap, e = .returned (.slice (some ⟨g, 0, none⟩) L.length cap) ∧ w.heap.size ≤ g ∧ ThsAt w' g (sortT L) ∧ Below w.heap.size w w'
section
variable {w : World} {k t r v : Int} {l : List UInt8} {kids : Fr}
set_option maxHeartbeats 2000000 in
set_option maxRecDepth 100000 in
theorem thingsP (hi : Nat) (kv : Value) (hhi : hi ≤ w.heap.size) (hs : SlAt w hi kv kids) (hl : l.length ≤ 9223372036854775807) (hall : 1 + kids.all ≤ 1000000)
    (hv : ∀ x ∈ atL k t r l ++ atomsF kids, vthB x) (hnd : (atL k t r l ++ atomsF kids).Nodup) (hne : 0 < (atL k t r l ++ atomsF kids).length) :
    Calls Tryz.prog 55 #[nodeV k t r l v kv] w (ThsPost (atL k t r l ++ atomsF kids) w) := by
  obtain ⟨A, cap, rfl, s'⟩ := hs
  have hs2 : SlAt w hi (.slice A kids.len cap) kids := ⟨A, cap, rfl, s'⟩
  have hat1 : (atL k t r l).length ≤ 1 := by unfold atL; split <;> simp
  have haf1 := atomsF_len kids
  have hnl : (atL k t r l ++ atomsF kids).length ≤ 1000000 := by simp; omega
  obtain ⟨L, hL⟩ : ∃ L, atL k t r l ++ atomsF kids = L := ⟨_, rfl⟩
  rw [hL] at hnl hv hnd hne ⊢
  have HLL := Lib.hid hL
  have HNL := Lib.hid hnl
  have HV := Lib.hid hv
  have HND := Lib.hid hnd
  have HNE := Lib.hid hne
  have hb2 := ((alloc_b w (.cells #[.int .i64 k, .int .i64 t, .int .i64 r, .string ⟨l.toArray⟩, .int .i64 v, .slice A kids.len cap] 26 (0, 0))).alloc (by simp) (.cells #[.slice none 0 0] 42 (0, 0)))
  have HB2 := Lib.hid hb2
  have HS := Lib.hid (hs2.below hhi hb2)
  have hbn := Blk.new (w.alloc (.cells #[.int .i64 k, .int .i64 t, .int .i64 r, .string ⟨l.toArray⟩, .int .i64 v, .slice A kids.len cap] 26 (0, 0))) 42 #[.slice none 0 0]
  have HACC := Lib.hid (show Acc ((w.alloc (.cells #[.int .i64 k, .int .i64 t, .int .i64 r, .string ⟨l.toArray⟩, .int .i64 v, .slice A kids.len cap] 26 (0, 0))).alloc (.cells #[.slice none 0 0] 42 (0, 0))) (w.heap.size + 1) [] from ⟨_, by simpa using hbn, ⟨by simp [thCells], .inl ⟨rfl, rfl⟩⟩⟩)
  clear hs2 s' hv hnd hne hb2 hbn hat1 haf1 hL hnl
  go_enter Tryz.func55, Tryz.ntmps55
  go_wp2_with (go_at_call 86; refine (nodeA_all _ (w.heap.size + 1) hi _ [] (by omega) HACC.out HS.out hl (by simp; omega)).mono ?_; rintro e w3 ⟨rfl, ha3, hb3⟩; rw [List.nil_append, HLL.out] at ha3; obtain ⟨u, hbl, hown⟩ := ha3; obtain ⟨g, cu, rfl⟩ := own_some hown HNE.out; have c0 := hbl.cell 0; have HBL := Lib.hid hbl; have HOW := Lib.hid hown; have HB3 := Lib.hid hb3; have hz3 := hb3.size; simp at hz3; clear hbl hown hb3)
  go_wp2_with (go_at_call 88; refine (sortQ HV.out HNL.out HOW.out).mono ?_; rintro e w4 ⟨rfl, hb4, hk4, ht4⟩; have hgl := HOW.out.lt g rfl; have hB4 : Blk w4 (w.heap.size + 1) 42 #[.slice (some ⟨g, 0, none⟩) L.length cu] := (hk4 _ (by omega) (by omega)).trans HBL.out; have c1 := hB4.cell 0; have HB4 := Lib.hid hb4; have HT4 := Lib.hid ht4; have hz4 := hb4.size; clear hb4 hk4 ht4 hB4)
  have hcp := compactP_same g cu (sortT L) (by rw [sortT_len]; exact HNL.out) (nodup_next ((sortT_perm L).nodup_iff.2 HND.out)) HT4.out
  rw [sortT_len] at hcp
  have HCP := Lib.hid hcp
  clear hcp
  go_wp2_with (go_at_call 90; refine HCP.out.mono ?_; rintro e w5 ⟨rfl, hb5⟩)
  go_ret
  have hgl := HOW.out.lt g rfl
  have hb34 := (HB3.out.mono (Nat.le_succ w.heap.size)).trans (HB4.out.mono (show w.heap.size ≤ w.heap.size + 1 + 1 by omega))
  exact ⟨g, cu, rfl, by omega, HT4.out.below hb5 (by omega), (HB2.out.trans hb34).trans (hb5.mono (by omega))⟩
end

theorem thCells_of {w : World} {g : Nat} {T : List Th} (h : ThsAt w g T) (j : Nat) (u : Value) (hu : (thCells T)[j]? = some u) : w.cell? ⟨g, 0 + j, none⟩ = some u := by
  have hj : j < T.length * 3 := by
    obtain ⟨h1, _⟩ := List.getElem?_eq_some_iff.1 hu
    rwa [thCells_len] at h1
  rw [thCells_get T j hj] at hu
  have h3 : j / 3 < T.length := by omega
  obtain ⟨x, hx⟩ : ∃ x, T[j / 3]? = some x := ⟨_, List.getElem?_eq_getElem h3⟩
  rw [show T.getD (j / 3) (0, 0, []) = x by simp [List.getD, hx]] at hu
  obtain ⟨c0, c1, c2⟩ := h _ _ hx
  have hjm : j % 3 < 3 := by omega
  rw [Nat.zero_add]
  by_cases m0 : j % 3 = 0
  · rw [m0] at hu
    rw [show j / 3 * 3 = j by omega] at c0
    exact c0.trans (by simpa [thCs] using hu)
  by_cases m1 : j % 3 = 1
  · rw [m1] at hu
    rw [show j / 3 * 3 + 1 = j by omega] at c1
    exact c1.trans (by simpa [thCs] using hu)
  have m2 : j % 3 = 2 := by omega
  rw [m2] at hu
  rw [show j / 3 * 3 + 2 = j by omega] at c2
  exact c2.trans (by simpa [thCs] using hu)
theorem ths_own {w : World} {B g cap : Nat} {T : List Th} (h : w.ownsRow B 23 3 (.slice (some ⟨g, 0, none⟩) T.length cap) T.length (thCells T)) : ThsAt w g T := by
  intro i x hx
  obtain ⟨h1, _⟩ := List.getElem?_eq_some_iff.1 hx
  obtain ⟨a, b, c⟩ := thCells_at T i x hx
  exact ⟨(h.cellAt (i * 3) (by omega)).trans a, (h.cellAt (i * 3 + 1) (by omega)).trans b, (h.cellAt (i * 3 + 2) (by omega)).trans c⟩
theorem oneTh : ∀ (T : List Th) (u : Value), u ∈ thCells T → u.oneCell' = true
  | [], _, h => by simp [thCells] at h
  | x :: r, u, h => by
    simp only [thCells, List.mem_append] at h
    rcases h with h | h
    · simp [thCs] at h
      rcases h with rfl | rfl | rfl <;> rfl
    · exact oneTh r u h
theorem cloneP {w : World} (g cap : Nat) (T : List Th) (hlen : T.length ≤ 1000000) (hpos : 0 < T.length) (h : ThsAt w g T) :
    Calls Tryz.prog 54 #[.slice (some ⟨g, 0, none⟩) T.length cap] w fun e w' => ∃ g' cap', e = .returned (.slice (some ⟨g', 0, none⟩) T.length cap') ∧ w.heap.size ≤ g' ∧ ThsAt w' g' T ∧ Below w.heap.size w w' := by
  obtain ⟨i0, hi, hz0, hz1, hz2⟩ := info_parts infoThing
  refine (AnyE.slices_Clone Tryz.cloneTh i0 _ 3 32 hi hz0 hz1 hz2 rfl (by decide) Tryz.sizeOf23 g 0 T.length cap (thCells T) w (thCells_len T) (by unfold maxLen; omega) (by omega) (thCells_of h) (oneTh T)).mono ?_
  rintro e w' ⟨v', rfl, ho, _, hb⟩
  obtain ⟨g', cap', rfl⟩ := own_some ho hpos
  exact ⟨g', cap', rfl, (ho.lt g' rfl).1, ths_own ho, hb⟩
def TopPost (L : List Th) (w : World) (e : Ending) (w' : World) : Prop := ∃ g cap, e = .returned (.tuple #[.slice (some ⟨g, 0, none⟩) L.length cap, .int .i64 0]) ∧ w.heap.size ≤ g ∧ ThsAt w' g (sortT L) ∧ Below w.heap.size w w'
section
variable {w : World} {q k t r v : Int} {l : List UInt8} {kids : Fr}
set_option maxHeartbeats 2000000 in
set_option maxRecDepth 100000 in
theorem topP (hi : Nat) (kv : Value) (hhi : hi ≤ w.heap.size) (hs : SlAt w hi kv kids) (hl : l.length ≤ 9223372036854775807) (hall : 1 + kids.all ≤ 1000000) (hck : checkC 2 q k t r l v kids = 0)
    (hv : ∀ x ∈ atL k t r l ++ atomsF kids, vthB x) (hnd : (atL k t r l ++ atomsF kids).Nodup) (hne : 0 < (atL k t r l ++ atomsF kids).length) :
    Calls Tryz.prog 22 #[condV q k t r l v kv] w (TopPost (atL k t r l ++ atomsF kids) w) := by
  obtain ⟨A, cap, rfl, s'⟩ := hs
  have hs2 : SlAt w hi (.slice A kids.len cap) kids := ⟨A, cap, rfl, s'⟩
  have hb1 := alloc_b w (.cells #[.int .i64 q, .int .i64 k, .int .i64 t, .int .i64 r, .string ⟨l.toArray⟩, .int .i64 v, .slice A kids.len cap] 28 (0, 0))
  have hs3 := hs2.below hhi hb1
  have HS := Lib.hid hs3
  have HSU := Lib.hid (hs3.up (show hi ≤ (w.alloc (.cells #[.int .i64 q, .int .i64 k, .int .i64 t, .int .i64 r, .string ⟨l.toArray⟩, .int .i64 v, .slice A kids.len cap] 28 (0, 0))).heap.size by simp; omega))
  have HB1 := Lib.hid hb1
  have HBN := Lib.hid (Blk.new w 28 #[.int .i64 q, .int .i64 k, .int .i64 t, .int .i64 r, .string ⟨l.toArray⟩, .int .i64 v, .slice A kids.len cap])
  have HCK := Lib.hid hck
  have hat1 : (atL k t r l).length ≤ 1 := by unfold atL; split <;> simp
  have haf1 := atomsF_len kids
  have hnl : (atL k t r l ++ atomsF kids).length ≤ 1000000 := by simp; omega
  have HTP := Lib.hid (fun (w2 : World) (h1 : hi ≤ w2.heap.size) (h2 : SlAt w2 hi (.slice A kids.len cap) kids) => thingsP (w := w2) (v := v) hi _ h1 h2 hl hall hv hnd hne)
  obtain ⟨L, hL⟩ : ∃ L, atL k t r l ++ atomsF kids = L := ⟨_, rfl⟩
  rw [hL] at hnl hne HTP ⊢
  have HNL := Lib.hid hnl
  have HNE := Lib.hid hne
  clear s' hs2 hs3 hb1 hv hnd hne hck hat1 haf1 hL hnl
  go_enter Tryz.func22, Tryz.ntmps22
  go_wp2_with (first
    | (go_at_call 12; refine (checkP 2 q k t r l v _ kids _ hl HSU.out).mono ?_; rw [HCK.out]; rintro e w2 ⟨rfl, hb2⟩; have hB := HBN.out.go hb2; have c1 := hB.cell 1; have c2 := hB.cell 2; have c3 := hB.cell 3; have c4 := hB.cell 4; have c5 := hB.cell 5; have c6 := hB.cell 6; have HB2 := Lib.hid hb2; have hz2 := hb2.size; simp at hz2; have HS2 := Lib.hid (HS.out.below (by simp; omega) hb2); clear hB hb2)
    | (go_at_call 55; refine (HTP.out _ (by omega) HS2.out).mono ?_; rintro e w3 ⟨g, cg, rfl, hg, ht, hb3⟩; have HT := Lib.hid ht; have HB3 := Lib.hid hb3; have hz3 := hb3.size; clear ht hb3)
    | (go_at_call 54; have hcl := cloneP g cg (sortT L) (by rw [sortT_len]; exact HNL.out) (by rw [sortT_len]; exact HNE.out) HT.out; rw [sortT_len] at hcl; refine hcl.mono ?_; rintro e w4 ⟨g4, cg4, rfl, hg4, ht4, hb4⟩))
  go_ret2
  exact ⟨g4, cg4, rfl, by omega, ht4, ((HB1.out.trans (HB2.out.mono (by simp))).trans (HB3.out.mono (by omega))).trans (hb4.mono (by omega))⟩
end
end Go.Proofs.YtmlnibjnacfanaaGreatDoor
