/- Layer 8: the program's Things. -/
import Derived.Test.YtmlnibjnacfanaaGreatDoorEk
namespace Go.Proofs.YtmlnibjnacfanaaGreatDoor
open Go.RowKit

theorem thCells_of {w : World} {g : Nat} {T : List Th} (h : ThsAt w g T) (j : Nat) (u : Value) (hu : (thCells T)[j]? = some u) : w.cell? ⟨g, 0 + j, none⟩ = some u := by
  have hj : j < T.length * 3 := by
    obtain ⟨h1, _⟩ := List.getElem?_eq_some_iff.1 hu
    rwa [thCells_len] at h1
  rw [thCells_get T j hj] at hu
  have h3 : j / 3 < T.length := by omega
  obtain ⟨x, hx⟩ : ∃ x, T[j / 3]? = some x := ⟨_, List.getElem?_eq_getElem h3⟩
  rw [show T.getD (j / 3) (0, 0, []) = x by simp [List.getD, hx]] at hu
  obtain ⟨c0, c1, c2⟩ := h _ _ hx
  have hjm : j % 3 < 3 := by omega
  rw [Nat.zero_add]
  by_cases m0 : j % 3 = 0
  · rw [m0] at hu
    rw [show j / 3 * 3 = j by omega] at c0
    exact c0.trans (by simpa [thCs] using hu)
  by_cases m1 : j % 3 = 1
  · rw [m1] at hu
    rw [show j / 3 * 3 + 1 = j by omega] at c1
    exact c1.trans (by simpa [thCs] using hu)
  have m2 : j % 3 = 2 := by omega
  rw [m2] at hu
  rw [show j / 3 * 3 + 2 = j by omega] at c2
  exact c2.trans (by simpa [thCs] using hu)
theorem ths_own {w : World} {B g cap : Nat} {T : List Th} (h : w.ownsRow B 23 3 (.slice (some ⟨g, 0, none⟩) T.length cap) T.length (thCells T)) : ThsAt w g T := by
  intro i x hx
  obtain ⟨h1, _⟩ := List.getElem?_eq_some_iff.1 hx
  obtain ⟨a, b, c⟩ := thCells_at T i x hx
  exact ⟨(h.cellAt (i * 3) (by omega)).trans a, (h.cellAt (i * 3 + 1) (by omega)).trans b, (h.cellAt (i * 3 + 2) (by omega)).trans c⟩
theorem oneTh : ∀ (T : List Th) (u : Value), u ∈ thCells T → u.oneCell' = true
  | [], _, h => by simp [thCells] at h
  | x :: r, u, h => by
    simp only [thCells, List.mem_append] at h
    rcases h with h | h
    · simp [thCs] at h
      rcases h with rfl | rfl | rfl <;> rfl
    · exact oneTh r u h
theorem cloneP {w : World} (g cap : Nat) (T : List Th) (hlen : T.length ≤ 1000000) (hpos : 0 < T.length) (h : ThsAt w g T) :
    Calls Tryz.prog 54 #[.slice (some ⟨g, 0, none⟩) T.length cap] w fun e w' => ∃ g' cap', e = .returned (.slice (some ⟨g', 0, none⟩) T.length cap') ∧ w.heap.size ≤ g' ∧ ThsAt w' g' T ∧ Below w.heap.size w w' := by
  obtain ⟨i0, hi, hz0, hz1, hz2⟩ := info_parts infoThing
  refine (AnyE.slices_Clone Tryz.cloneTh i0 _ 3 32 hi hz0 hz1 hz2 rfl (by decide) Tryz.sizeOf23 g 0 T.length cap (thCells T) w (thCells_len T) (by unfold maxLen; omega) (by omega) (thCells_of h) (oneTh T)).mono ?_
  rintro e w' ⟨v', rfl, ho, _, hb⟩
  obtain ⟨g', cap', rfl⟩ := own_some ho hpos
  exact ⟨g', cap', rfl, (ho.lt g' rfl).1, ths_own ho, hb⟩
def TopPost (L : List Th) (w : World) (e : Ending) (w' : World) : Prop := ∃ g cap, e = .returned (.tuple #[.slice (some ⟨g, 0, none⟩) L.length cap, .int .i64 0]) ∧ w.heap.size ≤ g ∧ ThsAt w' g (sortT L) ∧ Below w.heap.size w w'
section
variable {w : World} {q k t r v : Int} {l : List UInt8} {kids : Fr}
set_option maxHeartbeats 2000000 in
set_option maxRecDepth 100000 in
theorem topP (hi : Nat) (kv : Value) (hhi : hi ≤ w.heap.size) (hs : SlAt w hi kv kids) (hl : l.length ≤ 9223372036854775807) (hall : 1 + kids.all ≤ 1000000) (hck : checkC 2 q k t r l v kids = 0)
    (hv : ∀ x ∈ atL k t r l ++ atomsF kids, vthB x) (hnd : (atL k t r l ++ atomsF kids).Nodup) (hne : 0 < (atL k t r l ++ atomsF kids).length) :
    Calls Tryz.prog 22 #[condV q k t r l v kv] w (TopPost (atL k t r l ++ atomsF kids) w) := by
  obtain ⟨A, cap, rfl, s'⟩ := hs
  have hs2 : SlAt w hi (.slice A kids.len cap) kids := ⟨A, cap, rfl, s'⟩
  have hb1 := alloc_b w (.cells #[.int .i64 q, .int .i64 k, .int .i64 t, .int .i64 r, .string ⟨l.toArray⟩, .int .i64 v, .slice A kids.len cap] 28 (0, 0))
  have hs3 := hs2.below hhi hb1
  have HS := Lib.hid hs3
  have HSU := Lib.hid (hs3.up (show hi ≤ (w.alloc (.cells #[.int .i64 q, .int .i64 k, .int .i64 t, .int .i64 r, .string ⟨l.toArray⟩, .int .i64 v, .slice A kids.len cap] 28 (0, 0))).heap.size by simp; omega))
  have HB1 := Lib.hid hb1
  have HBN := Lib.hid (Blk.new w 28 #[.int .i64 q, .int .i64 k, .int .i64 t, .int .i64 r, .string ⟨l.toArray⟩, .int .i64 v, .slice A kids.len cap])
  have HCK := Lib.hid hck
  have hat1 : (atL k t r l).length ≤ 1 := by unfold atL; split <;> simp
  have haf1 := atomsF_len kids
  have hnl : (atL k t r l ++ atomsF kids).length ≤ 1000000 := by simp; omega
  have HTP := Lib.hid (fun (w2 : World) (h1 : hi ≤ w2.heap.size) (h2 : SlAt w2 hi (.slice A kids.len cap) kids) => thingsP (w := w2) (v := v) hi _ h1 h2 hl hall hv hnd hne)
  obtain ⟨L, hL⟩ : ∃ L, atL k t r l ++ atomsF kids = L := ⟨_, rfl⟩
  rw [hL] at hnl hne HTP ⊢
  have HNL := Lib.hid hnl
  have HNE := Lib.hid hne
  clear s' hs2 hs3 hb1 hv hnd hne hck hat1 haf1 hL hnl
  go_enter Tryz.func22, Tryz.ntmps22
  go_wp2_with (first
    | (go_at_call 12; refine (checkP 2 q k t r l v _ kids _ hl HSU.out).mono ?_; rw [HCK.out]; rintro e w2 ⟨rfl, hb2⟩; have hB := HBN.out.go hb2; have c1 := hB.cell 1; have c2 := hB.cell 2; have c3 := hB.cell 3; have c4 := hB.cell 4; have c5 := hB.cell 5; have c6 := hB.cell 6; have HB2 := Lib.hid hb2; have hz2 := hb2.size; simp at hz2; have HS2 := Lib.hid (HS.out.below (by simp; omega) hb2); clear hB hb2)
    | (go_at_call 55; refine (HTP.out _ (by omega) HS2.out).mono ?_; rintro e w3 ⟨g, cg, rfl, hg, ht, hb3⟩; have HT := Lib.hid ht; have HB3 := Lib.hid hb3; have hz3 := hb3.size; clear ht hb3)
    | (go_at_call 54; have hcl := cloneP g cg (sortT L) (by rw [sortT_len]; exact HNL.out) (by rw [sortT_len]; exact HNE.out) HT.out; rw [sortT_len] at hcl; refine hcl.mono ?_; rintro e w4 ⟨g4, cg4, rfl, hg4, ht4, hb4⟩))
  go_ret2
  exact ⟨g4, cg4, rfl, by omega, ht4, ((HB1.out.trans (HB2.out.mono (by simp))).trans (HB3.out.mono (by omega))).trans (hb4.mono (by omega))⟩
end
end Go.Proofs.YtmlnibjnacfanaaGreatDoor
