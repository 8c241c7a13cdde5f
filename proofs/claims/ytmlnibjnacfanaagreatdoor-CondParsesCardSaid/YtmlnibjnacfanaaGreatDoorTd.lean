/- Layer 8: the reference's reader in memory; is, on, wrong, want. -/
import Derived.Test.YtmlnibjnacfanaaGreatDoorTb
import Derived.Test.YtmlnibjnacfanaaGreatDoorDj
namespace Go.Proofs.YtmlnibjnacfanaaGreatDoor
open Go.RowKit

/-- The reader: the token at hand is the first of L (or the end), bd tells where it went wrong, or -1. -/
structure RdR (w : World) (g : Nat) (a : Int) (s : ByteArray) (L : List Tok) (bd : Int) : Prop where
  blk : Blk w g 95 #[.int .i64 a, .string s, .int .i64 (kindT (hd L)), .string ⟨(hd L).toArray⟩, .int .i64 (ps s.size L), .int .i64 (nx s.size L), .int .i64 bd]
  nle : nx s.size L ≤ s.size
  nxt : toks (nx s.size L) (s.data.toList.drop (nx s.size L)) = L.tail
  txt : ∀ t ∈ L, t.1 ≠ [] ∧ t.1.length ≤ 262144
  size : s.size ≤ 262144
/-- It went wrong at p. -/
def BadR (w : World) (g p : Nat) : Prop := w.cell? ⟨g, 6, none⟩ = some (.int .i64 p)
section
variable {w w' : World} {g : Nat} {a : Int} {s : ByteArray} {L : List Tok} {bd : Int}
theorem RdR.below (h : RdR w g a s L bd) (hb : Below w.heap.size w w') : RdR w' g a s L bd := ⟨h.blk.go hb, h.nle, h.nxt, h.txt, h.size⟩
theorem RdR.only {q : Nat} (h : RdR w g a s L bd) (hb : Only q w w') (hg : g ≠ q) : RdR w' g a s L bd := ⟨h.blk.only hb hg, h.nle, h.nxt, h.txt, h.size⟩
theorem RdR.lt (h : RdR w g a s L bd) : g < w.heap.size := h.blk.lt
theorem RdR.hd_len (h : RdR w g a s L bd) : (hd L).length ≤ 262144 := by
  cases L with
  | nil => simp [hd]
  | cons t r => exact (h.txt t (List.mem_cons_self ..)).2
theorem toks_txtQ : ∀ (n i : Nat) (l : List UInt8), l.length ≤ n → ∀ t ∈ toks i l, t.1 ≠ [] ∧ t.1.length ≤ l.length := by
  intro n
  induction n with
  | zero =>
    intro i l h t ht
    have : l = [] := List.eq_nil_of_length_eq_zero (by omega)
    subst this
    rw [toks_nil] at ht
    simp at ht
  | succ n ih =>
    intro i l h t ht
    cases l with
    | nil => rw [toks_nil] at ht; simp at ht
    | cons c r =>
      simp only [List.length_cons] at h
      cases hb : blkB c with
      | true =>
        rw [toks_blank i hb] at ht
        obtain ⟨h1, h2⟩ := ih _ r (by omega) t ht
        exact ⟨h1, by simp only [List.length_cons]; omega⟩
      | false =>
        rw [toks_tok i hb] at ht
        have hp := longL_pos (c :: r)
        have hle := longL_le c r
        rcases List.mem_cons.1 ht with rfl | ht
        · refine ⟨fun e => ?_, by simp only [List.length_take, List.length_cons]; omega⟩
          have := congrArg List.length e
          simp only [List.length_take, List.length_cons, List.length_nil] at this
          omega
        · obtain ⟨h1, h2⟩ := ih _ _ (by simp only [List.length_drop, List.length_cons]; omega) t ht
          refine ⟨h1, ?_⟩
          simp only [List.length_drop, List.length_cons] at h2 ⊢
          omega
/-- The reader from place i on. -/
theorem RdR.of_blk {i : Nat} (hi : i ≤ s.size) (hs : s.size ≤ 262144) (hL : toks i (s.data.toList.drop i) = L)
    (hb : Blk w g 95 #[.int .i64 a, .string s, .int .i64 (kindT (hd L)), .string ⟨(hd L).toArray⟩, .int .i64 (ps s.size L), .int .i64 (nx s.size L), .int .i64 bd]) : RdR w g a s L bd := by
  have hsz : s.data.toList.length = s.size := Array.length_toList
  obtain ⟨h1, h2⟩ := nx_next _ s.data.toList i (Nat.le_refl _) (by omega)
  rw [hL, hsz] at h1 h2
  refine ⟨hb, h1, h2, fun t ht => ?_, hs⟩
  rw [← hL] at ht
  obtain ⟨h3, h4⟩ := toks_txtQ _ i _ (Nat.le_refl _) t ht
  exact ⟨h3, by rw [List.length_drop, hsz] at h4; omega⟩
set_option maxHeartbeats 1000000 in
set_option maxRecDepth 100000 in
theorem isR (h : RdR w g a s L bd) (t : List UInt8) (kd : Int) (hk : kindT t = kd) :
    Calls Tryz.prog 47 #[.pointer (some ⟨g, 0, none⟩), .int .i64 kd, .string ⟨t.toArray⟩] w fun e w' => e = .returned (.bool (decide (hd L = t))) ∧ w = w' := by
  have c2 := h.blk.cell 2
  have c3 := h.blk.cell 3
  obtain ⟨x, hx⟩ : ∃ x, hd L = x := ⟨_, rfl⟩
  rw [hx] at c2 c3 ⊢
  obtain ⟨kx, hkx⟩ : ∃ k, kindT x = k := ⟨_, rfl⟩
  rw [hkx] at c2
  by_cases he : x = t
  · subst he
    have e1 : kx = kd := by rw [← hkx, hk]
    subst e1
    clear hk h hx hkx
    go_enter Tryz.func47, Tryz.ntmps47
    go_wp2_with fail
    go_ret
    exact ⟨by simp, rfl⟩
  · have hq : (x == t) = false := by simpa using he
    by_cases e1 : kx = kd
    · subst e1
      have HE := Lib.hid he
      clear hk h hx hkx
      go_enter Tryz.func47, Tryz.ntmps47
      go_wp2_with fail
      go_ret
      exact ⟨by rw [decide_eq_false HE.out]; rfl, rfl⟩
    · have hq2 : (kx == kd) = false := by simpa using e1
      have HE := Lib.hid he
      clear hk h hx hkx he hq e1
      go_enter Tryz.func47, Tryz.ntmps47
      go_wp2_with fail
      go_ret
      exact ⟨by rw [decide_eq_false HE.out]; rfl, rfl⟩
set_option maxHeartbeats 1000000 in
set_option maxRecDepth 100000 in
theorem wrongR (h : RdR w g a s L (-1)) :
    Calls Tryz.prog 51 #[.pointer (some ⟨g, 0, none⟩)] w fun e w' => e = .returned (.tuple #[]) ∧ BadR w' g (ps s.size L) ∧ Only g w w' := by
  have c4 := h.blk.cell 4
  have c6 := h.blk.cell 6
  have f6 := h.blk.frozen 6
  have HB := Lib.hid h.blk
  clear h
  go_enter Tryz.func51, Tryz.ntmps51
  go_wp2_with fail
  go_end0
  exact ⟨rfl, ((HB.out.set_ 6 _).cell 6).trans (by simp), Only.set (Only.refl g w) 6 _⟩
set_option maxHeartbeats 2000000 in
set_option maxRecDepth 100000 in
theorem onR (h : RdR w g a s L bd) :
    Calls Tryz.prog 48 #[.pointer (some ⟨g, 0, none⟩)] w fun e w' => e = .returned (.tuple #[]) ∧ RdR w' g a s L.tail bd ∧ Only g w w' := by
  have H := Lib.hid h
  have hlt := h.lt
  have SS : Hid (∀ y, Below w.heap.size w y → y.cell? ⟨g, 1, none⟩ = some (.string s)) := Lib.hid (fun y hy => (H.out.blk.go hy).cell 1)
  obtain ⟨n, hn⟩ : ∃ n, nx s.size L = n := ⟨_, rfl⟩
  have c5 : w.cell? ⟨g, 5, none⟩ = some (.int .i64 n) := by rw [← hn]; exact h.blk.cell 5
  have HN := Lib.hid hn
  have HNL := Lib.hid (hn ▸ h.nle)
  have HNT := Lib.hid (hn ▸ h.nxt)
  clear h hn
  go_enter Tryz.func48, Tryz.ntmps48
  go_wp2_with fail
  refine wp_region_held_drew (S := (fun y : World => y.cell? ⟨g, 1, none⟩ = some (.string s))) (by kernel_rfl) (SS.out _ ((Below.refl _ _).drew)) (fun hHeld => ?_)
  refine wpAnyH_take (i := 0) (v := ?_) rfl (by kernel_rfl) (by kernel_rfl) (by kernel_rfl) (fun _ _ _ h => h) (Or.inl ⟨by kernel_rfl, ?_⟩) (by assumption) ?_
  rotate_left
  · intro x' hSx
    try dsimp only at hSx
    go_simp
    try with_reducible rfl
  try simp only [Act.put, List.setIfInBounds_toArray]
  refine wpAnyH_take (i := 1) (v := ?_) rfl (by kernel_rfl) (by kernel_rfl) (by kernel_rfl) (fun _ _ _ h => h) (Or.inl ⟨by kernel_rfl, ?_⟩) (by assumption) ?_
  rotate_left
  · intro x' hSx
    try dsimp only at hSx
    go_simp
    try with_reducible rfl
  try simp only [Act.put]
  refine wpAnyH_take (i := 2) (v := ?_) rfl (by kernel_rfl) (by kernel_rfl) (by kernel_rfl) (fun _ _ _ h => h) (Or.inl ⟨by kernel_rfl, ?_⟩) (by assumption) ?_
  rotate_left
  · intro x' hSx
    try dsimp only at hSx
    go_simp
    try with_reducible rfl
  try simp only [Act.put]
  refine wpAnyH_take (i := 3) (v := ?_) rfl (by kernel_rfl) (by kernel_rfl) (by kernel_rfl) (fun _ _ _ h => h) (Or.inl ⟨by kernel_rfl, ?_⟩) (by assumption) ?_
  rotate_left
  · intro x' hSx
    try dsimp only at hSx
    go_simp
    try with_reducible rfl
  try simp only [Act.put]
  refine wpAnyH_take (i := 4) (v := ?_) rfl (by kernel_rfl) (by kernel_rfl) (by kernel_rfl) (fun _ _ _ h => h) (Or.inl ⟨by kernel_rfl, ?_⟩) (by assumption) ?_
  rotate_left
  · intro x' hSx
    try dsimp only at hSx
    go_simp
    try with_reducible rfl
  try simp only [Act.put]
  refine wpAnyH_take (i := 5) (v := ?_) rfl (by kernel_rfl) (by kernel_rfl) (by kernel_rfl) (fun _ _ _ h => h) (Or.inl ⟨by kernel_rfl, ?_⟩) (by assumption) ?_
  rotate_left
  · intro x' hSx
    try dsimp only at hSx
    go_simp
    try with_reducible rfl
  try simp only [Act.put]
  refine wpAnyH_take (i := 6) (v := ?_) rfl (by kernel_rfl) (by kernel_rfl) (by kernel_rfl) (fun _ _ _ h => h) (Or.inl ⟨by kernel_rfl, ?_⟩) (by assumption) ?_
  rotate_left
  · intro x' hSx
    try dsimp only at hSx
    go_simp
    try with_reducible rfl
  try simp only [Act.put]
  refine wpAnyH_take (i := 7) (v := ?_) rfl (by kernel_rfl) (by kernel_rfl) (by kernel_rfl) (fun _ _ _ h => h) (Or.inl ⟨by kernel_rfl, ?_⟩) (by assumption) ?_
  rotate_left
  · intro x' hSx
    try dsimp only at hSx
    go_simp
    try with_reducible rfl
  try simp only [Act.put]
  refine wpAnyH_take (i := 8) (v := ?_) rfl (by kernel_rfl) (by kernel_rfl) (by kernel_rfl) (fun _ _ _ h => h) (Or.inl ⟨by kernel_rfl, ?_⟩) (by assumption) ?_
  rotate_left
  · intro x' hSx
    try dsimp only at hSx
    go_simp
    try with_reducible rfl
  try simp only [Act.put]
  refine wpAnyH_ready (rs := [9]) (by kernel_rfl) (by simp) ?_
  refine AllReadyH.cons rfl (fun K hK => ?_) AllReadyH.nil
  go_simp
  refine hK.out _ _ (SS.out _ ((Below.refl _ _).drew)) (fun _ => ?_)
  clear hK K
  try simp only [Act.put, List.setIfInBounds_toArray, List.set_cons_zero, List.set_cons_succ]
  refine wpAnyH_ready (rs := [10]) (by kernel_rfl) (by simp) ?_
  refine AllReadyH.cons rfl (fun K hK => ?_) AllReadyH.nil
  go_simp
  go_at_call 46
  refine (tokR s n HNL.out H.out.size _).mono ?_
  rw [HNT.out]
  rintro e x1 ⟨rfl, hb1⟩
  have HX1 := Lib.hid (show Below w.heap.size w x1 from below_of_drew hb1)
  clear hb1 c5
  refine hK.out _ _ (SS.out _ HX1.out) (fun _ => ?_)
  clear hK K
  try simp only [Act.put, List.setIfInBounds_toArray, List.set_cons_zero, List.set_cons_succ]
  have HB1 := Lib.hid (H.out.blk.go HX1.out)
  have c2 := HB1.out.cell 2
  have f2 := HB1.out.frozen 2
  have c3 := HB1.out.cell 3
  have f3 := HB1.out.frozen 3
  have c4 := HB1.out.cell 4
  have f4 := HB1.out.frozen 4
  have c5 := HB1.out.cell 5
  have f5 := HB1.out.frozen 5
  refine wpAnyH_take (i := 11) (v := ?_) rfl (by kernel_rfl) (by kernel_rfl) (by kernel_rfl) (fun _ _ _ h => h) (Or.inl ⟨by kernel_rfl, ?_⟩) (by assumption) ?_
  rotate_left
  · intro x' hSx
    try dsimp only at hSx
    go_simp
    try with_reducible rfl
  try simp only [Act.put, List.setIfInBounds_toArray]
  refine wpAnyH_take (i := 12) (v := ?_) rfl (by kernel_rfl) (by kernel_rfl) (by kernel_rfl) (fun _ _ _ h => h) (Or.inl ⟨by kernel_rfl, ?_⟩) (by assumption) ?_
  rotate_left
  · intro x' hSx
    try dsimp only at hSx
    go_simp
    try with_reducible rfl
  try simp only [Act.put]
  refine wpAnyH_ready (rs := [13]) (by kernel_rfl) (by simp) ?_
  refine AllReadyH.cons rfl (fun K hK => ?_) AllReadyH.nil
  go_simp
  refine hK.out _ _ ((((HB1.out.set_ 2 _).set_ 3 _).set_ 4 _).set_ 5 _ |>.cell 1) (fun _ => ?_)
  clear hK K
  try simp only [Act.put, List.setIfInBounds_toArray, List.set_cons_zero, List.set_cons_succ]
  refine wpAnyH_done (by kernel_rfl) ?_ _
  go_wp2
  go_end0
  refine ⟨rfl, RdR.of_blk HNL.out H.out.size HNT.out ?_, Only.set (Only.set (Only.set (Only.set (Only.of_below HX1.out) 2 _) 3 _) 4 _) 5 _⟩
  have h9 := (((HB1.out.set_ 2 (.int .i64 (kindT (hd L.tail)))).set_ 3 (.string ⟨(hd L.tail).toArray⟩)).set_ 4 (.int .i64 (ps s.size L.tail))).set_ 5 (.int .i64 (nx s.size L.tail))
  simpa using h9
end
end Go.Proofs.YtmlnibjnacfanaaGreatDoor
