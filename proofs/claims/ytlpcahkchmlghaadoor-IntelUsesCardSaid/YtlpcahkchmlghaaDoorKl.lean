/- A thread that came in, copied. -/
import Derived.Test.YtlpcahkchmlghaaDoorKg
import Derived.Test.YtlpcahkchmlghaaDoorKh
namespace Go.Proofs.YtlpcahkchmlghaaDoor
open Go.RowKit

/-- A thread's registers as they come in: nil, or somewhere in memory, no more of them than memory holds. -/
def ArgAt (w : World) (v : Value) (vs : List (List UInt8 × Int)) : Prop :=
  (∀ j (h : j < vs.length), vs[j].1.length ≤ 9223372036854775807) ∧
  ((v = .slice none 0 0 ∧ vs = []) ∨ ∃ a cap, v = .slice (some a) vs.length cap ∧ vs.length ≤ cap ∧ cap * 24 ≤ 140737488351232 ∧
    (0 < vs.length → ∃ b o, a = ⟨b, o, none⟩ ∧ b < w.heap.size ∧ ∀ j (h : j < vs.length), w.cell? ⟨b, o + j * 2, none⟩ = some (.string ⟨vs[j].1.toArray⟩) ∧ w.cell? ⟨b, o + j * 2 + 1, none⟩ = some (.int .i64 vs[j].2)))
theorem ArgAt.vals {w : World} {v : Value} {vs : List (List UInt8 × Int)} (h : ArgAt w v vs) : ValsAt w v vs := by
  obtain ⟨hL, ⟨rfl, rfl⟩ | ⟨a, cap, rfl, h1, h2, h3⟩⟩ := h
  · exact ⟨none, 0, rfl, by simp, by omega, fun j hj => by simp at hj, fun h => by simp at h⟩
  · exact ⟨_, cap, rfl, h1, by omega, hL, fun hp => by
      obtain ⟨b, o, rfl, h4, h5⟩ := h3 hp
      exact ⟨b, o, rfl, h4, h5⟩⟩
theorem ArgAt.mono {w w' : World} {v : Value} {vs : List (List UInt8 × Int)} (h : ArgAt w v vs) (hb : Below w.heap.size w w') : ArgAt w' v vs := by
  obtain ⟨hL, h0 | ⟨a, cap, h0, h1, h2, h3⟩⟩ := h
  · exact ⟨hL, .inl h0⟩
  · refine ⟨hL, .inr ⟨a, cap, h0, h1, h2, fun hp => ?_⟩⟩
    obtain ⟨b, o, h4, h5, h6⟩ := h3 hp
    exact ⟨b, o, h4, Nat.lt_of_lt_of_le h5 hb.size, fun j hj => by
      rw [hb.cell (p := ⟨b, o + j * 2, none⟩) h5, hb.cell (p := ⟨b, o + j * 2 + 1, none⟩) h5]; exact h6 j hj⟩
theorem arg_cells {w : World} {a : Addr} {vs : List (List UInt8 × Int)} (h3 : 0 < vs.length → ∃ b o, a = ⟨b, o, none⟩ ∧ b < w.heap.size ∧ ∀ j (h : j < vs.length), w.cell? ⟨b, o + j * 2, none⟩ = some (.string ⟨vs[j].1.toArray⟩) ∧ w.cell? ⟨b, o + j * 2 + 1, none⟩ = some (.int .i64 vs[j].2)) :
    ∀ j u, (valsCells vs)[j]? = some u → (a.add j).block < w.heap.size ∧ w.cell? (a.add j) = some u := by
  intro j u hu
  have hp : 0 < vs.length := by
    have := (List.getElem?_eq_some_iff.1 hu).1
    rw [valsCells_len] at this; omega
  obtain ⟨b, o, rfl, h4, h5⟩ := h3 hp
  exact ⟨by rw [add_blk]; exact h4, valsCells_cell h5 j u hu⟩
def CopyPost (vs : List (List UInt8 × Int)) (at_ : Int) (w : World) (e : Ending) (w' : World) : Prop := ∃ v, e = .returned (locV v at_) ∧ RegsOwn w' w.heap.size v vs ∧ Below w.heap.size w w'
theorem own_any {w1 : World} {v1 : Value} {vs : List (List UInt8 × Int)} {base : Nat} (h0 : RegsOwn w1 base v1 vs) :
    (v1 = .slice none 0 0 ∧ vs = []) ∨ ∃ g cap, v1 = .slice (some ⟨g, 0, none⟩) vs.length cap ∧ base ≤ g ∧ g < w1.heap.size := by
  obtain ⟨h1, ⟨h2, h3⟩ | ⟨g, cap, cur, hv, hbs, hh, hr⟩⟩ := h0
  · exact .inl ⟨h2, List.eq_nil_of_length_eq_zero h3⟩
  · refine .inr ⟨g, cap, hv, hbs, ?_⟩
    rcases Nat.lt_or_ge g w1.heap.size with h | h
    · exact h
    · rw [Array.getElem?_eq_none h] at hh; cases hh
set_option maxHeartbeats 1000000 in
set_option maxRecDepth 100000 in
theorem copied_nil (at_ : Int) (w : World) : Calls Tryd.prog 25 #[locV (.slice none 0 0) at_] w (CopyPost [] at_ w) := by
  go_enter Tryd.func25, Tryd.ntmps25
  go_wp2_with fail
  refine bodyPost_ret (v := locV (.slice none 0 0) at_) (by simp [results, Tryd.results25, go_sem]) rfl ⟨_, rfl, ⟨rfl, .inl ⟨rfl, rfl⟩⟩, below_alloc (below_alloc (alloc_b _ _) _) _⟩
set_option maxHeartbeats 1000000 in
set_option maxRecDepth 100000 in
theorem copied_some (a : Addr) (cap : Nat) (at_ : Int) (vs : List (List UInt8 × Int)) (w : World) (h1 : vs.length ≤ cap) (h2 : cap * 24 ≤ 140737488351232)
    (h5 : ∀ j u, (valsCells vs)[j]? = some u → (a.add j).block < w.heap.size ∧ w.cell? (a.add j) = some u) :
    Calls Tryd.prog 25 #[locV (.slice (some a) vs.length cap) at_] w (CopyPost vs at_ w) := by
  obtain ⟨i0, hi, hz0, hz1, hz2⟩ := info_parts valInfo
  have HC := Lib.hid h5
  have HO := Lib.hid (valsCells_one vs)
  have HCL := Lib.hid (valsCells_len vs)
  clear h5
  go_enter Tryd.func25, Tryd.ntmps25
  go_wp2_with (at_builtin; refine wpList_append_own _ rfl _ _ 45 rfl (w.heap.size + 3) 55 i0 (.agg #[.string ⟨#[]⟩, .int .i64 0]) 2 24 Tryd.underlying45 hi hz0 hz1 hz2 rfl (by decide) _ 0 [] rfl (World.ownsRow_nil _ _ _ _) a vs.length cap (valsCells vs) rfl HCL.out ?c1 HO.out ?c3 ?c4 ?c5 ?_)
  case c1 => exact fun j u hu => by rw [World.cell?_alloc_lt _ _ _ (by have := (HC.out j u hu).1; simp; omega), World.cell?_alloc_lt _ _ _ (by have := (HC.out j u hu).1; simp; omega), World.cell?_alloc_lt _ _ _ (HC.out j u hu).1]; exact (HC.out j u hu).2
  case c3 => unfold maxLen; omega
  case c4 => omega
  case c5 => simp
  intro v1 w3 hown hgr _
  have hown0 : RegsOwn w3 (w.heap.size + 3) v1 vs := by simpa using hown
  have hb3 : Below ((w.alloc (.cells #[.slice (some a) vs.length cap, .int .i64 at_] 47 (0, 0))).alloc (.cells #[.slice none 0 0, .int .i64 0] 47 (0, 0)) |>.alloc (.cells #[.slice none 0 0, .int .i64 at_] 47 (0, 0))).heap.size ((w.alloc (.cells #[.slice (some a) vs.length cap, .int .i64 at_] 47 (0, 0))).alloc (.cells #[.slice none 0 0, .int .i64 0] 47 (0, 0)) |>.alloc (.cells #[.slice none 0 0, .int .i64 at_] 47 (0, 0))) w3 :=
    ⟨hgr.os, hgr.tape, hgr.output, hgr.size, fun i hi => hgr.block i hi (by simp [Value.ownBlock])⟩
  have hB3 := below_trans (below_alloc (below_alloc (alloc_b w _) _) _) hb3
  have o0 := cell_go (cell_new _ #[.slice none 0 0, .int .i64 at_] 47 (0, 0) 0) hb3
  have o1 := cell_go (cell_new _ #[.slice none 0 0, .int .i64 at_] 47 (0, 0) 1) hb3
  have r0 := cell_go (cell_al (cell_new _ #[.slice none 0 0, .int .i64 0] 47 (0, 0) 0) _) hb3
  have r1 := cell_go (cell_al (cell_new _ #[.slice none 0 0, .int .i64 0] 47 (0, 0) 1) _) hb3
  simp only [World.size_alloc] at o0 o1 r0 r1
  have f0 : ∀ j, w3.frozen? ⟨w.heap.size + 1 + 1, j, none⟩ = false := fun j => by rw [hb3.frozen (p := ⟨w.heap.size + 1 + 1, j, none⟩) (by simp)]; simp [go_sem]
  have f1 : ∀ j, w3.frozen? ⟨w.heap.size + 1, j, none⟩ = false := fun j => by rw [hb3.frozen (p := ⟨w.heap.size + 1, j, none⟩) (by simp)]; simp [go_sem]
  have HOwn := Lib.hid hown0
  clear hown hgr hb3
  rcases own_any hown0 with ⟨rfl, rfl⟩ | ⟨g, cap', rfl, hg1, hg2⟩
  all_goals
    clear hown0
    go_wp2_with fail
  · refine bodyPost_ret (v := locV (.slice none 0 0) at_) (by simp [results, Tryd.results25, go_sem, *]) rfl ⟨_, rfl, ⟨rfl, .inl ⟨rfl, rfl⟩⟩, ?_⟩
    repeat (first | with_reducible refine Below.setCell ?_ (by simp <;> omega) _ | with_reducible exact hB3)
  · refine bodyPost_ret (v := locV (.slice (some ⟨g, 0, none⟩) vs.length cap') at_) (by simp [results, Tryd.results25, go_sem, *]) rfl ⟨_, rfl, RegsOwn.lower (base := w.heap.size + 3) ?_ (by omega), ?_⟩
    · repeat (first | with_reducible exact HOwn.out | with_reducible refine RegsOwn.setOther ?_ (by simp [Value.ownBlock] <;> omega) _)
    · repeat (first | with_reducible refine Below.setCell ?_ (by simp <;> omega) _ | with_reducible exact hB3)
theorem copied_c (v : Value) (at_ : Int) (vs : List (List UInt8 × Int)) (w : World) (h : ArgAt w v vs) : Calls Tryd.prog 25 #[locV v at_] w (CopyPost vs at_ w) := by
  obtain ⟨_, ⟨rfl, rfl⟩ | ⟨a, cap, rfl, h1, h2, h3⟩⟩ := h
  · exact copied_nil at_ w
  · exact copied_some a cap at_ vs w h1 h2 (arg_cells h3)
end Go.Proofs.YtlpcahkchmlghaaDoor
