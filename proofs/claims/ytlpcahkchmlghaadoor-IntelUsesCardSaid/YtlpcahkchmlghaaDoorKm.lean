/- What both Do's answer, in one form. -/
import Derived.Test.YtlpcahkchmlghaaDoorKk
import Derived.Test.YtlpcahkchmlghaaDoorKl
namespace Go.Proofs.YtlpcahkchmlghaaDoor
open Go.RowKit

def DoGen (er : Int) (vs : List (List UInt8 × Int)) (at_ k : Int) (L : List UInt8) (x y z : Int) (w : World) (e : Ending) (w' : World) : Prop :=
  ∃ v, e = .returned (.tuple #[locV v at_, actV k ⟨L.toArray⟩ x y z, .int .i64 er]) ∧ RegsOwn w' w.heap.size v vs ∧ Below w.heap.size w w'
theorem gen_err {er : Int} {w : World} {e : Ending} {w' : World} (h : e = .returned (doErr er) ∧ Below w.heap.size w w') : DoGen er [] 0 0 [] 0 0 0 w e w' :=
  ⟨.slice none 0 0, h.1, ⟨rfl, .inl ⟨rfl, rfl⟩⟩, h.2⟩
theorem doR_act {op d a imm : Int} {loc : List UInt8} {vs : List (List UInt8 × Int)} {r : List (List UInt8 × Int) × Value} (h : doR op d a imm loc vs = some r) (hL : ∀ j (h : j < vs.length), vs[j].1.length ≤ 9223372036854775807) :
    (∃ k L x y z, r.2 = actV k ⟨(L : List UInt8).toArray⟩ x y z) ∧ ∀ j (h : j < r.1.length), r.1[j].1.length ≤ 9223372036854775807 := by
  unfold doR at h
  split at h
  · cases h; exact ⟨⟨_, loc, _, _, _, rfl⟩, hL⟩
  · split at h
    · split at h
      · cases h; exact ⟨⟨_, loc, _, _, _, rfl⟩, hL⟩
      · cases h
    · split at h
      · cases h; exact ⟨⟨_, loc, _, _, _, rfl⟩, hL⟩
      · split at h
        · cases h
          refine ⟨⟨_, [], _, _, _, rfl⟩, fun j hj => ?_⟩
          simp only [List.length_set] at hj
          rw [List.getElem_set]
          split
          · simp
          · exact hL j hj
        · cases h; exact ⟨⟨_, [], _, _, _, rfl⟩, hL⟩
/-- Both do the same: an error, or registers of their own and an act. -/
theorem do_same (op d a b imm : Int) (loc label : ByteArray) (fence : Int) (hs : loc.size ≤ 9223372036854775807) (at_ : Int) (vs : List (List UInt8 × Int)) (hL : ∀ j (h : j < vs.length), vs[j].1.length ≤ 9223372036854775807) :
    ∃ er vs' at' k L x y z, (∀ j (h : j < vs'.length), vs'[j].1.length ≤ 9223372036854775807) ∧
      (∀ v w, ValsAt w v vs → Calls Tryd.prog 26 #[insV op d a b imm loc label fence, locV v at_] w (DoGen er vs' at' k L x y z w)) ∧
      (∀ v w, ValsAt w v vs → Calls Tryd.prog 27 #[insV op d a b imm loc label fence, locV v at_] w (DoGen er vs' at' k L x y z w)) := by
  cases h : insB op d a b imm loc label fence with
  | false =>
    exact ⟨91, [], 0, 0, [], 0, 0, 0, fun j hj => by simp at hj, fun v w _ => (doP_bad w v at_ h hs).mono fun _ _ hh => gen_err hh, fun v w _ => (doR_bad w v at_ h hs).mono fun _ _ hh => gen_err hh⟩
  | true =>
    cases ht : threadB 15 at_ vs with
    | false =>
      exact ⟨1, [], 0, 0, [], 0, 0, 0, fun j hj => by simp at hj, fun v w hv => (doP_thread w h v at_ vs hv ht).mono fun _ _ hh => gen_err hh, fun v w hv => (doR_thread w h v at_ vs hv ht).mono fun _ _ hh => gen_err hh⟩
    | true =>
      obtain ⟨rfl, rfl, rfl⟩ := insB_std h
      rw [← str_eta loc] at h ⊢
      cases hr : doR op d a imm loc.data.toList vs with
      | none =>
        refine ⟨92, [], 0, 0, [], 0, 0, 0, fun j hj => by simp at hj, fun v w hv => ?_, fun v w hv => ?_⟩
        · have := doP_c h v at_ vs w hv ht
          rw [hr] at this
          exact this.mono fun _ _ hh => gen_err hh
        · have := doR_c h v at_ vs w hv ht
          rw [hr] at this
          exact this.mono fun _ _ hh => gen_err hh
      | some r =>
        obtain ⟨⟨k, L, x, y, z, ha⟩, hL'⟩ := doR_act hr hL
        obtain ⟨vs', act⟩ := r
        simp only at ha hL'
        subst ha
        refine ⟨0, vs', at_ + 1, k, L, x, y, z, hL', fun v w hv => ?_, fun v w hv => ?_⟩
        · have := doP_c h v at_ vs w hv ht
          rw [hr] at this
          exact this
        · have := doR_c h v at_ vs w hv ht
          rw [hr] at this
          exact this
end Go.Proofs.YtlpcahkchmlghaaDoor
