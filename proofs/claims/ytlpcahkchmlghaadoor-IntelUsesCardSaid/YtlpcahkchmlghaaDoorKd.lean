/- Contracts of Uses, of the program and of the reference; the reference's Print where there is none. -/
import Derived.Test.YtlpcahkchmlghaaDoorKb
import Derived.Test.YtlpcahkchmlghaaDoorKc
namespace Go.Proofs.YtlpcahkchmlghaaDoor
open Go.RowKit

def usesL (op a : Int) : List Int := if op = 2 then [a] else []
def usesW (op d : Int) : Int := if op = 3 ∨ op = 4 then d else -1
def UsesPost (op d a : Int) (w : World) (e : Ending) (w' : World) : Prop := ∃ v, e = .returned (.tuple #[v, .int .i64 (usesW op d), .int .i64 0]) ∧ IntsAt w' v (usesL op a) ∧ Below w.heap.size w w'
theorem intsAt_one (w : World) (a : Int) (t : TypeId) : IntsAt (w.alloc (.cells #[.int .i64 a] t (0, 0))) (.slice (some ⟨w.heap.size, 0, none⟩) 1 1) [a] := by
  refine ⟨_, _, rfl, Nat.le_refl _, by omega, fun _ => ⟨_, _, rfl, by simp, fun j hj => ?_⟩⟩
  obtain rfl : j = 0 := by simpa using hj
  rw [cell_new]; rfl
theorem alike_same (v u : Value) (xs : List Int) (w : World) (hv : IntsAt w v xs) (hu : IntsAt w u xs) :
    Calls Tryd.prog 24 #[v, u] w fun e w' => e = .returned (.bool true) ∧ Below w.heap.size w w' := by
  have := alikeR v u xs xs w hv hu
  simpa using this

section
variable {op d a imm : Int} {loc : List UInt8}
set_option maxHeartbeats 1000000
theorem usesP_l (h : insB op d a 0 imm ⟨loc.toArray⟩ ⟨#[]⟩ 0 = true) (w : World) : Calls Tryd.prog 22 #[insV op d a 0 imm ⟨loc.toArray⟩ ⟨#[]⟩ 0] w (UsesPost op d a w) := by
  have H := Lib.hid h
  have hs := insB_loc h
  rcases insB_op h with rfl | rfl | rfl | rfl | rfl
  all_goals
    clear h
    go_enter Tryd.func22, Tryd.ntmps22
    go_wp2_with (go_at_call 15; refine (checkP_l2 H.out _ (by omega)).mono ?_; rintro e w' ⟨rfl, hb⟩; obtain ⟨hc, hf⟩ := bcell hb; have hbb := below_trans (below_alloc (Below.refl _ _) _) hb)
  · go_ret3; exact ⟨_, rfl, IntsAt.nil _ _ _ (by omega), hbb⟩
  · go_ret3; exact ⟨_, rfl, intsAt_one _ _ _, below_alloc hbb _⟩
  · go_quiet (fail)
    go_wp2
    go_ret3; exact ⟨_, rfl, IntsAt.nil _ _ _ (by omega), below_drewN hbb _⟩
  · go_quiet (fail)
    go_wp2
    go_ret3; exact ⟨_, rfl, IntsAt.nil _ _ _ (by omega), below_drewN hbb _⟩
  · go_ret3; exact ⟨_, rfl, IntsAt.nil _ _ _ (by omega), hbb⟩
theorem usesR_l (h : insB op d a 0 imm ⟨loc.toArray⟩ ⟨#[]⟩ 0 = true) (w : World) : Calls Tryd.prog 23 #[insV op d a 0 imm ⟨loc.toArray⟩ ⟨#[]⟩ 0] w (UsesPost op d a w) := by
  have H := Lib.hid h
  have hs := insB_loc h
  rcases insB_op h with rfl | rfl | rfl | rfl | rfl
  all_goals
    clear h
    go_enter Tryd.func23, Tryd.ntmps23
    go_wp2_with (go_at_call 14; refine (checkR_l2 H.out _ (by omega)).mono ?_; rintro e w' ⟨rfl, hb⟩; obtain ⟨hc, hf⟩ := bcell hb; have hbb := below_trans (below_alloc (Below.refl _ _) _) hb)
  · go_ret3; exact ⟨_, rfl, IntsAt.nil _ _ _ (by omega), hbb⟩
  · go_ret3; exact ⟨_, rfl, intsAt_one _ _ _, below_alloc hbb _⟩
  · go_quiet (fail)
    go_wp2
    go_ret3; exact ⟨_, rfl, IntsAt.nil _ _ _ (by omega), below_drewN hbb _⟩
  · go_quiet (fail)
    go_wp2
    go_ret3; exact ⟨_, rfl, IntsAt.nil _ _ _ (by omega), below_drewN hbb _⟩
  · go_ret3; exact ⟨_, rfl, IntsAt.nil _ _ _ (by omega), hbb⟩
end
section
variable {op d a b imm : Int} {loc label : ByteArray} {fence : Int} (h : insB op d a b imm loc label fence = false) (w : World) (hs : loc.size ≤ 9223372036854775807)
include h hs
theorem usesP_n : Calls Tryd.prog 22 #[insV op d a b imm loc label fence] w fun e w' => e = .returned (.tuple #[.slice none 0 0, .int .i64 0, .int .i64 91]) ∧ Below w.heap.size w w' := by
  have H := Lib.hid h
  clear h
  go_enter Tryd.func22, Tryd.ntmps22
  go_wp2_with (go_at_call 15; refine (checkP_l2 H.out _ hs).mono ?_; rintro e w' ⟨rfl, hb⟩)
  go_ret3
  exact ⟨rfl, below_trans (below_alloc (Below.refl _ _) _) hb⟩
theorem usesR_n : Calls Tryd.prog 23 #[insV op d a b imm loc label fence] w fun e w' => e = .returned (.tuple #[.slice none 0 0, .int .i64 0, .int .i64 91]) ∧ Below w.heap.size w w' := by
  have H := Lib.hid h
  clear h
  go_enter Tryd.func23, Tryd.ntmps23
  go_wp2_with (go_at_call 14; refine (checkR_l2 H.out _ hs).mono ?_; rintro e w' ⟨rfl, hb⟩)
  go_ret3
  exact ⟨rfl, below_trans (below_alloc (Below.refl _ _) _) hb⟩
theorem printR_n : Calls Tryd.prog 21 #[insV op d a b imm loc label fence] w fun e w' => e = .returned (.tuple #[.string ⟨#[]⟩, .int .i64 91]) ∧ Below w.heap.size w w' := by
  have H := Lib.hid h
  clear h
  go_enter Tryd.func21, Tryd.ntmps21
  go_wp2_with (go_at_call 14; refine (checkR_l2 H.out _ hs).mono ?_; rintro e w' ⟨rfl, hb⟩)
  go_ret2
  exact ⟨rfl, below_trans (below_alloc (Below.refl _ _) _) hb⟩
end
end Go.Proofs.YtlpcahkchmlghaaDoor
