/- The reference's place and moved: contracts. -/
import Derived.Test.YtlpcahkchmlghaaDoorIk
import Derived.Test.YtlpcahkchmlghaaDoorIb
namespace Go.Proofs.YtlpcahkchmlghaaDoor
open Go.RowKit

theorem named_l (l : List UInt8) (w : World) (hl : l.length ≤ 9223372036854775807) : Calls Tryd.prog 39 #[.string ⟨l.toArray⟩] w fun e w' => e = .returned (.bool (nameB l)) ∧ w = w' := namedR ⟨l.toArray⟩ w (by rw [str_size]; exact hl)

/-- A place's name in three words. -/
def placeB (x0 x1 x2 : List UInt8) : Bool := (x0 == [91]) && (x2 == [93]) && nameB x1
section
variable (x0 x1 x2 : List UInt8) (b o cap : Nat) (w : World) (hl : x1.length ≤ 262144)
  (q0 : w.cell? ⟨b, o, none⟩ = some (.string ⟨x0.toArray⟩)) (q1 : w.cell? ⟨b, o + 1, none⟩ = some (.string ⟨x1.toArray⟩)) (q2 : w.cell? ⟨b, o + 2, none⟩ = some (.string ⟨x2.toArray⟩))
include hl q0 q1 q2
set_option maxHeartbeats 400000
theorem placeR : Calls Tryd.prog 64 #[.slice (some ⟨b, o, none⟩) 3 cap] w fun e w' => e = .returned (.tuple #[.string ⟨x1.toArray⟩, .bool (placeB x0 x1 x2)]) ∧ Below w.heap.size w w' := by
  have _hl := hl
  cases e0 : (x0 == [91]) with
  | false =>
    have HP := Lib.hid (show placeB x0 x1 x2 = false by simp [placeB, e0])
    go_enter Tryd.func64, Tryd.ntmps64
    go_wp2_with fail
    go_quiet (fail)
    go_wp2
    go_ret2
    exact ⟨by rw [HP.out]; rfl, below_drewN (Below.refl _ _) _⟩
  | true =>
    cases e2 : (x2 == [93]) with
    | false =>
      have HP := Lib.hid (show placeB x0 x1 x2 = false by simp [placeB, e2])
      go_enter Tryd.func64, Tryd.ntmps64
      go_wp2_with fail
      go_quiet (fail)
      go_wp2
      go_ret2
      exact ⟨by rw [HP.out]; rfl, below_drewN (Below.refl _ _) _⟩
    | true =>
      have HP := Lib.hid (show placeB x0 x1 x2 = nameB x1 by simp only [placeB, e0, e2]; rfl)
      go_enter Tryd.func64, Tryd.ntmps64
      go_wp2_with fail
      go_quiet ((go_at_call 39; exact quiet_left (named_l _ _ (by omega))))
      go_wp2
      go_ret2
      exact ⟨by rw [HP.out]; rfl, below_drewN (Below.refl _ _) _⟩
end
end Go.Proofs.YtlpcahkchmlghaaDoor
