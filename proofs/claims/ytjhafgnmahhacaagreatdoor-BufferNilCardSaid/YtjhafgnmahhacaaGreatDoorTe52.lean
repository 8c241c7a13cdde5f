/- BufferNil: its card. -/
import Derived.Test.YtjhafgnmahhacaaGreatDoorTe51

namespace Go.Proofs.YtjhafgnmahhacaaGreatDoor.BNil
open Go.ChangeShapes Go.WideShapes Go.ChangeAt Go.ChangeMaps Go.RowKit
theorem card_hg : false = Rows.bufferNilRow.goesBy Tryz.pinned.checked.prog := by kernel_rfl
theorem card : Rows.BufferNilCardSaid :=
  Claim7.holds_tied_plain_at .later [] _ _ _ _ said (fun _ h => by cases h) (by as_aux_lemma => kernel_rfl) (fun _ h => by cases h) bufferNil_row_tie rfl ⟨rfl, rfl⟩ (by as_aux_lemma => kernel_rfl) rfl plain card_hg
end Go.Proofs.YtjhafgnmahhacaaGreatDoor.BNil
namespace Go.Proofs.YtjhafgnmahhacaaGreatDoor
theorem bufferNil_card : Rows.BufferNilCardSaid := BNil.card
#print axioms bufferNil_card
end Go.Proofs.YtjhafgnmahhacaaGreatDoor
