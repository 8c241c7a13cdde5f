/- BufferNil: the closed facts of its row. -/
import Derived.Test.YtjhafgnmahhacaaGreatDoorCards
import Derived.Test.YtjhafgnmahhacaaGreatDoorTie
import Derived.Deep.DeepWitnessRowRef
import Derived.LaidMore
import Derived.Shelf.Vars
import Derived.ChangeMaps5
import Derived.Carry
namespace Go.Proofs.YtjhafgnmahhacaaGreatDoor.BNil
open Go.ChangeShapes Go.WideShapes Go.ChangeAt Go.ChangeMaps Go.RowKit
set_option maxHeartbeats 4000000 in
set_option maxRecDepth 100000 in
theorem closed : joinedFacts Tryz.pinned.checked.prog 5 Tryz.f5 (OpenSpec.ofChange Rows.bufferNilSpec).bare Rows.bufferNilRow = true := by
  unfold joinedFacts
  simp only [Bool.and_eq_true]
  repeat' apply And.intro
  all_goals (as_aux_lemma => kernel_rfl)
end Go.Proofs.YtjhafgnmahhacaaGreatDoor.BNil
