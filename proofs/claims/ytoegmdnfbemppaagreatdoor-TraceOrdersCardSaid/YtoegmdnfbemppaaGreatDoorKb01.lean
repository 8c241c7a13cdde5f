/- TraceOrders: the closed facts of its row. -/
import Derived.Test.YtoegmdnfbemppaaGreatDoorCards
import Derived.Test.YtoegmdnfbemppaaGreatDoorTie
import Derived.Deep.DeepWitnessRowRef
import Derived.LaidMore
import Derived.Shelf.Vars
import Derived.ChangeMaps5
import Derived.Carry
namespace Go.Proofs.YtoegmdnfbemppaaGreatDoor.TOrders
open Go.ChangeShapes Go.WideShapes Go.ChangeAt Go.ChangeMaps Go.RowKit
set_option maxHeartbeats 4000000 in
set_option maxRecDepth 100000 in
theorem closed : joinedFacts Tryz.pinned.checked.prog 4 Tryz.f4 (OpenSpec.ofChange Rows.traceOrdersSpec).bare Rows.traceOrdersRow = true := by
  unfold joinedFacts
  simp only [Bool.and_eq_true]
  repeat' apply And.intro
  all_goals (as_aux_lemma => kernel_rfl)

end Go.Proofs.YtoegmdnfbemppaaGreatDoor.TOrders
