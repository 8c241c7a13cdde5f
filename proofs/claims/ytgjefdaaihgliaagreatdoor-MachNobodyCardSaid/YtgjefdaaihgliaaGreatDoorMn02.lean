/- MachNobody: the closed facts of its row. -/
import Derived.Test.YtgjefdaaihgliaaGreatDoorMn00
import Derived.Test.YtgjefdaaihgliaaGreatDoorCards
import Derived.Test.YtgjefdaaihgliaaGreatDoorTie
namespace Go.Proofs.YtgjefdaaihgliaaGreatDoor.MNob
open Go.ChangeShapes Go.WideShapes Go.ChangeAt Go.ChangeMaps Go.RowKit
set_option maxHeartbeats 4000000 in
set_option maxRecDepth 100000 in
theorem closed:joinedFacts Tryz.pinned.checked.prog 3 Tryz.f3 (OpenSpec.ofChange Rows.machNobodySpec).bare Rows.machNobodyRow=true:=by
 unfold joinedFacts;simp only [Bool.and_eq_true]
 repeat' apply And.intro
 all_goals (as_aux_lemma=>kernel_rfl)
end Go.Proofs.YtgjefdaaihgliaaGreatDoor.MNob
