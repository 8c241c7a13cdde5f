/- MachNobody: its card. -/
import Derived.Test.YtgjefdaaihgliaaGreatDoorMn51

namespace Go.Proofs.YtgjefdaaihgliaaGreatDoor.MNob
open Go.ChangeShapes Go.WideShapes Go.ChangeAt Go.ChangeMaps Go.RowKit
theorem Z1i:false=Rows.machNobodyRow.goesBy Tryz.pinned.checked.prog:=by kernel_rfl
theorem card:Rows.MachNobodyCardSaid:=
 Claim7.holds_tied_plain_at .later [] _ _ _ _ said (fun _ h=>by cases h) (by as_aux_lemma=>kernel_rfl) (fun _ h=>by cases h) machNobody_row_tie rfl ⟨rfl,rfl⟩ (by as_aux_lemma=>kernel_rfl) rfl plain Z1i
end Go.Proofs.YtgjefdaaihgliaaGreatDoor.MNob
namespace Go.Proofs.YtgjefdaaihgliaaGreatDoor
theorem machNobody_card:Rows.MachNobodyCardSaid:=MNob.card
#print axioms machNobody_card
end Go.Proofs.YtgjefdaaihgliaaGreatDoor
