/-
  DERIVED. GIVEN WITH THE SEED: THE CARDS: each row of YtgjefdaaihgliaaGreatDoorRows.lean that lists a variable, with what it lists TIED to the program's text (the seventh form; the later family's looks); each row that meets fmt, with fmt's text TOLD by the authors' own Lean function (tested against real Go, not proved from fmt's source: count such statements apart). THE CARD IS WHAT COUNTS. Prove the row's statement (the work); the ties are given (YtgjefdaaihgliaaGreatDoorTie.lean); close each card by the builder's one call (the guide's Derived/Test/ToyasCard.lean, 'card_holds'). Laid BY PROGRAM, IN A SANDBOX (cutbox-door.mjs). By AI agents, Wed Nov 11 2026. No macro, syntax, notation, axiom, sorry.
-/
import Derived.Test.YtgjefdaaihgliaaGreatDoorRows
import GoSem.ClaimSeven
namespace Go.Proofs.YtgjefdaaihgliaaGreatDoor
namespace Rows

/-- THE TIED CARD OF 'alembiclaw21.MachNobody'. -/
def machNobodyCard : Claim7 := { stood := { row := machNobodyRow, standIns := [], harness := (true, "775c1b93c337de5a1831418d8b76e44b0590768bd04b64368ccbb63a9e39ab82"), looks := true }, kinds := [], alts := [], laidByText := true, laidKinds := [.data, .data, .data, .data, .pinned], laidTests := true, laidLooks := .later }
def MachNobodyCardSaid : Prop := Claim7.holds Tryz.pinned (.plain (OpenSpec.ofChange machNobodySpec)) machNobodyCard

/-- THE SECOND FORM's CARD OF 'alembiclaw21.MachNobody'. -/
def machNobodyUptoCard : Claim7 := { stood := { row := machNobodyUptoRow, standIns := [], harness := (true, "775c1b93c337de5a1831418d8b76e44b0590768bd04b64368ccbb63a9e39ab82"), looks := true }, kinds := [], alts := [], laidByText := true, laidKinds := [.data, .data, .data, .data, .pinned], laidTests := true, laidLooks := .later }
def MachNobodyUptoCardSaid : Prop := Claim7.holds Tryz.pinned (.plain (OpenSpec.upto machNobodySpec)) machNobodyUptoCard
end Rows
end Go.Proofs.YtgjefdaaihgliaaGreatDoor
