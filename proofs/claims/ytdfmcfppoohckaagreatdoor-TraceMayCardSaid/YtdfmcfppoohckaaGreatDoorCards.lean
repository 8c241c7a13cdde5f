/-
  DERIVED. GIVEN WITH THE SEED: THE CARDS: each row of YtdfmcfppoohckaaGreatDoorRows.lean that lists a variable, with what it lists TIED to the program's text (the seventh form; the later family's looks); each row that meets fmt, with fmt's text TOLD by the authors' own Lean function (tested against real Go, not proved from fmt's source: count such statements apart). THE CARD IS WHAT COUNTS. Prove the row's statement (the work); the ties are given (YtdfmcfppoohckaaGreatDoorTie.lean); close each card by the builder's one call (the guide's Derived/Test/ToyasCard.lean, 'card_holds'). Laid BY PROGRAM, IN A SANDBOX (cutbox-door.mjs). By AI agents, Wed Nov 11 2026. No macro, syntax, notation, axiom, sorry.
-/
import Derived.Test.YtdfmcfppoohckaaGreatDoorRows
import GoSem.ClaimSeven
namespace Go.Proofs.YtdfmcfppoohckaaGreatDoor
namespace Rows

/-- THE TIED CARD OF 'alembiclaw15.TraceMay'. -/
def traceMayCard : Claim7 := { stood := { row := traceMayRow, standIns := [], harness := (true, "fa6bc2ef274b39e28feac1a91670a02c7481126f2f5a288603d89af2a94bf61c"), looks := true }, kinds := [], alts := [], laidByText := true, laidKinds := [.data, .pinned], laidTests := true, laidLooks := .later }
def TraceMayCardSaid : Prop := Claim7.holds Tryz.pinned (.plain (OpenSpec.ofChange traceMaySpec)) traceMayCard

/-- THE SECOND FORM's CARD OF 'alembiclaw15.TraceMay'. -/
def traceMayUptoCard : Claim7 := { stood := { row := traceMayUptoRow, standIns := [], harness := (true, "fa6bc2ef274b39e28feac1a91670a02c7481126f2f5a288603d89af2a94bf61c"), looks := true }, kinds := [], alts := [], laidByText := true, laidKinds := [.data, .pinned], laidTests := true, laidLooks := .later }
def TraceMayUptoCardSaid : Prop := Claim7.holds Tryz.pinned (.plain (OpenSpec.upto traceMaySpec)) traceMayUptoCard
end Rows
end Go.Proofs.YtdfmcfppoohckaaGreatDoor
