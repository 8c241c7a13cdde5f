/-
  DERIVED. GIVEN WITH THE SEED: THE CARDS: each row of YtmlnibjnacfanaaGreatDoorRows.lean that lists a variable, with what it lists TIED to the program's text (the seventh form; the later family's looks); each row that meets fmt, with fmt's text TOLD by the authors' own Lean function (tested against real Go, not proved from fmt's source: count such statements apart). THE CARD IS WHAT COUNTS. Prove the row's statement (the work); the ties are given (YtmlnibjnacfanaaGreatDoorTie.lean); close each card by the builder's one call (the guide's Derived/Test/ToyasCard.lean, 'card_holds'). Laid BY PROGRAM, IN A SANDBOX (cutbox-door.mjs). By AI agents, Wed Nov 11 2026. No macro, syntax, notation, axiom, sorry.
-/
import Derived.Test.YtmlnibjnacfanaaGreatDoorRows
import GoSem.ClaimSeven
namespace Go.Proofs.YtmlnibjnacfanaaGreatDoor
namespace Rows

/-- THE TIED CARD OF 'alembiclaw08.CondChecks'. -/
def condChecksCard : Claim7 := { stood := { row := condChecksRow, standIns := [], harness := (true, "c0849130cd18a163a3e7e8b4a60434e70f491d2dd0df044d34bf8bc1fd378c60"), looks := true }, kinds := [], alts := [], laidByText := true, laidKinds := [.data, .data, .data, .sentinel, .sentinel], laidTests := true, laidLooks := .later }
def CondChecksCardSaid : Prop := Claim7.holds Tryz.pinned (.plain (OpenSpec.ofChange condChecksSpec)) condChecksCard

/-- THE TIED CARD OF 'alembiclaw08.CondParses'. -/
def condParsesCard : Claim7 := { stood := { row := condParsesRow, standIns := [], harness := (true, "c0849130cd18a163a3e7e8b4a60434e70f491d2dd0df044d34bf8bc1fd378c60"), looks := true }, kinds := [], alts := [], laidByText := true, laidKinds := [.data, .data, .data, .sentinel, .sentinel], laidTests := true, laidLooks := .later }
def CondParsesCardSaid : Prop := Claim7.holds Tryz.pinned (.plain (OpenSpec.ofChange condParsesSpec)) condParsesCard

/-- THE TIED CARD OF 'alembiclaw08.CondAsks'. -/
def condAsksCard : Claim7 := { stood := { row := condAsksRow, standIns := [], harness := (true, "c0849130cd18a163a3e7e8b4a60434e70f491d2dd0df044d34bf8bc1fd378c60"), looks := true }, kinds := [], alts := [], laidByText := true, laidKinds := [.data, .data, .data, .sentinel, .sentinel], laidTests := true, laidLooks := .later }
def CondAsksCardSaid : Prop := Claim7.holds Tryz.pinned (.plain (OpenSpec.ofChange condAsksSpec)) condAsksCard

/-- THE TIED CARD OF 'alembiclaw08.CondBack'. -/
def condBackCard : Claim7 := { stood := { row := condBackRow, standIns := [], harness := (true, "c0849130cd18a163a3e7e8b4a60434e70f491d2dd0df044d34bf8bc1fd378c60"), looks := true }, kinds := [], alts := [], laidByText := true, laidKinds := [.data, .data, .data, .sentinel, .sentinel], laidTests := true, laidLooks := .later }
def CondBackCardSaid : Prop := Claim7.holds Tryz.pinned (.plain (OpenSpec.ofChange condBackSpec)) condBackCard

/-- THE TIED CARD OF 'alembiclaw08.CondGroups'. -/
def condGroupsCard : Claim7 := { stood := { row := condGroupsRow, standIns := [], harness := (true, "c0849130cd18a163a3e7e8b4a60434e70f491d2dd0df044d34bf8bc1fd378c60"), looks := true }, kinds := [], alts := [], laidByText := true, laidKinds := [.data, .data, .data, .sentinel, .sentinel], laidTests := true, laidLooks := .later }
def CondGroupsCardSaid : Prop := Claim7.holds Tryz.pinned (.plain (OpenSpec.ofChange condGroupsSpec)) condGroupsCard

/-- THE TIED CARD OF 'alembiclaw08.CondAlls'. -/
def condAllsCard : Claim7 := { stood := { row := condAllsRow, standIns := [], harness := (true, "c0849130cd18a163a3e7e8b4a60434e70f491d2dd0df044d34bf8bc1fd378c60"), looks := true }, kinds := [], alts := [], laidByText := true, laidKinds := [.data, .data, .data, .sentinel, .sentinel], laidTests := true, laidLooks := .later }
def CondAllsCardSaid : Prop := Claim7.holds Tryz.pinned (.plain (OpenSpec.ofChange condAllsSpec)) condAllsCard

/-- THE TIED CARD OF 'alembiclaw08.CondPicks'. -/
def condPicksCard : Claim7 := { stood := { row := condPicksRow, standIns := [], harness := (true, "c0849130cd18a163a3e7e8b4a60434e70f491d2dd0df044d34bf8bc1fd378c60"), looks := true }, kinds := [], alts := [], laidByText := true, laidKinds := [.data, .data, .data, .sentinel, .sentinel], laidTests := true, laidLooks := .later }
def CondPicksCardSaid : Prop := Claim7.holds Tryz.pinned (.plain (OpenSpec.ofChange condPicksSpec)) condPicksCard

/-- THE TIED CARD OF 'alembiclaw08.CondJudges'. -/
def condJudgesCard : Claim7 := { stood := { row := condJudgesRow, standIns := [], harness := (true, "c0849130cd18a163a3e7e8b4a60434e70f491d2dd0df044d34bf8bc1fd378c60"), looks := true }, kinds := [], alts := [], laidByText := true, laidKinds := [.data, .data, .data, .sentinel, .sentinel], laidTests := true, laidLooks := .later }
def CondJudgesCardSaid : Prop := Claim7.holds Tryz.pinned (.plain (OpenSpec.ofChange condJudgesSpec)) condJudgesCard

/-- THE TIED CARD OF 'alembiclaw08.CondDuals'. -/
def condDualsCard : Claim7 := { stood := { row := condDualsRow, standIns := [], harness := (true, "c0849130cd18a163a3e7e8b4a60434e70f491d2dd0df044d34bf8bc1fd378c60"), looks := true }, kinds := [], alts := [], laidByText := true, laidKinds := [.data, .data, .data, .sentinel, .sentinel], laidTests := true, laidLooks := .later }
def CondDualsCardSaid : Prop := Claim7.holds Tryz.pinned (.plain (OpenSpec.ofChange condDualsSpec)) condDualsCard

/-- THE SECOND FORM's CARD OF 'alembiclaw08.CondChecks'. -/
def condChecksUptoCard : Claim7 := { stood := { row := condChecksUptoRow, standIns := [], harness := (true, "c0849130cd18a163a3e7e8b4a60434e70f491d2dd0df044d34bf8bc1fd378c60"), looks := true }, kinds := [], alts := [], laidByText := true, laidKinds := [.data, .data, .data, .sentinel, .sentinel], laidTests := true, laidLooks := .later }
def CondChecksUptoCardSaid : Prop := Claim7.holds Tryz.pinned (.plain (OpenSpec.upto condChecksSpec)) condChecksUptoCard

/-- THE SECOND FORM's CARD OF 'alembiclaw08.CondParses'. -/
def condParsesUptoCard : Claim7 := { stood := { row := condParsesUptoRow, standIns := [], harness := (true, "c0849130cd18a163a3e7e8b4a60434e70f491d2dd0df044d34bf8bc1fd378c60"), looks := true }, kinds := [], alts := [], laidByText := true, laidKinds := [.data, .data, .data, .sentinel, .sentinel], laidTests := true, laidLooks := .later }
def CondParsesUptoCardSaid : Prop := Claim7.holds Tryz.pinned (.plain (OpenSpec.upto condParsesSpec)) condParsesUptoCard

/-- THE SECOND FORM's CARD OF 'alembiclaw08.CondAsks'. -/
def condAsksUptoCard : Claim7 := { stood := { row := condAsksUptoRow, standIns := [], harness := (true, "c0849130cd18a163a3e7e8b4a60434e70f491d2dd0df044d34bf8bc1fd378c60"), looks := true }, kinds := [], alts := [], laidByText := true, laidKinds := [.data, .data, .data, .sentinel, .sentinel], laidTests := true, laidLooks := .later }
def CondAsksUptoCardSaid : Prop := Claim7.holds Tryz.pinned (.plain (OpenSpec.upto condAsksSpec)) condAsksUptoCard

/-- THE SECOND FORM's CARD OF 'alembiclaw08.CondBack'. -/
def condBackUptoCard : Claim7 := { stood := { row := condBackUptoRow, standIns := [], harness := (true, "c0849130cd18a163a3e7e8b4a60434e70f491d2dd0df044d34bf8bc1fd378c60"), looks := true }, kinds := [], alts := [], laidByText := true, laidKinds := [.data, .data, .data, .sentinel, .sentinel], laidTests := true, laidLooks := .later }
def CondBackUptoCardSaid : Prop := Claim7.holds Tryz.pinned (.plain (OpenSpec.upto condBackSpec)) condBackUptoCard

/-- THE SECOND FORM's CARD OF 'alembiclaw08.CondGroups'. -/
def condGroupsUptoCard : Claim7 := { stood := { row := condGroupsUptoRow, standIns := [], harness := (true, "c0849130cd18a163a3e7e8b4a60434e70f491d2dd0df044d34bf8bc1fd378c60"), looks := true }, kinds := [], alts := [], laidByText := true, laidKinds := [.data, .data, .data, .sentinel, .sentinel], laidTests := true, laidLooks := .later }
def CondGroupsUptoCardSaid : Prop := Claim7.holds Tryz.pinned (.plain (OpenSpec.upto condGroupsSpec)) condGroupsUptoCard

/-- THE SECOND FORM's CARD OF 'alembiclaw08.CondAlls'. -/
def condAllsUptoCard : Claim7 := { stood := { row := condAllsUptoRow, standIns := [], harness := (true, "c0849130cd18a163a3e7e8b4a60434e70f491d2dd0df044d34bf8bc1fd378c60"), looks := true }, kinds := [], alts := [], laidByText := true, laidKinds := [.data, .data, .data, .sentinel, .sentinel], laidTests := true, laidLooks := .later }
def CondAllsUptoCardSaid : Prop := Claim7.holds Tryz.pinned (.plain (OpenSpec.upto condAllsSpec)) condAllsUptoCard

/-- THE SECOND FORM's CARD OF 'alembiclaw08.CondPicks'. -/
def condPicksUptoCard : Claim7 := { stood := { row := condPicksUptoRow, standIns := [], harness := (true, "c0849130cd18a163a3e7e8b4a60434e70f491d2dd0df044d34bf8bc1fd378c60"), looks := true }, kinds := [], alts := [], laidByText := true, laidKinds := [.data, .data, .data, .sentinel, .sentinel], laidTests := true, laidLooks := .later }
def CondPicksUptoCardSaid : Prop := Claim7.holds Tryz.pinned (.plain (OpenSpec.upto condPicksSpec)) condPicksUptoCard

/-- THE SECOND FORM's CARD OF 'alembiclaw08.CondJudges'. -/
def condJudgesUptoCard : Claim7 := { stood := { row := condJudgesUptoRow, standIns := [], harness := (true, "c0849130cd18a163a3e7e8b4a60434e70f491d2dd0df044d34bf8bc1fd378c60"), looks := true }, kinds := [], alts := [], laidByText := true, laidKinds := [.data, .data, .data, .sentinel, .sentinel], laidTests := true, laidLooks := .later }
def CondJudgesUptoCardSaid : Prop := Claim7.holds Tryz.pinned (.plain (OpenSpec.upto condJudgesSpec)) condJudgesUptoCard

/-- THE SECOND FORM's CARD OF 'alembiclaw08.CondDuals'. -/
def condDualsUptoCard : Claim7 := { stood := { row := condDualsUptoRow, standIns := [], harness := (true, "c0849130cd18a163a3e7e8b4a60434e70f491d2dd0df044d34bf8bc1fd378c60"), looks := true }, kinds := [], alts := [], laidByText := true, laidKinds := [.data, .data, .data, .sentinel, .sentinel], laidTests := true, laidLooks := .later }
def CondDualsUptoCardSaid : Prop := Claim7.holds Tryz.pinned (.plain (OpenSpec.upto condDualsSpec)) condDualsUptoCard
end Rows
end Go.Proofs.YtmlnibjnacfanaaGreatDoor
