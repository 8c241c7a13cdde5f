/-
  DERIVED. GIVEN WITH THE SEED: THE CARDS: each row of YtlpcahkchmlghaaDoorRows.lean that lists a variable, with what it lists TIED to the program's text (the seventh form; the later family's looks); each row that meets fmt, with fmt's text TOLD by the authors' own Lean function (tested against real Go, not proved from fmt's source: count such statements apart). THE CARD IS WHAT COUNTS. Prove the row's statement (the work); the ties are given (YtlpcahkchmlghaaDoorTie.lean); close each card by the builder's one call (the guide's Derived/Test/ToyasCard.lean, 'card_holds'). Laid BY PROGRAM, IN A SANDBOX (cutbox-door.mjs). By AI agents, Wed Nov 11 2026. No macro, syntax, notation, axiom, sorry.
-/
import Derived.Test.YtlpcahkchmlghaaDoorRows
import GoSem.ClaimSeven
namespace Go.Proofs.YtlpcahkchmlghaaDoor
namespace Rows

/-- THE TIED CARD OF 'alembiclaw09.IntelParses'. -/
def intelParsesCard : Claim7 := { stood := { row := intelParsesRow, standIns := [], harness := (true, "295f2b3e40320e9a457c36802fa8b69664d926f53ad034b0a56b11ac16f7f73e"), looks := true }, kinds := [], alts := [], laidByText := true, laidKinds := [.data, .data, .data, .data, .sentinel, .sentinel, .data, .pinned], laidTests := true, laidLooks := .later }
def IntelParsesCardSaid : Prop := Claim7.holds Tryd.pinned (.plain (OpenSpec.ofChange intelParsesSpec)) intelParsesCard

/-- THE TIED CARD OF 'alembiclaw09.IntelBack'. -/
def intelBackCard : Claim7 := { stood := { row := intelBackRow, standIns := [], harness := (true, "295f2b3e40320e9a457c36802fa8b69664d926f53ad034b0a56b11ac16f7f73e"), looks := true }, kinds := [], alts := [], laidByText := true, laidKinds := [.data, .data, .data, .data, .sentinel, .sentinel, .data, .pinned], laidTests := true, laidLooks := .later }
def IntelBackCardSaid : Prop := Claim7.holds Tryd.pinned (.plain (OpenSpec.ofChange intelBackSpec)) intelBackCard

/-- THE TIED CARD OF 'alembiclaw09.IntelBlanks'. -/
def intelBlanksCard : Claim7 := { stood := { row := intelBlanksRow, standIns := [], harness := (true, "295f2b3e40320e9a457c36802fa8b69664d926f53ad034b0a56b11ac16f7f73e"), looks := true }, kinds := [], alts := [], laidByText := true, laidKinds := [.data, .data, .data, .data, .sentinel, .sentinel, .data, .pinned], laidTests := true, laidLooks := .later }
def IntelBlanksCardSaid : Prop := Claim7.holds Tryd.pinned (.plain (OpenSpec.ofChange intelBlanksSpec)) intelBlanksCard

/-- THE TIED CARD OF 'alembiclaw09.IntelRegs'. -/
def intelRegsCard : Claim7 := { stood := { row := intelRegsRow, standIns := [], harness := (true, "295f2b3e40320e9a457c36802fa8b69664d926f53ad034b0a56b11ac16f7f73e"), looks := true }, kinds := [], alts := [], laidByText := true, laidKinds := [.data, .data, .data, .data, .sentinel, .sentinel, .data, .pinned], laidTests := true, laidLooks := .later }
def IntelRegsCardSaid : Prop := Claim7.holds Tryd.pinned (.plain (OpenSpec.ofChange intelRegsSpec)) intelRegsCard

/-- THE TIED CARD OF 'alembiclaw09.IntelPrints'. -/
def intelPrintsCard : Claim7 := { stood := { row := intelPrintsRow, standIns := [], harness := (true, "295f2b3e40320e9a457c36802fa8b69664d926f53ad034b0a56b11ac16f7f73e"), looks := true }, kinds := [], alts := [], laidByText := true, laidKinds := [.data, .data, .data, .data, .sentinel, .sentinel, .data, .pinned], laidTests := true, laidLooks := .later }
def IntelPrintsCardSaid : Prop := Claim7.holds Tryd.pinned (.plain (OpenSpec.ofChange intelPrintsSpec)) intelPrintsCard

/-- THE TIED CARD OF 'alembiclaw09.IntelDoes'. -/
def intelDoesCard : Claim7 := { stood := { row := intelDoesRow, standIns := [], harness := (true, "295f2b3e40320e9a457c36802fa8b69664d926f53ad034b0a56b11ac16f7f73e"), looks := true }, kinds := [], alts := [], laidByText := true, laidKinds := [.data, .data, .data, .data, .sentinel, .sentinel, .data, .pinned], laidTests := true, laidLooks := .later }
def IntelDoesCardSaid : Prop := Claim7.holds Tryd.pinned (.plain (OpenSpec.ofChange intelDoesSpec)) intelDoesCard

/-- THE TIED CARD OF 'alembiclaw09.IntelUses'. -/
def intelUsesCard : Claim7 := { stood := { row := intelUsesRow, standIns := [], harness := (true, "295f2b3e40320e9a457c36802fa8b69664d926f53ad034b0a56b11ac16f7f73e"), looks := true }, kinds := [], alts := [], laidByText := true, laidKinds := [.data, .data, .data, .data, .sentinel, .sentinel, .data, .pinned], laidTests := true, laidLooks := .later }
def IntelUsesCardSaid : Prop := Claim7.holds Tryd.pinned (.plain (OpenSpec.ofChange intelUsesSpec)) intelUsesCard

/-- THE SECOND FORM's CARD OF 'alembiclaw09.IntelParses'. -/
def intelParsesUptoCard : Claim7 := { stood := { row := intelParsesUptoRow, standIns := [], harness := (true, "295f2b3e40320e9a457c36802fa8b69664d926f53ad034b0a56b11ac16f7f73e"), looks := true }, kinds := [], alts := [], laidByText := true, laidKinds := [.data, .data, .data, .data, .sentinel, .sentinel, .data, .pinned], laidTests := true, laidLooks := .later }
def IntelParsesUptoCardSaid : Prop := Claim7.holds Tryd.pinned (.plain (OpenSpec.upto intelParsesSpec)) intelParsesUptoCard

/-- THE SECOND FORM's CARD OF 'alembiclaw09.IntelBack'. -/
def intelBackUptoCard : Claim7 := { stood := { row := intelBackUptoRow, standIns := [], harness := (true, "295f2b3e40320e9a457c36802fa8b69664d926f53ad034b0a56b11ac16f7f73e"), looks := true }, kinds := [], alts := [], laidByText := true, laidKinds := [.data, .data, .data, .data, .sentinel, .sentinel, .data, .pinned], laidTests := true, laidLooks := .later }
def IntelBackUptoCardSaid : Prop := Claim7.holds Tryd.pinned (.plain (OpenSpec.upto intelBackSpec)) intelBackUptoCard

/-- THE SECOND FORM's CARD OF 'alembiclaw09.IntelBlanks'. -/
def intelBlanksUptoCard : Claim7 := { stood := { row := intelBlanksUptoRow, standIns := [], harness := (true, "295f2b3e40320e9a457c36802fa8b69664d926f53ad034b0a56b11ac16f7f73e"), looks := true }, kinds := [], alts := [], laidByText := true, laidKinds := [.data, .data, .data, .data, .sentinel, .sentinel, .data, .pinned], laidTests := true, laidLooks := .later }
def IntelBlanksUptoCardSaid : Prop := Claim7.holds Tryd.pinned (.plain (OpenSpec.upto intelBlanksSpec)) intelBlanksUptoCard

/-- THE SECOND FORM's CARD OF 'alembiclaw09.IntelRegs'. -/
def intelRegsUptoCard : Claim7 := { stood := { row := intelRegsUptoRow, standIns := [], harness := (true, "295f2b3e40320e9a457c36802fa8b69664d926f53ad034b0a56b11ac16f7f73e"), looks := true }, kinds := [], alts := [], laidByText := true, laidKinds := [.data, .data, .data, .data, .sentinel, .sentinel, .data, .pinned], laidTests := true, laidLooks := .later }
def IntelRegsUptoCardSaid : Prop := Claim7.holds Tryd.pinned (.plain (OpenSpec.upto intelRegsSpec)) intelRegsUptoCard

/-- THE SECOND FORM's CARD OF 'alembiclaw09.IntelPrints'. -/
def intelPrintsUptoCard : Claim7 := { stood := { row := intelPrintsUptoRow, standIns := [], harness := (true, "295f2b3e40320e9a457c36802fa8b69664d926f53ad034b0a56b11ac16f7f73e"), looks := true }, kinds := [], alts := [], laidByText := true, laidKinds := [.data, .data, .data, .data, .sentinel, .sentinel, .data, .pinned], laidTests := true, laidLooks := .later }
def IntelPrintsUptoCardSaid : Prop := Claim7.holds Tryd.pinned (.plain (OpenSpec.upto intelPrintsSpec)) intelPrintsUptoCard

/-- THE SECOND FORM's CARD OF 'alembiclaw09.IntelDoes'. -/
def intelDoesUptoCard : Claim7 := { stood := { row := intelDoesUptoRow, standIns := [], harness := (true, "295f2b3e40320e9a457c36802fa8b69664d926f53ad034b0a56b11ac16f7f73e"), looks := true }, kinds := [], alts := [], laidByText := true, laidKinds := [.data, .data, .data, .data, .sentinel, .sentinel, .data, .pinned], laidTests := true, laidLooks := .later }
def IntelDoesUptoCardSaid : Prop := Claim7.holds Tryd.pinned (.plain (OpenSpec.upto intelDoesSpec)) intelDoesUptoCard

/-- THE SECOND FORM's CARD OF 'alembiclaw09.IntelUses'. -/
def intelUsesUptoCard : Claim7 := { stood := { row := intelUsesUptoRow, standIns := [], harness := (true, "295f2b3e40320e9a457c36802fa8b69664d926f53ad034b0a56b11ac16f7f73e"), looks := true }, kinds := [], alts := [], laidByText := true, laidKinds := [.data, .data, .data, .data, .sentinel, .sentinel, .data, .pinned], laidTests := true, laidLooks := .later }
def IntelUsesUptoCardSaid : Prop := Claim7.holds Tryd.pinned (.plain (OpenSpec.upto intelUsesSpec)) intelUsesUptoCard
end Rows
end Go.Proofs.YtlpcahkchmlghaaDoor
