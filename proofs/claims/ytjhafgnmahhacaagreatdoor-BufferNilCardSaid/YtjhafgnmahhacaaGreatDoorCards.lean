/-
  DERIVED. GIVEN WITH THE SEED: THE CARDS: each row of YtjhafgnmahhacaaGreatDoorRows.lean that lists a variable, with what it lists TIED to the program's text (the seventh form; the later family's looks); each row that meets fmt, with fmt's text TOLD by the authors' own Lean function (tested against real Go, not proved from fmt's source: count such statements apart). THE CARD IS WHAT COUNTS. Prove the row's statement (the work); the ties are given (YtjhafgnmahhacaaGreatDoorTie.lean); close each card by the builder's one call (the guide's Derived/Test/ToyasCard.lean, 'card_holds'). Laid BY PROGRAM, IN A SANDBOX (cutbox-door.mjs). By AI agents, Wed Nov 11 2026. No macro, syntax, notation, axiom, sorry.
-/
import Derived.Test.YtjhafgnmahhacaaGreatDoorRows
import GoSem.ClaimSeven
namespace Go.Proofs.YtjhafgnmahhacaaGreatDoor
namespace Rows

/-- THE TIED CARD OF 'alembiclaw15.TraceMay'. -/
def traceMayCard : Claim7 := { stood := { row := traceMayRow, standIns := [], harness := (true, "5e815092d084f94938e2224e8e273bbadef6f664e9d8a9c87a004e6866cc5aea"), looks := true }, kinds := [], alts := [], laidByText := true, laidKinds := [.data, .pinned], laidTests := true, laidLooks := .later }
def TraceMayCardSaid : Prop := Claim7.holds Tryz.pinned (.plain (OpenSpec.ofChange traceMaySpec)) traceMayCard

/-- THE TIED CARD OF 'alembiclaw15.TraceRuns'. -/
def traceRunsCard : Claim7 := { stood := { row := traceRunsRow, standIns := [], harness := (true, "5e815092d084f94938e2224e8e273bbadef6f664e9d8a9c87a004e6866cc5aea"), looks := true }, kinds := [], alts := [], laidByText := true, laidKinds := [.data, .pinned], laidTests := true, laidLooks := .later }
def TraceRunsCardSaid : Prop := Claim7.holds Tryz.pinned (.plain (OpenSpec.ofChange traceRunsSpec)) traceRunsCard

/-- THE TIED CARD OF 'alembiclaw22.BufferNil'. -/
def bufferNilCard : Claim7 := { stood := { row := bufferNilRow, standIns := [], harness := (true, "5e815092d084f94938e2224e8e273bbadef6f664e9d8a9c87a004e6866cc5aea"), looks := true }, kinds := [], alts := [], laidByText := true, laidKinds := [.data, .data, .data, .data, .pinned], laidTests := true, laidLooks := .later }
def BufferNilCardSaid : Prop := Claim7.holds Tryz.pinned (.plain (OpenSpec.ofChange bufferNilSpec)) bufferNilCard

/-- THE TIED CARD OF 'alembiclaw22.BufferRuns'. -/
def bufferRunsCard : Claim7 := { stood := { row := bufferRunsRow, standIns := [], harness := (true, "5e815092d084f94938e2224e8e273bbadef6f664e9d8a9c87a004e6866cc5aea"), looks := true }, kinds := [], alts := [], laidByText := true, laidKinds := [.data, .pinned], laidTests := true, laidLooks := .later }
def BufferRunsCardSaid : Prop := Claim7.holds Tryz.pinned (.plain (OpenSpec.ofChange bufferRunsSpec)) bufferRunsCard

/-- THE TIED CARD OF 'alembiclaw22.BufferEnds'. -/
def bufferEndsCard : Claim7 := { stood := { row := bufferEndsRow, standIns := [], harness := (true, "5e815092d084f94938e2224e8e273bbadef6f664e9d8a9c87a004e6866cc5aea"), looks := true }, kinds := [], alts := [], laidByText := true, laidKinds := [.data, .pinned], laidTests := true, laidLooks := .later }
def BufferEndsCardSaid : Prop := Claim7.holds Tryz.pinned (.plain (OpenSpec.ofChange bufferEndsSpec)) bufferEndsCard

/-- THE TIED CARD OF 'alembiclaw22.BufferQueues'. -/
def bufferQueuesCard : Claim7 := { stood := { row := bufferQueuesRow, standIns := [], harness := (true, "5e815092d084f94938e2224e8e273bbadef6f664e9d8a9c87a004e6866cc5aea"), looks := true }, kinds := [], alts := [], laidByText := true, laidKinds := [.data, .pinned], laidTests := true, laidLooks := .later }
def BufferQueuesCardSaid : Prop := Claim7.holds Tryz.pinned (.plain (OpenSpec.ofChange bufferQueuesSpec)) bufferQueuesCard

/-- THE TIED CARD OF 'alembiclaw22.BufferHas'. -/
def bufferHasCard : Claim7 := { stood := { row := bufferHasRow, standIns := [], harness := (true, "5e815092d084f94938e2224e8e273bbadef6f664e9d8a9c87a004e6866cc5aea"), looks := true }, kinds := [], alts := [], laidByText := true, laidKinds := [.data, .pinned], laidTests := true, laidLooks := .later }
def BufferHasCardSaid : Prop := Claim7.holds Tryz.pinned (.plain (OpenSpec.ofChange bufferHasSpec)) bufferHasCard

/-- THE TIED CARD OF 'alembiclaw21.MachRuns'. -/
def machRunsCard : Claim7 := { stood := { row := machRunsRow, standIns := [], harness := (true, "5e815092d084f94938e2224e8e273bbadef6f664e9d8a9c87a004e6866cc5aea"), looks := true }, kinds := [], alts := [], laidByText := true, laidKinds := [.data, .pinned], laidTests := true, laidLooks := .later }
def MachRunsCardSaid : Prop := Claim7.holds Tryz.pinned (.plain (OpenSpec.ofChange machRunsSpec)) machRunsCard

/-- THE TIED CARD OF 'alembiclaw21.MachEnds'. -/
def machEndsCard : Claim7 := { stood := { row := machEndsRow, standIns := [], harness := (true, "5e815092d084f94938e2224e8e273bbadef6f664e9d8a9c87a004e6866cc5aea"), looks := true }, kinds := [], alts := [], laidByText := true, laidKinds := [.data, .pinned], laidTests := true, laidLooks := .later }
def MachEndsCardSaid : Prop := Claim7.holds Tryz.pinned (.plain (OpenSpec.ofChange machEndsSpec)) machEndsCard

/-- THE TIED CARD OF 'alembiclaw21.MachModulo'. -/
def machModuloCard : Claim7 := { stood := { row := machModuloRow, standIns := [], harness := (true, "5e815092d084f94938e2224e8e273bbadef6f664e9d8a9c87a004e6866cc5aea"), looks := true }, kinds := [], alts := [], laidByText := true, laidKinds := [.data, .pinned], laidTests := true, laidLooks := .later }
def MachModuloCardSaid : Prop := Claim7.holds Tryz.pinned (.plain (OpenSpec.ofChange machModuloSpec)) machModuloCard

/-- THE TIED CARD OF 'alembiclaw21.MachNobody'. -/
def machNobodyCard : Claim7 := { stood := { row := machNobodyRow, standIns := [], harness := (true, "5e815092d084f94938e2224e8e273bbadef6f664e9d8a9c87a004e6866cc5aea"), looks := true }, kinds := [], alts := [], laidByText := true, laidKinds := [.data, .data, .data, .data, .pinned], laidTests := true, laidLooks := .later }
def MachNobodyCardSaid : Prop := Claim7.holds Tryz.pinned (.plain (OpenSpec.ofChange machNobodySpec)) machNobodyCard

/-- THE TIED CARD OF 'alembiclaw21.MachPlays'. -/
def machPlaysCard : Claim7 := { stood := { row := machPlaysRow, standIns := [], harness := (true, "5e815092d084f94938e2224e8e273bbadef6f664e9d8a9c87a004e6866cc5aea"), looks := true }, kinds := [], alts := [], laidByText := true, laidKinds := [.data, .data, .data, .data, .pinned], laidTests := true, laidLooks := .later }
def MachPlaysCardSaid : Prop := Claim7.holds Tryz.pinned (.plain (OpenSpec.ofChange machPlaysSpec)) machPlaysCard

/-- THE SECOND FORM's CARD OF 'alembiclaw15.TraceMay'. -/
def traceMayUptoCard : Claim7 := { stood := { row := traceMayUptoRow, standIns := [], harness := (true, "5e815092d084f94938e2224e8e273bbadef6f664e9d8a9c87a004e6866cc5aea"), looks := true }, kinds := [], alts := [], laidByText := true, laidKinds := [.data, .pinned], laidTests := true, laidLooks := .later }
def TraceMayUptoCardSaid : Prop := Claim7.holds Tryz.pinned (.plain (OpenSpec.upto traceMaySpec)) traceMayUptoCard

/-- THE SECOND FORM's CARD OF 'alembiclaw15.TraceRuns'. -/
def traceRunsUptoCard : Claim7 := { stood := { row := traceRunsUptoRow, standIns := [], harness := (true, "5e815092d084f94938e2224e8e273bbadef6f664e9d8a9c87a004e6866cc5aea"), looks := true }, kinds := [], alts := [], laidByText := true, laidKinds := [.data, .pinned], laidTests := true, laidLooks := .later }
def TraceRunsUptoCardSaid : Prop := Claim7.holds Tryz.pinned (.plain (OpenSpec.upto traceRunsSpec)) traceRunsUptoCard

/-- THE SECOND FORM's CARD OF 'alembiclaw22.BufferNil'. -/
def bufferNilUptoCard : Claim7 := { stood := { row := bufferNilUptoRow, standIns := [], harness := (true, "5e815092d084f94938e2224e8e273bbadef6f664e9d8a9c87a004e6866cc5aea"), looks := true }, kinds := [], alts := [], laidByText := true, laidKinds := [.data, .data, .data, .data, .pinned], laidTests := true, laidLooks := .later }
def BufferNilUptoCardSaid : Prop := Claim7.holds Tryz.pinned (.plain (OpenSpec.upto bufferNilSpec)) bufferNilUptoCard

/-- THE SECOND FORM's CARD OF 'alembiclaw22.BufferRuns'. -/
def bufferRunsUptoCard : Claim7 := { stood := { row := bufferRunsUptoRow, standIns := [], harness := (true, "5e815092d084f94938e2224e8e273bbadef6f664e9d8a9c87a004e6866cc5aea"), looks := true }, kinds := [], alts := [], laidByText := true, laidKinds := [.data, .pinned], laidTests := true, laidLooks := .later }
def BufferRunsUptoCardSaid : Prop := Claim7.holds Tryz.pinned (.plain (OpenSpec.upto bufferRunsSpec)) bufferRunsUptoCard

/-- THE SECOND FORM's CARD OF 'alembiclaw22.BufferEnds'. -/
def bufferEndsUptoCard : Claim7 := { stood := { row := bufferEndsUptoRow, standIns := [], harness := (true, "5e815092d084f94938e2224e8e273bbadef6f664e9d8a9c87a004e6866cc5aea"), looks := true }, kinds := [], alts := [], laidByText := true, laidKinds := [.data, .pinned], laidTests := true, laidLooks := .later }
def BufferEndsUptoCardSaid : Prop := Claim7.holds Tryz.pinned (.plain (OpenSpec.upto bufferEndsSpec)) bufferEndsUptoCard

/-- THE SECOND FORM's CARD OF 'alembiclaw22.BufferQueues'. -/
def bufferQueuesUptoCard : Claim7 := { stood := { row := bufferQueuesUptoRow, standIns := [], harness := (true, "5e815092d084f94938e2224e8e273bbadef6f664e9d8a9c87a004e6866cc5aea"), looks := true }, kinds := [], alts := [], laidByText := true, laidKinds := [.data, .pinned], laidTests := true, laidLooks := .later }
def BufferQueuesUptoCardSaid : Prop := Claim7.holds Tryz.pinned (.plain (OpenSpec.upto bufferQueuesSpec)) bufferQueuesUptoCard

/-- THE SECOND FORM's CARD OF 'alembiclaw22.BufferHas'. -/
def bufferHasUptoCard : Claim7 := { stood := { row := bufferHasUptoRow, standIns := [], harness := (true, "5e815092d084f94938e2224e8e273bbadef6f664e9d8a9c87a004e6866cc5aea"), looks := true }, kinds := [], alts := [], laidByText := true, laidKinds := [.data, .pinned], laidTests := true, laidLooks := .later }
def BufferHasUptoCardSaid : Prop := Claim7.holds Tryz.pinned (.plain (OpenSpec.upto bufferHasSpec)) bufferHasUptoCard

/-- THE SECOND FORM's CARD OF 'alembiclaw21.MachRuns'. -/
def machRunsUptoCard : Claim7 := { stood := { row := machRunsUptoRow, standIns := [], harness := (true, "5e815092d084f94938e2224e8e273bbadef6f664e9d8a9c87a004e6866cc5aea"), looks := true }, kinds := [], alts := [], laidByText := true, laidKinds := [.data, .pinned], laidTests := true, laidLooks := .later }
def MachRunsUptoCardSaid : Prop := Claim7.holds Tryz.pinned (.plain (OpenSpec.upto machRunsSpec)) machRunsUptoCard

/-- THE SECOND FORM's CARD OF 'alembiclaw21.MachEnds'. -/
def machEndsUptoCard : Claim7 := { stood := { row := machEndsUptoRow, standIns := [], harness := (true, "5e815092d084f94938e2224e8e273bbadef6f664e9d8a9c87a004e6866cc5aea"), looks := true }, kinds := [], alts := [], laidByText := true, laidKinds := [.data, .pinned], laidTests := true, laidLooks := .later }
def MachEndsUptoCardSaid : Prop := Claim7.holds Tryz.pinned (.plain (OpenSpec.upto machEndsSpec)) machEndsUptoCard

/-- THE SECOND FORM's CARD OF 'alembiclaw21.MachModulo'. -/
def machModuloUptoCard : Claim7 := { stood := { row := machModuloUptoRow, standIns := [], harness := (true, "5e815092d084f94938e2224e8e273bbadef6f664e9d8a9c87a004e6866cc5aea"), looks := true }, kinds := [], alts := [], laidByText := true, laidKinds := [.data, .pinned], laidTests := true, laidLooks := .later }
def MachModuloUptoCardSaid : Prop := Claim7.holds Tryz.pinned (.plain (OpenSpec.upto machModuloSpec)) machModuloUptoCard

/-- THE SECOND FORM's CARD OF 'alembiclaw21.MachNobody'. -/
def machNobodyUptoCard : Claim7 := { stood := { row := machNobodyUptoRow, standIns := [], harness := (true, "5e815092d084f94938e2224e8e273bbadef6f664e9d8a9c87a004e6866cc5aea"), looks := true }, kinds := [], alts := [], laidByText := true, laidKinds := [.data, .data, .data, .data, .pinned], laidTests := true, laidLooks := .later }
def MachNobodyUptoCardSaid : Prop := Claim7.holds Tryz.pinned (.plain (OpenSpec.upto machNobodySpec)) machNobodyUptoCard

/-- THE SECOND FORM's CARD OF 'alembiclaw21.MachPlays'. -/
def machPlaysUptoCard : Claim7 := { stood := { row := machPlaysUptoRow, standIns := [], harness := (true, "5e815092d084f94938e2224e8e273bbadef6f664e9d8a9c87a004e6866cc5aea"), looks := true }, kinds := [], alts := [], laidByText := true, laidKinds := [.data, .data, .data, .data, .pinned], laidTests := true, laidLooks := .later }
def MachPlaysUptoCardSaid : Prop := Claim7.holds Tryz.pinned (.plain (OpenSpec.upto machPlaysSpec)) machPlaysUptoCard
end Rows
end Go.Proofs.YtjhafgnmahhacaaGreatDoor
