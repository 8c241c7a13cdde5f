/-
  DERIVED. GIVEN WITH THE SEED: THE CARDS: each row of YtoegmdnfbemppaaGreatDoorRows.lean that lists a variable, with what it lists TIED to the program's text (the seventh form; the later family's looks); each row that meets fmt, with fmt's text TOLD by the authors' own Lean function (tested against real Go, not proved from fmt's source: count such statements apart). THE CARD IS WHAT COUNTS. Prove the row's statement (the work); the ties are given (YtoegmdnfbemppaaGreatDoorTie.lean); close each card by the builder's one call (the guide's Derived/Test/ToyasCard.lean, 'card_holds'). Laid BY PROGRAM, IN A SANDBOX (cutbox-door.mjs). By AI agents, Wed Nov 11 2026. No macro, syntax, notation, axiom, sorry.
-/
import Derived.Test.YtoegmdnfbemppaaGreatDoorRows
import GoSem.ClaimSeven
namespace Go.Proofs.YtoegmdnfbemppaaGreatDoor
namespace Rows

/-- THE TIED CARD OF 'alembiclaw15.TraceOf'. -/
def traceOfCard : Claim7 := { stood := { row := traceOfRow, standIns := [], harness := (true, "d51f6aff8b8c54ff5f2e939347da48849d04975361215704066cb9ed1e77eafc"), looks := true }, kinds := [], alts := [], laidByText := true, laidKinds := [.data, .pinned], laidTests := true, laidLooks := .later }
def TraceOfCardSaid : Prop := Claim7.holds Tryz.pinned (.plain (OpenSpec.ofChange traceOfSpec)) traceOfCard

/-- THE TIED CARD OF 'alembiclaw15.TraceOrders'. -/
def traceOrdersCard : Claim7 := { stood := { row := traceOrdersRow, standIns := [], harness := (true, "d51f6aff8b8c54ff5f2e939347da48849d04975361215704066cb9ed1e77eafc"), looks := true }, kinds := [], alts := [], laidByText := true, laidKinds := [.data, .pinned], laidTests := true, laidLooks := .later }
def TraceOrdersCardSaid : Prop := Claim7.holds Tryz.pinned (.plain (OpenSpec.ofChange traceOrdersSpec)) traceOrdersCard

/-- THE TIED CARD OF 'alembiclaw15.TraceOwn'. -/
def traceOwnCard : Claim7 := { stood := { row := traceOwnRow, standIns := [], harness := (true, "d51f6aff8b8c54ff5f2e939347da48849d04975361215704066cb9ed1e77eafc"), looks := true }, kinds := [], alts := [], laidByText := true, laidKinds := [.data, .pinned], laidTests := true, laidLooks := .later }
def TraceOwnCardSaid : Prop := Claim7.holds Tryz.pinned (.plain (OpenSpec.ofChange traceOwnSpec)) traceOwnCard

/-- THE TIED CARD OF 'alembiclaw15.TraceMay'. -/
def traceMayCard : Claim7 := { stood := { row := traceMayRow, standIns := [], harness := (true, "d51f6aff8b8c54ff5f2e939347da48849d04975361215704066cb9ed1e77eafc"), looks := true }, kinds := [], alts := [], laidByText := true, laidKinds := [.data, .pinned], laidTests := true, laidLooks := .later }
def TraceMayCardSaid : Prop := Claim7.holds Tryz.pinned (.plain (OpenSpec.ofChange traceMaySpec)) traceMayCard

/-- THE TIED CARD OF 'alembiclaw15.TraceRuns'. -/
def traceRunsCard : Claim7 := { stood := { row := traceRunsRow, standIns := [], harness := (true, "d51f6aff8b8c54ff5f2e939347da48849d04975361215704066cb9ed1e77eafc"), looks := true }, kinds := [], alts := [], laidByText := true, laidKinds := [.data, .pinned], laidTests := true, laidLooks := .later }
def TraceRunsCardSaid : Prop := Claim7.holds Tryz.pinned (.plain (OpenSpec.ofChange traceRunsSpec)) traceRunsCard

/-- THE TIED CARD OF 'alembiclaw15.TraceCycle'. -/
def traceCycleCard : Claim7 := { stood := { row := traceCycleRow, standIns := [], harness := (true, "d51f6aff8b8c54ff5f2e939347da48849d04975361215704066cb9ed1e77eafc"), looks := true }, kinds := [], alts := [], laidByText := true, laidKinds := [.data, .data, .data, .data, .pinned], laidTests := true, laidLooks := .later }
def TraceCycleCardSaid : Prop := Claim7.holds Tryz.pinned (.plain (OpenSpec.ofChange traceCycleSpec)) traceCycleCard

/-- THE SECOND FORM's CARD OF 'alembiclaw15.TraceOf'. -/
def traceOfUptoCard : Claim7 := { stood := { row := traceOfUptoRow, standIns := [], harness := (true, "d51f6aff8b8c54ff5f2e939347da48849d04975361215704066cb9ed1e77eafc"), looks := true }, kinds := [], alts := [], laidByText := true, laidKinds := [.data, .pinned], laidTests := true, laidLooks := .later }
def TraceOfUptoCardSaid : Prop := Claim7.holds Tryz.pinned (.plain (OpenSpec.upto traceOfSpec)) traceOfUptoCard

/-- THE SECOND FORM's CARD OF 'alembiclaw15.TraceOrders'. -/
def traceOrdersUptoCard : Claim7 := { stood := { row := traceOrdersUptoRow, standIns := [], harness := (true, "d51f6aff8b8c54ff5f2e939347da48849d04975361215704066cb9ed1e77eafc"), looks := true }, kinds := [], alts := [], laidByText := true, laidKinds := [.data, .pinned], laidTests := true, laidLooks := .later }
def TraceOrdersUptoCardSaid : Prop := Claim7.holds Tryz.pinned (.plain (OpenSpec.upto traceOrdersSpec)) traceOrdersUptoCard

/-- THE SECOND FORM's CARD OF 'alembiclaw15.TraceOwn'. -/
def traceOwnUptoCard : Claim7 := { stood := { row := traceOwnUptoRow, standIns := [], harness := (true, "d51f6aff8b8c54ff5f2e939347da48849d04975361215704066cb9ed1e77eafc"), looks := true }, kinds := [], alts := [], laidByText := true, laidKinds := [.data, .pinned], laidTests := true, laidLooks := .later }
def TraceOwnUptoCardSaid : Prop := Claim7.holds Tryz.pinned (.plain (OpenSpec.upto traceOwnSpec)) traceOwnUptoCard

/-- THE SECOND FORM's CARD OF 'alembiclaw15.TraceMay'. -/
def traceMayUptoCard : Claim7 := { stood := { row := traceMayUptoRow, standIns := [], harness := (true, "d51f6aff8b8c54ff5f2e939347da48849d04975361215704066cb9ed1e77eafc"), looks := true }, kinds := [], alts := [], laidByText := true, laidKinds := [.data, .pinned], laidTests := true, laidLooks := .later }
def TraceMayUptoCardSaid : Prop := Claim7.holds Tryz.pinned (.plain (OpenSpec.upto traceMaySpec)) traceMayUptoCard

/-- THE SECOND FORM's CARD OF 'alembiclaw15.TraceRuns'. -/
def traceRunsUptoCard : Claim7 := { stood := { row := traceRunsUptoRow, standIns := [], harness := (true, "d51f6aff8b8c54ff5f2e939347da48849d04975361215704066cb9ed1e77eafc"), looks := true }, kinds := [], alts := [], laidByText := true, laidKinds := [.data, .pinned], laidTests := true, laidLooks := .later }
def TraceRunsUptoCardSaid : Prop := Claim7.holds Tryz.pinned (.plain (OpenSpec.upto traceRunsSpec)) traceRunsUptoCard

/-- THE SECOND FORM's CARD OF 'alembiclaw15.TraceCycle'. -/
def traceCycleUptoCard : Claim7 := { stood := { row := traceCycleUptoRow, standIns := [], harness := (true, "d51f6aff8b8c54ff5f2e939347da48849d04975361215704066cb9ed1e77eafc"), looks := true }, kinds := [], alts := [], laidByText := true, laidKinds := [.data, .data, .data, .data, .pinned], laidTests := true, laidLooks := .later }
def TraceCycleUptoCardSaid : Prop := Claim7.holds Tryz.pinned (.plain (OpenSpec.upto traceCycleSpec)) traceCycleUptoCard
end Rows
end Go.Proofs.YtoegmdnfbemppaaGreatDoor
