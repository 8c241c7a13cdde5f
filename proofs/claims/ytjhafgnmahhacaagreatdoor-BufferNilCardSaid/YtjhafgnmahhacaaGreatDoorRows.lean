/-
  NARROWER THAN 'FOR EVERY INPUT', by the rows' own cells (each row's printed sentence says how): TraceMay: loops, laid · TraceRuns: loops, laid · BufferNil: laid · BufferRuns: loops, laid · BufferEnds: loops, laid · BufferQueues: loops, laid · BufferHas: loops, laid · MachRuns: loops, laid · MachEnds: loops, laid · MachModulo: loops, laid · MachNobody: loops, laid · MachPlays: loops, laid.
  DERIVED. THE GIVEN ROWS OF THIS SEAT. 12 by the template 'for every input the law returns true; each argument reads behind the call as it read before'; 0 by the template 'total and deterministic' (their statements: YtjhafgnmahhacaaGreatDoorTotals.lean).
  GIVEN WITH THE SEED: the statements are not yours to turn. If you find one false, say at which input.
  Laid BY PROGRAM, IN A SANDBOX (cutbox-rows.mjs): the forced cells as the released guide's own fill.sh prints them over the translation eedb83ab0c5d7226… (all of the seat's roots in one cut). By AI agents, Wed Nov 11 2026. No macro, syntax, notation, axiom, sorry.
-/
import Derived.Test.YtjhafgnmahhacaaGreatDoorChecked
import GoSem.PinnedTables
import GoSem.Claim
import GoSem.ClaimJoined
import GoSem.ClaimMapViews
import Derived.JoinedTies
import Derived.KernelRfl
namespace Go.Proofs.YtjhafgnmahhacaaGreatDoor
/- THE CELL 'sum', in the pinned program and in every row, IS THE sha256 OF THE DUMP (.gsa) THAT YtjhafgnmahhacaaGreatDoorProg.lean LOADS. Nothing in Lean hashes anything: it is a label: what it is worth is what the hold of that sum in a sandbox is worth. -/
noncomputable def Tryz.pinned : Pinned := { name := "ytjhafgnmahhacaagreatdoor", sum := "eedb83ab0c5d7226a05508f4994a962d92599771b372eb3645d2987cfe640ecc", checked := Tryz.checked }
namespace Rows
def none {H : Type} : Left H := { results := [], args := [] }

/- WHAT THE LISTED PACKAGE-LEVEL VARIABLES READ AS WHEN THE CALL BEGINS. Each datum BY PROGRAM (the guide's laid-datum.mjs) off the statement by which the dump's own 'gosem.cut.vars' lays the variable. In a bare row this is a premise. The card (YtjhafgnmahhacaaGreatDoorCards.lean) ties it to the program's text. -/
def laid_unicode_utf8_acceptRanges {H : Type} : DataW H := .agg [.agg [.lit (.int .u8 128), .lit (.int .u8 191)], .agg [.lit (.int .u8 160), .lit (.int .u8 191)], .agg [.lit (.int .u8 128), .lit (.int .u8 159)], .agg [.lit (.int .u8 144), .lit (.int .u8 191)], .agg [.lit (.int .u8 128), .lit (.int .u8 143)], .agg [.lit (.int .u8 0), .lit (.int .u8 0)], .agg [.lit (.int .u8 0), .lit (.int .u8 0)], .agg [.lit (.int .u8 0), .lit (.int .u8 0)], .agg [.lit (.int .u8 0), .lit (.int .u8 0)], .agg [.lit (.int .u8 0), .lit (.int .u8 0)], .agg [.lit (.int .u8 0), .lit (.int .u8 0)], .agg [.lit (.int .u8 0), .lit (.int .u8 0)], .agg [.lit (.int .u8 0), .lit (.int .u8 0)], .agg [.lit (.int .u8 0), .lit (.int .u8 0)], .agg [.lit (.int .u8 0), .lit (.int .u8 0)], .agg [.lit (.int .u8 0), .lit (.int .u8 0)]]
/-- One of Go's own tables, pinned by name: the form's constant. -/
def laid_unicode_utf8_first : DataW Unit := Go.Pinned.utf8First
def laid_math_bits_deBruijn32tab {H : Type} : DataW H := .agg [.lit (.int .u8 0), .lit (.int .u8 1), .lit (.int .u8 28), .lit (.int .u8 2), .lit (.int .u8 29), .lit (.int .u8 14), .lit (.int .u8 24), .lit (.int .u8 3), .lit (.int .u8 30), .lit (.int .u8 22), .lit (.int .u8 20), .lit (.int .u8 15), .lit (.int .u8 25), .lit (.int .u8 17), .lit (.int .u8 4), .lit (.int .u8 8), .lit (.int .u8 31), .lit (.int .u8 27), .lit (.int .u8 13), .lit (.int .u8 23), .lit (.int .u8 21), .lit (.int .u8 19), .lit (.int .u8 16), .lit (.int .u8 7), .lit (.int .u8 26), .lit (.int .u8 12), .lit (.int .u8 18), .lit (.int .u8 6), .lit (.int .u8 11), .lit (.int .u8 5), .lit (.int .u8 10), .lit (.int .u8 9)]
def laid_math_bits_deBruijn64tab {H : Type} : DataW H := .agg [.lit (.int .u8 0), .lit (.int .u8 1), .lit (.int .u8 56), .lit (.int .u8 2), .lit (.int .u8 57), .lit (.int .u8 49), .lit (.int .u8 28), .lit (.int .u8 3), .lit (.int .u8 61), .lit (.int .u8 58), .lit (.int .u8 42), .lit (.int .u8 50), .lit (.int .u8 38), .lit (.int .u8 29), .lit (.int .u8 17), .lit (.int .u8 4), .lit (.int .u8 62), .lit (.int .u8 47), .lit (.int .u8 59), .lit (.int .u8 36), .lit (.int .u8 45), .lit (.int .u8 43), .lit (.int .u8 51), .lit (.int .u8 22), .lit (.int .u8 53), .lit (.int .u8 39), .lit (.int .u8 33), .lit (.int .u8 30), .lit (.int .u8 24), .lit (.int .u8 18), .lit (.int .u8 12), .lit (.int .u8 5), .lit (.int .u8 63), .lit (.int .u8 55), .lit (.int .u8 48), .lit (.int .u8 27), .lit (.int .u8 60), .lit (.int .u8 41), .lit (.int .u8 37), .lit (.int .u8 16), .lit (.int .u8 46), .lit (.int .u8 35), .lit (.int .u8 44), .lit (.int .u8 21), .lit (.int .u8 52), .lit (.int .u8 32), .lit (.int .u8 23), .lit (.int .u8 11), .lit (.int .u8 54), .lit (.int .u8 26), .lit (.int .u8 40), .lit (.int .u8 15), .lit (.int .u8 34), .lit (.int .u8 20), .lit (.int .u8 31), .lit (.int .u8 10), .lit (.int .u8 25), .lit (.int .u8 14), .lit (.int .u8 19), .lit (.int .u8 9), .lit (.int .u8 13), .lit (.int .u8 8), .lit (.int .u8 7), .lit (.int .u8 6)]
def laid_internal_strconv_uint64pow10 {H : Type} : DataW H := .agg [.lit (.int .u64 1), .lit (.int .u64 10), .lit (.int .u64 100), .lit (.int .u64 1000), .lit (.int .u64 10000), .lit (.int .u64 100000), .lit (.int .u64 1000000), .lit (.int .u64 10000000), .lit (.int .u64 100000000), .lit (.int .u64 1000000000), .lit (.int .u64 10000000000), .lit (.int .u64 100000000000), .lit (.int .u64 1000000000000), .lit (.int .u64 10000000000000), .lit (.int .u64 100000000000000), .lit (.int .u64 1000000000000000), .lit (.int .u64 10000000000000000), .lit (.int .u64 100000000000000000), .lit (.int .u64 1000000000000000000), .lit (.int .u64 10000000000000000000)]

/-- 'alembiclaw15.TraceMay': WHATEVER THE INPUT: true; the input reads as it did. -/
def traceMaySpec : ChangeSpec := { name := "traceMay", fn := fun _ => fun
  | [d] => { results := [.lit (.bool true)], args := [d] }
  | _ => none }
def traceMayRow : OpenClaim := { program := "ytjhafgnmahhacaagreatdoor", sum := "eedb83ab0c5d7226a05508f4994a962d92599771b372eb3645d2987cfe640ecc", func := "alembic/alembiclaw15.TraceMay", spec := "traceMay", inPlace := ["internal/bytealg.IndexByteString", "internal/bytealg.IndexString", "internal/bytealg.abigen_runtime_cmpstring"], unfollowed := true, recurses := true, named := ["unicode/utf8.first", "unicode/utf8.acceptRanges", "internal/bytealg.MaxLen"], loops := true, plainKeys := false, apart := false, laid := [("unicode/utf8.acceptRanges", laid_unicode_utf8_acceptRanges), ("unicode/utf8.first", laid_unicode_utf8_first)] }
def TraceMaySaid : Prop := traceMayRow.holds Tryz.pinned (OpenSpec.ofChange traceMaySpec)

/-- ITS FALSE NEIGHBOUR: 'it returns false'. Refute it at one input. -/
def traceMayWrong : ChangeSpec := { name := "traceMay", fn := fun _ => fun
  | [d] => { results := [.lit (.bool false)], args := [d] }
  | _ => none }
def TraceMayWrongFalsely : Prop := traceMayRow.holds Tryz.pinned (OpenSpec.ofChange traceMayWrong)

/-- 'alembiclaw15.TraceRuns': WHATEVER THE INPUT: true; the input reads as it did. -/
def traceRunsSpec : ChangeSpec := { name := "traceRuns", fn := fun _ => fun
  | [d1, d2] => { results := [.lit (.bool true)], args := [d1, d2] }
  | _ => none }
def traceRunsRow : OpenClaim := { program := "ytjhafgnmahhacaagreatdoor", sum := "eedb83ab0c5d7226a05508f4994a962d92599771b372eb3645d2987cfe640ecc", func := "alembic/alembiclaw15.TraceRuns", spec := "traceRuns", inPlace := ["internal/bytealg.IndexByteString", "internal/bytealg.IndexString", "internal/bytealg.abigen_runtime_cmpstring"], unfollowed := true, recurses := true, named := ["unicode/utf8.first", "unicode/utf8.acceptRanges", "internal/bytealg.MaxLen"], loops := true, plainKeys := false, apart := false, laid := [("unicode/utf8.acceptRanges", laid_unicode_utf8_acceptRanges), ("unicode/utf8.first", laid_unicode_utf8_first)] }
def TraceRunsSaid : Prop := traceRunsRow.holds Tryz.pinned (OpenSpec.ofChange traceRunsSpec)

/-- ITS FALSE NEIGHBOUR: 'it returns false'. Refute it at one input. -/
def traceRunsWrong : ChangeSpec := { name := "traceRuns", fn := fun _ => fun
  | [d1, d2] => { results := [.lit (.bool false)], args := [d1, d2] }
  | _ => none }
def TraceRunsWrongFalsely : Prop := traceRunsRow.holds Tryz.pinned (OpenSpec.ofChange traceRunsWrong)

/-- 'alembiclaw22.BufferNil': WHATEVER THE INPUT: true; the input reads as it did. -/
def bufferNilSpec : ChangeSpec := { name := "bufferNil", fn := fun _ => fun
  | [d] => { results := [.lit (.bool true)], args := [d] }
  | _ => none }
def bufferNilRow : OpenClaim := { program := "ytjhafgnmahhacaagreatdoor", sum := "eedb83ab0c5d7226a05508f4994a962d92599771b372eb3645d2987cfe640ecc", func := "alembic/alembiclaw22.BufferNil", spec := "bufferNil", inPlace := ["internal/abi.NoEscape", "internal/bytealg.IndexByteString", "internal/bytealg.IndexString", "internal/bytealg.abigen_runtime_cmpstring"], unfollowed := true, recurses := true, named := ["internal/strconv.uint64pow10", "math/bits.deBruijn32tab", "math/bits.deBruijn64tab", "unicode/utf8.first", "unicode/utf8.acceptRanges", "internal/bytealg.MaxLen"], plainKeys := false, apart := false, laid := [("math/bits.deBruijn32tab", laid_math_bits_deBruijn32tab), ("math/bits.deBruijn64tab", laid_math_bits_deBruijn64tab), ("internal/strconv.uint64pow10", laid_internal_strconv_uint64pow10), ("unicode/utf8.acceptRanges", laid_unicode_utf8_acceptRanges), ("unicode/utf8.first", laid_unicode_utf8_first)] }
def BufferNilSaid : Prop := bufferNilRow.holds Tryz.pinned (OpenSpec.ofChange bufferNilSpec)

/-- ITS FALSE NEIGHBOUR: 'it returns false'. Refute it at one input. -/
def bufferNilWrong : ChangeSpec := { name := "bufferNil", fn := fun _ => fun
  | [d] => { results := [.lit (.bool false)], args := [d] }
  | _ => none }
def BufferNilWrongFalsely : Prop := bufferNilRow.holds Tryz.pinned (OpenSpec.ofChange bufferNilWrong)

/-- 'alembiclaw22.BufferRuns': WHATEVER THE INPUT: true; the input reads as it did. -/
def bufferRunsSpec : ChangeSpec := { name := "bufferRuns", fn := fun _ => fun
  | [d1, d2] => { results := [.lit (.bool true)], args := [d1, d2] }
  | _ => none }
def bufferRunsRow : OpenClaim := { program := "ytjhafgnmahhacaagreatdoor", sum := "eedb83ab0c5d7226a05508f4994a962d92599771b372eb3645d2987cfe640ecc", func := "alembic/alembiclaw22.BufferRuns", spec := "bufferRuns", inPlace := ["internal/bytealg.IndexByteString", "internal/bytealg.IndexString", "internal/bytealg.abigen_runtime_cmpstring"], unfollowed := true, recurses := true, named := ["unicode/utf8.first", "unicode/utf8.acceptRanges", "internal/bytealg.MaxLen"], loops := true, plainKeys := false, apart := false, laid := [("unicode/utf8.acceptRanges", laid_unicode_utf8_acceptRanges), ("unicode/utf8.first", laid_unicode_utf8_first)] }
def BufferRunsSaid : Prop := bufferRunsRow.holds Tryz.pinned (OpenSpec.ofChange bufferRunsSpec)

/-- ITS FALSE NEIGHBOUR: 'it returns false'. Refute it at one input. -/
def bufferRunsWrong : ChangeSpec := { name := "bufferRuns", fn := fun _ => fun
  | [d1, d2] => { results := [.lit (.bool false)], args := [d1, d2] }
  | _ => none }
def BufferRunsWrongFalsely : Prop := bufferRunsRow.holds Tryz.pinned (OpenSpec.ofChange bufferRunsWrong)

/-- 'alembiclaw22.BufferEnds': WHATEVER THE INPUT: true; the input reads as it did. -/
def bufferEndsSpec : ChangeSpec := { name := "bufferEnds", fn := fun _ => fun
  | [d1, d2] => { results := [.lit (.bool true)], args := [d1, d2] }
  | _ => none }
def bufferEndsRow : OpenClaim := { program := "ytjhafgnmahhacaagreatdoor", sum := "eedb83ab0c5d7226a05508f4994a962d92599771b372eb3645d2987cfe640ecc", func := "alembic/alembiclaw22.BufferEnds", spec := "bufferEnds", inPlace := ["internal/bytealg.IndexByteString", "internal/bytealg.IndexString", "internal/bytealg.abigen_runtime_cmpstring"], unfollowed := true, recurses := true, named := ["unicode/utf8.first", "unicode/utf8.acceptRanges", "internal/bytealg.MaxLen"], loops := true, plainKeys := false, apart := false, laid := [("unicode/utf8.acceptRanges", laid_unicode_utf8_acceptRanges), ("unicode/utf8.first", laid_unicode_utf8_first)] }
def BufferEndsSaid : Prop := bufferEndsRow.holds Tryz.pinned (OpenSpec.ofChange bufferEndsSpec)

/-- ITS FALSE NEIGHBOUR: 'it returns false'. Refute it at one input. -/
def bufferEndsWrong : ChangeSpec := { name := "bufferEnds", fn := fun _ => fun
  | [d1, d2] => { results := [.lit (.bool false)], args := [d1, d2] }
  | _ => none }
def BufferEndsWrongFalsely : Prop := bufferEndsRow.holds Tryz.pinned (OpenSpec.ofChange bufferEndsWrong)

/-- 'alembiclaw22.BufferQueues': WHATEVER THE INPUT: true; the input reads as it did. -/
def bufferQueuesSpec : ChangeSpec := { name := "bufferQueues", fn := fun _ => fun
  | [d1, d2] => { results := [.lit (.bool true)], args := [d1, d2] }
  | _ => none }
def bufferQueuesRow : OpenClaim := { program := "ytjhafgnmahhacaagreatdoor", sum := "eedb83ab0c5d7226a05508f4994a962d92599771b372eb3645d2987cfe640ecc", func := "alembic/alembiclaw22.BufferQueues", spec := "bufferQueues", inPlace := ["internal/bytealg.IndexByteString", "internal/bytealg.IndexString", "internal/bytealg.abigen_runtime_cmpstring"], unfollowed := true, recurses := true, named := ["unicode/utf8.first", "unicode/utf8.acceptRanges", "internal/bytealg.MaxLen"], loops := true, plainKeys := false, apart := false, laid := [("unicode/utf8.acceptRanges", laid_unicode_utf8_acceptRanges), ("unicode/utf8.first", laid_unicode_utf8_first)] }
def BufferQueuesSaid : Prop := bufferQueuesRow.holds Tryz.pinned (OpenSpec.ofChange bufferQueuesSpec)

/-- ITS FALSE NEIGHBOUR: 'it returns false'. Refute it at one input. -/
def bufferQueuesWrong : ChangeSpec := { name := "bufferQueues", fn := fun _ => fun
  | [d1, d2] => { results := [.lit (.bool false)], args := [d1, d2] }
  | _ => none }
def BufferQueuesWrongFalsely : Prop := bufferQueuesRow.holds Tryz.pinned (OpenSpec.ofChange bufferQueuesWrong)

/-- 'alembiclaw22.BufferHas': WHATEVER THE INPUT: true; the input reads as it did. -/
def bufferHasSpec : ChangeSpec := { name := "bufferHas", fn := fun _ => fun
  | [d1, d2] => { results := [.lit (.bool true)], args := [d1, d2] }
  | _ => none }
def bufferHasRow : OpenClaim := { program := "ytjhafgnmahhacaagreatdoor", sum := "eedb83ab0c5d7226a05508f4994a962d92599771b372eb3645d2987cfe640ecc", func := "alembic/alembiclaw22.BufferHas", spec := "bufferHas", inPlace := ["internal/bytealg.IndexByteString", "internal/bytealg.IndexString", "internal/bytealg.abigen_runtime_cmpstring"], unfollowed := true, recurses := true, named := ["unicode/utf8.first", "unicode/utf8.acceptRanges", "internal/bytealg.MaxLen"], loops := true, plainKeys := false, apart := false, laid := [("unicode/utf8.acceptRanges", laid_unicode_utf8_acceptRanges), ("unicode/utf8.first", laid_unicode_utf8_first)] }
def BufferHasSaid : Prop := bufferHasRow.holds Tryz.pinned (OpenSpec.ofChange bufferHasSpec)

/-- ITS FALSE NEIGHBOUR: 'it returns false'. Refute it at one input. -/
def bufferHasWrong : ChangeSpec := { name := "bufferHas", fn := fun _ => fun
  | [d1, d2] => { results := [.lit (.bool false)], args := [d1, d2] }
  | _ => none }
def BufferHasWrongFalsely : Prop := bufferHasRow.holds Tryz.pinned (OpenSpec.ofChange bufferHasWrong)

/-- 'alembiclaw21.MachRuns': WHATEVER THE INPUT: true; the input reads as it did. -/
def machRunsSpec : ChangeSpec := { name := "machRuns", fn := fun _ => fun
  | [d1, d2] => { results := [.lit (.bool true)], args := [d1, d2] }
  | _ => none }
def machRunsRow : OpenClaim := { program := "ytjhafgnmahhacaagreatdoor", sum := "eedb83ab0c5d7226a05508f4994a962d92599771b372eb3645d2987cfe640ecc", func := "alembic/alembiclaw21.MachRuns", spec := "machRuns", inPlace := ["internal/bytealg.IndexByteString", "internal/bytealg.IndexString", "internal/bytealg.abigen_runtime_cmpstring"], unfollowed := true, recurses := true, named := ["unicode/utf8.first", "unicode/utf8.acceptRanges", "internal/bytealg.MaxLen"], loops := true, plainKeys := false, apart := false, laid := [("unicode/utf8.acceptRanges", laid_unicode_utf8_acceptRanges), ("unicode/utf8.first", laid_unicode_utf8_first)] }
def MachRunsSaid : Prop := machRunsRow.holds Tryz.pinned (OpenSpec.ofChange machRunsSpec)

/-- ITS FALSE NEIGHBOUR: 'it returns false'. Refute it at one input. -/
def machRunsWrong : ChangeSpec := { name := "machRuns", fn := fun _ => fun
  | [d1, d2] => { results := [.lit (.bool false)], args := [d1, d2] }
  | _ => none }
def MachRunsWrongFalsely : Prop := machRunsRow.holds Tryz.pinned (OpenSpec.ofChange machRunsWrong)

/-- 'alembiclaw21.MachEnds': WHATEVER THE INPUT: true; the input reads as it did. -/
def machEndsSpec : ChangeSpec := { name := "machEnds", fn := fun _ => fun
  | [d1, d2] => { results := [.lit (.bool true)], args := [d1, d2] }
  | _ => none }
def machEndsRow : OpenClaim := { program := "ytjhafgnmahhacaagreatdoor", sum := "eedb83ab0c5d7226a05508f4994a962d92599771b372eb3645d2987cfe640ecc", func := "alembic/alembiclaw21.MachEnds", spec := "machEnds", inPlace := ["internal/bytealg.IndexByteString", "internal/bytealg.IndexString", "internal/bytealg.abigen_runtime_cmpstring"], unfollowed := true, recurses := true, named := ["unicode/utf8.first", "unicode/utf8.acceptRanges", "internal/bytealg.MaxLen"], loops := true, plainKeys := false, apart := false, laid := [("unicode/utf8.acceptRanges", laid_unicode_utf8_acceptRanges), ("unicode/utf8.first", laid_unicode_utf8_first)] }
def MachEndsSaid : Prop := machEndsRow.holds Tryz.pinned (OpenSpec.ofChange machEndsSpec)

/-- ITS FALSE NEIGHBOUR: 'it returns false'. Refute it at one input. -/
def machEndsWrong : ChangeSpec := { name := "machEnds", fn := fun _ => fun
  | [d1, d2] => { results := [.lit (.bool false)], args := [d1, d2] }
  | _ => none }
def MachEndsWrongFalsely : Prop := machEndsRow.holds Tryz.pinned (OpenSpec.ofChange machEndsWrong)

/-- 'alembiclaw21.MachModulo': WHATEVER THE INPUT: true; the input reads as it did. -/
def machModuloSpec : ChangeSpec := { name := "machModulo", fn := fun _ => fun
  | [d1, d2, d3] => { results := [.lit (.bool true)], args := [d1, d2, d3] }
  | _ => none }
def machModuloRow : OpenClaim := { program := "ytjhafgnmahhacaagreatdoor", sum := "eedb83ab0c5d7226a05508f4994a962d92599771b372eb3645d2987cfe640ecc", func := "alembic/alembiclaw21.MachModulo", spec := "machModulo", inPlace := ["internal/bytealg.IndexByteString", "internal/bytealg.IndexString", "internal/bytealg.abigen_runtime_cmpstring"], unfollowed := true, recurses := true, named := ["unicode/utf8.first", "unicode/utf8.acceptRanges", "internal/bytealg.MaxLen"], loops := true, plainKeys := false, apart := false, laid := [("unicode/utf8.acceptRanges", laid_unicode_utf8_acceptRanges), ("unicode/utf8.first", laid_unicode_utf8_first)] }
def MachModuloSaid : Prop := machModuloRow.holds Tryz.pinned (OpenSpec.ofChange machModuloSpec)

/-- ITS FALSE NEIGHBOUR: 'it returns false'. Refute it at one input. -/
def machModuloWrong : ChangeSpec := { name := "machModulo", fn := fun _ => fun
  | [d1, d2, d3] => { results := [.lit (.bool false)], args := [d1, d2, d3] }
  | _ => none }
def MachModuloWrongFalsely : Prop := machModuloRow.holds Tryz.pinned (OpenSpec.ofChange machModuloWrong)

/-- 'alembiclaw21.MachNobody': WHATEVER THE INPUT: true; the input reads as it did. -/
def machNobodySpec : ChangeSpec := { name := "machNobody", fn := fun _ => fun
  | [d1, d2] => { results := [.lit (.bool true)], args := [d1, d2] }
  | _ => none }
def machNobodyRow : OpenClaim := { program := "ytjhafgnmahhacaagreatdoor", sum := "eedb83ab0c5d7226a05508f4994a962d92599771b372eb3645d2987cfe640ecc", func := "alembic/alembiclaw21.MachNobody", spec := "machNobody", inPlace := ["internal/abi.NoEscape", "internal/bytealg.IndexByteString", "internal/bytealg.IndexString", "internal/bytealg.abigen_runtime_cmpstring"], unfollowed := true, recurses := true, named := ["internal/strconv.uint64pow10", "math/bits.deBruijn32tab", "math/bits.deBruijn64tab", "unicode/utf8.first", "unicode/utf8.acceptRanges", "internal/bytealg.MaxLen"], loops := true, plainKeys := false, apart := false, laid := [("math/bits.deBruijn32tab", laid_math_bits_deBruijn32tab), ("math/bits.deBruijn64tab", laid_math_bits_deBruijn64tab), ("internal/strconv.uint64pow10", laid_internal_strconv_uint64pow10), ("unicode/utf8.acceptRanges", laid_unicode_utf8_acceptRanges), ("unicode/utf8.first", laid_unicode_utf8_first)] }
def MachNobodySaid : Prop := machNobodyRow.holds Tryz.pinned (OpenSpec.ofChange machNobodySpec)

/-- ITS FALSE NEIGHBOUR: 'it returns false'. Refute it at one input. -/
def machNobodyWrong : ChangeSpec := { name := "machNobody", fn := fun _ => fun
  | [d1, d2] => { results := [.lit (.bool false)], args := [d1, d2] }
  | _ => none }
def MachNobodyWrongFalsely : Prop := machNobodyRow.holds Tryz.pinned (OpenSpec.ofChange machNobodyWrong)

/-- 'alembiclaw21.MachPlays': WHATEVER THE INPUT: true; the input reads as it did. -/
def machPlaysSpec : ChangeSpec := { name := "machPlays", fn := fun _ => fun
  | [d1, d2] => { results := [.lit (.bool true)], args := [d1, d2] }
  | _ => none }
def machPlaysRow : OpenClaim := { program := "ytjhafgnmahhacaagreatdoor", sum := "eedb83ab0c5d7226a05508f4994a962d92599771b372eb3645d2987cfe640ecc", func := "alembic/alembiclaw21.MachPlays", spec := "machPlays", inPlace := ["internal/bytealg.IndexByteString", "internal/bytealg.IndexString", "internal/bytealg.abigen_runtime_cmpstring", "internal/abi.NoEscape"], unfollowed := true, recurses := true, named := ["unicode/utf8.first", "unicode/utf8.acceptRanges", "internal/strconv.uint64pow10", "math/bits.deBruijn32tab", "math/bits.deBruijn64tab", "internal/bytealg.MaxLen"], loops := true, plainKeys := false, apart := false, laid := [("math/bits.deBruijn32tab", laid_math_bits_deBruijn32tab), ("math/bits.deBruijn64tab", laid_math_bits_deBruijn64tab), ("internal/strconv.uint64pow10", laid_internal_strconv_uint64pow10), ("unicode/utf8.acceptRanges", laid_unicode_utf8_acceptRanges), ("unicode/utf8.first", laid_unicode_utf8_first)] }
def MachPlaysSaid : Prop := machPlaysRow.holds Tryz.pinned (OpenSpec.ofChange machPlaysSpec)

/-- ITS FALSE NEIGHBOUR: 'it returns false'. Refute it at one input. -/
def machPlaysWrong : ChangeSpec := { name := "machPlays", fn := fun _ => fun
  | [d1, d2] => { results := [.lit (.bool false)], args := [d1, d2] }
  | _ => none }
def MachPlaysWrongFalsely : Prop := machPlaysRow.holds Tryz.pinned (OpenSpec.ofChange machPlaysWrong)

/- THE SECOND FORM. 'bulk': how many values and letters a reading holds, each counted each time it is reached (what is shared counts as often as it is met; a slice's spare places count too). A statement '..UptoSaid' is the law's where the arguments, and the package variables that the reading takes, are together of bulk at most 1048576: NARROWER than '..Said'. Prove '..Said' where nothing that the law and all that it calls make is longer than what came in: it says more and counts as full. Else prove '..UptoSaid'. A law counts once. -/
mutual
def uptoBulk {H : Type} : DataW H → Nat
  | .lit (.string bytes) => bytes.length + 1
  | .lit _ => 1
  | .nil => 1
  | .ptr d => uptoBulk d + 1
  | .slice elems spare => uptoBulkAll elems + uptoBulkAll spare + 1
  | .agg parts => uptoBulkAll parts + 1
  | .iface _ d => uptoBulk d + 1
  | .map entries => uptoBulkEntries entries + 1
  | .held _ => 1
def uptoBulkAll {H : Type} : List (DataW H) → Nat
  | [] => 0
  | d :: r => uptoBulk d + uptoBulkAll r
def uptoBulkEntries {H : Type} : List (Lit × DataW H) → Nat
  | [] => 0
  | x :: r => uptoBulkEntry x + uptoBulkEntries r
def uptoBulkEntry {H : Type} : Lit × DataW H → Nat
  | (.string bytes, d) => bytes.length + uptoBulk d + 1
  | (_, d) => uptoBulk d + 1
 end
def uptoSmall : (H : Type) → List (DataW H) → Bool := fun _ ds => decide (uptoBulkAll ds ≤ 1048576)
def OpenSpec.upto (s : _root_.Go.ChangeSpec) : _root_.Go.OpenSpec := { _root_.Go.OpenSpec.ofChange s with cond := some uptoSmall }

/-- 'alembiclaw15.TraceMay', WHERE WHAT IT READS IS OF BULK AT MOST 1048576: true; the input reads as it did. -/
def traceMayUptoRow : OpenClaim := { program := "ytjhafgnmahhacaagreatdoor", sum := "eedb83ab0c5d7226a05508f4994a962d92599771b372eb3645d2987cfe640ecc", func := "alembic/alembiclaw15.TraceMay", spec := "traceMay", inPlace := ["internal/bytealg.IndexByteString", "internal/bytealg.IndexString", "internal/bytealg.abigen_runtime_cmpstring"], unfollowed := true, recurses := true, named := ["unicode/utf8.first", "unicode/utf8.acceptRanges", "internal/bytealg.MaxLen"], loops := true, plainKeys := false, apart := false, laid := [("unicode/utf8.acceptRanges", laid_unicode_utf8_acceptRanges), ("unicode/utf8.first", laid_unicode_utf8_first)], narrowed := true }
def TraceMayUptoSaid : Prop := traceMayUptoRow.holds Tryz.pinned (OpenSpec.upto traceMaySpec)

/-- 'alembiclaw15.TraceRuns', WHERE WHAT IT READS IS OF BULK AT MOST 1048576: true; the input reads as it did. -/
def traceRunsUptoRow : OpenClaim := { program := "ytjhafgnmahhacaagreatdoor", sum := "eedb83ab0c5d7226a05508f4994a962d92599771b372eb3645d2987cfe640ecc", func := "alembic/alembiclaw15.TraceRuns", spec := "traceRuns", inPlace := ["internal/bytealg.IndexByteString", "internal/bytealg.IndexString", "internal/bytealg.abigen_runtime_cmpstring"], unfollowed := true, recurses := true, named := ["unicode/utf8.first", "unicode/utf8.acceptRanges", "internal/bytealg.MaxLen"], loops := true, plainKeys := false, apart := false, laid := [("unicode/utf8.acceptRanges", laid_unicode_utf8_acceptRanges), ("unicode/utf8.first", laid_unicode_utf8_first)], narrowed := true }
def TraceRunsUptoSaid : Prop := traceRunsUptoRow.holds Tryz.pinned (OpenSpec.upto traceRunsSpec)

/-- 'alembiclaw22.BufferNil', WHERE WHAT IT READS IS OF BULK AT MOST 1048576: true; the input reads as it did. -/
def bufferNilUptoRow : OpenClaim := { program := "ytjhafgnmahhacaagreatdoor", sum := "eedb83ab0c5d7226a05508f4994a962d92599771b372eb3645d2987cfe640ecc", func := "alembic/alembiclaw22.BufferNil", spec := "bufferNil", inPlace := ["internal/abi.NoEscape", "internal/bytealg.IndexByteString", "internal/bytealg.IndexString", "internal/bytealg.abigen_runtime_cmpstring"], unfollowed := true, recurses := true, named := ["internal/strconv.uint64pow10", "math/bits.deBruijn32tab", "math/bits.deBruijn64tab", "unicode/utf8.first", "unicode/utf8.acceptRanges", "internal/bytealg.MaxLen"], plainKeys := false, apart := false, laid := [("math/bits.deBruijn32tab", laid_math_bits_deBruijn32tab), ("math/bits.deBruijn64tab", laid_math_bits_deBruijn64tab), ("internal/strconv.uint64pow10", laid_internal_strconv_uint64pow10), ("unicode/utf8.acceptRanges", laid_unicode_utf8_acceptRanges), ("unicode/utf8.first", laid_unicode_utf8_first)], narrowed := true }
def BufferNilUptoSaid : Prop := bufferNilUptoRow.holds Tryz.pinned (OpenSpec.upto bufferNilSpec)

/-- 'alembiclaw22.BufferRuns', WHERE WHAT IT READS IS OF BULK AT MOST 1048576: true; the input reads as it did. -/
def bufferRunsUptoRow : OpenClaim := { program := "ytjhafgnmahhacaagreatdoor", sum := "eedb83ab0c5d7226a05508f4994a962d92599771b372eb3645d2987cfe640ecc", func := "alembic/alembiclaw22.BufferRuns", spec := "bufferRuns", inPlace := ["internal/bytealg.IndexByteString", "internal/bytealg.IndexString", "internal/bytealg.abigen_runtime_cmpstring"], unfollowed := true, recurses := true, named := ["unicode/utf8.first", "unicode/utf8.acceptRanges", "internal/bytealg.MaxLen"], loops := true, plainKeys := false, apart := false, laid := [("unicode/utf8.acceptRanges", laid_unicode_utf8_acceptRanges), ("unicode/utf8.first", laid_unicode_utf8_first)], narrowed := true }
def BufferRunsUptoSaid : Prop := bufferRunsUptoRow.holds Tryz.pinned (OpenSpec.upto bufferRunsSpec)

/-- 'alembiclaw22.BufferEnds', WHERE WHAT IT READS IS OF BULK AT MOST 1048576: true; the input reads as it did. -/
def bufferEndsUptoRow : OpenClaim := { program := "ytjhafgnmahhacaagreatdoor", sum := "eedb83ab0c5d7226a05508f4994a962d92599771b372eb3645d2987cfe640ecc", func := "alembic/alembiclaw22.BufferEnds", spec := "bufferEnds", inPlace := ["internal/bytealg.IndexByteString", "internal/bytealg.IndexString", "internal/bytealg.abigen_runtime_cmpstring"], unfollowed := true, recurses := true, named := ["unicode/utf8.first", "unicode/utf8.acceptRanges", "internal/bytealg.MaxLen"], loops := true, plainKeys := false, apart := false, laid := [("unicode/utf8.acceptRanges", laid_unicode_utf8_acceptRanges), ("unicode/utf8.first", laid_unicode_utf8_first)], narrowed := true }
def BufferEndsUptoSaid : Prop := bufferEndsUptoRow.holds Tryz.pinned (OpenSpec.upto bufferEndsSpec)

/-- 'alembiclaw22.BufferQueues', WHERE WHAT IT READS IS OF BULK AT MOST 1048576: true; the input reads as it did. -/
def bufferQueuesUptoRow : OpenClaim := { program := "ytjhafgnmahhacaagreatdoor", sum := "eedb83ab0c5d7226a05508f4994a962d92599771b372eb3645d2987cfe640ecc", func := "alembic/alembiclaw22.BufferQueues", spec := "bufferQueues", inPlace := ["internal/bytealg.IndexByteString", "internal/bytealg.IndexString", "internal/bytealg.abigen_runtime_cmpstring"], unfollowed := true, recurses := true, named := ["unicode/utf8.first", "unicode/utf8.acceptRanges", "internal/bytealg.MaxLen"], loops := true, plainKeys := false, apart := false, laid := [("unicode/utf8.acceptRanges", laid_unicode_utf8_acceptRanges), ("unicode/utf8.first", laid_unicode_utf8_first)], narrowed := true }
def BufferQueuesUptoSaid : Prop := bufferQueuesUptoRow.holds Tryz.pinned (OpenSpec.upto bufferQueuesSpec)

/-- 'alembiclaw22.BufferHas', WHERE WHAT IT READS IS OF BULK AT MOST 1048576: true; the input reads as it did. -/
def bufferHasUptoRow : OpenClaim := { program := "ytjhafgnmahhacaagreatdoor", sum := "eedb83ab0c5d7226a05508f4994a962d92599771b372eb3645d2987cfe640ecc", func := "alembic/alembiclaw22.BufferHas", spec := "bufferHas", inPlace := ["internal/bytealg.IndexByteString", "internal/bytealg.IndexString", "internal/bytealg.abigen_runtime_cmpstring"], unfollowed := true, recurses := true, named := ["unicode/utf8.first", "unicode/utf8.acceptRanges", "internal/bytealg.MaxLen"], loops := true, plainKeys := false, apart := false, laid := [("unicode/utf8.acceptRanges", laid_unicode_utf8_acceptRanges), ("unicode/utf8.first", laid_unicode_utf8_first)], narrowed := true }
def BufferHasUptoSaid : Prop := bufferHasUptoRow.holds Tryz.pinned (OpenSpec.upto bufferHasSpec)

/-- 'alembiclaw21.MachRuns', WHERE WHAT IT READS IS OF BULK AT MOST 1048576: true; the input reads as it did. -/
def machRunsUptoRow : OpenClaim := { program := "ytjhafgnmahhacaagreatdoor", sum := "eedb83ab0c5d7226a05508f4994a962d92599771b372eb3645d2987cfe640ecc", func := "alembic/alembiclaw21.MachRuns", spec := "machRuns", inPlace := ["internal/bytealg.IndexByteString", "internal/bytealg.IndexString", "internal/bytealg.abigen_runtime_cmpstring"], unfollowed := true, recurses := true, named := ["unicode/utf8.first", "unicode/utf8.acceptRanges", "internal/bytealg.MaxLen"], loops := true, plainKeys := false, apart := false, laid := [("unicode/utf8.acceptRanges", laid_unicode_utf8_acceptRanges), ("unicode/utf8.first", laid_unicode_utf8_first)], narrowed := true }
def MachRunsUptoSaid : Prop := machRunsUptoRow.holds Tryz.pinned (OpenSpec.upto machRunsSpec)

/-- 'alembiclaw21.MachEnds', WHERE WHAT IT READS IS OF BULK AT MOST 1048576: true; the input reads as it did. -/
def machEndsUptoRow : OpenClaim := { program := "ytjhafgnmahhacaagreatdoor", sum := "eedb83ab0c5d7226a05508f4994a962d92599771b372eb3645d2987cfe640ecc", func := "alembic/alembiclaw21.MachEnds", spec := "machEnds", inPlace := ["internal/bytealg.IndexByteString", "internal/bytealg.IndexString", "internal/bytealg.abigen_runtime_cmpstring"], unfollowed := true, recurses := true, named := ["unicode/utf8.first", "unicode/utf8.acceptRanges", "internal/bytealg.MaxLen"], loops := true, plainKeys := false, apart := false, laid := [("unicode/utf8.acceptRanges", laid_unicode_utf8_acceptRanges), ("unicode/utf8.first", laid_unicode_utf8_first)], narrowed := true }
def MachEndsUptoSaid : Prop := machEndsUptoRow.holds Tryz.pinned (OpenSpec.upto machEndsSpec)

/-- 'alembiclaw21.MachModulo', WHERE WHAT IT READS IS OF BULK AT MOST 1048576: true; the input reads as it did. -/
def machModuloUptoRow : OpenClaim := { program := "ytjhafgnmahhacaagreatdoor", sum := "eedb83ab0c5d7226a05508f4994a962d92599771b372eb3645d2987cfe640ecc", func := "alembic/alembiclaw21.MachModulo", spec := "machModulo", inPlace := ["internal/bytealg.IndexByteString", "internal/bytealg.IndexString", "internal/bytealg.abigen_runtime_cmpstring"], unfollowed := true, recurses := true, named := ["unicode/utf8.first", "unicode/utf8.acceptRanges", "internal/bytealg.MaxLen"], loops := true, plainKeys := false, apart := false, laid := [("unicode/utf8.acceptRanges", laid_unicode_utf8_acceptRanges), ("unicode/utf8.first", laid_unicode_utf8_first)], narrowed := true }
def MachModuloUptoSaid : Prop := machModuloUptoRow.holds Tryz.pinned (OpenSpec.upto machModuloSpec)

/-- 'alembiclaw21.MachNobody', WHERE WHAT IT READS IS OF BULK AT MOST 1048576: true; the input reads as it did. -/
def machNobodyUptoRow : OpenClaim := { program := "ytjhafgnmahhacaagreatdoor", sum := "eedb83ab0c5d7226a05508f4994a962d92599771b372eb3645d2987cfe640ecc", func := "alembic/alembiclaw21.MachNobody", spec := "machNobody", inPlace := ["internal/abi.NoEscape", "internal/bytealg.IndexByteString", "internal/bytealg.IndexString", "internal/bytealg.abigen_runtime_cmpstring"], unfollowed := true, recurses := true, named := ["internal/strconv.uint64pow10", "math/bits.deBruijn32tab", "math/bits.deBruijn64tab", "unicode/utf8.first", "unicode/utf8.acceptRanges", "internal/bytealg.MaxLen"], loops := true, plainKeys := false, apart := false, laid := [("math/bits.deBruijn32tab", laid_math_bits_deBruijn32tab), ("math/bits.deBruijn64tab", laid_math_bits_deBruijn64tab), ("internal/strconv.uint64pow10", laid_internal_strconv_uint64pow10), ("unicode/utf8.acceptRanges", laid_unicode_utf8_acceptRanges), ("unicode/utf8.first", laid_unicode_utf8_first)], narrowed := true }
def MachNobodyUptoSaid : Prop := machNobodyUptoRow.holds Tryz.pinned (OpenSpec.upto machNobodySpec)

/-- 'alembiclaw21.MachPlays', WHERE WHAT IT READS IS OF BULK AT MOST 1048576: true; the input reads as it did. -/
def machPlaysUptoRow : OpenClaim := { program := "ytjhafgnmahhacaagreatdoor", sum := "eedb83ab0c5d7226a05508f4994a962d92599771b372eb3645d2987cfe640ecc", func := "alembic/alembiclaw21.MachPlays", spec := "machPlays", inPlace := ["internal/bytealg.IndexByteString", "internal/bytealg.IndexString", "internal/bytealg.abigen_runtime_cmpstring", "internal/abi.NoEscape"], unfollowed := true, recurses := true, named := ["unicode/utf8.first", "unicode/utf8.acceptRanges", "internal/strconv.uint64pow10", "math/bits.deBruijn32tab", "math/bits.deBruijn64tab", "internal/bytealg.MaxLen"], loops := true, plainKeys := false, apart := false, laid := [("math/bits.deBruijn32tab", laid_math_bits_deBruijn32tab), ("math/bits.deBruijn64tab", laid_math_bits_deBruijn64tab), ("internal/strconv.uint64pow10", laid_internal_strconv_uint64pow10), ("unicode/utf8.acceptRanges", laid_unicode_utf8_acceptRanges), ("unicode/utf8.first", laid_unicode_utf8_first)], narrowed := true }
def MachPlaysUptoSaid : Prop := machPlaysUptoRow.holds Tryz.pinned (OpenSpec.upto machPlaysSpec)

end Rows
end Go.Proofs.YtjhafgnmahhacaaGreatDoor
