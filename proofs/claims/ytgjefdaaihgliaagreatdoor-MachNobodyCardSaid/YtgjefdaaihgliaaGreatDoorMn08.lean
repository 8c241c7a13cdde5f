/- Layer 22: a world for the witness of a row. -/
import Derived.Test.YtgjefdaaihgliaaGreatDoorMn06
import Derived.Test.YtgjefdaaihgliaaGreatDoorCards
import Derived.Test.YtgjefdaaihgliaaGreatDoorTie
namespace Go.Proofs.YtgjefdaaihgliaaGreatDoor
open Go.ChangeShapes Go.WideShapes Go.ChangeAt Go.RowKit
theorem Zmu:laidOutB Tryz.prog=true:=by kernel_rfl
theorem own:ownKnob Tryz.prog.godebug=none:=by kernel_rfl
def Zu8:List (String×DataW Unit):=[("math/bits.deBruijn32tab",Rows.laid_math_bits_deBruijn32tab),("math/bits.deBruijn64tab",Rows.laid_math_bits_deBruijn64tab),("internal/strconv.uint64pow10",Rows.laid_internal_strconv_uint64pow10),("unicode/utf8.acceptRanges",Rows.laid_unicode_utf8_acceptRanges),("unicode/utf8.first",Rows.laid_unicode_utf8_first)]
theorem Zst:(Zu8.filter fun x=>x.2.handleName?.isSome)=[]:=by kernel_rfl
noncomputable def Zj7 (os:Os):World:=
 { World.doorLaid Tryz.prog 400 os with heap:=(World.doorLaid Tryz.prog 400 os).heap.modify 3 fun
   | .cells _ t frozen=>.cells (Go.Pinned.utf8FirstZ.map fun (n:Nat)=>Value.int .u8 (n:Int)).toArray t frozen
   | o=>o }
theorem Zys (os:Os)(args:Array Value):laidMetH Tryz.prog Zu8 ((Zj7 os).forCall (fun _ _=>0) ⟨#[],args,[]⟩).memory:=by
 unfold laidMetH;rw [Zst];exact laidMet_of_run' 8 κ κ
end Go.Proofs.YtgjefdaaihgliaaGreatDoor
