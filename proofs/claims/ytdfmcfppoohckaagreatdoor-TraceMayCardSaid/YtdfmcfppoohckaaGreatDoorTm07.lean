/- Layer 15: a world for the witness of a row. -/
import Derived.Test.YtdfmcfppoohckaaGreatDoorTm06

namespace Go.Proofs.YtdfmcfppoohckaaGreatDoor
open Go.ChangeShapes Go.WideShapes Go.ChangeAt Go.RowKit
theorem Zm2:laidOutB Tryz.prog=true:=by kernel_rfl
theorem own:ownKnob Tryz.prog.godebug=none:=by kernel_rfl
def Zvr:List (String×DataW Unit):=[("unicode/utf8.acceptRanges",Rows.laid_unicode_utf8_acceptRanges),("unicode/utf8.first",Rows.laid_unicode_utf8_first)]
theorem Zth:(Zvr.filter fun x=>x.2.handleName?.isSome)=[]:=by kernel_rfl
noncomputable def Zkh (os:Os):World:=
 { World.doorLaid Tryz.prog 400 os with heap:=(World.doorLaid Tryz.prog 400 os).heap.modify 0 fun
   | .cells _ t frozen=>.cells (Go.Pinned.utf8FirstZ.map fun (n:Nat)=>Value.int .u8 (n:Int)).toArray t frozen
   | o=>o }
theorem Zzf (os:Os)(args:Array Value):laidMetH Tryz.prog Zvr ((Zkh os).forCall (fun _ _=>0) ⟨#[],args,[]⟩).memory:=by
 unfold laidMetH;rw [Zth];exact laidMet_of_run' 8 κ κ
end Go.Proofs.YtdfmcfppoohckaaGreatDoor
