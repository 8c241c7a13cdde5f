/- Layer 8: the program's reader: what a whole condition is. -/
import Derived.Test.YtmlnibjnacfanaaGreatDoorDl
namespace Go.Proofs.YtmlnibjnacfanaaGreatDoor
open Go.RowKit

/-- A condition that a reader hands back: its kids lie in memory made since w0. -/
def CV (w0 : World) (x : Int × Nd) (w' : World) (v : Value) : Prop := x.2.l.length ≤ 262144 ∧ ∃ kv, v = condV x.1 x.2.k x.2.t x.2.r x.2.l x.2.v kv ∧ KidC w' (fun b => w0.heap.size ≤ b ∧ b < w'.heap.size) kv x.2.kids
end Go.Proofs.YtmlnibjnacfanaaGreatDoor
