/- A short word. -/
import Derived.Deep.RegionHeld3
namespace Go.Proofs.YtdfmcfppoohckaaGreatDoor
theorem _root_.Go.Shut.o{p:Prop}(h:Shut p):p:=h.out
end Go.Proofs.YtdfmcfppoohckaaGreatDoor
