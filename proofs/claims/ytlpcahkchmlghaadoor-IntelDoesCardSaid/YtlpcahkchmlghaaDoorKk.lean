/- The reference's Do. -/
import Derived.Test.YtlpcahkchmlghaaDoorKk1
import Derived.Test.YtlpcahkchmlghaaDoorKk2
import Derived.Test.YtlpcahkchmlghaaDoorKk3
import Derived.Test.YtlpcahkchmlghaaDoorKk4
import Derived.Test.YtlpcahkchmlghaaDoorKk5
namespace Go.Proofs.YtlpcahkchmlghaaDoor
open Go.RowKit

theorem doR_c {op d a imm : Int} {loc : List UInt8} (h : insB op d a 0 imm ⟨loc.toArray⟩ ⟨#[]⟩ 0 = true) (v : Value) (at_ : Int) (vs : List (List UInt8 × Int)) (w : World) (hv : ValsAt w v vs) (ht : threadB 15 at_ vs = true) :
    Calls Tryd.prog 27 #[insV op d a 0 imm ⟨loc.toArray⟩ ⟨#[]⟩ 0, locV v at_] w (DoAny (doR op d a imm loc vs) (at_ + 1) w) := by
  rcases insB_op h with e | e | e | e | e
  · exact doR_1 h v at_ vs w hv ht e
  · exact doR_2 h v at_ vs w hv ht e
  · exact doR_3 h v at_ vs w hv ht e
  · exact doR_4 h v at_ vs w hv ht e
  · exact doR_5 h v at_ vs w hv ht e
end Go.Proofs.YtlpcahkchmlghaaDoor
