/- The program's Do. -/
import Derived.Test.YtlpcahkchmlghaaDoorKi1
import Derived.Test.YtlpcahkchmlghaaDoorKi2
import Derived.Test.YtlpcahkchmlghaaDoorKi3
import Derived.Test.YtlpcahkchmlghaaDoorKi4
import Derived.Test.YtlpcahkchmlghaaDoorKi5
namespace Go.Proofs.YtlpcahkchmlghaaDoor
open Go.RowKit

theorem doP_c {op d a imm : Int} {loc : List UInt8} (h : insB op d a 0 imm ⟨loc.toArray⟩ ⟨#[]⟩ 0 = true) (v : Value) (at_ : Int) (vs : List (List UInt8 × Int)) (w : World) (hv : ValsAt w v vs) (ht : threadB 15 at_ vs = true) :
    Calls Tryd.prog 26 #[insV op d a 0 imm ⟨loc.toArray⟩ ⟨#[]⟩ 0, locV v at_] w (DoAny (doR op d a imm loc vs) (at_ + 1) w) := by
  rcases insB_op h with e | e | e | e | e
  · exact doP_1 h v at_ vs w hv ht e
  · exact doP_2 h v at_ vs w hv ht e
  · exact doP_3 h v at_ vs w hv ht e
  · exact doP_4 h v at_ vs w hv ht e
  · exact doP_5 h v at_ vs w hv ht e
end Go.Proofs.YtlpcahkchmlghaaDoor
