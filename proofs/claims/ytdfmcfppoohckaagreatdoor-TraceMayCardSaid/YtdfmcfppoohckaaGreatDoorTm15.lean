/- Layer 10: whether a RISC-V instruction may be: the reference's Check. -/
import Derived.Test.YtdfmcfppoohckaaGreatDoorTm14

namespace Go.Proofs.YtdfmcfppoohckaaGreatDoor
open Go.RowKit
section
variable (op d a b imm:Int) (loc label:ByteArray) (fence:Int) (w:World)
set_option maxHeartbeats 800000
theorem Z2f (hs:label.size<=9223372036854775807):Calls Tryz.prog 121 #[Zch 6 d a b imm loc label fence] w fun e w'=>e=.returned (.int .i64 (Zb4 (Zca 6 d a b imm loc label fence)))/\Below w.heap.size w w':=by
 have _hs:=hs;rw [<- Zuo];have hne:∀ w,(binOp .neq 118 (Zch 6 d a b imm loc label fence) (Zch 6 d a 0 0 ⟨#[]⟩ ⟨#[]⟩ 0)).run Tryz.prog w=.ok (.bool (!Zfy d a 0 0 ⟨#[]⟩ ⟨#[]⟩ 0 d a b imm loc label fence)) w:=fun w=>by rw [Zfs,Zdv]
 have HG:∀ a b c d w,(eqGuard .neq 118 a b (.agg c) (.agg d)).run Tryz.prog w=.ok () w:=fun a b c d w=>run_eqGuard_agg w .neq _ _ _ _ _ Zcd
 generalize Zfy d a 0 0 ⟨#[]⟩ ⟨#[]⟩ 0 d a b imm loc label fence=q at hne ⊢;cases q with
 | false=>
  exact m_61
 | true=>
  exact m_49
theorem Z2g (hs:label.size<=9223372036854775807):Calls Tryz.prog 121 #[Zch 7 d a b imm loc label fence] w fun e w'=>e=.returned (.int .i64 (Zb4 (Zca 7 d a b imm loc label fence)))/\Below w.heap.size w w':=by
 have _hs:=hs;rw [<- Zup];have hne:∀ w,(binOp .neq 118 (Zch 7 d a b imm loc label fence) (Zch 7 0 a b 0 ⟨#[]⟩ ⟨#[]⟩ 0)).run Tryz.prog w=.ok (.bool (!Zfy 0 a b 0 ⟨#[]⟩ ⟨#[]⟩ 0 d a b imm loc label fence)) w:=fun w=>by rw [Zfs,Zdv]
 have HG:∀ a b c d w,(eqGuard .neq 118 a b (.agg c) (.agg d)).run Tryz.prog w=.ok () w:=fun a b c d w=>run_eqGuard_agg w .neq _ _ _ _ _ Zcd
 generalize Zfy 0 a b 0 ⟨#[]⟩ ⟨#[]⟩ 0 d a b imm loc label fence=q at hne ⊢;cases q with
 | false=>
  exact m_61
 | true=>
  exact m_49
theorem Z2h (hs:label.size<=9223372036854775807):Calls Tryz.prog 121 #[Zch 8 d a b imm loc label fence] w fun e w'=>e=.returned (.int .i64 (Zb4 (Zca 8 d a b imm loc label fence)))/\Below w.heap.size w w':=by
 have _hs:=hs;rw [<- Zuq];have hne:∀ w,(binOp .neq 118 (Zch 8 d a b imm loc label fence) (Zch 8 d a 0 imm ⟨#[]⟩ ⟨#[]⟩ 0)).run Tryz.prog w=.ok (.bool (!Zfy d a 0 imm ⟨#[]⟩ ⟨#[]⟩ 0 d a b imm loc label fence)) w:=fun w=>by rw [Zfs,Zdv]
 have HG:∀ a b c d w,(eqGuard .neq 118 a b (.agg c) (.agg d)).run Tryz.prog w=.ok () w:=fun a b c d w=>run_eqGuard_agg w .neq _ _ _ _ _ Zcd
 generalize Zfy d a 0 imm ⟨#[]⟩ ⟨#[]⟩ 0 d a b imm loc label fence=q at hne ⊢;by_cases g1:(-2048:Int)<=imm
 ·have f1:decide ((-2048:Int)<=imm)=true:=decide_eq_true g1;by_cases g2:imm<=(2047:Int)
  ·have f2:decide (imm<=(2047:Int))=true:=decide_eq_true g2;exact m_21
  ·have f2:decide (imm<=(2047:Int))=false:=decide_eq_false g2;exact m_56
 ·have f1:decide ((-2048:Int)<=imm)=false:=decide_eq_false g1;exact m_57
theorem Z2i (hs:label.size<=9223372036854775807):Calls Tryz.prog 121 #[Zch 9 d a b imm loc label fence] w fun e w'=>e=.returned (.int .i64 (Zb4 (Zca 9 d a b imm loc label fence)))/\Below w.heap.size w w':=by
 have _hs:=hs;rw [<- Zur];have hne:∀ w,(binOp .neq 118 (Zch 9 d a b imm loc label fence) (Zch 9 d a b 0 ⟨#[]⟩ ⟨#[]⟩ 0)).run Tryz.prog w=.ok (.bool (!Zfy d a b 0 ⟨#[]⟩ ⟨#[]⟩ 0 d a b imm loc label fence)) w:=fun w=>by rw [Zfs,Zdv]
 have HG:∀ a b c d w,(eqGuard .neq 118 a b (.agg c) (.agg d)).run Tryz.prog w=.ok () w:=fun a b c d w=>run_eqGuard_agg w .neq _ _ _ _ _ Zcd
 generalize Zfy d a b 0 ⟨#[]⟩ ⟨#[]⟩ 0 d a b imm loc label fence=q at hne ⊢;cases q with
 | false=>
  exact m_61
 | true=>
  exact m_49
theorem Zyh (hs:label.size<=9223372036854775807):Calls Tryz.prog 121 #[Zch 10 d a b imm loc label fence] w fun e w'=>e=.returned (.int .i64 (Zb4 (Zca 10 d a b imm loc label fence)))/\Below w.heap.size w w':=by
 have _hs:=hs;rw [<- Zrm];have hne:∀ w,(binOp .neq 118 (Zch 10 d a b imm loc label fence) (Zch 10 d a b 0 ⟨#[]⟩ ⟨#[]⟩ 0)).run Tryz.prog w=.ok (.bool (!Zfy d a b 0 ⟨#[]⟩ ⟨#[]⟩ 0 d a b imm loc label fence)) w:=fun w=>by rw [Zfs,Zdv]
 have HG:∀ a b c d w,(eqGuard .neq 118 a b (.agg c) (.agg d)).run Tryz.prog w=.ok () w:=fun a b c d w=>run_eqGuard_agg w .neq _ _ _ _ _ Zcd
 generalize Zfy d a b 0 ⟨#[]⟩ ⟨#[]⟩ 0 d a b imm loc label fence=q at hne ⊢;cases q with
 | false=>
  exact m_61
 | true=>
  exact m_49
theorem Zyi (hs:label.size<=9223372036854775807):Calls Tryz.prog 121 #[Zch 11 d a b imm loc label fence] w fun e w'=>e=.returned (.int .i64 (Zb4 (Zca 11 d a b imm loc label fence)))/\Below w.heap.size w w':=by
 have _hs:=hs;rw [<- Zrn];have hne:∀ w,(binOp .neq 118 (Zch 11 d a b imm loc label fence) (Zch 11 0 a b 0 ⟨#[]⟩ label 0)).run Tryz.prog w=.ok (.bool (!Zfy 0 a b 0 ⟨#[]⟩ label 0 d a b imm loc label fence)) w:=fun w=>by rw [Zfs,Zdv]
 have HG:∀ a b c d w,(eqGuard .neq 118 a b (.agg c) (.agg d)).run Tryz.prog w=.ok () w:=fun a b c d w=>run_eqGuard_agg w .neq _ _ _ _ _ Zcd
 generalize Zfy 0 a b 0 ⟨#[]⟩ label 0 d a b imm loc label fence=q at hne ⊢;cases hk:Zbb label.data.toList with
 | false=>
  exact m_43
 | true=>
  exact m_13
theorem Zyj (hs:label.size<=9223372036854775807):Calls Tryz.prog 121 #[Zch 12 d a b imm loc label fence] w fun e w'=>e=.returned (.int .i64 (Zb4 (Zca 12 d a b imm loc label fence)))/\Below w.heap.size w w':=by
 have _hs:=hs;rw [<- Zro];have hne:∀ w,(binOp .neq 118 (Zch 12 d a b imm loc label fence) (Zch 12 0 0 0 0 ⟨#[]⟩ label 0)).run Tryz.prog w=.ok (.bool (!Zfy 0 0 0 0 ⟨#[]⟩ label 0 d a b imm loc label fence)) w:=fun w=>by rw [Zfs,Zdv]
 have HG:∀ a b c d w,(eqGuard .neq 118 a b (.agg c) (.agg d)).run Tryz.prog w=.ok () w:=fun a b c d w=>run_eqGuard_agg w .neq _ _ _ _ _ Zcd
 generalize Zfy 0 0 0 0 ⟨#[]⟩ label 0 d a b imm loc label fence=q at hne ⊢;cases hk:Zbb label.data.toList with
 | false=>
  exact m_43
 | true=>
  exact m_13
theorem Zyk (hs:label.size<=9223372036854775807):Calls Tryz.prog 121 #[Zch 13 d a b imm loc label fence] w fun e w'=>e=.returned (.int .i64 (Zb4 (Zca 13 d a b imm loc label fence)))/\Below w.heap.size w w':=by
 have _hs:=hs;rw [<- Zrp];have hne:∀ w,(binOp .neq 118 (Zch 13 d a b imm loc label fence) (Zch 13 0 0 0 0 ⟨#[]⟩ ⟨#[]⟩ fence)).run Tryz.prog w=.ok (.bool (!Zfy 0 0 0 0 ⟨#[]⟩ ⟨#[]⟩ fence d a b imm loc label fence)) w:=fun w=>by rw [Zfs,Zdv]
 have HG:∀ a b c d w,(eqGuard .neq 118 a b (.agg c) (.agg d)).run Tryz.prog w=.ok () w:=fun a b c d w=>run_eqGuard_agg w .neq _ _ _ _ _ Zcd
 generalize Zfy 0 0 0 0 ⟨#[]⟩ ⟨#[]⟩ fence d a b imm loc label fence=q at hne ⊢;by_cases g1:(2:Int)<=fence
 ·have f1:decide ((2:Int)<=fence)=true:=decide_eq_true g1;by_cases g2:fence<=(11:Int)
  ·have f2:decide (fence<=(11:Int))=true:=decide_eq_true g2;exact m_21
  ·have f2:decide (fence<=(11:Int))=false:=decide_eq_false g2;exact m_56
 ·have f1:decide ((2:Int)<=fence)=false:=decide_eq_false g1;exact m_57
theorem Zyl (h6:(op == 6)=false)(h7:(op == 7)=false)(h8:(op == 8)=false)(h9:(op == 9)=false)(h10:(op == 10)=false)(h11:(op == 11)=false)(h12:(op == 12)=false)(h13:(op == 13)=false):Calls Tryz.prog 121 #[Zch op d a b imm loc label fence] w fun e w'=>e=.returned (.int .i64 (Zb4 (Zca op d a b imm loc label fence)))/\Below w.heap.size w w':=by
 go_enter Tryz.func121,Tryz.ntmps121
 go_wp2_with fail
 go_ret;simp at h6 h7 h8 h9 h10 h11 h12 h13;refine⟨Zai (by simp [Zb4,Zca,h6,h7,h8,h9,h10,h11,h12,h13]),?_⟩
 repeat (first | exact Below.refl _ _ | refine Zab ?_ _)
theorem Z6y (hs:label.size<=9223372036854775807):Calls Tryz.prog 121 #[Zch op d a b imm loc label fence] w fun e w'=>e=.returned (.int .i64 (Zb4 (Zca op d a b imm loc label fence)))/\Below w.heap.size w w':=by
 by_cases h6:op=6
 ·subst h6;exact Z2f d a b imm loc label fence w hs
 by_cases h7:op=7
 ·subst h7;exact Z2g d a b imm loc label fence w hs
 by_cases h8:op=8
 ·subst h8;exact Z2h d a b imm loc label fence w hs
 by_cases h9:op=9
 ·subst h9;exact Z2i d a b imm loc label fence w hs
 by_cases h10:op=10
 ·subst h10;exact Zyh d a b imm loc label fence w hs
 by_cases h11:op=11
 ·subst h11;exact Zyi d a b imm loc label fence w hs
 by_cases h12:op=12
 ·subst h12;exact Zyj d a b imm loc label fence w hs
 by_cases h13:op=13
 ·subst h13;exact Zyk d a b imm loc label fence w hs
 exact Zyl op d a b imm loc label fence w (by simpa using h6) (by simpa using h7) (by simpa using h8) (by simpa using h9) (by simpa using h10) (by simpa using h11) (by simpa using h12) (by simpa using h13)
end
end Go.Proofs.YtdfmcfppoohckaaGreatDoor
