/- Layer 10: whether a RISC-V instruction may be: the reference's Check. -/
import Derived.Test.YtgjefdaaihgliaaGreatDoorMn13

namespace Go.Proofs.YtgjefdaaihgliaaGreatDoor
open Go.RowKit
section
variable (op d a b imm:Int) (loc label:ByteArray) (fence:Int) (w:World)
set_option maxHeartbeats 800000
theorem Z1y (hs:label.size<=9223372036854775807):Calls Tryz.prog 136 #[Zcl 6 d a b imm loc label fence] w fun e w'=>e=.returned (.int .i64 (Zb9 (Zch 6 d a b imm loc label fence)))/\Below w.heap.size w w':=by
 have _hs:=hs;rw [<- Zt3];have hne:∀ w,(binOp .neq 92 (Zcl 6 d a b imm loc label fence) (Zcl 6 d a 0 0 ⟨#[]⟩ ⟨#[]⟩ 0)).run Tryz.prog w=.ok (.bool (!Zfx d a 0 0 ⟨#[]⟩ ⟨#[]⟩ 0 d a b imm loc label fence)) w:=fun w=>by rw [Zfp,Zd3]
 have HG:∀ a b c d w,(eqGuard .neq 92 a b (.agg c) (.agg d)).run Tryz.prog w=.ok () w:=fun a b c d w=>run_eqGuard_agg w .neq _ _ _ _ _ Zck
 generalize Zfx d a 0 0 ⟨#[]⟩ ⟨#[]⟩ 0 d a b imm loc label fence=q at hne ⊢;cases q with
 | false=>
  exact m_36
 | true=>
  exact m_26
theorem Z1z (hs:label.size<=9223372036854775807):Calls Tryz.prog 136 #[Zcl 7 d a b imm loc label fence] w fun e w'=>e=.returned (.int .i64 (Zb9 (Zch 7 d a b imm loc label fence)))/\Below w.heap.size w w':=by
 have _hs:=hs;rw [<- Zt4];have hne:∀ w,(binOp .neq 92 (Zcl 7 d a b imm loc label fence) (Zcl 7 0 a b 0 ⟨#[]⟩ ⟨#[]⟩ 0)).run Tryz.prog w=.ok (.bool (!Zfx 0 a b 0 ⟨#[]⟩ ⟨#[]⟩ 0 d a b imm loc label fence)) w:=fun w=>by rw [Zfp,Zd3]
 have HG:∀ a b c d w,(eqGuard .neq 92 a b (.agg c) (.agg d)).run Tryz.prog w=.ok () w:=fun a b c d w=>run_eqGuard_agg w .neq _ _ _ _ _ Zck
 generalize Zfx 0 a b 0 ⟨#[]⟩ ⟨#[]⟩ 0 d a b imm loc label fence=q at hne ⊢;cases q with
 | false=>
  exact m_36
 | true=>
  exact m_26
theorem Z10 (hs:label.size<=9223372036854775807):Calls Tryz.prog 136 #[Zcl 8 d a b imm loc label fence] w fun e w'=>e=.returned (.int .i64 (Zb9 (Zch 8 d a b imm loc label fence)))/\Below w.heap.size w w':=by
 have _hs:=hs;rw [<- Zt5];have hne:∀ w,(binOp .neq 92 (Zcl 8 d a b imm loc label fence) (Zcl 8 d a 0 imm ⟨#[]⟩ ⟨#[]⟩ 0)).run Tryz.prog w=.ok (.bool (!Zfx d a 0 imm ⟨#[]⟩ ⟨#[]⟩ 0 d a b imm loc label fence)) w:=fun w=>by rw [Zfp,Zd3]
 have HG:∀ a b c d w,(eqGuard .neq 92 a b (.agg c) (.agg d)).run Tryz.prog w=.ok () w:=fun a b c d w=>run_eqGuard_agg w .neq _ _ _ _ _ Zck
 generalize Zfx d a 0 imm ⟨#[]⟩ ⟨#[]⟩ 0 d a b imm loc label fence=q at hne ⊢;by_cases g1:(-2048:Int)<=imm
 ·have f1:decide ((-2048:Int)<=imm)=true:=decide_eq_true g1;by_cases g2:imm<=(2047:Int)
  ·have f2:decide (imm<=(2047:Int))=true:=decide_eq_true g2;exact m_13
  ·have f2:decide (imm<=(2047:Int))=false:=decide_eq_false g2;exact m_32
 ·have f1:decide ((-2048:Int)<=imm)=false:=decide_eq_false g1;exact m_33
theorem Z11 (hs:label.size<=9223372036854775807):Calls Tryz.prog 136 #[Zcl 9 d a b imm loc label fence] w fun e w'=>e=.returned (.int .i64 (Zb9 (Zch 9 d a b imm loc label fence)))/\Below w.heap.size w w':=by
 have _hs:=hs;rw [<- Zt6];have hne:∀ w,(binOp .neq 92 (Zcl 9 d a b imm loc label fence) (Zcl 9 d a b 0 ⟨#[]⟩ ⟨#[]⟩ 0)).run Tryz.prog w=.ok (.bool (!Zfx d a b 0 ⟨#[]⟩ ⟨#[]⟩ 0 d a b imm loc label fence)) w:=fun w=>by rw [Zfp,Zd3]
 have HG:∀ a b c d w,(eqGuard .neq 92 a b (.agg c) (.agg d)).run Tryz.prog w=.ok () w:=fun a b c d w=>run_eqGuard_agg w .neq _ _ _ _ _ Zck
 generalize Zfx d a b 0 ⟨#[]⟩ ⟨#[]⟩ 0 d a b imm loc label fence=q at hne ⊢;cases q with
 | false=>
  exact m_36
 | true=>
  exact m_26
theorem Zxy (hs:label.size<=9223372036854775807):Calls Tryz.prog 136 #[Zcl 10 d a b imm loc label fence] w fun e w'=>e=.returned (.int .i64 (Zb9 (Zch 10 d a b imm loc label fence)))/\Below w.heap.size w w':=by
 have _hs:=hs;rw [<- Zq3];have hne:∀ w,(binOp .neq 92 (Zcl 10 d a b imm loc label fence) (Zcl 10 d a b 0 ⟨#[]⟩ ⟨#[]⟩ 0)).run Tryz.prog w=.ok (.bool (!Zfx d a b 0 ⟨#[]⟩ ⟨#[]⟩ 0 d a b imm loc label fence)) w:=fun w=>by rw [Zfp,Zd3]
 have HG:∀ a b c d w,(eqGuard .neq 92 a b (.agg c) (.agg d)).run Tryz.prog w=.ok () w:=fun a b c d w=>run_eqGuard_agg w .neq _ _ _ _ _ Zck
 generalize Zfx d a b 0 ⟨#[]⟩ ⟨#[]⟩ 0 d a b imm loc label fence=q at hne ⊢;cases q with
 | false=>
  exact m_36
 | true=>
  exact m_26
theorem Zxz (hs:label.size<=9223372036854775807):Calls Tryz.prog 136 #[Zcl 11 d a b imm loc label fence] w fun e w'=>e=.returned (.int .i64 (Zb9 (Zch 11 d a b imm loc label fence)))/\Below w.heap.size w w':=by
 have _hs:=hs;rw [<- Zq4];have hne:∀ w,(binOp .neq 92 (Zcl 11 d a b imm loc label fence) (Zcl 11 0 a b 0 ⟨#[]⟩ label 0)).run Tryz.prog w=.ok (.bool (!Zfx 0 a b 0 ⟨#[]⟩ label 0 d a b imm loc label fence)) w:=fun w=>by rw [Zfp,Zd3]
 have HG:∀ a b c d w,(eqGuard .neq 92 a b (.agg c) (.agg d)).run Tryz.prog w=.ok () w:=fun a b c d w=>run_eqGuard_agg w .neq _ _ _ _ _ Zck
 generalize Zfx 0 a b 0 ⟨#[]⟩ label 0 d a b imm loc label fence=q at hne ⊢;cases hk:Zbl label.data.toList with
 | false=>
  exact m_21
 | true=>
  exact m_9
theorem Zx0 (hs:label.size<=9223372036854775807):Calls Tryz.prog 136 #[Zcl 12 d a b imm loc label fence] w fun e w'=>e=.returned (.int .i64 (Zb9 (Zch 12 d a b imm loc label fence)))/\Below w.heap.size w w':=by
 have _hs:=hs;rw [<- Zq5];have hne:∀ w,(binOp .neq 92 (Zcl 12 d a b imm loc label fence) (Zcl 12 0 0 0 0 ⟨#[]⟩ label 0)).run Tryz.prog w=.ok (.bool (!Zfx 0 0 0 0 ⟨#[]⟩ label 0 d a b imm loc label fence)) w:=fun w=>by rw [Zfp,Zd3]
 have HG:∀ a b c d w,(eqGuard .neq 92 a b (.agg c) (.agg d)).run Tryz.prog w=.ok () w:=fun a b c d w=>run_eqGuard_agg w .neq _ _ _ _ _ Zck
 generalize Zfx 0 0 0 0 ⟨#[]⟩ label 0 d a b imm loc label fence=q at hne ⊢;cases hk:Zbl label.data.toList with
 | false=>
  exact m_21
 | true=>
  exact m_9
theorem Zx1 (hs:label.size<=9223372036854775807):Calls Tryz.prog 136 #[Zcl 13 d a b imm loc label fence] w fun e w'=>e=.returned (.int .i64 (Zb9 (Zch 13 d a b imm loc label fence)))/\Below w.heap.size w w':=by
 have _hs:=hs;rw [<- Zq6];have hne:∀ w,(binOp .neq 92 (Zcl 13 d a b imm loc label fence) (Zcl 13 0 0 0 0 ⟨#[]⟩ ⟨#[]⟩ fence)).run Tryz.prog w=.ok (.bool (!Zfx 0 0 0 0 ⟨#[]⟩ ⟨#[]⟩ fence d a b imm loc label fence)) w:=fun w=>by rw [Zfp,Zd3]
 have HG:∀ a b c d w,(eqGuard .neq 92 a b (.agg c) (.agg d)).run Tryz.prog w=.ok () w:=fun a b c d w=>run_eqGuard_agg w .neq _ _ _ _ _ Zck
 generalize Zfx 0 0 0 0 ⟨#[]⟩ ⟨#[]⟩ fence d a b imm loc label fence=q at hne ⊢;by_cases g1:(2:Int)<=fence
 ·have f1:decide ((2:Int)<=fence)=true:=decide_eq_true g1;by_cases g2:fence<=(11:Int)
  ·have f2:decide (fence<=(11:Int))=true:=decide_eq_true g2;exact m_13
  ·have f2:decide (fence<=(11:Int))=false:=decide_eq_false g2;exact m_32
 ·have f1:decide ((2:Int)<=fence)=false:=decide_eq_false g1;exact m_33
theorem Zx2 (h6:(op == 6)=false)(h7:(op == 7)=false)(h8:(op == 8)=false)(h9:(op == 9)=false)(h10:(op == 10)=false)(h11:(op == 11)=false)(h12:(op == 12)=false)(h13:(op == 13)=false):Calls Tryz.prog 136 #[Zcl op d a b imm loc label fence] w fun e w'=>e=.returned (.int .i64 (Zb9 (Zch op d a b imm loc label fence)))/\Below w.heap.size w w':=by
 go_enter Tryz.func136,Tryz.ntmps136
 go_wp2_with fail
 go_ret;simp at h6 h7 h8 h9 h10 h11 h12 h13;refine⟨Zak (by simp [Zb9,Zch,h6,h7,h8,h9,h10,h11,h12,h13]),?_⟩
 repeat (first | exact Below.refl _ _ | refine Zaa ?_ _)
theorem Z7p (hs:label.size<=9223372036854775807):Calls Tryz.prog 136 #[Zcl op d a b imm loc label fence] w fun e w'=>e=.returned (.int .i64 (Zb9 (Zch op d a b imm loc label fence)))/\Below w.heap.size w w':=by
 by_cases h6:op=6
 ·subst h6;exact Z1y d a b imm loc label fence w hs
 by_cases h7:op=7
 ·subst h7;exact Z1z d a b imm loc label fence w hs
 by_cases h8:op=8
 ·subst h8;exact Z10 d a b imm loc label fence w hs
 by_cases h9:op=9
 ·subst h9;exact Z11 d a b imm loc label fence w hs
 by_cases h10:op=10
 ·subst h10;exact Zxy d a b imm loc label fence w hs
 by_cases h11:op=11
 ·subst h11;exact Zxz d a b imm loc label fence w hs
 by_cases h12:op=12
 ·subst h12;exact Zx0 d a b imm loc label fence w hs
 by_cases h13:op=13
 ·subst h13;exact Zx1 d a b imm loc label fence w hs
 exact Zx2 op d a b imm loc label fence w (by simpa using h6) (by simpa using h7) (by simpa using h8) (by simpa using h9) (by simpa using h10) (by simpa using h11) (by simpa using h12) (by simpa using h13)
end
end Go.Proofs.YtgjefdaaihgliaaGreatDoor
