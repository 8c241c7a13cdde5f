/- Layer 10: whether a RISC-V instruction may be: the reference's Check. -/
import Derived.Test.YtoegmdnfbemppaaGreatDoorTf14

namespace Go.Proofs.YtoegmdnfbemppaaGreatDoor
open Go.RowKit
section
variable (op d a b imm:Int) (loc label:ByteArray) (fence:Int) (w:World)
set_option maxHeartbeats 800000
theorem Z1o (hs:label.size<=9223372036854775807):Calls Tryz.prog 169 #[Zcf 6 d a b imm loc label fence] w fun e w'=>e=.returned (.int .i64 (Zb6 (Zcb 6 d a b imm loc label fence)))/\Below w.heap.size w w':=by
 have _hs:=hs
 rw [<- Zus]
 have hne:∀ w,(binOp .neq 77 (Zcf 6 d a b imm loc label fence) (Zcf 6 d a 0 0 ⟨#[]⟩ ⟨#[]⟩ 0)).run Tryz.prog w=.ok (.bool (!Zfn d a 0 0 ⟨#[]⟩ ⟨#[]⟩ 0 d a b imm loc label fence)) w:=fun w=>by rw [Zfh,Zdz]
 have HG:∀ a b c d w,(eqGuard .neq 77 a b (.agg c) (.agg d)).run Tryz.prog w=.ok () w:=fun a b c d w=>run_eqGuard_agg w .neq _ _ _ _ _ Zcd
 generalize Zfn d a 0 0 ⟨#[]⟩ ⟨#[]⟩ 0 d a b imm loc label fence=q at hne ⊢
 cases q with
 | false=>
  exact m_62
 | true=>
  exact m_52
theorem Z1q (hs:label.size<=9223372036854775807):Calls Tryz.prog 169 #[Zcf 7 d a b imm loc label fence] w fun e w'=>e=.returned (.int .i64 (Zb6 (Zcb 7 d a b imm loc label fence)))/\Below w.heap.size w w':=by
 have _hs:=hs
 rw [<- Zto]
 have hne:∀ w,(binOp .neq 77 (Zcf 7 d a b imm loc label fence) (Zcf 7 0 a b 0 ⟨#[]⟩ ⟨#[]⟩ 0)).run Tryz.prog w=.ok (.bool (!Zfn 0 a b 0 ⟨#[]⟩ ⟨#[]⟩ 0 d a b imm loc label fence)) w:=fun w=>by rw [Zfh,Zdz]
 have HG:∀ a b c d w,(eqGuard .neq 77 a b (.agg c) (.agg d)).run Tryz.prog w=.ok () w:=fun a b c d w=>run_eqGuard_agg w .neq _ _ _ _ _ Zcd
 generalize Zfn 0 a b 0 ⟨#[]⟩ ⟨#[]⟩ 0 d a b imm loc label fence=q at hne ⊢
 cases q with
 | false=>
  exact m_62
 | true=>
  exact m_52
theorem Z0y (hs:label.size<=9223372036854775807):Calls Tryz.prog 169 #[Zcf 8 d a b imm loc label fence] w fun e w'=>e=.returned (.int .i64 (Zb6 (Zcb 8 d a b imm loc label fence)))/\Below w.heap.size w w':=by
 have _hs:=hs
 rw [<- Zua]
 have hne:∀ w,(binOp .neq 77 (Zcf 8 d a b imm loc label fence) (Zcf 8 d a 0 imm ⟨#[]⟩ ⟨#[]⟩ 0)).run Tryz.prog w=.ok (.bool (!Zfn d a 0 imm ⟨#[]⟩ ⟨#[]⟩ 0 d a b imm loc label fence)) w:=fun w=>by rw [Zfh,Zdz]
 have HG:∀ a b c d w,(eqGuard .neq 77 a b (.agg c) (.agg d)).run Tryz.prog w=.ok () w:=fun a b c d w=>run_eqGuard_agg w .neq _ _ _ _ _ Zcd
 generalize Zfn d a 0 imm ⟨#[]⟩ ⟨#[]⟩ 0 d a b imm loc label fence=q at hne ⊢
 by_cases g1:(-2048:Int)<=imm
 ·have f1:decide ((-2048:Int)<=imm)=true:=decide_eq_true g1
  by_cases g2:imm<=(2047:Int)
  ·have f2:decide (imm<=(2047:Int))=true:=decide_eq_true g2
   exact m_19
  ·have f2:decide (imm<=(2047:Int))=false:=decide_eq_false g2
   exact m_60
 ·have f1:decide ((-2048:Int)<=imm)=false:=decide_eq_false g1
  exact m_61
theorem Z11 (hs:label.size<=9223372036854775807):Calls Tryz.prog 169 #[Zcf 9 d a b imm loc label fence] w fun e w'=>e=.returned (.int .i64 (Zb6 (Zcb 9 d a b imm loc label fence)))/\Below w.heap.size w w':=by
 have _hs:=hs
 rw [<- Zwc]
 have hne:∀ w,(binOp .neq 77 (Zcf 9 d a b imm loc label fence) (Zcf 9 d a b 0 ⟨#[]⟩ ⟨#[]⟩ 0)).run Tryz.prog w=.ok (.bool (!Zfn d a b 0 ⟨#[]⟩ ⟨#[]⟩ 0 d a b imm loc label fence)) w:=fun w=>by rw [Zfh,Zdz]
 have HG:∀ a b c d w,(eqGuard .neq 77 a b (.agg c) (.agg d)).run Tryz.prog w=.ok () w:=fun a b c d w=>run_eqGuard_agg w .neq _ _ _ _ _ Zcd
 generalize Zfn d a b 0 ⟨#[]⟩ ⟨#[]⟩ 0 d a b imm loc label fence=q at hne ⊢
 cases q with
 | false=>
  exact m_62
 | true=>
  exact m_52
theorem Zwt (hs:label.size<=9223372036854775807):Calls Tryz.prog 169 #[Zcf 10 d a b imm loc label fence] w fun e w'=>e=.returned (.int .i64 (Zb6 (Zcb 10 d a b imm loc label fence)))/\Below w.heap.size w w':=by
 have _hs:=hs
 rw [<- Zrc]
 have hne:∀ w,(binOp .neq 77 (Zcf 10 d a b imm loc label fence) (Zcf 10 d a b 0 ⟨#[]⟩ ⟨#[]⟩ 0)).run Tryz.prog w=.ok (.bool (!Zfn d a b 0 ⟨#[]⟩ ⟨#[]⟩ 0 d a b imm loc label fence)) w:=fun w=>by rw [Zfh,Zdz]
 have HG:∀ a b c d w,(eqGuard .neq 77 a b (.agg c) (.agg d)).run Tryz.prog w=.ok () w:=fun a b c d w=>run_eqGuard_agg w .neq _ _ _ _ _ Zcd
 generalize Zfn d a b 0 ⟨#[]⟩ ⟨#[]⟩ 0 d a b imm loc label fence=q at hne ⊢
 cases q with
 | false=>
  exact m_62
 | true=>
  exact m_52
theorem Zxb (hs:label.size<=9223372036854775807):Calls Tryz.prog 169 #[Zcf 11 d a b imm loc label fence] w fun e w'=>e=.returned (.int .i64 (Zb6 (Zcb 11 d a b imm loc label fence)))/\Below w.heap.size w w':=by
 have _hs:=hs
 rw [<- Zqw]
 have hne:∀ w,(binOp .neq 77 (Zcf 11 d a b imm loc label fence) (Zcf 11 0 a b 0 ⟨#[]⟩ label 0)).run Tryz.prog w=.ok (.bool (!Zfn 0 a b 0 ⟨#[]⟩ label 0 d a b imm loc label fence)) w:=fun w=>by rw [Zfh,Zdz]
 have HG:∀ a b c d w,(eqGuard .neq 77 a b (.agg c) (.agg d)).run Tryz.prog w=.ok () w:=fun a b c d w=>run_eqGuard_agg w .neq _ _ _ _ _ Zcd
 generalize Zfn 0 a b 0 ⟨#[]⟩ label 0 d a b imm loc label fence=q at hne ⊢
 cases hk:Zbb label.data.toList with
 | false=>
  exact m_41
 | true=>
  exact m_12
theorem Zzk (hs:label.size<=9223372036854775807):Calls Tryz.prog 169 #[Zcf 12 d a b imm loc label fence] w fun e w'=>e=.returned (.int .i64 (Zb6 (Zcb 12 d a b imm loc label fence)))/\Below w.heap.size w w':=by
 have _hs:=hs
 rw [<- Zqz]
 have hne:∀ w,(binOp .neq 77 (Zcf 12 d a b imm loc label fence) (Zcf 12 0 0 0 0 ⟨#[]⟩ label 0)).run Tryz.prog w=.ok (.bool (!Zfn 0 0 0 0 ⟨#[]⟩ label 0 d a b imm loc label fence)) w:=fun w=>by rw [Zfh,Zdz]
 have HG:∀ a b c d w,(eqGuard .neq 77 a b (.agg c) (.agg d)).run Tryz.prog w=.ok () w:=fun a b c d w=>run_eqGuard_agg w .neq _ _ _ _ _ Zcd
 generalize Zfn 0 0 0 0 ⟨#[]⟩ label 0 d a b imm loc label fence=q at hne ⊢
 cases hk:Zbb label.data.toList with
 | false=>
  exact m_41
 | true=>
  exact m_12
theorem Zyx (hs:label.size<=9223372036854775807):Calls Tryz.prog 169 #[Zcf 13 d a b imm loc label fence] w fun e w'=>e=.returned (.int .i64 (Zb6 (Zcb 13 d a b imm loc label fence)))/\Below w.heap.size w w':=by
 have _hs:=hs
 rw [<- Zrk]
 have hne:∀ w,(binOp .neq 77 (Zcf 13 d a b imm loc label fence) (Zcf 13 0 0 0 0 ⟨#[]⟩ ⟨#[]⟩ fence)).run Tryz.prog w=.ok (.bool (!Zfn 0 0 0 0 ⟨#[]⟩ ⟨#[]⟩ fence d a b imm loc label fence)) w:=fun w=>by rw [Zfh,Zdz]
 have HG:∀ a b c d w,(eqGuard .neq 77 a b (.agg c) (.agg d)).run Tryz.prog w=.ok () w:=fun a b c d w=>run_eqGuard_agg w .neq _ _ _ _ _ Zcd
 generalize Zfn 0 0 0 0 ⟨#[]⟩ ⟨#[]⟩ fence d a b imm loc label fence=q at hne ⊢
 by_cases g1:(2:Int)<=fence
 ·have f1:decide ((2:Int)<=fence)=true:=decide_eq_true g1
  by_cases g2:fence<=(11:Int)
  ·have f2:decide (fence<=(11:Int))=true:=decide_eq_true g2
   exact m_19
  ·have f2:decide (fence<=(11:Int))=false:=decide_eq_false g2
   exact m_60
 ·have f1:decide ((2:Int)<=fence)=false:=decide_eq_false g1
  exact m_61
theorem Zzi (h6:(op == 6)=false)(h7:(op == 7)=false)(h8:(op == 8)=false)(h9:(op == 9)=false)(h10:(op == 10)=false)(h11:(op == 11)=false)(h12:(op == 12)=false)(h13:(op == 13)=false):Calls Tryz.prog 169 #[Zcf op d a b imm loc label fence] w fun e w'=>e=.returned (.int .i64 (Zb6 (Zcb op d a b imm loc label fence)))/\Below w.heap.size w w':=by
 go_enter Tryz.func169,Tryz.ntmps169
 go_wp2_with fail
 go_ret
 simp at h6 h7 h8 h9 h10 h11 h12 h13
 refine⟨Zah (by simp [Zb6,Zcb,h6,h7,h8,h9,h10,h11,h12,h13]),?_⟩
 repeat (first | exact Below.refl _ _ | refine Zab ?_ _)
theorem Z5n (hs:label.size<=9223372036854775807):Calls Tryz.prog 169 #[Zcf op d a b imm loc label fence] w fun e w'=>e=.returned (.int .i64 (Zb6 (Zcb op d a b imm loc label fence)))/\Below w.heap.size w w':=by
 by_cases h6:op=6
 ·subst h6;exact Z1o d a b imm loc label fence w hs
 by_cases h7:op=7
 ·subst h7;exact Z1q d a b imm loc label fence w hs
 by_cases h8:op=8
 ·subst h8;exact Z0y d a b imm loc label fence w hs
 by_cases h9:op=9
 ·subst h9;exact Z11 d a b imm loc label fence w hs
 by_cases h10:op=10
 ·subst h10;exact Zwt d a b imm loc label fence w hs
 by_cases h11:op=11
 ·subst h11;exact Zxb d a b imm loc label fence w hs
 by_cases h12:op=12
 ·subst h12;exact Zzk d a b imm loc label fence w hs
 by_cases h13:op=13
 ·subst h13;exact Zyx d a b imm loc label fence w hs
 exact Zzi op d a b imm loc label fence w (by simpa using h6) (by simpa using h7) (by simpa using h8) (by simpa using h9) (by simpa using h10) (by simpa using h11) (by simpa using h12) (by simpa using h13)
end
end Go.Proofs.YtoegmdnfbemppaaGreatDoor
