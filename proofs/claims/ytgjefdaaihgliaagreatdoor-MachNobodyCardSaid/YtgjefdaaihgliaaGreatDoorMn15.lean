/- Layer 10: whether a RISC-V instruction may be: the program's Check. -/
import Derived.Test.YtgjefdaaihgliaaGreatDoorMn13

namespace Go.Proofs.YtgjefdaaihgliaaGreatDoor
open Go.RowKit
section
variable (op d a b imm:Int) (loc label:ByteArray) (fence:Int) (w:World)
set_option maxHeartbeats 800000
theorem Zea (d' a' b' imm':Int)(loc' label':ByteArray)(fence':Int)(ok q:Bool)(hq:Zfx d' a' b' imm' loc' label' fence' d a b imm loc label fence=q)
  (hf:∀ w,Calls Tryz.prog 173 #[Zcl op d a b imm loc label fence] w (RB w (.tuple #[Zcl op d' a' b' imm' loc' label' fence',.bool ok]))) :
  Calls Tryz.prog 111 #[Zcl op d a b imm loc label fence] w (RB w (.int .i64 (Zb9 (Zcc ok q d a b)))):=by
 have HF:=Zh hf;have hne:∀ w,(binOp .neq 92 (Zcl op d' a' b' imm' loc' label' fence') (Zcl op d a b imm loc label fence)).run Tryz.prog w=.ok (.bool (!q)) w:=fun w=>by rw [Zfp,hq]
 have HG:∀ a b c d w,(eqGuard .neq 92 a b (.agg c) (.agg d)).run Tryz.prog w=.ok () w:=fun a b c d w=>run_eqGuard_agg w .neq _ _ _ _ _ Zck
 cases ok with
 | false=>
  exact m_10
 | true=>cases q with
  | false=>
   simp only [Bool.not_false] at hne;exact m_10
  | true=>
   obtain hd | hd:=Zbt d <;> obtain ha | ha:=Zbt a <;> obtain hb | hb:=Zbt b
   all_goals
    simp only [Bool.not_true] at hne;go_enter Tryz.func111,Tryz.ntmps111
    go_wp2_with fail
    refine (HF.o _).mono ?_;rintro e w2 ⟨rfl,hb2⟩;have HB:=Zh (((Blk.new w 92 #[.int .i64 op,.int .i64 d,.int .i64 a,.int .i64 b,.int .i64 imm,.string loc,.string label,.int .i64 fence]).go hb2).alloc (.cells #[.int .i64 op,.int .i64 d',.int .i64 a',.int .i64 b',.int .i64 imm',.string loc',.string label',.int .i64 fence'] 92 (0,0)));obtain⟨c0,c1,c2,c3,c4,c5,c6,c7⟩:=HB.o.c8;have HX:=Zh (Zaa (Zab (Zad w _) hb2) (.cells #[.int .i64 op,.int .i64 d',.int .i64 a',.int .i64 b',.int .i64 imm',.string loc',.string label',.int .i64 fence'] 92 (0,0)))
    go_wp2_with (go_at_call 174;refine (Z8g _ _).mono ?_;rintro e w' ⟨rfl,rfl⟩)
    go_ret;exact⟨Zak (by simp [Zcc,Zb9, *]),HX.o⟩
theorem Z1u (hs:label.size<=9223372036854775807):Calls Tryz.prog 111 #[Zcl 6 d a b imm loc label fence] w (RB w (.int .i64 (Zb9 (Zch 6 d a b imm loc label fence)))):=by
 have _hs:=hs;refine (Zea 6 d a b imm loc label fence w d a 0 0 ⟨#[]⟩ ⟨#[]⟩ 0 true _ rfl fun w=>Zuq d a b imm loc label fence w).mono ?_;rintro e w' ⟨rfl,hb⟩;exact⟨Zak (congrArg Zb9 (Zt3 d a b imm loc label fence)),hb⟩
theorem Z1v (hs:label.size<=9223372036854775807):Calls Tryz.prog 111 #[Zcl 7 d a b imm loc label fence] w (RB w (.int .i64 (Zb9 (Zch 7 d a b imm loc label fence)))):=by
 have _hs:=hs;refine (Zea 7 d a b imm loc label fence w 0 a b 0 ⟨#[]⟩ ⟨#[]⟩ 0 true _ rfl fun w=>Zur d a b imm loc label fence w).mono ?_;rintro e w' ⟨rfl,hb⟩;exact⟨Zak (congrArg Zb9 (Zt4 d a b imm loc label fence)),hb⟩
theorem Z1w (hs:label.size<=9223372036854775807):Calls Tryz.prog 111 #[Zcl 8 d a b imm loc label fence] w (RB w (.int .i64 (Zb9 (Zch 8 d a b imm loc label fence)))):=by
 have _hs:=hs;refine (Zea 8 d a b imm loc label fence w d a 0 imm ⟨#[]⟩ ⟨#[]⟩ 0 (decide (-2048<=imm)&&decide (imm<=2047)) _ rfl fun w=>Zus d a b imm loc label fence w).mono ?_;rintro e w' ⟨rfl,hb⟩;exact⟨Zak (congrArg Zb9 (Zt5 d a b imm loc label fence)),hb⟩
theorem Z1x (hs:label.size<=9223372036854775807):Calls Tryz.prog 111 #[Zcl 9 d a b imm loc label fence] w (RB w (.int .i64 (Zb9 (Zch 9 d a b imm loc label fence)))):=by
 have _hs:=hs;refine (Zea 9 d a b imm loc label fence w d a b 0 ⟨#[]⟩ ⟨#[]⟩ 0 true _ rfl fun w=>Zut d a b imm loc label fence w).mono ?_;rintro e w' ⟨rfl,hb⟩;exact⟨Zak (congrArg Zb9 (Zt6 d a b imm loc label fence)),hb⟩
theorem Zxt (hs:label.size<=9223372036854775807):Calls Tryz.prog 111 #[Zcl 10 d a b imm loc label fence] w (RB w (.int .i64 (Zb9 (Zch 10 d a b imm loc label fence)))):=by
 have _hs:=hs;refine (Zea 10 d a b imm loc label fence w d a b 0 ⟨#[]⟩ ⟨#[]⟩ 0 true _ rfl fun w=>Zsj d a b imm loc label fence w).mono ?_;rintro e w' ⟨rfl,hb⟩;exact⟨Zak (congrArg Zb9 (Zq3 d a b imm loc label fence)),hb⟩
theorem Zxu (hs:label.size<=9223372036854775807):Calls Tryz.prog 111 #[Zcl 11 d a b imm loc label fence] w (RB w (.int .i64 (Zb9 (Zch 11 d a b imm loc label fence)))):=by
 have _hs:=hs;refine (Zea 11 d a b imm loc label fence w 0 a b 0 ⟨#[]⟩ label 0 (Zbl label.data.toList) _ rfl fun w=>Zsk d a b imm loc label fence w _ rfl hs).mono ?_;rintro e w' ⟨rfl,hb⟩;exact⟨Zak (congrArg Zb9 (Zq4 d a b imm loc label fence)),hb⟩
theorem Zxv (hs:label.size<=9223372036854775807):Calls Tryz.prog 111 #[Zcl 12 d a b imm loc label fence] w (RB w (.int .i64 (Zb9 (Zch 12 d a b imm loc label fence)))):=by
 have _hs:=hs;refine (Zea 12 d a b imm loc label fence w 0 0 0 0 ⟨#[]⟩ label 0 (Zbl label.data.toList) _ rfl fun w=>Zsl d a b imm loc label fence w _ rfl hs).mono ?_;rintro e w' ⟨rfl,hb⟩;exact⟨Zak (congrArg Zb9 (Zq5 d a b imm loc label fence)),hb⟩
theorem Zxw (hs:label.size<=9223372036854775807):Calls Tryz.prog 111 #[Zcl 13 d a b imm loc label fence] w (RB w (.int .i64 (Zb9 (Zch 13 d a b imm loc label fence)))):=by
 have _hs:=hs;refine (Zea 13 d a b imm loc label fence w 0 0 0 0 ⟨#[]⟩ ⟨#[]⟩ fence (decide (2<=fence)&&decide (fence<=11)) _ rfl fun w=>Zsm d a b imm loc label fence w).mono ?_;rintro e w' ⟨rfl,hb⟩;exact⟨Zak (congrArg Zb9 (Zq6 d a b imm loc label fence)),hb⟩
theorem Zxx (h6:(op == 6)=false)(h7:(op == 7)=false)(h8:(op == 8)=false)(h9:(op == 9)=false)(h10:(op == 10)=false)(h11:(op == 11)=false)(h12:(op == 12)=false)(h13:(op == 13)=false):Calls Tryz.prog 111 #[Zcl op d a b imm loc label fence] w (RB w (.int .i64 (Zb9 (Zch op d a b imm loc label fence)))):=by
 refine (Zea op d a b imm loc label fence w 0 0 0 0 ⟨#[]⟩ ⟨#[]⟩ 0 false _ rfl fun w=>Zsn d a b imm loc label fence w op h6 h7 h8 h9 h10 h11 h12 h13).mono ?_;rintro e w' ⟨rfl,hb⟩;exact⟨Zak (congrArg Zb9 (by simp at h6 h7 h8 h9 h10 h11 h12 h13;simp [Zcc,Zch,h6,h7,h8,h9,h10,h11,h12,h13])),hb⟩
theorem Z7o (hs:label.size<=9223372036854775807):Calls Tryz.prog 111 #[Zcl op d a b imm loc label fence] w (RB w (.int .i64 (Zb9 (Zch op d a b imm loc label fence)))):=by
 by_cases h6:op=6
 ·subst h6;exact Z1u d a b imm loc label fence w hs
 by_cases h7:op=7
 ·subst h7;exact Z1v d a b imm loc label fence w hs
 by_cases h8:op=8
 ·subst h8;exact Z1w d a b imm loc label fence w hs
 by_cases h9:op=9
 ·subst h9;exact Z1x d a b imm loc label fence w hs
 by_cases h10:op=10
 ·subst h10;exact Zxt d a b imm loc label fence w hs
 by_cases h11:op=11
 ·subst h11;exact Zxu d a b imm loc label fence w hs
 by_cases h12:op=12
 ·subst h12;exact Zxv d a b imm loc label fence w hs
 by_cases h13:op=13
 ·subst h13;exact Zxw d a b imm loc label fence w hs
 exact Zxx op d a b imm loc label fence w (by simpa using h6) (by simpa using h7) (by simpa using h8) (by simpa using h9) (by simpa using h10) (by simpa using h11) (by simpa using h12) (by simpa using h13)
end
end Go.Proofs.YtgjefdaaihgliaaGreatDoor
