/- Layer 9: whether an x86 instruction may be: the program and the reference. -/
import Derived.Test.YtgjefdaaihgliaaGreatDoorMn04

namespace Go.Proofs.YtgjefdaaihgliaaGreatDoor
open Go.RowKit
section
abbrev Zcl (op d a b imm:Int)(loc label:ByteArray)(fence:Int):Value:=.agg #[.int .i64 op,.int .i64 d,.int .i64 a,.int .i64 b,.int .i64 imm,.string loc,.string label,.int .i64 fence]
def Zfo (op d a b imm:Int)(loc label:ByteArray)(fence:Int):Bool:=
 (label.toList.isEmpty&&(b == 0)&&(fence == 0))&&
  (if op=1 then Zbl loc.data.toList&&Zg9 imm&&(d == 0)&&(a == 0)
   else if op=2 then Zbl loc.data.toList&&Zed 15 a&&(d == 0)&&(imm == 0)
   else if op=3 then Zbl loc.data.toList&&Zed 15 d&&(a == 0)&&(imm == 0)
   else if op=4 then loc.toList.isEmpty&&Zed 15 d&&Zg9 imm&&(a == 0)
   else if op=5 then loc.toList.isEmpty&&(d == 0)&&(a == 0)&&(imm == 0)
   else false)
def Zb9 (b:Bool):Int:=if b then 0 else 91
theorem Zau (w:World)(a b:Obj):Below w.heap.size w ((w.alloc a).alloc b):=Zaa (Zaa (Below.refl _ _) _) _
section
variable (d a b imm:Int) (loc label:ByteArray) (fence:Int) (w:World) (hs:loc.size<=9223372036854775807)
include hs
set_option maxHeartbeats 400000
theorem Z1k:Calls Tryz.prog 94 #[Zcl 1 d a b imm loc label fence] w (RB w (.int .i64 (Zb9 (Zfo 1 d a b imm loc label fence)))):=by
 go_enter Tryz.func94,Tryz.ntmps94
 go_wp2_with (first
  | (go_at_call 143;refine (Zsx _ _ hs).mono ?_;rintro e w' ⟨rfl,rfl⟩)
  | (go_at_call 144;refine (Z33 _ _).mono ?_;rintro e w' ⟨rfl,rfl⟩)
  | (go_at_call 145;refine (Z6a _ _).mono ?_;rintro e w' ⟨rfl,rfl⟩))
 all_goals (go_ret;refine⟨Zak (by simp_all [Zfo,Zb9] <;> (intros;omega)),?_⟩)
 all_goals (repeat (first | exact Below.refl _ _ | refine Zaa ?_ _))
theorem Z1l:Calls Tryz.prog 94 #[Zcl 2 d a b imm loc label fence] w (RB w (.int .i64 (Zb9 (Zfo 2 d a b imm loc label fence)))):=by
 go_enter Tryz.func94,Tryz.ntmps94
 go_wp2_with (first
  | (go_at_call 143;refine (Zsx _ _ hs).mono ?_;rintro e w' ⟨rfl,rfl⟩)
  | (go_at_call 144;refine (Z33 _ _).mono ?_;rintro e w' ⟨rfl,rfl⟩)
  | (go_at_call 145;refine (Z6a _ _).mono ?_;rintro e w' ⟨rfl,rfl⟩))
 all_goals (go_ret;refine⟨Zak (by simp_all [Zfo,Zb9] <;> (intros;omega)),?_⟩)
 all_goals (repeat (first | exact Below.refl _ _ | refine Zaa ?_ _))
theorem Z1m:Calls Tryz.prog 94 #[Zcl 3 d a b imm loc label fence] w (RB w (.int .i64 (Zb9 (Zfo 3 d a b imm loc label fence)))):=by
 go_enter Tryz.func94,Tryz.ntmps94
 go_wp2_with (first
  | (go_at_call 143;refine (Zsx _ _ hs).mono ?_;rintro e w' ⟨rfl,rfl⟩)
  | (go_at_call 144;refine (Z33 _ _).mono ?_;rintro e w' ⟨rfl,rfl⟩)
  | (go_at_call 145;refine (Z6a _ _).mono ?_;rintro e w' ⟨rfl,rfl⟩))
 all_goals (go_ret;refine⟨Zak (by simp_all [Zfo,Zb9] <;> (intros;omega)),?_⟩)
 all_goals (repeat (first | exact Below.refl _ _ | refine Zaa ?_ _))
theorem Z1n:Calls Tryz.prog 94 #[Zcl 4 d a b imm loc label fence] w (RB w (.int .i64 (Zb9 (Zfo 4 d a b imm loc label fence)))):=by
 have _hs:=hs;go_enter Tryz.func94,Tryz.ntmps94
 go_wp2_with (first
  | (go_at_call 143;refine (Zsx _ _ hs).mono ?_;rintro e w' ⟨rfl,rfl⟩)
  | (go_at_call 144;refine (Z33 _ _).mono ?_;rintro e w' ⟨rfl,rfl⟩)
  | (go_at_call 145;refine (Z6a _ _).mono ?_;rintro e w' ⟨rfl,rfl⟩))
 all_goals (go_ret;refine⟨Zak (by simp_all [Zfo,Zb9] <;> (intros;omega)),?_⟩)
 all_goals (repeat (first | exact Below.refl _ _ | refine Zaa ?_ _))
theorem Z1o:Calls Tryz.prog 94 #[Zcl 5 d a b imm loc label fence] w (RB w (.int .i64 (Zb9 (Zfo 5 d a b imm loc label fence)))):=by
 have _hs:=hs;go_enter Tryz.func94,Tryz.ntmps94
 go_wp2_with (first
  | (go_at_call 143;refine (Zsx _ _ hs).mono ?_;rintro e w' ⟨rfl,rfl⟩)
  | (go_at_call 144;refine (Z33 _ _).mono ?_;rintro e w' ⟨rfl,rfl⟩)
  | (go_at_call 145;refine (Z6a _ _).mono ?_;rintro e w' ⟨rfl,rfl⟩))
 all_goals (go_ret;refine⟨Zak (by simp_all [Zfo,Zb9] <;> (intros;omega)),?_⟩)
 all_goals (repeat (first | exact Below.refl _ _ | refine Zaa ?_ _))
theorem Zxr (op:Int)(h1:(op == 1)=false)(h2:(op == 2)=false)(h3:(op == 3)=false)(h4:(op == 4)=false)(h5:(op == 5)=false):Calls Tryz.prog 94 #[Zcl op d a b imm loc label fence] w (RB w (.int .i64 (Zb9 (Zfo op d a b imm loc label fence)))):=by
 have _hs:=hs;go_enter Tryz.func94,Tryz.ntmps94;go_wp2
 all_goals (go_ret;refine⟨Zak (by simp_all [Zfo,Zb9]),?_⟩)
 all_goals (repeat (first | exact Below.refl _ _ | refine Zaa ?_ _))
theorem Z4n (op:Int):Calls Tryz.prog 94 #[Zcl op d a b imm loc label fence] w (RB w (.int .i64 (Zb9 (Zfo op d a b imm loc label fence)))):=by
 by_cases h1:op=1
 ·subst h1;exact Z1k d a b imm loc label fence w hs
 by_cases h2:op=2
 ·subst h2;exact Z1l d a b imm loc label fence w hs
 by_cases h3:op=3
 ·subst h3;exact Z1m d a b imm loc label fence w hs
 by_cases h4:op=4
 ·subst h4;exact Z1n d a b imm loc label fence w hs
 by_cases h5:op=5
 ·subst h5;exact Z1o d a b imm loc label fence w hs
 exact Zxr d a b imm loc label fence w hs op (by simpa using h1) (by simpa using h2) (by simpa using h3) (by simpa using h4) (by simpa using h5)
theorem Z1p:Calls Tryz.prog 191 #[Zcl 1 d a b imm loc label fence] w (RB w (.int .i64 (Zb9 (Zfo 1 d a b imm loc label fence)))):=by
 go_enter Tryz.func191,Tryz.ntmps191
 go_wp2_with (first
  | (go_at_call 193;refine (Zka _ _ hs).mono ?_;rintro e w' ⟨rfl,rfl⟩)
  | (go_at_call 237;refine (Zsy _ _).mono ?_;rintro e w' ⟨rfl,rfl⟩)
  | (go_at_call 238;refine (Zwg _ _).mono ?_;rintro e w' ⟨rfl,rfl⟩))
 all_goals (go_ret;refine⟨Zak (by simp_all [Zfo,Zb9] <;> (intros;omega)),?_⟩)
 all_goals (repeat (first | exact Below.refl _ _ | refine Zaa ?_ _))
theorem Z1q:Calls Tryz.prog 191 #[Zcl 2 d a b imm loc label fence] w (RB w (.int .i64 (Zb9 (Zfo 2 d a b imm loc label fence)))):=by
 go_enter Tryz.func191,Tryz.ntmps191
 go_wp2_with (first
  | (go_at_call 193;refine (Zka _ _ hs).mono ?_;rintro e w' ⟨rfl,rfl⟩)
  | (go_at_call 237;refine (Zsy _ _).mono ?_;rintro e w' ⟨rfl,rfl⟩)
  | (go_at_call 238;refine (Zwg _ _).mono ?_;rintro e w' ⟨rfl,rfl⟩))
 all_goals (go_ret;refine⟨Zak (by simp_all [Zfo,Zb9] <;> (intros;omega)),?_⟩)
 all_goals (repeat (first | exact Below.refl _ _ | refine Zaa ?_ _))
theorem Z1r:Calls Tryz.prog 191 #[Zcl 3 d a b imm loc label fence] w (RB w (.int .i64 (Zb9 (Zfo 3 d a b imm loc label fence)))):=by
 go_enter Tryz.func191,Tryz.ntmps191
 go_wp2_with (first
  | (go_at_call 193;refine (Zka _ _ hs).mono ?_;rintro e w' ⟨rfl,rfl⟩)
  | (go_at_call 237;refine (Zsy _ _).mono ?_;rintro e w' ⟨rfl,rfl⟩)
  | (go_at_call 238;refine (Zwg _ _).mono ?_;rintro e w' ⟨rfl,rfl⟩))
 all_goals (go_ret;refine⟨Zak (by simp_all [Zfo,Zb9] <;> (intros;omega)),?_⟩)
 all_goals (repeat (first | exact Below.refl _ _ | refine Zaa ?_ _))
theorem Z1s:Calls Tryz.prog 191 #[Zcl 4 d a b imm loc label fence] w (RB w (.int .i64 (Zb9 (Zfo 4 d a b imm loc label fence)))):=by
 have _hs:=hs;go_enter Tryz.func191,Tryz.ntmps191
 go_wp2_with (first
  | (go_at_call 193;refine (Zka _ _ hs).mono ?_;rintro e w' ⟨rfl,rfl⟩)
  | (go_at_call 237;refine (Zsy _ _).mono ?_;rintro e w' ⟨rfl,rfl⟩)
  | (go_at_call 238;refine (Zwg _ _).mono ?_;rintro e w' ⟨rfl,rfl⟩))
 all_goals (go_ret;refine⟨Zak (by simp_all [Zfo,Zb9] <;> (intros;omega)),?_⟩)
 all_goals (repeat (first | exact Below.refl _ _ | refine Zaa ?_ _))
theorem Z1t:Calls Tryz.prog 191 #[Zcl 5 d a b imm loc label fence] w (RB w (.int .i64 (Zb9 (Zfo 5 d a b imm loc label fence)))):=by
 have _hs:=hs;go_enter Tryz.func191,Tryz.ntmps191
 go_wp2_with (first
  | (go_at_call 193;refine (Zka _ _ hs).mono ?_;rintro e w' ⟨rfl,rfl⟩)
  | (go_at_call 237;refine (Zsy _ _).mono ?_;rintro e w' ⟨rfl,rfl⟩)
  | (go_at_call 238;refine (Zwg _ _).mono ?_;rintro e w' ⟨rfl,rfl⟩))
 all_goals (go_ret;refine⟨Zak (by simp_all [Zfo,Zb9] <;> (intros;omega)),?_⟩)
 all_goals (repeat (first | exact Below.refl _ _ | refine Zaa ?_ _))
theorem Zxs (op:Int)(h1:(op == 1)=false)(h2:(op == 2)=false)(h3:(op == 3)=false)(h4:(op == 4)=false)(h5:(op == 5)=false):Calls Tryz.prog 191 #[Zcl op d a b imm loc label fence] w (RB w (.int .i64 (Zb9 (Zfo op d a b imm loc label fence)))):=by
 have _hs:=hs;go_enter Tryz.func191,Tryz.ntmps191;go_wp2
 all_goals (go_ret;refine⟨Zak (by simp_all [Zfo,Zb9]),?_⟩)
 all_goals (repeat (first | exact Below.refl _ _ | refine Zaa ?_ _))
theorem Z7n (op:Int):Calls Tryz.prog 191 #[Zcl op d a b imm loc label fence] w (RB w (.int .i64 (Zb9 (Zfo op d a b imm loc label fence)))):=by
 by_cases h1:op=1
 ·subst h1;exact Z1p d a b imm loc label fence w hs
 by_cases h2:op=2
 ·subst h2;exact Z1q d a b imm loc label fence w hs
 by_cases h3:op=3
 ·subst h3;exact Z1r d a b imm loc label fence w hs
 by_cases h4:op=4
 ·subst h4;exact Z1s d a b imm loc label fence w hs
 by_cases h5:op=5
 ·subst h5;exact Z1t d a b imm loc label fence w hs
 exact Zxs d a b imm loc label fence w hs op (by simpa using h1) (by simpa using h2) (by simpa using h3) (by simpa using h4) (by simpa using h5)
end
end
end Go.Proofs.YtgjefdaaihgliaaGreatDoor
