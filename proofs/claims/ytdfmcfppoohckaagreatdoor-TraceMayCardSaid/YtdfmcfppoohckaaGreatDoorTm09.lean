/- Layer 9: whether an x86 instruction may be: the program and the reference. -/
import Derived.Test.YtdfmcfppoohckaaGreatDoorTm04

namespace Go.Proofs.YtdfmcfppoohckaaGreatDoor
open Go.RowKit
section
abbrev Zch (op d a b imm:Int)(loc label:ByteArray)(fence:Int):Value:=.agg #[.int .i64 op,.int .i64 d,.int .i64 a,.int .i64 b,.int .i64 imm,.string loc,.string label,.int .i64 fence]
def Zhg (op d a b imm:Int)(loc label:ByteArray)(fence:Int):Bool:=
 (label.toList.isEmpty&&(b == 0)&&(fence == 0))&&
  (if op=1 then Zbb loc.data.toList&&Zew imm&&(d == 0)&&(a == 0)
   else if op=2 then Zbb loc.data.toList&&Zem 15 a&&(d == 0)&&(imm == 0)
   else if op=3 then Zbb loc.data.toList&&Zem 15 d&&(a == 0)&&(imm == 0)
   else if op=4 then loc.toList.isEmpty&&Zem 15 d&&Zew imm&&(a == 0)
   else if op=5 then loc.toList.isEmpty&&(d == 0)&&(a == 0)&&(imm == 0)
   else false)
def Zb4 (b:Bool):Int:=if b then 0 else 91
theorem Zao (w:World)(a b:Obj):Below w.heap.size w ((w.alloc a).alloc b):=Zab (Zab (Below.refl _ _) _) _
section
variable (d a b imm:Int) (loc label:ByteArray) (fence:Int) (w:World) (hs:loc.size<=9223372036854775807)
include hs
set_option maxHeartbeats 400000
theorem Z11:Calls Tryz.prog 93 #[Zch 1 d a b imm loc label fence] w (RB w (.int .i64 (Zb4 (Zhg 1 d a b imm loc label fence)))):=by
 go_enter Tryz.func93,Tryz.ntmps93
 go_wp2_with (first
  | (go_at_call 135;refine (Zwa _ _ hs).mono ?_;rintro e w' ⟨rfl,rfl⟩)
  | (go_at_call 136;refine (Z5m _ _).mono ?_;rintro e w' ⟨rfl,rfl⟩)
  | (go_at_call 137;refine (Z5x _ _).mono ?_;rintro e w' ⟨rfl,rfl⟩))
 all_goals (go_ret;refine⟨Zai (by simp_all [Zhg,Zb4] <;> (intros;omega)),?_⟩)
 all_goals (repeat (first | exact Below.refl _ _ | refine Zab ?_ _))
theorem Z12:Calls Tryz.prog 93 #[Zch 2 d a b imm loc label fence] w (RB w (.int .i64 (Zb4 (Zhg 2 d a b imm loc label fence)))):=by
 go_enter Tryz.func93,Tryz.ntmps93
 go_wp2_with (first
  | (go_at_call 135;refine (Zwa _ _ hs).mono ?_;rintro e w' ⟨rfl,rfl⟩)
  | (go_at_call 136;refine (Z5m _ _).mono ?_;rintro e w' ⟨rfl,rfl⟩)
  | (go_at_call 137;refine (Z5x _ _).mono ?_;rintro e w' ⟨rfl,rfl⟩))
 all_goals (go_ret;refine⟨Zai (by simp_all [Zhg,Zb4] <;> (intros;omega)),?_⟩)
 all_goals (repeat (first | exact Below.refl _ _ | refine Zab ?_ _))
theorem Z13:Calls Tryz.prog 93 #[Zch 3 d a b imm loc label fence] w (RB w (.int .i64 (Zb4 (Zhg 3 d a b imm loc label fence)))):=by
 go_enter Tryz.func93,Tryz.ntmps93
 go_wp2_with (first
  | (go_at_call 135;refine (Zwa _ _ hs).mono ?_;rintro e w' ⟨rfl,rfl⟩)
  | (go_at_call 136;refine (Z5m _ _).mono ?_;rintro e w' ⟨rfl,rfl⟩)
  | (go_at_call 137;refine (Z5x _ _).mono ?_;rintro e w' ⟨rfl,rfl⟩))
 all_goals (go_ret;refine⟨Zai (by simp_all [Zhg,Zb4] <;> (intros;omega)),?_⟩)
 all_goals (repeat (first | exact Below.refl _ _ | refine Zab ?_ _))
theorem Z14:Calls Tryz.prog 93 #[Zch 4 d a b imm loc label fence] w (RB w (.int .i64 (Zb4 (Zhg 4 d a b imm loc label fence)))):=by
 have _hs:=hs;go_enter Tryz.func93,Tryz.ntmps93
 go_wp2_with (first
  | (go_at_call 135;refine (Zwa _ _ hs).mono ?_;rintro e w' ⟨rfl,rfl⟩)
  | (go_at_call 136;refine (Z5m _ _).mono ?_;rintro e w' ⟨rfl,rfl⟩)
  | (go_at_call 137;refine (Z5x _ _).mono ?_;rintro e w' ⟨rfl,rfl⟩))
 all_goals (go_ret;refine⟨Zai (by simp_all [Zhg,Zb4] <;> (intros;omega)),?_⟩)
 all_goals (repeat (first | exact Below.refl _ _ | refine Zab ?_ _))
theorem Z15:Calls Tryz.prog 93 #[Zch 5 d a b imm loc label fence] w (RB w (.int .i64 (Zb4 (Zhg 5 d a b imm loc label fence)))):=by
 have _hs:=hs;go_enter Tryz.func93,Tryz.ntmps93
 go_wp2_with (first
  | (go_at_call 135;refine (Zwa _ _ hs).mono ?_;rintro e w' ⟨rfl,rfl⟩)
  | (go_at_call 136;refine (Z5m _ _).mono ?_;rintro e w' ⟨rfl,rfl⟩)
  | (go_at_call 137;refine (Z5x _ _).mono ?_;rintro e w' ⟨rfl,rfl⟩))
 all_goals (go_ret;refine⟨Zai (by simp_all [Zhg,Zb4] <;> (intros;omega)),?_⟩)
 all_goals (repeat (first | exact Below.refl _ _ | refine Zab ?_ _))
theorem Zya (op:Int)(h1:(op == 1)=false)(h2:(op == 2)=false)(h3:(op == 3)=false)(h4:(op == 4)=false)(h5:(op == 5)=false):Calls Tryz.prog 93 #[Zch op d a b imm loc label fence] w (RB w (.int .i64 (Zb4 (Zhg op d a b imm loc label fence)))):=by
 have _hs:=hs;go_enter Tryz.func93,Tryz.ntmps93;go_wp2
 all_goals (go_ret;refine⟨Zai (by simp_all [Zhg,Zb4]),?_⟩)
 all_goals (repeat (first | exact Below.refl _ _ | refine Zab ?_ _))
theorem Z6u (op:Int):Calls Tryz.prog 93 #[Zch op d a b imm loc label fence] w (RB w (.int .i64 (Zb4 (Zhg op d a b imm loc label fence)))):=by
 by_cases h1:op=1
 ·subst h1;exact Z11 d a b imm loc label fence w hs
 by_cases h2:op=2
 ·subst h2;exact Z12 d a b imm loc label fence w hs
 by_cases h3:op=3
 ·subst h3;exact Z13 d a b imm loc label fence w hs
 by_cases h4:op=4
 ·subst h4;exact Z14 d a b imm loc label fence w hs
 by_cases h5:op=5
 ·subst h5;exact Z15 d a b imm loc label fence w hs
 exact Zya d a b imm loc label fence w hs op (by simpa using h1) (by simpa using h2) (by simpa using h3) (by simpa using h4) (by simpa using h5)
theorem Z16:Calls Tryz.prog 159 #[Zch 1 d a b imm loc label fence] w (RB w (.int .i64 (Zb4 (Zhg 1 d a b imm loc label fence)))):=by
 go_enter Tryz.func159,Tryz.ntmps159
 go_wp2_with (first
  | (go_at_call 83;refine (Zhx _ _ hs).mono ?_;rintro e w' ⟨rfl,rfl⟩)
  | (go_at_call 84;refine (Znk _ _).mono ?_;rintro e w' ⟨rfl,rfl⟩)
  | (go_at_call 196;refine (Zwx _ _).mono ?_;rintro e w' ⟨rfl,rfl⟩))
 all_goals (go_ret;refine⟨Zai (by simp_all [Zhg,Zb4] <;> (intros;omega)),?_⟩)
 all_goals (repeat (first | exact Below.refl _ _ | refine Zab ?_ _))
theorem Z17:Calls Tryz.prog 159 #[Zch 2 d a b imm loc label fence] w (RB w (.int .i64 (Zb4 (Zhg 2 d a b imm loc label fence)))):=by
 go_enter Tryz.func159,Tryz.ntmps159
 go_wp2_with (first
  | (go_at_call 83;refine (Zhx _ _ hs).mono ?_;rintro e w' ⟨rfl,rfl⟩)
  | (go_at_call 84;refine (Znk _ _).mono ?_;rintro e w' ⟨rfl,rfl⟩)
  | (go_at_call 196;refine (Zwx _ _).mono ?_;rintro e w' ⟨rfl,rfl⟩))
 all_goals (go_ret;refine⟨Zai (by simp_all [Zhg,Zb4] <;> (intros;omega)),?_⟩)
 all_goals (repeat (first | exact Below.refl _ _ | refine Zab ?_ _))
theorem Z18:Calls Tryz.prog 159 #[Zch 3 d a b imm loc label fence] w (RB w (.int .i64 (Zb4 (Zhg 3 d a b imm loc label fence)))):=by
 go_enter Tryz.func159,Tryz.ntmps159
 go_wp2_with (first
  | (go_at_call 83;refine (Zhx _ _ hs).mono ?_;rintro e w' ⟨rfl,rfl⟩)
  | (go_at_call 84;refine (Znk _ _).mono ?_;rintro e w' ⟨rfl,rfl⟩)
  | (go_at_call 196;refine (Zwx _ _).mono ?_;rintro e w' ⟨rfl,rfl⟩))
 all_goals (go_ret;refine⟨Zai (by simp_all [Zhg,Zb4] <;> (intros;omega)),?_⟩)
 all_goals (repeat (first | exact Below.refl _ _ | refine Zab ?_ _))
theorem Z19:Calls Tryz.prog 159 #[Zch 4 d a b imm loc label fence] w (RB w (.int .i64 (Zb4 (Zhg 4 d a b imm loc label fence)))):=by
 have _hs:=hs;go_enter Tryz.func159,Tryz.ntmps159
 go_wp2_with (first
  | (go_at_call 83;refine (Zhx _ _ hs).mono ?_;rintro e w' ⟨rfl,rfl⟩)
  | (go_at_call 84;refine (Znk _ _).mono ?_;rintro e w' ⟨rfl,rfl⟩)
  | (go_at_call 196;refine (Zwx _ _).mono ?_;rintro e w' ⟨rfl,rfl⟩))
 all_goals (go_ret;refine⟨Zai (by simp_all [Zhg,Zb4] <;> (intros;omega)),?_⟩)
 all_goals (repeat (first | exact Below.refl _ _ | refine Zab ?_ _))
theorem Z2a:Calls Tryz.prog 159 #[Zch 5 d a b imm loc label fence] w (RB w (.int .i64 (Zb4 (Zhg 5 d a b imm loc label fence)))):=by
 have _hs:=hs;go_enter Tryz.func159,Tryz.ntmps159
 go_wp2_with (first
  | (go_at_call 83;refine (Zhx _ _ hs).mono ?_;rintro e w' ⟨rfl,rfl⟩)
  | (go_at_call 84;refine (Znk _ _).mono ?_;rintro e w' ⟨rfl,rfl⟩)
  | (go_at_call 196;refine (Zwx _ _).mono ?_;rintro e w' ⟨rfl,rfl⟩))
 all_goals (go_ret;refine⟨Zai (by simp_all [Zhg,Zb4] <;> (intros;omega)),?_⟩)
 all_goals (repeat (first | exact Below.refl _ _ | refine Zab ?_ _))
theorem Zyb (op:Int)(h1:(op == 1)=false)(h2:(op == 2)=false)(h3:(op == 3)=false)(h4:(op == 4)=false)(h5:(op == 5)=false):Calls Tryz.prog 159 #[Zch op d a b imm loc label fence] w (RB w (.int .i64 (Zb4 (Zhg op d a b imm loc label fence)))):=by
 have _hs:=hs;go_enter Tryz.func159,Tryz.ntmps159;go_wp2
 all_goals (go_ret;refine⟨Zai (by simp_all [Zhg,Zb4]),?_⟩)
 all_goals (repeat (first | exact Below.refl _ _ | refine Zab ?_ _))
theorem Z6v (op:Int):Calls Tryz.prog 159 #[Zch op d a b imm loc label fence] w (RB w (.int .i64 (Zb4 (Zhg op d a b imm loc label fence)))):=by
 by_cases h1:op=1
 ·subst h1;exact Z16 d a b imm loc label fence w hs
 by_cases h2:op=2
 ·subst h2;exact Z17 d a b imm loc label fence w hs
 by_cases h3:op=3
 ·subst h3;exact Z18 d a b imm loc label fence w hs
 by_cases h4:op=4
 ·subst h4;exact Z19 d a b imm loc label fence w hs
 by_cases h5:op=5
 ·subst h5;exact Z2a d a b imm loc label fence w hs
 exact Zyb d a b imm loc label fence w hs op (by simpa using h1) (by simpa using h2) (by simpa using h3) (by simpa using h4) (by simpa using h5)
end
end
end Go.Proofs.YtdfmcfppoohckaaGreatDoor
