/- Layer 9: whether an x86 instruction may be: the program and the reference. -/
import Derived.Test.YtoegmdnfbemppaaGreatDoorTf04

namespace Go.Proofs.YtoegmdnfbemppaaGreatDoor
open Go.RowKit
section
abbrev Zcf (op d a b imm:Int)(loc label:ByteArray)(fence:Int):Value:=.agg #[.int .i64 op,.int .i64 d,.int .i64 a,.int .i64 b,.int .i64 imm,.string loc,.string label,.int .i64 fence]
def Zh8 (op d a b imm:Int)(loc label:ByteArray)(fence:Int):Bool:=
 (label.toList.isEmpty&&(b == 0)&&(fence == 0))&&
  (if op=1 then Zbb loc.data.toList&&Zfq imm&&(d == 0)&&(a == 0)
   else if op=2 then Zbb loc.data.toList&&Zeg 15 a&&(d == 0)&&(imm == 0)
   else if op=3 then Zbb loc.data.toList&&Zeg 15 d&&(a == 0)&&(imm == 0)
   else if op=4 then loc.toList.isEmpty&&Zeg 15 d&&Zfq imm&&(a == 0)
   else if op=5 then loc.toList.isEmpty&&(d == 0)&&(a == 0)&&(imm == 0)
   else false)
def Zb6 (b:Bool):Int:=if b then 0 else 91
theorem Zap (w:World)(a b:Obj):Below w.heap.size w ((w.alloc a).alloc b):=Zab (Zab (Below.refl _ _) _) _
section
variable (d a b imm:Int) (loc label:ByteArray) (fence:Int) (w:World) (hs:loc.size<=9223372036854775807)
include hs
set_option maxHeartbeats 400000
theorem Z0v:Calls Tryz.prog 113 #[Zcf 1 d a b imm loc label fence] w fun e w'=>e=.returned (.int .i64 (Zb6 (Zh8 1 d a b imm loc label fence)))/\Below w.heap.size w w':=by
 go_enter Tryz.func113,Tryz.ntmps113
 go_wp2_with (first
  | (go_at_call 180;refine (Zvb _ _ hs).mono ?_;rintro e w' ⟨rfl,rfl⟩)
  | (go_at_call 181;refine (Z35 _ _).mono ?_;rintro e w' ⟨rfl,rfl⟩)
  | (go_at_call 182;refine (Z3c _ _).mono ?_;rintro e w' ⟨rfl,rfl⟩))
 all_goals (go_ret;refine⟨Zah (by simp_all [Zh8,Zb6] <;> (intros;omega)),?_⟩)
 all_goals (repeat (first | exact Below.refl _ _ | refine Zab ?_ _))
theorem Z2z:Calls Tryz.prog 113 #[Zcf 2 d a b imm loc label fence] w fun e w'=>e=.returned (.int .i64 (Zb6 (Zh8 2 d a b imm loc label fence)))/\Below w.heap.size w w':=by
 go_enter Tryz.func113,Tryz.ntmps113
 go_wp2_with (first
  | (go_at_call 180;refine (Zvb _ _ hs).mono ?_;rintro e w' ⟨rfl,rfl⟩)
  | (go_at_call 181;refine (Z35 _ _).mono ?_;rintro e w' ⟨rfl,rfl⟩)
  | (go_at_call 182;refine (Z3c _ _).mono ?_;rintro e w' ⟨rfl,rfl⟩))
 all_goals (go_ret;refine⟨Zah (by simp_all [Zh8,Zb6] <;> (intros;omega)),?_⟩)
 all_goals (repeat (first | exact Below.refl _ _ | refine Zab ?_ _))
theorem Z03:Calls Tryz.prog 113 #[Zcf 3 d a b imm loc label fence] w fun e w'=>e=.returned (.int .i64 (Zb6 (Zh8 3 d a b imm loc label fence)))/\Below w.heap.size w w':=by
 go_enter Tryz.func113,Tryz.ntmps113
 go_wp2_with (first
  | (go_at_call 180;refine (Zvb _ _ hs).mono ?_;rintro e w' ⟨rfl,rfl⟩)
  | (go_at_call 181;refine (Z35 _ _).mono ?_;rintro e w' ⟨rfl,rfl⟩)
  | (go_at_call 182;refine (Z3c _ _).mono ?_;rintro e w' ⟨rfl,rfl⟩))
 all_goals (go_ret;refine⟨Zah (by simp_all [Zh8,Zb6] <;> (intros;omega)),?_⟩)
 all_goals (repeat (first | exact Below.refl _ _ | refine Zab ?_ _))
theorem Z1b:Calls Tryz.prog 113 #[Zcf 4 d a b imm loc label fence] w fun e w'=>e=.returned (.int .i64 (Zb6 (Zh8 4 d a b imm loc label fence)))/\Below w.heap.size w w':=by
 have _hs:=hs
 go_enter Tryz.func113,Tryz.ntmps113
 go_wp2_with (first
  | (go_at_call 180;refine (Zvb _ _ hs).mono ?_;rintro e w' ⟨rfl,rfl⟩)
  | (go_at_call 181;refine (Z35 _ _).mono ?_;rintro e w' ⟨rfl,rfl⟩)
  | (go_at_call 182;refine (Z3c _ _).mono ?_;rintro e w' ⟨rfl,rfl⟩))
 all_goals (go_ret;refine⟨Zah (by simp_all [Zh8,Zb6] <;> (intros;omega)),?_⟩)
 all_goals (repeat (first | exact Below.refl _ _ | refine Zab ?_ _))
theorem Z2s:Calls Tryz.prog 113 #[Zcf 5 d a b imm loc label fence] w fun e w'=>e=.returned (.int .i64 (Zb6 (Zh8 5 d a b imm loc label fence)))/\Below w.heap.size w w':=by
 have _hs:=hs
 go_enter Tryz.func113,Tryz.ntmps113
 go_wp2_with (first
  | (go_at_call 180;refine (Zvb _ _ hs).mono ?_;rintro e w' ⟨rfl,rfl⟩)
  | (go_at_call 181;refine (Z35 _ _).mono ?_;rintro e w' ⟨rfl,rfl⟩)
  | (go_at_call 182;refine (Z3c _ _).mono ?_;rintro e w' ⟨rfl,rfl⟩))
 all_goals (go_ret;refine⟨Zah (by simp_all [Zh8,Zb6] <;> (intros;omega)),?_⟩)
 all_goals (repeat (first | exact Below.refl _ _ | refine Zab ?_ _))
theorem Zzc (op:Int)(h1:(op == 1)=false)(h2:(op == 2)=false)(h3:(op == 3)=false)(h4:(op == 4)=false)(h5:(op == 5)=false):Calls Tryz.prog 113 #[Zcf op d a b imm loc label fence] w fun e w'=>e=.returned (.int .i64 (Zb6 (Zh8 op d a b imm loc label fence)))/\Below w.heap.size w w':=by
 have _hs:=hs
 go_enter Tryz.func113,Tryz.ntmps113
 go_wp2
 all_goals (go_ret;refine⟨Zah (by simp_all [Zh8,Zb6]),?_⟩)
 all_goals (repeat (first | exact Below.refl _ _ | refine Zab ?_ _))
theorem Z6e (op:Int):Calls Tryz.prog 113 #[Zcf op d a b imm loc label fence] w fun e w'=>e=.returned (.int .i64 (Zb6 (Zh8 op d a b imm loc label fence)))/\Below w.heap.size w w':=by
 by_cases h1:op=1
 ·subst h1;exact Z0v d a b imm loc label fence w hs
 by_cases h2:op=2
 ·subst h2;exact Z2z d a b imm loc label fence w hs
 by_cases h3:op=3
 ·subst h3;exact Z03 d a b imm loc label fence w hs
 by_cases h4:op=4
 ·subst h4;exact Z1b d a b imm loc label fence w hs
 by_cases h5:op=5
 ·subst h5;exact Z2s d a b imm loc label fence w hs
 exact Zzc d a b imm loc label fence w hs op (by simpa using h1) (by simpa using h2) (by simpa using h3) (by simpa using h4) (by simpa using h5)
theorem Z06:Calls Tryz.prog 176 #[Zcf 1 d a b imm loc label fence] w fun e w'=>e=.returned (.int .i64 (Zb6 (Zh8 1 d a b imm loc label fence)))/\Below w.heap.size w w':=by
 go_enter Tryz.func176,Tryz.ntmps176
 go_wp2_with (first
  | (go_at_call 111;refine (Ziy _ _ hs).mono ?_;rintro e w' ⟨rfl,rfl⟩)
  | (go_at_call 72;refine (Zsz _ _).mono ?_;rintro e w' ⟨rfl,rfl⟩)
  | (go_at_call 248;refine (Zvu _ _).mono ?_;rintro e w' ⟨rfl,rfl⟩))
 all_goals (go_ret;refine⟨Zah (by simp_all [Zh8,Zb6] <;> (intros;omega)),?_⟩)
 all_goals (repeat (first | exact Below.refl _ _ | refine Zab ?_ _))
theorem Z1t:Calls Tryz.prog 176 #[Zcf 2 d a b imm loc label fence] w fun e w'=>e=.returned (.int .i64 (Zb6 (Zh8 2 d a b imm loc label fence)))/\Below w.heap.size w w':=by
 go_enter Tryz.func176,Tryz.ntmps176
 go_wp2_with (first
  | (go_at_call 111;refine (Ziy _ _ hs).mono ?_;rintro e w' ⟨rfl,rfl⟩)
  | (go_at_call 72;refine (Zsz _ _).mono ?_;rintro e w' ⟨rfl,rfl⟩)
  | (go_at_call 248;refine (Zvu _ _).mono ?_;rintro e w' ⟨rfl,rfl⟩))
 all_goals (go_ret;refine⟨Zah (by simp_all [Zh8,Zb6] <;> (intros;omega)),?_⟩)
 all_goals (repeat (first | exact Below.refl _ _ | refine Zab ?_ _))
theorem Z02:Calls Tryz.prog 176 #[Zcf 3 d a b imm loc label fence] w fun e w'=>e=.returned (.int .i64 (Zb6 (Zh8 3 d a b imm loc label fence)))/\Below w.heap.size w w':=by
 go_enter Tryz.func176,Tryz.ntmps176
 go_wp2_with (first
  | (go_at_call 111;refine (Ziy _ _ hs).mono ?_;rintro e w' ⟨rfl,rfl⟩)
  | (go_at_call 72;refine (Zsz _ _).mono ?_;rintro e w' ⟨rfl,rfl⟩)
  | (go_at_call 248;refine (Zvu _ _).mono ?_;rintro e w' ⟨rfl,rfl⟩))
 all_goals (go_ret;refine⟨Zah (by simp_all [Zh8,Zb6] <;> (intros;omega)),?_⟩)
 all_goals (repeat (first | exact Below.refl _ _ | refine Zab ?_ _))
theorem Z1g:Calls Tryz.prog 176 #[Zcf 4 d a b imm loc label fence] w fun e w'=>e=.returned (.int .i64 (Zb6 (Zh8 4 d a b imm loc label fence)))/\Below w.heap.size w w':=by
 have _hs:=hs
 go_enter Tryz.func176,Tryz.ntmps176
 go_wp2_with (first
  | (go_at_call 111;refine (Ziy _ _ hs).mono ?_;rintro e w' ⟨rfl,rfl⟩)
  | (go_at_call 72;refine (Zsz _ _).mono ?_;rintro e w' ⟨rfl,rfl⟩)
  | (go_at_call 248;refine (Zvu _ _).mono ?_;rintro e w' ⟨rfl,rfl⟩))
 all_goals (go_ret;refine⟨Zah (by simp_all [Zh8,Zb6] <;> (intros;omega)),?_⟩)
 all_goals (repeat (first | exact Below.refl _ _ | refine Zab ?_ _))
theorem Z07:Calls Tryz.prog 176 #[Zcf 5 d a b imm loc label fence] w fun e w'=>e=.returned (.int .i64 (Zb6 (Zh8 5 d a b imm loc label fence)))/\Below w.heap.size w w':=by
 have _hs:=hs
 go_enter Tryz.func176,Tryz.ntmps176
 go_wp2_with (first
  | (go_at_call 111;refine (Ziy _ _ hs).mono ?_;rintro e w' ⟨rfl,rfl⟩)
  | (go_at_call 72;refine (Zsz _ _).mono ?_;rintro e w' ⟨rfl,rfl⟩)
  | (go_at_call 248;refine (Zvu _ _).mono ?_;rintro e w' ⟨rfl,rfl⟩))
 all_goals (go_ret;refine⟨Zah (by simp_all [Zh8,Zb6] <;> (intros;omega)),?_⟩)
 all_goals (repeat (first | exact Below.refl _ _ | refine Zab ?_ _))
theorem Zws (op:Int)(h1:(op == 1)=false)(h2:(op == 2)=false)(h3:(op == 3)=false)(h4:(op == 4)=false)(h5:(op == 5)=false):Calls Tryz.prog 176 #[Zcf op d a b imm loc label fence] w fun e w'=>e=.returned (.int .i64 (Zb6 (Zh8 op d a b imm loc label fence)))/\Below w.heap.size w w':=by
 have _hs:=hs
 go_enter Tryz.func176,Tryz.ntmps176
 go_wp2
 all_goals (go_ret;refine⟨Zah (by simp_all [Zh8,Zb6]),?_⟩)
 all_goals (repeat (first | exact Below.refl _ _ | refine Zab ?_ _))
theorem Z55 (op:Int):Calls Tryz.prog 176 #[Zcf op d a b imm loc label fence] w fun e w'=>e=.returned (.int .i64 (Zb6 (Zh8 op d a b imm loc label fence)))/\Below w.heap.size w w':=by
 by_cases h1:op=1
 ·subst h1;exact Z06 d a b imm loc label fence w hs
 by_cases h2:op=2
 ·subst h2;exact Z1t d a b imm loc label fence w hs
 by_cases h3:op=3
 ·subst h3;exact Z02 d a b imm loc label fence w hs
 by_cases h4:op=4
 ·subst h4;exact Z1g d a b imm loc label fence w hs
 by_cases h5:op=5
 ·subst h5;exact Z07 d a b imm loc label fence w hs
 exact Zws d a b imm loc label fence w hs op (by simpa using h1) (by simpa using h2) (by simpa using h3) (by simpa using h4) (by simpa using h5)
end
end
end Go.Proofs.YtoegmdnfbemppaaGreatDoor
