/- Layer 15: which fence orders what: the program and the reference. -/
import Derived.Test.YtdfmcfppoohckaaGreatDoorTm01

namespace Go.Proofs.YtdfmcfppoohckaaGreatDoor
open Go.RowKit
section
def Z3a (n d:Int):Bool:=decide (n=2)||decide (n=d - 1)
def Zcz (f a b:Int):Bool:=(decide (a=1)||decide (a=2))&&(decide (b=1)||decide (b=2))&&(if f=1 then true else if f=2 then decide (a=1)||decide (b=2) else if f<3\/11<f then false else Z3a ((f - 3) / 3) a&&Z3a ((f - 3) % 3) b)
section
set_option maxHeartbeats 4000000
set_option maxRecDepth 100000
theorem Z7b (n d:Int)(w:World)(hd:d=1\/d=2)(hn:0<=n/\n<=2):Calls Tryz.prog 128 #[.int .i64 n,.int .i64 d] w fun e w'=>e=.returned (.bool (Z3a n d))/\w=w':=by
 have h3:n=0\/n=1\/n=2:=ω;rcases hd with rfl | rfl <;> rcases h3 with rfl | rfl | rfl
 all_goals
  go_enter Tryz.func128,Tryz.ntmps128
  go_wp2_with fail
  go_ret;exact⟨Zae (by decide),rfl⟩
theorem Z26 (f a b:Int)(w:World):Calls Tryz.prog 78 #[.int .i64 f,.int .i64 a,.int .i64 b] w fun e w'=>e=.returned (.bool (Zcz f a b))/\Below w.heap.size w w':=by
 by_cases ha:a=1\/a=2
 ·by_cases hb:b=1\/b=2
  ·by_cases h1:f=1
   ·subst h1;have e1:Zcz 1 a b=true:=by rcases ha with rfl | rfl <;> rcases hb with rfl | rfl <;> rfl
    rw [e1];rcases ha with rfl | rfl <;> rcases hb with rfl | rfl
    all_goals
     go_enter Tryz.func78,Tryz.ntmps78
     go_wp2_with fail
     go_ret;exact⟨rfl,Below.refl _ _⟩
   ·by_cases h2:f=2
    ·subst h2;rcases ha with rfl | rfl <;> rcases hb with rfl | rfl
     all_goals
      go_enter Tryz.func78,Tryz.ntmps78
      go_wp2_with fail
      go_ret;exact⟨Zae (by decide),Below.refl _ _⟩
    ·by_cases h3:f<3\/11<f
     ·have e1:Zcz f a b=false:=by unfold Zcz;rw [if_neg h1,if_neg h2,if_pos h3,Bool.and_false]
      rw [e1];have e2:(f == 1)=false:=by simpa using h1
      have e3:(f == 2)=false:=by simpa using h2
      clear e1;rcases ha with rfl | rfl <;> rcases hb with rfl | rfl <;> rcases h3 with h3 | h3
      all_goals
       go_enter Tryz.func78,Tryz.ntmps78
       go_wp2_with fail
       go_ret;exact⟨rfl,Below.refl _ _⟩
     ·have h9:f=3\/f=4\/f=5\/f=6\/f=7\/f=8\/f=9\/f=10\/f=11:=ω;rcases h9 with rfl | rfl | rfl | rfl | rfl | rfl | rfl | rfl | rfl <;> rcases ha with rfl | rfl <;> rcases hb with rfl | rfl
      all_goals
       go_enter Tryz.func78,Tryz.ntmps78
       go_wp2_with (go_at_call 128;refine (Z7b _ _ _ ω ω).mono ?_;rintro e w' ⟨rfl,rfl⟩)
       go_ret;exact⟨Zae (by decide),by first | exact Below.refl _ _ | exact (Below.refl _ _).drew⟩
  ·have e1:Zcz f a b=false:=by unfold Zcz;rw [Bool.and_eq_false_iff,Bool.and_eq_false_iff];left;right;simpa using hb
   rw [e1];have e2:(b == 1)=false:=by simpa using fun h=>hb (Or.inl h)
   have e3:(b == 2)=false:=by simpa using fun h=>hb (Or.inr h)
   have e4:(b != 1)=true:=by simpa using fun h=>hb (Or.inl h)
   have e5:(b != 2)=true:=by simpa using fun h=>hb (Or.inr h)
   clear e1 hb;rcases ha with rfl | rfl
   all_goals
    go_enter Tryz.func78,Tryz.ntmps78
    go_wp2_with fail
    go_ret;exact⟨rfl,Below.refl _ _⟩
 ·have e1:Zcz f a b=false:=by unfold Zcz;rw [Bool.and_eq_false_iff,Bool.and_eq_false_iff];left;left;simpa using ha
  rw [e1];have e2:(a == 1)=false:=by simpa using fun h=>ha (Or.inl h)
  have e3:(a == 2)=false:=by simpa using fun h=>ha (Or.inr h)
  have e4:(a != 1)=true:=by simpa using fun h=>ha (Or.inl h)
  have e5:(a != 2)=true:=by simpa using fun h=>ha (Or.inr h)
  clear e1 ha;go_enter Tryz.func78,Tryz.ntmps78
  go_wp2_with fail
  go_ret;exact⟨rfl,Below.refl _ _⟩
end
end
end Go.Proofs.YtdfmcfppoohckaaGreatDoor
