/- Layer 21: a machine that nobody made. -/
import Derived.Test.YtgjefdaaihgliaaGreatDoorMn42
import Derived.Test.YtgjefdaaihgliaaGreatDoorMn45

namespace Go.Proofs.YtgjefdaaihgliaaGreatDoor
open Go.RowKit
section
def Zti (w:World)(p:Value):Prop:=p=.pointer none\/∃ g a c l t h m,p=.pointer (some ⟨g,0,none⟩)/\Blk w g 39 #[.bool false,a,c,l,t,h,m]
theorem Zti.below {w w':World}{p:Value}(h:Zti w p)(hb:Below w.heap.size w w'):Zti w' p:=by
 rcases h with rfl | ⟨g,a,c,l,t,r,m,rfl,h⟩
 ·exact .inl rfl
 ·exact .inr ⟨g,a,c,l,t,r,m,rfl,h.go hb⟩
section
set_option maxHeartbeats 2000000
set_option maxRecDepth 100000
variable {w:World} {p:Value}
theorem Z32 (h:Zti w p):Calls Tryz.prog 15 #[p] w fun e w'=>e=.returned (.bool false)/\w'=w:=by
 rcases h with rfl | ⟨g,a,c,l,t,r,m,rfl,hb⟩
 ·go_enter Tryz.func15,Tryz.ntmps15;go_wp2;go_ret;exact⟨rfl,rfl⟩
 ·have k0:=hb.cl 0;have hg:=hb.lt;clear hb;go_enter Tryz.func15,Tryz.ntmps15;go_wp2;go_ret;exact⟨rfl,rfl⟩
theorem Zy8 (h:Zti w p):Calls Tryz.prog 5 #[p] w fun e w'=>e=.returned (.slice none 0 0)/\Below w.heap.size w w':=by
 have HI:=Zh (fun (W:World) (hW:Below w.heap.size w W)=>Z32 (h.below hW));clear h;go_enter Tryz.func5,Tryz.ntmps5
 go_wp2_with (go_at_call 15;refine (HI.o _ (by repeat (first | exact Below.refl _ _ | refine Below.drew ?_ | refine Zaa ?_ _))).mono ?_;rintro e w9 ⟨rfl,rfl⟩)
 go_ret;exact⟨rfl,(by repeat (first | exact Below.refl _ _ | refine Below.drew ?_ | refine Zaa ?_ _))⟩
theorem Zvt (h:Zti w p):Calls Tryz.prog 6 #[p] w fun e w'=>e=.returned (.slice none 0 0)/\Below w.heap.size w w':=by
 have HI:=Zh (fun (W:World) (hW:Below w.heap.size w W)=>Z32 (h.below hW));clear h;go_enter Tryz.func6,Tryz.ntmps6
 go_wp2_with (go_at_call 15;refine (HI.o _ (by repeat (first | exact Below.refl _ _ | refine Below.drew ?_ | refine Zaa ?_ _))).mono ?_;rintro e w9 ⟨rfl,rfl⟩)
 go_ret;exact⟨rfl,(by repeat (first | exact Below.refl _ _ | refine Below.drew ?_ | refine Zaa ?_ _))⟩
theorem Zy9 (h:Zti w p):Calls Tryz.prog 7 #[p] w fun e w'=>e=.returned (.slice none 0 0)/\Below w.heap.size w w':=by
 have HI:=Zh (fun (W:World) (hW:Below w.heap.size w W)=>Z32 (h.below hW));clear h;go_enter Tryz.func7,Tryz.ntmps7
 go_wp2_with (go_at_call 15;refine (HI.o _ (by repeat (first | exact Below.refl _ _ | refine Below.drew ?_ | refine Zaa ?_ _))).mono ?_;rintro e w9 ⟨rfl,rfl⟩)
 go_ret;exact⟨rfl,(by repeat (first | exact Below.refl _ _ | refine Below.drew ?_ | refine Zaa ?_ _))⟩
theorem Z2u (h:Zti w p):Calls Tryz.prog 8 #[p] w fun e w'=>e=.returned (.pointer none)/\Below w.heap.size w w':=by
 have HI:=Zh (fun (W:World) (hW:Below w.heap.size w W)=>Z32 (h.below hW));clear h;go_enter Tryz.func8,Tryz.ntmps8
 go_wp2_with (go_at_call 15;refine (HI.o _ (by repeat (first | exact Below.refl _ _ | refine Below.drew ?_ | refine Zaa ?_ _))).mono ?_;rintro e w9 ⟨rfl,rfl⟩)
 go_ret;exact⟨rfl,(by repeat (first | exact Below.refl _ _ | refine Below.drew ?_ | refine Zaa ?_ _))⟩
theorem Z5w (h:Zti w p):Calls Tryz.prog 9 #[p] w fun e w'=>e=.returned (.string ⟨#[]⟩)/\Below w.heap.size w w':=by
 have HI:=Zh (fun (W:World) (hW:Below w.heap.size w W)=>Z32 (h.below hW));clear h;go_enter Tryz.func9,Tryz.ntmps9
 go_wp2_with (go_at_call 15;refine (HI.o _ (by repeat (first | exact Below.refl _ _ | refine Below.drew ?_ | refine Zaa ?_ _))).mono ?_;rintro e w9 ⟨rfl,rfl⟩)
 go_ret;exact⟨rfl,(by repeat (first | exact Below.refl _ _ | refine Below.drew ?_ | refine Zaa ?_ _))⟩
theorem Z79 (h:Zti w p)(k:Int):Calls Tryz.prog 4 #[p,.int .i64 k] w fun e w'=>e=.returned (.tuple #[.agg #[.int .i64 0,.int .i64 0],.int .i64 1])/\Below w.heap.size w w':=by
 have HR:=Zh (Blk.new w 42 #[.int .i64 0,.int .i64 0]);have HI:=Zh (fun (W:World) (hW:Below w.heap.size w W)=>Z32 (h.below hW));clear h;have r0:=HR.o.cl 0;have r1:=HR.o.cl 1;have rf:=HR.o.frozen;have rz:=HR.o.lt;go_enter Tryz.func4,Tryz.ntmps4
 go_wp2_with (go_at_call 15;refine (HI.o _ (by repeat (first | exact Below.refl _ _ | refine Below.drew ?_ | refine Zaa ?_ _))).mono ?_;rintro e w9 ⟨rfl,rfl⟩)
 refine bodyPost_ret (v:=.tuple #[.agg #[.int .i64 0,.int .i64 0],.int .i64 1]) (by simp [results,Tryz.results4,go_sem,r0,r1]) rfl ⟨rfl,?_⟩
 repeat (first | exact Below.refl _ _ | refine Below.setCell ?_ (by simp) _ | refine Below.drew ?_ | refine Zaa ?_ _)
end
end
section
set_option maxHeartbeats 4000000
set_option maxRecDepth 100000
theorem Z75 (T:Tst)(Ai Ac:Option Addr)(ci cc:Nat)(kv:Value)(w:World)(hT:Zcu w T Ai Ac kv)(c:Int)(k:Nat)(ha:Zcs T=.error (c,k)) :
  Calls Tryz.prog 10 #[Zbu T (.slice Ai T.init.length ci) (.slice Ac T.code.length cc) kv] w fun e w'=>e=.returned (.tuple #[.pointer none,.int .i64 c])/\Below w.heap.size w w':=by
 obtain⟨A0,l0,q0,rfl⟩:∃ A n c,kv=.slice A n c:=by obtain⟨A,cap,e,_⟩:=hT.kids;exact⟨A,_,cap,e⟩
 simp only [Zbu];have hB0:=Zad w (.cells #[.int .i64 T.arch,.string ⟨T.name.toArray⟩,.string ⟨T.cycle.toArray⟩,.slice Ai T.init.length ci,.slice Ac T.code.length cc,.int .i64 T.q,.int .i64 T.k,.int .i64 T.t,.int .i64 T.r,.string ⟨T.l.toArray⟩,.int .i64 T.v,.slice A0 l0 q0] 32 (0,0));have HOf:=Zh (ofP T Ai Ac ci cc (.slice A0 l0 q0) _ (hT.below hB0));have HB0:=Zh hB0;have HA:=Zh ha;have g1:(c != 0)=true:=by simpa using Zmn ha
 simp only [Zbu] at HOf;clear hT hB0 ha;go_enter Tryz.func10,Tryz.ntmps10
 go_wp2_with (go_at_call 24;refine HOf.o.mono ?_;rintro e w1 ⟨h1,hb1⟩;rw [HA.o] at h1;subst h1;have HB1:=Zh (Zab HB0.o hb1);clear hb1)
 go_ret2
 exact⟨rfl,Zaa HB1.o _⟩
theorem Z76 (T:Tst)(Ai Ac:Option Addr)(ci cc:Nat)(kv:Value)(w:World)(hT:Zcu w T Ai Ac kv)(c:Int)(k:Nat)(ha:Zcs T=.error (c,k)) :
  Calls Tryz.prog 11 #[Zbu T (.slice Ai T.init.length ci) (.slice Ac T.code.length cc) kv] w fun e w'=>e=.returned (.tuple #[.agg #[.int .i64 0,.string ⟨#[]⟩,.string ⟨#[]⟩,.slice none 0 0,.slice none 0 0,.int .i64 0,.int .i64 0,.int .i64 0,.int .i64 0,.string ⟨#[]⟩,.int .i64 0,.slice none 0 0,.slice none 0 0,.slice none 0 0,.slice none 0 0,.slice none 0 0],.int .i64 c])/\Below w.heap.size w w':=by
 obtain⟨A0,l0,q0,rfl⟩:∃ A n c,kv=.slice A n c:=by obtain⟨A,cap,e,_⟩:=hT.kids;exact⟨A,_,cap,e⟩
 simp only [Zbu];have HT0:=Zh hT;have HOf:=Zh (fun (y:World) (h:Zcu y T Ai Ac (.slice A0 l0 q0))=>ofR T Ai Ac ci cc (.slice A0 l0 q0) y h);simp only [Zbu] at HOf;have HA:=Zh ha;have g1:(c != 0)=true:=by simpa using Zmn ha
 clear hT ha;go_enter Tryz.func11,Tryz.ntmps11;apply wp_seq_k;intro K hK;have HK:=Zh hK;clear hK
 go_wp2_with fail
 refine Z31 (P:=fun X=>K _ X) w _ _ _ _ ?_;intro W b0 b1 hz hbW;refine HK.o _ _ ?_;clear HK K;have HTB:=Zh b0;have HRB:=Zh b1;have HBW:=Zh hbW;clear b0 b1 hbW hz
 repeat (first | ((with_reducible refine Zat ?_);refine Zaz 32 1 w.heap.size rfl rfl HTB.o Tryz.underlying32 rfl κ rfl ?_) | (go_at_call 26;refine Hid.o ?_) | go_step)
 refine Zh ?_;refine (HOf.o W (HT0.o.below HBW.o)).mono ?_;rintro e w2 ⟨h1,hb⟩;rw [HA.o] at h1;subst h1;dsimp only;have HR2:=Zh ((HRB.o.go hb).alloc (.cells #[.slice none 0 0,.slice none 0 0,.slice none 0 0,.slice none 0 0,.slice none 0 0,.slice none 0 0,.slice none 0 0,.slice none 0 0,.slice none 0 0] 87 (0,0)));have HB2:=Zh (Zaa (Zab HBW.o hb) (.cells #[.slice none 0 0,.slice none 0 0,.slice none 0 0,.slice none 0 0,.slice none 0 0,.slice none 0 0,.slice none 0 0,.slice none 0 0,.slice none 0 0] 87 (0,0)));clear hb HTB HRB HBW HOf HA
 go_wp2_with ((with_reducible refine Zat ?_);refine Zar 54 2 20 (w.heap.size+1) (c:=#[.int .i64 0,.string ⟨#[]⟩,.string ⟨#[]⟩,.slice none 0 0,.slice none 0 0,.int .i64 0,.int .i64 0,.int .i64 0,.int .i64 0,.string ⟨#[]⟩,.int .i64 0,.slice none 0 0,.slice none 0 0,.slice none 0 0,.slice none 0 0,.slice none 0 0]) rfl rfl rfl HR2.o (by rfl) κ κ rfl rfl ?_)
 refine Zgv 54 2 (w.heap.size+1) 3 rfl (HR2.o.row _) Tryz.underlying54 rfl κ rfl rfl rfl ?_;exact⟨rfl,below_setRow HB2.o (Nat.le_succ _) _⟩
end
end Go.Proofs.YtgjefdaaihgliaaGreatDoor
