/- - -/
import Derived.Test.YtoegmdnfbemppaaGreatDoorTf47
import Derived.Test.YtoegmdnfbemppaaGreatDoorTf48

namespace Go.Proofs.YtoegmdnfbemppaaGreatDoor
open Go.RowKit
section
set_option maxHeartbeats 4000000
set_option maxRecDepth 100000
theorem Z0p (T:Tst)(Ai Ac:Option Addr)(ci cc:Nat)(kv:Value)(w:World)(hT:Zb4 w T Ai Ac kv):Calls Tryz.prog 3 #[Zbm T (.slice Ai T.init.length ci) (.slice Ac T.code.length cc) kv] w fun e w'=>e=.returned (.bool true)/\Below w.heap.size w w':=by
 obtain⟨cT,hct⟩:∃ c,Zzd T=c:=⟨_,rfl⟩
 obtain⟨pT,hpt⟩:∃ c,plT T=c:=⟨_,rfl⟩
 obtain⟨L,hL⟩:∃ c,Zzv T=c:=⟨_,rfl⟩
 have HT0:=Zh hT
 obtain⟨tc,htc⟩:∃ c:Array Value,c=#[.int .i64 T.arch,.string ⟨T.name.toArray⟩,.string ⟨T.cycle.toArray⟩,.slice Ai T.init.length ci,.slice Ac T.code.length cc,.int .i64 T.q,.int .i64 T.k,.int .i64 T.t,.int .i64 T.r,.string ⟨T.l.toArray⟩,.int .i64 T.v,kv]:=⟨_,rfl⟩
 have HTZ:=Zh (show tc.size=12 by rw [htc];rfl)
 have HP:Hid (∀ y,Zb4 y T Ai Ac kv->Calls Tryz.prog 9 #[.agg tc] y fun e w'=>∃ V:Zfl,e=.returned (.tuple #[.agg (Zek V),.int .i64 cT,.int .i64 (pT:Int)])/\Zc0 w' L V/\Zrx y.heap.size w' V/\Below y.heap.size y w'):=Zh (fun y h=>by rw [htc,<- hct,<- hpt,<- hL];exact Z6l T Ai Ac ci cc kv y h)
 have HR:Hid (∀ y,Zb4 y T Ai Ac kv->Calls Tryz.prog 10 #[.agg tc] y fun e w'=>∃ V:Zfl,e=.returned (.tuple #[.agg (Zek V),.int .i64 cT,.int .i64 (pT:Int)])/\Zc0 w' L V/\Below y.heap.size y w'):=Zh (fun y h=>by rw [htc,<- hct,<- hpt,<- hL];exact Z6k T Ai Ac ci cc kv y h)
 have HSM:=Zh (show Z0q L by rw [<- hL];exact Zle T)
 have HSA:=Zh (fun (V V':Zfl) (y:World) (h:Zc0 y L V) (h':Zc0 y L V')=>Z3k L V V' y h h' HSM.out.l0 HSM.out.l1 HSM.out.l2 HSM.out.l3 HSM.out.l4 HSM.out.l5 HSM.out.l6 HSM.out.l7 (by rw [HSM.out.l8];exact HSM.out.l7))
 rw [show Zbm T (.slice Ai T.init.length ci) (.slice Ac T.code.length cc) kv=.agg tc by rw [htc]]
 clear hT htc hct hpt hL
 go_enter Tryz.func3,Tryz.ntmps3
 apply wp_seq_k
 intro K hK
 have HK:=Zh hK
 clear hK
 go_wp2_with fail
 refine Z25 (P:=fun X=>K _ X) w _ _ ?_
 intro W b0 hz hbW
 refine HK.out _ _ ?_
 clear HK K hz
 have HTB:=Zh b0
 have HBW:=Zh hbW
 clear b0 hbW
 repeat (first | ((with_reducible refine Zao ?_);refine Zaw 32 1 w.heap.size rfl rfl HTB.out Tryz.underlying32 rfl (by rw [HTZ.out];kernel_rfl) rfl ?_) | (go_at_call 9;refine Hid.out ?_) | go_step)
 refine Zh ?_
 refine (HP.out W (HT0.out.below HBW.out)).mono ?_
 rintro e w2 ⟨V,rfl,hV,_,hb⟩
 generalize hvc:Zek V=cv
 dsimp only
 have HVC:=Zh hvc
 clear hvc
 have HZ:=Zh (Blk.new w2 41 #[.slice none 0 0,.slice none 0 0,.slice none 0 0,.slice none 0 0,.slice none 0 0,.slice none 0 0,.slice none 0 0,.slice none 0 0,.slice none 0 0])
 repeat (first | ((with_reducible refine Zao ?_);refine Zam 41 3 12 w2.heap.size rfl rfl rfl HZ.out (by rw [<- HVC.out];rfl) (by rw [<- HVC.out];kernel_rfl) (by rw [<- HVC.out];exact Zhu _) rfl rfl ?_;refine Hid.out ?_) | go_step)
 refine Zh ?_
 have hvc:=HVC.out
 clear HVC
 subst hvc
 have hn:=below_setRow (Zad w2 (.cells #[.slice none 0 0,.slice none 0 0,.slice none 0 0,.slice none 0 0,.slice none 0 0,.slice none 0 0,.slice none 0 0,.slice none 0 0,.slice none 0 0] 41 (0,0))) (Nat.le_refl _) (Zek V)
 have hr:=HZ.out.row (Zek V)
 have HV:=Zh (hV.below hn)
 have HT3:=Zh ((HTB.out.go hb).go hn)
 have HO3:=Zh hr
 have HB3:=Zh (Zaa (Zaa HBW.out hb) hn)
 generalize ((w2.alloc (.cells #[.slice none 0 0,.slice none 0 0,.slice none 0 0,.slice none 0 0,.slice none 0 0,.slice none 0 0,.slice none 0 0,.slice none 0 0,.slice none 0 0] 41 (0,0))).setRow w2.heap.size (Zek V))=W3 at *
 generalize w2.heap.size=O3 at *
 clear hn hr hb hV HZ HTB HBW
 repeat (first | ((with_reducible refine Zao ?_);refine Zaw 32 1 w.heap.size rfl rfl HT3.out Tryz.underlying32 rfl (by rw [HTZ.out];kernel_rfl) rfl ?_) | (go_at_call 10;refine Hid.out ?_) | go_step)
 refine Zh ?_
 refine (HR.out W3 (HT0.out.below HB3.out)).mono ?_
 rintro e w4 ⟨V2,rfl,hV2,hb⟩
 generalize hvc:Zek V2=cv
 dsimp only
 have HVC:=Zh hvc
 clear hvc
 have HZ:=Zh (Blk.new w4 41 #[.slice none 0 0,.slice none 0 0,.slice none 0 0,.slice none 0 0,.slice none 0 0,.slice none 0 0,.slice none 0 0,.slice none 0 0,.slice none 0 0])
 repeat (first | ((with_reducible refine Zao ?_);refine Zam 41 6 18 w4.heap.size rfl rfl rfl HZ.out (by rw [<- HVC.out];rfl) (by rw [<- HVC.out];kernel_rfl) (by rw [<- HVC.out];exact Zhu _) rfl rfl ?_;refine Hid.out ?_) | go_step)
 refine Zh ?_
 have hvc:=HVC.out
 clear HVC
 subst hvc
 have hn:=below_setRow (Zad w4 (.cells #[.slice none 0 0,.slice none 0 0,.slice none 0 0,.slice none 0 0,.slice none 0 0,.slice none 0 0,.slice none 0 0,.slice none 0 0,.slice none 0 0] 41 (0,0))) (Nat.le_refl _) (Zek V2)
 have hr:=HZ.out.row (Zek V2)
 have HV5:=Zh ((HV.out.below hb).below hn)
 have HV6:=Zh (hV2.below hn)
 have HO5:=Zh ((HO3.out.go hb).go hn)
 have HO6:=Zh hr
 have HB6:=Zh (Zaa (Zaa HB3.out hb) hn)
 generalize ((w4.alloc (.cells #[.slice none 0 0,.slice none 0 0,.slice none 0 0,.slice none 0 0,.slice none 0 0,.slice none 0 0,.slice none 0 0,.slice none 0 0,.slice none 0 0] 41 (0,0))).setRow w4.heap.size (Zek V2))=W6 at *
 generalize w4.heap.size=O6 at *
 clear hn hr hb hV2 HZ HT3 HO3 HB3 HV
 repeat (first | ((with_reducible refine Zao ?_);refine Zaw 41 3 O3 rfl rfl HO5.out Tryz.underlying41 rfl (by kernel_rfl) rfl ?_) | ((with_reducible refine Zao ?_);refine Zaw 41 6 O6 rfl rfl HO6.out Tryz.underlying41 rfl (by kernel_rfl) rfl ?_) | (go_at_call 11;refine Hid.out ?_) | go_step)
 refine Zh ?_
 refine (HSA.out V V2 W6 HV5.out HV6.out).mono ?_
 rintro e w7 ⟨rfl,hb⟩
 have HB7:=Zh (Zaa HB6.out hb)
 have g1:(cT == cT)=true:=by simp
 have g2:((pT:Int) == (pT:Int))=true:=by simp
 clear hb HB6 HO5 HO6 HV5 HV6
 go_wp2_with (go_at_call 12;refine (Zvk _).mono ?_;rintro e w8 ⟨rfl,hb⟩;have HB8:=Zh (Zaa HB7.out hb);clear hb)
 go_ret
 exact⟨rfl,HB8.out⟩
end
end Go.Proofs.YtoegmdnfbemppaaGreatDoor
