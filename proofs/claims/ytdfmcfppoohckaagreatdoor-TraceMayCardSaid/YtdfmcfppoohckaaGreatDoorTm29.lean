/- Layer 13: whether a test may be: the program's Check. -/
import Derived.Test.YtdfmcfppoohckaaGreatDoorTm27

namespace Go.Proofs.YtdfmcfppoohckaaGreatDoor
open Go.RowKit
section
set_option maxHeartbeats 4000000
set_option maxRecDepth 100000
variable {w:World} {T:Tst} {Ai Ac:Option Addr} {kv:Value}
theorem Zjr {a:Int}(h:Zd3 a=true):a=1\/a=2:=by unfold Zd3 at h;simp at h;omega
theorem Z4v (ci cc:Nat)(ha:Zd3 T.arch=true)(hT:Zcb w T Ai Ac kv):Calls Tryz.prog 46 #[Zbr T (.slice Ai T.init.length ci) (.slice Ac T.code.length cc) kv] w (RB w (.int .i64 (Zfq T.arch T.code))):=by
 rcases Zjr ha with h | h
 ·have:=Zyo ci cc h hT;rwa [<- h] at this
 ·have:=Zyp ci cc h hT;rwa [<- h] at this
theorem Z4k (ci cc:Nat)(ha:Zd3 T.arch=true)(hT:Zcb w T Ai Ac kv):Calls Tryz.prog 47 #[Zbr T (.slice Ai T.init.length ci) (.slice Ac T.code.length cc) kv] w (RB w (.int .i64 (Zfx T.arch T.code.length T.init))):=by
 rcases Zjr ha with h | h
 ·have:=Zx6 ci cc h hT;rwa [<- h] at this
 ·have:=Zx7 ci cc h hT;rwa [<- h] at this
theorem Z6e (l:List UInt8)(w:World)(hl:l.length<=9223372036854775807):Calls Tryz.prog 45 #[.string ⟨l.toArray⟩,.string ⟨#[32]⟩] w fun e w'=>e=.returned (.string ⟨(Lib.trimB l 32).toArray⟩)/\∃ n,w'=w.drewN n:=
 (Tryz.strings_Trim_one ⟨l.toArray⟩ 32 (by decide) w hl).mono fun e w' ⟨h1,h2⟩=>⟨h1,by
  rcases h2 with h | h
  ·exact⟨0,h⟩
  ·exact⟨1,h⟩⟩
theorem Zfi {T:Tst}(h1:Zfq T.arch T.code=0)(h2:Zfx T.arch T.code.length T.init=0):(Zel T).length<=1000000:=by
 have hi:T.init.length<=1024:=by
  refine Decidable.byContradiction fun h=>?_
  rw [Zf8 ω] at h2;cases h2
 have hc:T.code.length<=16:=by
  refine Decidable.byContradiction fun h=>?_
  rw [Zgo (Or.inr ω)] at h1;cases h1
 have hl:∀ c∈T.code,c.length<=256:=fun c hc=>by
  obtain⟨k,hk⟩:=List.getElem?_of_mem hc;refine Decidable.byContradiction fun h=>?_
  rw [Zfb hk ω] at h1;cases h1
 have ht:=Zeb T;have e1:∀ l:List Ini,(l.flatMap fun x=>[x.loc,x.vl]).length=2*l.length:=fun l=>by
  induction l with
  | nil=>rfl
  | cons x r ih=>rw [List.flatMap_cons,List.length_append,ih];simp;omega
 have e2:∀ l:List (List Ins),(∀ c∈l,c.length<=256)->(l.flatMap fun c=>c.map fun x=>x.loc).length<=256*l.length:=fun l=>by
  induction l with
  | nil=>intro _;simp
  | cons x r ih=>
   intro h;have h3:=ih (fun c hc=>h c (by simp [hc]));have h4:=h x (by simp);rw [List.flatMap_cons,List.length_append,List.length_map,List.length_cons];omega
 have:=e2 _ hl;unfold Zel;rw [List.length_append,List.length_append,List.length_map,e1];show 2*T.init.length+(_+(Za5 T).length)<=_;omega
theorem Zuj (ci cc:Nat)(hT:Zcb w T Ai Ac kv):Calls Tryz.prog 11 #[Zbr T (.slice Ai T.init.length ci) (.slice Ac T.code.length cc) kv] w (RB w (.int .i64 (Za6 T))):=by
 have HT:=Zh hT;have hnl:=hT.nlen;have hyl:=hT.ylen;have hcl:=hT.clen;have HBX:=Zh (Blk.new w 32 #[.int .i64 T.arch,.string ⟨T.name.toArray⟩,.string ⟨T.cycle.toArray⟩,.slice Ai T.init.length ci,.slice Ac T.code.length cc,.int .i64 T.q,.int .i64 T.k,.int .i64 T.t,.int .i64 T.r,.string ⟨T.l.toArray⟩,.int .i64 T.v,kv]);have HB0:=Zh (Zad w (.cells #[.int .i64 T.arch,.string ⟨T.name.toArray⟩,.string ⟨T.cycle.toArray⟩,.slice Ai T.init.length ci,.slice Ac T.code.length cc,.int .i64 T.q,.int .i64 T.k,.int .i64 T.t,.int .i64 T.r,.string ⟨T.l.toArray⟩,.int .i64 T.v,kv] 32 (0,0)));obtain⟨ab,hab⟩:∃ ab,Zd3 T.arch=ab:=⟨_,rfl⟩;have HAB:=Zh hab;cases ab with
 | false=>
  have HV:=Zh (show Za6 T=5 by unfold Za6;rw [hab];rfl);go_enter Tryz.func11,Tryz.ntmps11
  go_wp2_with (go_at_call 43;refine (Zkg _ _).mono ?_;rw [HAB.o];rintro e w' ⟨rfl,rfl⟩)
  go_ret;exact⟨Zai HV.o.symm,HB0.o⟩
 | true=>
  by_cases ht1:T.name.length<1\/1024<T.name.length
  ·have HV:=Zh (show Za6 T=130 by unfold Za6;rw [HAB.o,show Zg3 T.name=false from Zp0 (s:=⟨T.name.toArray⟩) ht1];rfl);have HSH:=Zh (fun w=>Zw2 33 ⟨T.name.toArray⟩ w hnl);rcases ht1 with ht1 | ht1
   all_goals
    go_enter Tryz.func11,Tryz.ntmps11
    go_wp2_with (go_at_call 43;refine (Zkg _ _).mono ?_;rw [HAB.o];rintro e w' ⟨rfl,rfl⟩)
    go_ret;exact⟨Zai HV.o.symm,Zad _ _⟩
  ·skip
   have hn1:¬ T.name.length<1:=ω;have hn2:¬ 1024<T.name.length:=ω;have HSH:=Zh (fun w=>Zw2 33 ⟨T.name.toArray⟩ w hnl);have HSC:=Zh (fun w=>Zw2 32 ⟨T.cycle.toArray⟩ w hyl);have HTI:=Zh (show Zg3 T.name=T.name.all (shC 33) from Zl8 (s:=⟨T.name.toArray⟩) (show 1<=T.name.length by omega) (show T.name.length<=1024 by omega));obtain⟨sv,hsv⟩:∃ sv,T.name.all (shC 33)=sv:=⟨_,rfl⟩;have HSV:=Zh hsv;cases sv with
   | false=>
    have HV:=Zh (show Za6 T=130 by unfold Za6;rw [HAB.o,HTI.o,HSV.o];rfl);go_enter Tryz.func11,Tryz.ntmps11
    go_wp2_with (first | (go_at_call 43;refine (Zkg _ _).mono ?_;rw [HAB.o];rintro e w' ⟨rfl,rfl⟩) | (go_at_call 44;refine (HSH.o _).mono ?_;rw [HSV.o];rintro e w' ⟨rfl,rfl⟩))
    go_ret;exact⟨Zai HV.o.symm,Zad _ _⟩
   | true=>
    have HT1:=Zh (HTI.o.trans HSV.o);by_cases hc1:262144<T.cycle.length
    ·have HV:=Zh (show Za6 T=130 by unfold Za6;rw [HAB.o,HT1.o,show Zfc T.cycle=false by unfold Zfc;rw [show decide (T.cycle.length<=262144)=false by simp;omega];rfl];rfl);go_enter Tryz.func11,Tryz.ntmps11;have fc1:decide ((262144:Int)<(T.cycle.length:Int))=true:=by simp;omega
     go_wp2_with (first | (go_at_call 43;refine (Zkg _ _).mono ?_;rw [HAB.o];rintro e w' ⟨rfl,rfl⟩) | (go_at_call 44;refine (HSH.o _).mono ?_;rw [HSV.o];rintro e w' ⟨rfl,rfl⟩))
     go_quiet (fail)
     go_wp2_with fail
     go_ret;exact⟨Zai HV.o.symm,Zam (Zad _ _) _⟩
    ·have fc1:decide ((262144:Int)<(T.cycle.length:Int))=false:=by simp;omega
     obtain⟨cv,hcv⟩:∃ cv,T.cycle.all (shC 32)=cv:=⟨_,rfl⟩;have HCV:=Zh hcv;have HCY:=Zh (show Zfc T.cycle=(cv&&Zho T.cycle) by unfold Zfc;rw [show decide (T.cycle.length<=262144)=true by simp;omega,hcv];rfl);cases cv with
     | false=>
      have HV:=Zh (show Za6 T=130 by unfold Za6;rw [HAB.o,HT1.o,HCY.o];rfl);go_enter Tryz.func11,Tryz.ntmps11
      go_wp2_with (first | (go_at_call 43;refine (Zkg _ _).mono ?_;rw [HAB.o];rintro e w' ⟨rfl,rfl⟩) | (go_at_call 44;refine (HSH.o _).mono ?_;rw [HSV.o];rintro e w' ⟨rfl,rfl⟩))
      go_quiet ((go_at_call 44;exact Zdq ((HSC.o _).mono (fun e w' h=>by rw [HCV.o] at h;exact h))))
      go_wp2_with fail
      go_ret;exact⟨Zai HV.o.symm,Zam (Zad _ _) _⟩
     | true=>
      obtain⟨eb,heb⟩:∃ eb,Zho T.cycle=eb:=⟨_,rfl⟩;have HEB:=Zh heb;have htr:=Zxf T.cycle;rw [heb] at htr;have HTR:=Zh (fun w=>Z6e T.cycle w hyl);cases eb with
      | false=>
       have e1:(Lib.trimB T.cycle 32 == T.cycle)=false:=by simpa using htr
       have HV:=Zh (show Za6 T=130 by unfold Za6;rw [HAB.o,HT1.o,HCY.o,HEB.o];rfl);go_enter Tryz.func11,Tryz.ntmps11
       go_wp2_with (first | (go_at_call 43;refine (Zkg _ _).mono ?_;rw [HAB.o];rintro e w' ⟨rfl,rfl⟩) | (go_at_call 44;refine (HSH.o _).mono ?_;rw [HSV.o];rintro e w' ⟨rfl,rfl⟩))
       go_quiet ((first | (go_at_call 44;exact Zdq ((HSC.o _).mono (fun e w' h=>by rw [HCV.o] at h;exact h))) | (go_at_call 45;exact Calls.quiet_of (HTR.o _))))
       go_wp2_with fail
       go_ret;exact⟨Zai HV.o.symm,Zam (Zad _ _) _⟩
      | true=>
       have e1:(Lib.trimB T.cycle 32 == T.cycle)=true:=by simpa using htr
       have HC2:=Zh (show Zfc T.cycle=true by rw [HCY.o,HEB.o];rfl);go_enter Tryz.func11,Tryz.ntmps11
       go_wp2_with (first | (go_at_call 43;refine (Zkg _ _).mono ?_;rw [HAB.o];rintro e w' ⟨rfl,rfl⟩) | (go_at_call 44;refine (HSH.o _).mono ?_;rw [HSV.o];rintro e w' ⟨rfl,rfl⟩))
       go_quiet ((first | (go_at_call 44;exact Zdq ((HSC.o _).mono (fun e w' h=>by rw [HCV.o] at h;exact h))) | (go_at_call 45;exact Calls.quiet_of (HTR.o _))))
       go_wp2_with fail
       refine (Z4v ci cc HAB.o (HT.o.below (Zam (Zad w _) _))).mono ?_;rintro e w2 ⟨rfl,hb⟩;have HBW1:=Zh (Zaa (Zam (Zad w _) _) hb);have HK1:=Zh (HBX.o.go (Zaa (Zam (Below.refl _ _) _) hb));have k0:=HK1.o.cell 0;have k1:=HK1.o.cell 1;have k2:=HK1.o.cell 2;have k3:=HK1.o.cell 3;have k4:=HK1.o.cell 4;have k5:=HK1.o.cell 5;have k6:=HK1.o.cell 6;have k7:=HK1.o.cell 7;have k8:=HK1.o.cell 8;have k9:=HK1.o.cell 9;have k10:=HK1.o.cell 10;have k11:=HK1.o.cell 11;by_cases hE1:Zfq T.arch T.code=0
       rotate_left
       ·have HV:=Zh (show Za6 T=Zfq T.arch T.code by unfold Za6;rw [HAB.o,HT1.o,HC2.o];simp [hE1]);have f1:(Zfq T.arch T.code != 0)=true:=by simpa using hE1
        have f2:(Zfq T.arch T.code == 0)=false:=by simpa using hE1
        go_wp2_with fail
        go_ret;exact⟨Zai HV.o.symm,HBW1.o⟩
       have XE1:=Zh hE1;have f1:(Zfq T.arch T.code != 0)=false:=by simpa using hE1
       go_wp2_with fail
       refine (Z4k ci cc HAB.o (HT.o.below (HBW1.o))).mono ?_;rintro e w3 ⟨rfl,hb⟩;have HBW2:=Zh (Zaa (HBW1.o) hb);have HK2:=Zh (HK1.o.go (hb));have k0:=HK2.o.cell 0;have k1:=HK2.o.cell 1;have k2:=HK2.o.cell 2;have k3:=HK2.o.cell 3;have k4:=HK2.o.cell 4;have k5:=HK2.o.cell 5;have k6:=HK2.o.cell 6;have k7:=HK2.o.cell 7;have k8:=HK2.o.cell 8;have k9:=HK2.o.cell 9;have k10:=HK2.o.cell 10;have k11:=HK2.o.cell 11;by_cases hE2:Zfx T.arch T.code.length T.init=0
       rotate_left
       ·have HV:=Zh (show Za6 T=Zfx T.arch T.code.length T.init by unfold Za6;rw [HAB.o,HT1.o,HC2.o,XE1.o];simp [hE2]);have f1:(Zfx T.arch T.code.length T.init != 0)=true:=by simpa using hE2
        have f2:(Zfx T.arch T.code.length T.init == 0)=false:=by simpa using hE2
        go_wp2_with fail
        go_ret;exact⟨Zai HV.o.symm,HBW2.o⟩
       have XE2:=Zh hE2;have f2:(Zfx T.arch T.code.length T.init != 0)=false:=by simpa using hE2
       go_wp2_with fail
       refine (Zul T.arch T.q T.k T.t T.r T.l T.v kv T.kids _ HT.o.llen (HT.o.below HBW2.o).kids).mono ?_;rintro e w4 ⟨rfl,hb⟩;have HBW3:=Zh (Zaa HBW2.o hb);have HK3:=Zh (HK2.o.go hb);have k0:=HK3.o.cell 0;have k1:=HK3.o.cell 1;have k2:=HK3.o.cell 2;have k3:=HK3.o.cell 3;have k4:=HK3.o.cell 4;have k5:=HK3.o.cell 5;have k6:=HK3.o.cell 6;have k7:=HK3.o.cell 7;have k8:=HK3.o.cell 8;have k9:=HK3.o.cell 9;have k10:=HK3.o.cell 10;have k11:=HK3.o.cell 11;by_cases hE3:Zbe T.arch T.q T.k T.t T.r T.l T.v T.kids=0
       rotate_left
       ·have HV:=Zh (show Za6 T=Zbe T.arch T.q T.k T.t T.r T.l T.v T.kids by unfold Za6;rw [HAB.o,HT1.o,HC2.o,XE1.o,XE2.o];simp [hE3]);exact m_81
       have XE3:=Zh hE3;have f3:(Zbe T.arch T.q T.k T.t T.r T.l T.v T.kids != 0)=false:=by simpa using hE3
       go_wp2_with fail
       refine (Z0q ci cc (HT.o.below HBW3.o)).mono ?_;rintro e w5 ⟨u,rfl,hown,hb⟩;obtain⟨Au,cu,rfl,hth⟩:=Zey hown;have HBW4:=Zh (Zaa HBW3.o hb);have HK4:=Zh (HK3.o.go hb);have HTH:=Zh hth;have htl:=Zeb T
       go_wp2_with fail
       have hs5:w.heap.size<w5.heap.size:=HK4.o.lt;go_loopw [67] (fun i wr=>∃ k:Nat,k<=(Za5 T).length/\i=.int .i64 k/\((Za5 T).take k).any (fun x=>decide ((T.code.length:Int)<=x.1))=false/\Below w5.heap.size w5 wr) (fun i _=>(Za5 T).length - (intOf i).toNat)
       case atStart=>exact⟨0,Nat.zero_le _,rfl,by simp,Below.refl _ _⟩
       case round=>
        obtain⟨k,hk,rfl,hno,hb⟩:=hrel;have HNO:=Zh hno;have HBR:=Zh hb;have hzr:=hb.size;have hsw:w.heap.size<wr.heap.size:=ω;have HKR:=Zh (HK4.o.go hb);have HBWR:=Zh (Zaa HBW4.o hb);by_cases hlt:k<(Za5 T).length
        ·have ex:=List.getElem?_eq_getElem hlt;obtain⟨x,hx⟩:∃ x,(Za5 T)[k]=x:=⟨_,rfl⟩;rw [hx] at ex;obtain⟨b,o,rfl,c0,c1,c2⟩:=Z0f (HTH.o.below HBR.o) ex;have hbl:b<wr.heap.size:=World.block_lt_of_cell? wr _ c0;have k4:=HKR.o.cell 4;have HX:=Zh ex;have hkl:(k:Int)<((Za5 T).length:Int):=ω;by_cases hbad:(T.code.length:Int)<=x.1
         ·have HV:=Zh (show Za6 T=80 by unfold Za6;rw [HAB.o,HT1.o,HC2.o,XE1.o,XE2.o,XE3.o,show (Za5 T).any (fun x=>decide ((T.code.length:Int)<=x.1))=true from List.any_eq_true.2 ⟨x,List.mem_of_getElem? HX.o,by simpa using hbad⟩];rfl)
          go_wp2_with fail
          go_ret;exact⟨Zai HV.o.symm,Zab HBWR.o _⟩
         ·have hbad2:x.1<(T.code.length:Int):=ω;have HNX:=Zh (show ((Za5 T).take (k+1)).any (fun x=>decide ((T.code.length:Int)<=x.1))=false by
           obtain⟨h1,h2⟩:=List.getElem?_eq_some_iff.1 HX.o;rw [List.take_succ_eq_append_getElem h1,List.any_append,HNO.o,h2];simp;omega)
          go_wp2_with fail
          go_roundw
          case rel=>exact⟨k+1,ω,by go_num,HNX.o,Zab HBR.o _⟩
          case measure=>exact msr
        ·have HANY:=Zh (show (Za5 T).any (fun x=>decide ((T.code.length:Int)<=x.1))=false by have:=HNO.o;rwa [List.take_of_length_le ω] at this);have k0:=HKR.o.cell 0;have k1:=HKR.o.cell 1;have k2:=HKR.o.cell 2;have k3:=HKR.o.cell 3;have k4:=HKR.o.cell 4;have k5:=HKR.o.cell 5;have k6:=HKR.o.cell 6;have k7:=HKR.o.cell 7;have k8:=HKR.o.cell 8;have k9:=HKR.o.cell 9;have k10:=HKR.o.cell 10;have k11:=HKR.o.cell 11;by_cases h64:64<(Zdp (Zel T)).length
         ·have HV:=Zh (show Za6 T=2 by unfold Za6;rw [HAB.o,HT1.o,HC2.o,XE1.o,XE2.o,XE3.o,HANY.o];simp [h64]);exact m_71
         ·have HV:=Zh (show Za6 T=0 by unfold Za6;rw [HAB.o,HT1.o,HC2.o,XE1.o,XE2.o,XE3.o,HANY.o];simp [h64]);exact m_71
end
end Go.Proofs.YtdfmcfppoohckaaGreatDoor
