/- Layer 13: whether a test may be: the program's Check. -/
import Derived.Test.YtoegmdnfbemppaaGreatDoorTf30

namespace Go.Proofs.YtoegmdnfbemppaaGreatDoor
open Go.RowKit
section
set_option maxHeartbeats 4000000
set_option maxRecDepth 100000
variable {w:World} {T:Tst} {Ai Ac:Option Addr} {kv:Value}
theorem Zjc {a:Int}(h:Zd0 a=true):a=1\/a=2:=by unfold Zd0 at h;simp at h;omega
theorem Z3n (ci cc:Nat)(ha:Zd0 T.arch=true)(hT:Zb4 w T Ai Ac kv):Calls Tryz.prog 81 #[Zbm T (.slice Ai T.init.length ci) (.slice Ac T.code.length cc) kv] w fun e w'=>e=.returned (.int .i64 (Zfe T.arch T.code))/\Below w.heap.size w w':=by
 rcases Zjc ha with h | h
 ·have:=Zyc ci cc h hT;rwa [<- h] at this
 ·have:=Zzm ci cc h hT;rwa [<- h] at this
theorem Z42 (ci cc:Nat)(ha:Zd0 T.arch=true)(hT:Zb4 w T Ai Ac kv):Calls Tryz.prog 82 #[Zbm T (.slice Ai T.init.length ci) (.slice Ac T.code.length cc) kv] w fun e w'=>e=.returned (.int .i64 (Zfu T.arch T.code.length T.init))/\Below w.heap.size w w':=by
 rcases Zjc ha with h | h
 ·have:=Zzg ci cc h hT;rwa [<- h] at this
 ·have:=Zze ci cc h hT;rwa [<- h] at this
theorem Z4l (l:List UInt8)(w:World)(hl:l.length<=9223372036854775807):Calls Tryz.prog 80 #[.string ⟨l.toArray⟩,.string ⟨#[32]⟩] w fun e w'=>e=.returned (.string ⟨(Lib.trimB l 32).toArray⟩)/\∃ n,w'=w.drewN n:=
 (Tryz.strings_Trim_one ⟨l.toArray⟩ 32 (by decide) w hl).mono fun e w' ⟨h1,h2⟩=>⟨h1,by
  rcases h2 with h | h
  ·exact⟨0,h⟩
  ·exact⟨1,h⟩⟩
theorem Ze0 {T:Tst}(h1:Zfe T.arch T.code=0)(h2:Zfu T.arch T.code.length T.init=0):(Zel T).length<=1000000:=by
 have hi:T.init.length<=1024:=by
  refine Decidable.byContradiction fun h=>?_
  rw [Zf0 (by omega)] at h2;cases h2
 have hc:T.code.length<=16:=by
  refine Decidable.byContradiction fun h=>?_
  rw [Zgg (Or.inr (by omega))] at h1;cases h1
 have hl:∀ c∈T.code,c.length<=256:=fun c hc=>by
  obtain⟨k,hk⟩:=List.getElem?_of_mem hc
  refine Decidable.byContradiction fun h=>?_
  rw [Ze4 hk (by omega)] at h1;cases h1
 have ht:=Zet T
 have e1:∀ l:List Ini,(l.flatMap fun x=>[x.loc,x.vl]).length=2*l.length:=fun l=>by
  induction l with
  | nil=>rfl
  | cons x r ih=>rw [List.flatMap_cons,List.length_append,ih];simp;omega
 have e2:∀ l:List (List Ins),(∀ c∈l,c.length<=256)->(l.flatMap fun c=>c.map fun x=>x.loc).length<=256*l.length:=fun l=>by
  induction l with
  | nil=>intro _;simp
  | cons x r ih=>
   intro h
   have h3:=ih (fun c hc=>h c (by simp [hc]))
   have h4:=h x (by simp)
   rw [List.flatMap_cons,List.length_append,List.length_map,List.length_cons];omega
 have:=e2 _ hl
 unfold Zel
 rw [List.length_append,List.length_append,List.length_map,e1]
 show 2*T.init.length+(_+(Za8 T).length)<=_
 omega
theorem Zti (ci cc:Nat)(hT:Zb4 w T Ai Ac kv):Calls Tryz.prog 28 #[Zbm T (.slice Ai T.init.length ci) (.slice Ac T.code.length cc) kv] w fun e w'=>e=.returned (.int .i64 (Za5 T))/\Below w.heap.size w w':=by
 have HT:=Zh hT
 have hnl:=hT.nlen
 have hyl:=hT.ylen
 have hcl:=hT.clen
 have HBX:=Zh (Blk.new w 32 #[.int .i64 T.arch,.string ⟨T.name.toArray⟩,.string ⟨T.cycle.toArray⟩,.slice Ai T.init.length ci,.slice Ac T.code.length cc,.int .i64 T.q,.int .i64 T.k,.int .i64 T.t,.int .i64 T.r,.string ⟨T.l.toArray⟩,.int .i64 T.v,kv])
 have HB0:=Zh (Zad w (.cells #[.int .i64 T.arch,.string ⟨T.name.toArray⟩,.string ⟨T.cycle.toArray⟩,.slice Ai T.init.length ci,.slice Ac T.code.length cc,.int .i64 T.q,.int .i64 T.k,.int .i64 T.t,.int .i64 T.r,.string ⟨T.l.toArray⟩,.int .i64 T.v,kv] 32 (0,0)))
 clear hT
 obtain⟨ab,hab⟩:∃ ab,Zd0 T.arch=ab:=⟨_,rfl⟩
 have HAB:=Zh hab
 cases ab with
 | false=>
  have HV:=Zh (show Za5 T=5 by unfold Za5;rw [hab];rfl)
  clear hab
  go_enter Tryz.func28,Tryz.ntmps28
  go_wp2_with (go_at_call 78;refine (Zjq _ _).mono ?_;rw [HAB.out];rintro e w' ⟨rfl,rfl⟩)
  go_ret
  exact⟨Zah HV.out.symm,HB0.out⟩
 | true=>
  clear hab
  by_cases ht1:T.name.length<1\/1024<T.name.length
  ·have HV:=Zh (show Za5 T=130 by unfold Za5;rw [HAB.out,show Zgx T.name=false from Znw (s:=⟨T.name.toArray⟩) ht1];rfl)
   have HSH:=Zh (fun w=>Zuk 33 ⟨T.name.toArray⟩ w hnl)
   rcases ht1 with ht1 | ht1
   all_goals
    go_enter Tryz.func28,Tryz.ntmps28
    go_wp2_with (go_at_call 78;refine (Zjq _ _).mono ?_;rw [HAB.out];rintro e w' ⟨rfl,rfl⟩)
    go_ret
    exact⟨Zah HV.out.symm,Zad _ _⟩
  ·skip
   have hn1:¬ T.name.length<1:=by omega
   have hn2:¬ 1024<T.name.length:=by omega
   clear ht1
   have HSH:=Zh (fun w=>Zuk 33 ⟨T.name.toArray⟩ w hnl)
   have HSC:=Zh (fun w=>Zuk 32 ⟨T.cycle.toArray⟩ w hyl)
   have HTI:=Zh (show Zgx T.name=T.name.all (shC 33) from Zls (s:=⟨T.name.toArray⟩) (show 1<=T.name.length by omega) (show T.name.length<=1024 by omega))
   obtain⟨sv,hsv⟩:∃ sv,T.name.all (shC 33)=sv:=⟨_,rfl⟩
   have HSV:=Zh hsv
   clear hsv
   cases sv with
   | false=>
    have HV:=Zh (show Za5 T=130 by unfold Za5;rw [HAB.out,HTI.out,HSV.out];rfl)
    go_enter Tryz.func28,Tryz.ntmps28
    go_wp2_with (first | (go_at_call 78;refine (Zjq _ _).mono ?_;rw [HAB.out];rintro e w' ⟨rfl,rfl⟩) | (go_at_call 79;refine (HSH.out _).mono ?_;rw [HSV.out];rintro e w' ⟨rfl,rfl⟩))
    go_ret
    exact⟨Zah HV.out.symm,Zad _ _⟩
   | true=>
    have HT1:=Zh (HTI.out.trans HSV.out)
    by_cases hc1:262144<T.cycle.length
    ·have HV:=Zh (show Za5 T=130 by unfold Za5;rw [HAB.out,HT1.out,show Ze1 T.cycle=false by unfold Ze1;rw [show decide (T.cycle.length<=262144)=false by simp;omega];rfl];rfl)
     go_enter Tryz.func28,Tryz.ntmps28
     have fc1:decide ((262144:Int)<(T.cycle.length:Int))=true:=by simp;omega
     go_wp2_with (first | (go_at_call 78;refine (Zjq _ _).mono ?_;rw [HAB.out];rintro e w' ⟨rfl,rfl⟩) | (go_at_call 79;refine (HSH.out _).mono ?_;rw [HSV.out];rintro e w' ⟨rfl,rfl⟩))
     go_quiet (fail)
     exact m_143
    ·have fc1:decide ((262144:Int)<(T.cycle.length:Int))=false:=by simp;omega
     obtain⟨cv,hcv⟩:∃ cv,T.cycle.all (shC 32)=cv:=⟨_,rfl⟩
     have HCV:=Zh hcv
     have HCY:=Zh (show Ze1 T.cycle=(cv&&Zh6 T.cycle) by unfold Ze1;rw [show decide (T.cycle.length<=262144)=true by simp;omega,hcv];rfl)
     clear hcv
     cases cv with
     | false=>
      have HV:=Zh (show Za5 T=130 by unfold Za5;rw [HAB.out,HT1.out,HCY.out];rfl)
      go_enter Tryz.func28,Tryz.ntmps28
      go_wp2_with (first | (go_at_call 78;refine (Zjq _ _).mono ?_;rw [HAB.out];rintro e w' ⟨rfl,rfl⟩) | (go_at_call 79;refine (HSH.out _).mono ?_;rw [HSV.out];rintro e w' ⟨rfl,rfl⟩))
      go_quiet ((go_at_call 79;exact Zdn ((HSC.out _).mono (fun e w' h=>by rw [HCV.out] at h;exact h))))
      exact m_143
     | true=>
      obtain⟨eb,heb⟩:∃ eb,Zh6 T.cycle=eb:=⟨_,rfl⟩
      have HEB:=Zh heb
      have htr:=Zt6 T.cycle
      rw [heb] at htr
      have HTR:=Zh (fun w=>Z4l T.cycle w hyl)
      cases eb with
      | false=>
       have e1:(Lib.trimB T.cycle 32 == T.cycle)=false:=by simpa using htr
       have HV:=Zh (show Za5 T=130 by unfold Za5;rw [HAB.out,HT1.out,HCY.out,HEB.out];rfl)
       clear heb htr
       go_enter Tryz.func28,Tryz.ntmps28
       go_wp2_with (first | (go_at_call 78;refine (Zjq _ _).mono ?_;rw [HAB.out];rintro e w' ⟨rfl,rfl⟩) | (go_at_call 79;refine (HSH.out _).mono ?_;rw [HSV.out];rintro e w' ⟨rfl,rfl⟩))
       go_quiet ((first | (go_at_call 79;exact Zdn ((HSC.out _).mono (fun e w' h=>by rw [HCV.out] at h;exact h))) | (go_at_call 80;exact Calls.quiet_of (HTR.out _))))
       exact m_143
      | true=>
       have e1:(Lib.trimB T.cycle 32 == T.cycle)=true:=by simpa using htr
       clear heb htr
       have HC2:=Zh (show Ze1 T.cycle=true by rw [HCY.out,HEB.out];rfl)
       go_enter Tryz.func28,Tryz.ntmps28
       go_wp2_with (first | (go_at_call 78;refine (Zjq _ _).mono ?_;rw [HAB.out];rintro e w' ⟨rfl,rfl⟩) | (go_at_call 79;refine (HSH.out _).mono ?_;rw [HSV.out];rintro e w' ⟨rfl,rfl⟩))
       go_quiet ((first | (go_at_call 79;exact Zdn ((HSC.out _).mono (fun e w' h=>by rw [HCV.out] at h;exact h))) | (go_at_call 80;exact Calls.quiet_of (HTR.out _))))
       go_wp2_with fail
       refine (Z3n ci cc HAB.out (HT.out.below (Zan (Zad w _) _))).mono ?_
       rintro e w2 ⟨rfl,hb⟩
       have HBW1:=Zh (Zaa (Zan (Zad w _) _) hb)
       have HK1:=Zh (HBX.out.go (Zaa (Zan (Below.refl _ _) _) hb))
       clear hb
       have k0:=HK1.out.cell 0;have k1:=HK1.out.cell 1;have k2:=HK1.out.cell 2;have k3:=HK1.out.cell 3;have k4:=HK1.out.cell 4;have k5:=HK1.out.cell 5;have k6:=HK1.out.cell 6;have k7:=HK1.out.cell 7;have k8:=HK1.out.cell 8;have k9:=HK1.out.cell 9;have k10:=HK1.out.cell 10;have k11:=HK1.out.cell 11
       by_cases hE1:Zfe T.arch T.code=0
       rotate_left
       ·have HV:=Zh (show Za5 T=Zfe T.arch T.code by unfold Za5;rw [HAB.out,HT1.out,HC2.out];simp [hE1])
        have f1:(Zfe T.arch T.code != 0)=true:=by simpa using hE1
        have f2:(Zfe T.arch T.code == 0)=false:=by simpa using hE1
        go_wp2_with fail
        go_ret
        exact⟨Zah HV.out.symm,HBW1.out⟩
       have XE1:=Zh hE1
       have f1:(Zfe T.arch T.code != 0)=false:=by simpa using hE1
       clear hE1
       go_wp2_with fail
       refine (Z42 ci cc HAB.out (HT.out.below (HBW1.out))).mono ?_
       rintro e w3 ⟨rfl,hb⟩
       have HBW2:=Zh (Zaa (HBW1.out) hb)
       have HK2:=Zh (HK1.out.go (hb))
       clear hb k0 k1 k2 k3 k4 k5 k6 k7 k8 k9 k10 k11
       have k0:=HK2.out.cell 0;have k1:=HK2.out.cell 1;have k2:=HK2.out.cell 2;have k3:=HK2.out.cell 3;have k4:=HK2.out.cell 4;have k5:=HK2.out.cell 5;have k6:=HK2.out.cell 6;have k7:=HK2.out.cell 7;have k8:=HK2.out.cell 8;have k9:=HK2.out.cell 9;have k10:=HK2.out.cell 10;have k11:=HK2.out.cell 11
       by_cases hE2:Zfu T.arch T.code.length T.init=0
       rotate_left
       ·have HV:=Zh (show Za5 T=Zfu T.arch T.code.length T.init by unfold Za5;rw [HAB.out,HT1.out,HC2.out,XE1.out];simp [hE2])
        have f1:(Zfu T.arch T.code.length T.init != 0)=true:=by simpa using hE2
        have f2:(Zfu T.arch T.code.length T.init == 0)=false:=by simpa using hE2
        go_wp2_with fail
        go_ret
        exact⟨Zah HV.out.symm,HBW2.out⟩
       have XE2:=Zh hE2
       have f2:(Zfu T.arch T.code.length T.init != 0)=false:=by simpa using hE2
       clear hE2
       go_wp2_with fail
       refine (Zwn T.arch T.q T.k T.t T.r T.l T.v kv T.kids _ HT.out.llen (HT.out.below HBW2.out).kids).mono ?_
       rintro e w4 ⟨rfl,hb⟩
       have HBW3:=Zh (Zaa HBW2.out hb)
       have HK3:=Zh (HK2.out.go hb)
       clear hb k0 k1 k2 k3 k4 k5 k6 k7 k8 k9 k10 k11
       have k0:=HK3.out.cell 0;have k1:=HK3.out.cell 1;have k2:=HK3.out.cell 2;have k3:=HK3.out.cell 3;have k4:=HK3.out.cell 4;have k5:=HK3.out.cell 5;have k6:=HK3.out.cell 6;have k7:=HK3.out.cell 7;have k8:=HK3.out.cell 8;have k9:=HK3.out.cell 9;have k10:=HK3.out.cell 10;have k11:=HK3.out.cell 11
       by_cases hE3:Zbd T.arch T.q T.k T.t T.r T.l T.v T.kids=0
       rotate_left
       ·have HV:=Zh (show Za5 T=Zbd T.arch T.q T.k T.t T.r T.l T.v T.kids by unfold Za5;rw [HAB.out,HT1.out,HC2.out,XE1.out,XE2.out];simp [hE3])
        exact m_82
       have XE3:=Zh hE3
       have f3:(Zbd T.arch T.q T.k T.t T.r T.l T.v T.kids != 0)=false:=by simpa using hE3
       clear hE3
       go_wp2_with fail
       refine (Z0e ci cc (HT.out.below HBW3.out)).mono ?_
       rintro e w5 ⟨u,rfl,hown,hb⟩
       obtain⟨Au,cu,rfl,hth⟩:=Zes hown
       have HBW4:=Zh (Zaa HBW3.out hb)
       have HK4:=Zh (HK3.out.go hb)
       have HTH:=Zh hth
       have htl:=Zet T
       clear hb hown hth k0 k1 k2 k3 k4 k5 k6 k7 k8 k9 k10 k11
       go_wp2_with fail
       have hs5:w.heap.size<w5.heap.size:=HK4.out.lt
       go_loopw [67] (fun i wr=>∃ k:Nat,k<=(Za8 T).length/\i=.int .i64 k/\((Za8 T).take k).any (fun x=>decide ((T.code.length:Int)<=x.1))=false/\Below w5.heap.size w5 wr) (fun i _=>(Za8 T).length - (intOf i).toNat)
       case atStart=>exact⟨0,Nat.zero_le _,rfl,by simp,Below.refl _ _⟩
       case round=>
        obtain⟨k,hk,rfl,hno,hb⟩:=hrel
        have HNO:=Zh hno
        have HBR:=Zh hb
        have hzr:=hb.size
        have hsw:w.heap.size<wr.heap.size:=by omega
        have HKR:=Zh (HK4.out.go hb)
        have HBWR:=Zh (Zaa HBW4.out hb)
        clear hno hb
        by_cases hlt:k<(Za8 T).length
        ·have ex:=List.getElem?_eq_getElem hlt
         obtain⟨x,hx⟩:∃ x,(Za8 T)[k]=x:=⟨_,rfl⟩
         rw [hx] at ex
         obtain⟨b,o,rfl,c0,c1,c2⟩:=Zyg (HTH.out.below HBR.out) ex
         have hbl:b<wr.heap.size:=World.block_lt_of_cell? wr _ c0
         have k4:=HKR.out.cell 4
         have HX:=Zh ex
         have hkl:(k:Int)<((Za8 T).length:Int):=by omega
         clear ex hx
         by_cases hbad:(T.code.length:Int)<=x.1
         ·have HV:=Zh (show Za5 T=80 by unfold Za5;rw [HAB.out,HT1.out,HC2.out,XE1.out,XE2.out,XE3.out,show (Za8 T).any (fun x=>decide ((T.code.length:Int)<=x.1))=true from List.any_eq_true.2 ⟨x,List.mem_of_getElem? HX.out,by simpa using hbad⟩];rfl)
          go_wp2_with fail
          go_ret
          exact⟨Zah HV.out.symm,Zab HBWR.out _⟩
         ·have hbad2:x.1<(T.code.length:Int):=by omega
          have HNX:=Zh (show ((Za8 T).take (k+1)).any (fun x=>decide ((T.code.length:Int)<=x.1))=false by
           obtain⟨h1,h2⟩:=List.getElem?_eq_some_iff.1 HX.out
           rw [List.take_succ_eq_append_getElem h1,List.any_append,HNO.out,h2];simp;omega)
          go_wp2_with fail
          go_roundw
          case rel=>exact⟨k+1,by omega,by go_num,HNX.out,Zab HBR.out _⟩
          case measure=>simp [intOf];omega
        ·have HANY:=Zh (show (Za8 T).any (fun x=>decide ((T.code.length:Int)<=x.1))=false by have:=HNO.out;rwa [List.take_of_length_le (by omega)] at this)
         have k0:=HKR.out.cell 0;have k1:=HKR.out.cell 1;have k2:=HKR.out.cell 2;have k3:=HKR.out.cell 3;have k4:=HKR.out.cell 4;have k5:=HKR.out.cell 5;have k6:=HKR.out.cell 6;have k7:=HKR.out.cell 7;have k8:=HKR.out.cell 8;have k9:=HKR.out.cell 9;have k10:=HKR.out.cell 10;have k11:=HKR.out.cell 11
         by_cases h64:64<(Zdl (Zel T)).length
         ·have HV:=Zh (show Za5 T=2 by unfold Za5;rw [HAB.out,HT1.out,HC2.out,XE1.out,XE2.out,XE3.out,HANY.out];simp [h64])
          exact m_70
         ·have HV:=Zh (show Za5 T=0 by unfold Za5;rw [HAB.out,HT1.out,HC2.out,XE1.out,XE2.out,XE3.out,HANY.out];simp [h64])
          exact m_70
end
end Go.Proofs.YtoegmdnfbemppaaGreatDoor
