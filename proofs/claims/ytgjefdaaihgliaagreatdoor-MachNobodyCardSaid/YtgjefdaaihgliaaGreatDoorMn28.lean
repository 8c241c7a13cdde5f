/- Layer 13: a test's locations: the reference. -/
import Derived.Test.YtgjefdaaihgliaaGreatDoorMn24

namespace Go.Proofs.YtgjefdaaihgliaaGreatDoor
open Go.RowKit
section
theorem Zre (s:Nm):∀ l,(Zot s l).length=l.length+1
 | []=>rfl
 | y :: r=>by
  unfold Zot
  split
  ·rfl
  ·simp [Zre s r]
theorem Zyk (l:List Nm)(s:Nm):(Zkw l s).length<=l.length+1:=by
 unfold Zkw
 split
 ·omega
 ·rw [Zre];omega
def Zib (R l rest:List Nm):Prop:=rest.foldl Zkw l=Zdq R/\l.length+rest.length<=R.length
theorem Zib.step {R l rest:List Nm}{s:Nm}(h:Zib R l (s :: rest)):Zib R (Zkw l s) rest:=⟨h.1,by have:=h.2;have:=Zyk l s;simp at *;omega⟩
theorem Zib.start (R:List Nm):Zib R [] R:=⟨Zsr R,by simp⟩
theorem Zib.len {R l rest:List Nm}(h:Zib R l rest)(hR:R.length<=1000000):l.length<=1000000:=by have:=h.2;omega
theorem Zib.done {R l:List Nm}(h:Zib R l []):l=Zdq R:=h.1
section
set_option maxHeartbeats 4000000
set_option maxRecDepth 100000
variable {w:World} {T:Tst} {Ai Ac:Option Addr} {kv:Value}
theorem Zi2.at13 {w:World}{A:Option Addr}{l:List Ini}(h:Zi2 w A l){i:Nat}{x:Ini}(hx:l[i]?=some x):∃ b o,A=some ⟨b,o,none⟩/\w.cell? ⟨b,o+i*5,none⟩=some (.int .i64 x.th)/\w.cell? ⟨b,o+i*5+1,none⟩=some (.int .i64 x.rg)/\w.cell? ⟨b,o+i*5+2,none⟩=some (.string ⟨x.loc.toArray⟩)/\w.cell? ⟨b,o+i*5+3,none⟩=some (.string ⟨x.vl.toArray⟩)/\
  w.cell? ⟨b,o+i*5+4,none⟩=some (.int .i64 x.vn)/\x.loc.length<=9223372036854775807/\x.vl.length<=9223372036854775807/\(-9223372036854775808<=x.th/\x.th<=9223372036854775807)/\-9223372036854775808<=x.rg/\x.rg<=9223372036854775807:=h i x hx
def Z7e (L:List Nm)(w:World)(e:Ending)(w':World):Prop:=∃ A cap,e=.returned (.slice A L.length cap)/\Zlc w.heap.size w' A cap L/\Below w.heap.size w w'
theorem Zmz (ci cc:Nat)(hraw:(Zel T).length<=1000000)(hT:Zcu w T Ai Ac kv):Calls Tryz.prog 86 #[Zbu T (.slice Ai T.init.length ci) (.slice Ac T.code.length cc) kv] w (Z7e (Zdq (Zel T)) w):=by
 have HI:=Zh hT.init;have HC:=Zh hT.code;have HKD:=Zh hT.kids;have hll:=hT.llen;have hil:=hT.ilen;have hcl:=hT.clen;have HRL:=Zh hraw;have HST:=Zh (show Zib (Zel T) [] ((T.init.drop 0).flatMap (fun x=>[x.loc,x.vl])++((T.code.flatMap fun c=>c.map fun x=>x.loc)++(Za8 T).map fun x=>x.2.2)) by rw [List.drop_zero];exact Zib.start _);simp only [Zbu];obtain⟨n,hn⟩:∃ n,T.init.length=n:=⟨_,rfl⟩;obtain⟨m,hm⟩:∃ m,T.code.length=m:=⟨_,rfl⟩;have HN:=Zh hn;have HM:=Zh hm;rw [hn,hm];rw [hn] at hil;rw [hm] at hcl;have HBX:=Zh (Blk.new w 32 #[.int .i64 T.arch,.string ⟨T.name.toArray⟩,.string ⟨T.cycle.toArray⟩,.slice Ai n ci,.slice Ac m cc,.int .i64 T.q,.int .i64 T.k,.int .i64 T.t,.int .i64 T.r,.string ⟨T.l.toArray⟩,.int .i64 T.v,kv]);have HB0:=Zh (Zad w (.cells #[.int .i64 T.arch,.string ⟨T.name.toArray⟩,.string ⟨T.cycle.toArray⟩,.slice Ai n ci,.slice Ac m cc,.int .i64 T.q,.int .i64 T.k,.int .i64 T.t,.int .i64 T.r,.string ⟨T.l.toArray⟩,.int .i64 T.v,kv] 32 (0,0)));go_enter Tryz.func86,Tryz.ntmps86
 go_wp2_with fail
 generalize hw1:w.alloc (.cells #[.int .i64 T.arch,.string ⟨T.name.toArray⟩,.string ⟨T.cycle.toArray⟩,.slice Ai n ci,.slice Ac m cc,.int .i64 T.q,.int .i64 T.k,.int .i64 T.t,.int .i64 T.r,.string ⟨T.l.toArray⟩,.int .i64 T.v,kv] 32 (0,0))=w1 at HBX HB0 ⊢;have hsz:w.heap.size<w1.heap.size:=HBX.o.lt;go_loopw [4,3] (fun i vv wr=>∃ (k:Nat) (l:List Nm) (Av:Option Addr) (cv:Nat),k<=n/\i=.int .i64 k/\vv=.slice Av l.length cv/\Zlc w.heap.size wr Av cv l/\Zib (Zel T) l ((T.init.drop k).flatMap (fun x=>[x.loc,x.vl])++((T.code.flatMap fun c=>c.map fun x=>x.loc)++(Za8 T).map fun x=>x.2.2))/\Below w1.heap.size w1 wr) (fun i _ _=>n - (intOf i).toNat)
 case atStart=>exact⟨0,[],none,0,Nat.zero_le _,rfl,rfl,Zlc.nil (Nat.le_of_lt hsz),HST.o,Below.refl _ _⟩
 case round=>
  obtain⟨k,l,Av,cv,hk,rfl,rfl,hv,hl,hb⟩:=hrel;have HV:=Zh hv;have HL:=Zh hl;have HBR:=Zh hb;have hzr:=hb.size;have hsw:w.heap.size<wr.heap.size:=ω;have k3:=(HBX.o.go hb).cell 3;have HBW:=Zh (Zab HB0.o hb);by_cases hlt:k<n
  ·have hlk:k<T.init.length:=by rw [HN.o];exact hlt
   have ex:=List.getElem?_eq_getElem hlk;obtain⟨x,hx⟩:∃ x,T.init[k]=x:=⟨_,rfl⟩;rw [hx] at ex;obtain⟨b,o,rfl,c0,c1,c2,c3,c4,l1,l2,l3,l4⟩:=Zi2.at13 HI.o ex;have hbl:b<w.heap.size:=World.block_lt_of_cell? w _ c0;have d2:=Zac c2 HBW.o;have d3:=Zac c3 HBW.o;have HC3:=Zh c3;have hkn:(k:Int)<(n:Int):=ω;have HL2:=Zh (show Zib (Zel T) l (x.loc :: x.vl :: ((T.init.drop (k+1)).flatMap (fun x=>[x.loc,x.vl])++((T.code.flatMap fun c=>c.map fun x=>x.loc)++(Za8 T).map fun x=>x.2.2))) by have:=HL.o;rw [Zcb ex] at this;simpa using this)
   go_wp2_with fail
   refine (Zrq _ _ (l) x.loc _ (Zib.len HL2.o HRL.o) HV.o).mono ?_;rintro e wp1 ⟨Ap1,cp1,rfl,hat,hb⟩;have HPT1:=Zh hat;have HPB1:=Zh hb;have d3b:=Zac HC3.o (Zab HBW.o HPB1.o);have k3b:=(HBX.o.go (Zab HBR.o HPB1.o)).cell 3
   go_wp2_with fail
   refine (Zrq _ _ (Zkw l x.loc) x.vl _ (Zib.len HL2.o.step HRL.o) HPT1.o).mono ?_;rintro e wp2 ⟨Ap2,cp2,rfl,hat,hb⟩;have HPT2:=Zh hat;have HPB2:=Zh hb
   go_wp2_with fail
   go_roundw
   case rel=>exact⟨k+1,_,_,_,ω,by go_num,rfl,HPT2.o,HL2.o.step.step,Zab HBR.o (Zab HPB1.o HPB2.o)⟩
   case measure=>exact msr
  ·have hkn:k=n:=ω;subst hkn;have HL1:=Zh (show Zib (Zel T) l ((T.code.flatMap fun c=>c.map fun x=>x.loc)++(Za8 T).map fun x=>x.2.2) by have:=HL.o;rw [List.drop_of_length_le (by have:=HN.o;omega)] at this;simpa using this);have HV0:=Zh HV.o;have HBA:=Zh HBR.o
   go_wp2_with fail
   obtain⟨wa,hwa⟩:∃ wa:World,wa=wr:=⟨_,rfl⟩;subst hwa;go_loopw [5,3] (fun i vv wr=>∃ (k:Nat) (l:List Nm) (Av:Option Addr) (cv:Nat),k<=m/\i=.int .i64 k/\vv=.slice Av l.length cv/\Zlc w.heap.size wr Av cv l/\Zib (Zel T) l (((T.code.drop k).flatMap fun c=>c.map fun x=>x.loc)++(Za8 T).map fun x=>x.2.2)/\Below w1.heap.size w1 wr) (fun i _ _=>m - (intOf i).toNat)
   case atStart=>exact⟨0,l,Av,cv,Nat.zero_le _,rfl,rfl,HV0.o,HL1.o,HBA.o⟩
   case round=>
    obtain⟨k2,l2,Av2,cv2,hk2,rfl,rfl,hv,hl,hb⟩:=hrel;have HV:=Zh hv;have HL:=Zh hl;have HBR:=Zh hb;have hzr:=hb.size;have hsw:w.heap.size<wr.heap.size:=ω;have k4:=(HBX.o.go hb).cell 4;have HBW:=Zh (Zab HB0.o hb);by_cases hlt:k2<m
    ·have hlk:k2<T.code.length:=by rw [HM.o];exact hlt
     have ex:=List.getElem?_eq_getElem hlk;obtain⟨c,hx⟩:∃ c,T.code[k2]=c:=⟨_,rfl⟩;rw [hx] at ex;obtain⟨b,o,A2,c2,rfl,hc0,hA2,hl1,hl2⟩:=HC.o.at_ ex;have HCL:=Zh (show Zib (Zel T) l2 ((c.map fun x=>x.loc)++(((T.code.drop (k2+1)).flatMap fun c=>c.map fun x=>x.loc)++(Za8 T).map fun x=>x.2.2)) by have:=HL.o;rw [Zcb ex] at this;simpa using this);have HA2:=Zh hA2;have HC0:=Zh hc0;have hkn:(k2:Int)<(m:Int):=ω
     go_wp2_with fail
     obtain⟨wi,hwi⟩:∃ wi:World,wi=wr:=⟨_,rfl⟩;subst hwi;go_loopw [6,3] (fun i vv wr=>∃ (i':Nat) (l:List Nm) (Av:Option Addr) (cv:Nat),i'<=c.length/\i=.int .i64 i'/\vv=.slice Av l.length cv/\Zlc w.heap.size wr Av cv l/\Zib (Zel T) l (((c.drop i').map fun x=>x.loc)++(((T.code.drop (k2+1)).flatMap fun c=>c.map fun x=>x.loc)++(Za8 T).map fun x=>x.2.2))/\Below w1.heap.size w1 wr) (fun i _ _=>c.length - (intOf i).toNat)
     case atStart=>exact⟨0,l2,Av2,cv2,Nat.zero_le _,rfl,rfl,HV.o,HCL.o,HBR.o⟩
     case round=>
      obtain⟨i,l3,Av3,cv3,hi,rfl,rfl,hv3,hl3,hb3⟩:=hrel;have HV:=Zh hv3;have HCL:=Zh hl3;have HBR:=Zh hb3;have hzr:=hb3.size;have hsw:w.heap.size<wr.heap.size:=ω;have k4:=(HBX.o.go hb3).cell 4;have HBW:=Zh (Zab HB0.o hb3);have hc0r:=Zac HC0.o HBW.o;by_cases hli:i<c.length
      ·have ey:=List.getElem?_eq_getElem hli;obtain⟨x,hx⟩:∃ x,c[i]=x:=⟨_,rfl⟩;rw [hx] at ey;obtain⟨b2,o2,rfl,hCi⟩:=HA2.o.at_ ey;have hbl:=hCi.lt;have d5:=(hCi.go HBW.o).c5;have hkl:(i:Int)<(c.length:Int):=ω;have HL2:=Zh (show Zib (Zel T) l3 (x.loc :: (((c.drop (i+1)).map fun x=>x.loc)++(((T.code.drop (k2+1)).flatMap fun c=>c.map fun x=>x.loc)++(Za8 T).map fun x=>x.2.2))) by have:=HCL.o;rw [Zcb ey] at this;simpa using this)
       go_wp2_with (go_at_call 132;refine (Zrq _ _ (l3) x.loc _ (Zib.len HL2.o HRL.o) HV.o).mono ?_;rintro e wp3 ⟨Ap3,cp3,rfl,hat,hb⟩;have HPT3:=Zh hat;have HPB3:=Zh hb;clear hat hb)
       go_roundw
       case rel=>exact⟨i+1,_,_,_,ω,by go_num,rfl,HPT3.o,HL2.o.step,Zab HBR.o HPB3.o⟩
       case measure=>exact msr
      ·have HL3:=Zh (show Zib (Zel T) l3 (((T.code.drop (k2+1)).flatMap fun c=>c.map fun x=>x.loc)++(Za8 T).map fun x=>x.2.2) by have:=HCL.o;rw [List.drop_of_length_le ω] at this;simpa using this)
       go_wp2_with fail
       go_roundw
       case rel=>exact⟨k2+1,l3,Av3,cv3,ω,by go_num,rfl,HV.o,HL3.o,HBR.o⟩
       case measure=>exact msr
    ·have hkm:k2=m:=ω;subst hkm;have HL1:=Zh (show Zib (Zel T) l2 ((Za8 T).map fun x=>x.2.2) by have:=HL.o;rw [List.drop_of_length_le (by have:=HM.o;omega)] at this;simpa using this);have HV0:=Zh HV.o;have HBA:=Zh HBR.o;have HKW:=Zh (Zd7.below HKD.o (Nat.le_refl _) HBW.o);obtain⟨-,-,-,-,-,k5,k6,k7,k8,k9,k10,k11⟩:=(HBX.o.go HBR.o).c12
     go_wp2_with (go_at_call 51;refine (Z8l w.heap.size kv ω HKW.o hll).mono ?_;rw [show Zl9 T.q T.k T.t T.r T.l T.v T.kids=Za8 T from rfl];rintro e w2 ⟨Au,cu,rfl,hths,hb2⟩;have HTH:=Zh hths;have HB2:=Zh hb2;clear hths hb2)
     have HVS:=Zh (HV0.o.below HB2.o);have HBS:=Zh (Zab HBA.o HB2.o);have HT0:=Zh HTH.o.1;have htl:=Zez T;go_loopw [9,3] (fun i vv wr=>∃ (k:Nat) (l:List Nm) (Av:Option Addr) (cv:Nat),k<=(Za8 T).length/\i=.int .i64 k/\vv=.slice Av l.length cv/\Zlc w.heap.size wr Av cv l/\Zib (Zel T) l (((Za8 T).drop k).map fun x=>x.2.2)/\Below w2.heap.size w2 wr) (fun i _ _=>(Za8 T).length - (intOf i).toNat)
     case atStart=>exact⟨0,l2,Av2,cv2,Nat.zero_le _,rfl,rfl,HVS.o,HL1.o,Below.refl _ _⟩
     case round=>
      obtain⟨j,l4,Av4,cv4,hj,rfl,rfl,hv,hl,hb⟩:=hrel;have HV:=Zh hv;have HL:=Zh hl;have HBR:=Zh hb;by_cases hlj:j<(Za8 T).length
      ·have ey:=List.getElem?_eq_getElem hlj;obtain⟨x,hx⟩:∃ x,(Za8 T)[j]=x:=⟨_,rfl⟩;rw [hx] at ey;obtain⟨b2,o2,rfl,g0,g1,g2⟩:=Zzs (HT0.o.below HBR.o) ey;have hjl:(j:Int)<((Za8 T).length:Int):=ω;have HL2:=Zh (show Zib (Zel T) l4 (x.2.2 :: (((Za8 T).drop (j+1)).map fun x=>x.2.2)) by have:=HL.o;rw [Zcb ey] at this;simpa using this)
       go_wp2_with (go_at_call 132;refine (Zrq _ _ (l4) x.2.2 _ (Zib.len HL2.o HRL.o) HV.o).mono ?_;rintro e wp4 ⟨Ap4,cp4,rfl,hat,hb⟩;have HPT4:=Zh hat;have HPB4:=Zh hb;clear hat hb)
       go_roundw
       case rel=>exact⟨j+1,_,_,_,ω,by go_num,rfl,HPT4.o,HL2.o.step,Zab HBR.o HPB4.o⟩
       case measure=>exact msr
      ·have HLR:=Zh (show l4=Zdq (Zel T) from Zib.done (by have:=HL.o;rw [List.drop_of_length_le ω] at this;simpa using this));have HV9:=Zh HV.o
       go_wp2_with fail
       go_ret;have e4:=HLR.o;subst e4;exact⟨Av4,cv4,rfl,HV9.o,Zab HB0.o (Zab HBS.o HBR.o)⟩
end
end
section
set_option maxHeartbeats 4000000
set_option maxRecDepth 100000
variable {w:World} {T:Tst} {Ai Ac:Option Addr} {kv:Value}
theorem Z6y (l:List UInt8)(w:World)(hl:l.length<=9223372036854775807):Calls Tryz.prog 63 #[.string ⟨l.toArray⟩,.string ⟨#[32]⟩] w fun e w'=>e=.returned (.string ⟨(Lib.trimB l 32).toArray⟩)/\∃ n,w'=w.drewN n:=
 (Tryz.strings_Trim_one ⟨l.toArray⟩ 32 (by decide) w hl).mono fun e w' ⟨h1,h2⟩=>⟨h1,by
  rcases h2 with h | h
  ·exact⟨0,h⟩
  ·exact⟨1,h⟩⟩
theorem Zfc {T:Tst}(h1:Zf7 T.arch T.code=0)(h2:Zgn T.arch T.code.length T.init=0):(Zel T).length<=1000000:=by
 have hi:T.init.length<=1024:=by
  refine Decidable.byContradiction fun h=>?_
  rw [Zj5 ω] at h2;cases h2
 have hc:T.code.length<=16:=by
  refine Decidable.byContradiction fun h=>?_
  rw [Zjc (Or.inr ω)] at h1;cases h1
 have hl:∀ c∈T.code,c.length<=256:=fun c hc=>by
  obtain⟨k,hk⟩:=List.getElem?_of_mem hc;refine Decidable.byContradiction fun h=>?_
  rw [Zhk hk ω] at h1;cases h1
 have ht:=Zez T;have e1:∀ l:List Ini,(l.flatMap fun x=>[x.loc,x.vl]).length=2*l.length:=fun l=>by
  induction l with
  | nil=>rfl
  | cons x r ih=>rw [List.flatMap_cons,List.length_append,ih];simp;omega
 have e2:∀ l:List (List Ins),(∀ c∈l,c.length<=256)->(l.flatMap fun c=>c.map fun x=>x.loc).length<=256*l.length:=fun l=>by
  induction l with
  | nil=>intro _;simp
  | cons x r ih=>
   intro h;have h3:=ih (fun c hc=>h c (by simp [hc]));have h4:=h x (by simp);rw [List.flatMap_cons,List.length_append,List.length_map,List.length_cons];omega
 have:=e2 _ hl;unfold Zel;rw [List.length_append,List.length_append,List.length_map,e1];show 2*T.init.length+(_+(Za8 T).length)<=_;omega
theorem Zty (ci cc:Nat)(hT:Zcu w T Ai Ac kv):Calls Tryz.prog 41 #[Zbu T (.slice Ai T.init.length ci) (.slice Ac T.code.length cc) kv] w (RB w (.int .i64 (Zbb T))):=by
 have HT:=Zh hT;have hnl:=hT.nlen;have hyl:=hT.ylen;have hcl:=hT.clen;have HBX:=Zh (Blk.new w 32 #[.int .i64 T.arch,.string ⟨T.name.toArray⟩,.string ⟨T.cycle.toArray⟩,.slice Ai T.init.length ci,.slice Ac T.code.length cc,.int .i64 T.q,.int .i64 T.k,.int .i64 T.t,.int .i64 T.r,.string ⟨T.l.toArray⟩,.int .i64 T.v,kv]);have HB0:=Zh (Zad w (.cells #[.int .i64 T.arch,.string ⟨T.name.toArray⟩,.string ⟨T.cycle.toArray⟩,.slice Ai T.init.length ci,.slice Ac T.code.length cc,.int .i64 T.q,.int .i64 T.k,.int .i64 T.t,.int .i64 T.r,.string ⟨T.l.toArray⟩,.int .i64 T.v,kv] 32 (0,0)));obtain⟨ab,hab⟩:∃ ab,Zef T.arch=ab:=⟨_,rfl⟩;have HAB:=Zh hab;cases ab with
 | false=>
  have HV:=Zh (show Zbb T=5 by unfold Zbb;rw [hab];rfl);go_enter Tryz.func41,Tryz.ntmps41
  go_wp2_with (go_at_call 61;refine (Zj6 _ _).mono ?_;rw [HAB.o];rintro e w' ⟨rfl,rfl⟩)
  go_ret;exact⟨Zak HV.o.symm,HB0.o⟩
 | true=>
  by_cases ht1:T.name.length<1\/1024<T.name.length
  ·have HV:=Zh (show Zbb T=130 by unfold Zbb;rw [HAB.o,show Zg4 T.name=false from Zpo (s:=⟨T.name.toArray⟩) ht1];rfl);have HSH:=Zh (fun w=>Zwm 33 ⟨T.name.toArray⟩ w hnl);rcases ht1 with ht1 | ht1
   all_goals
    go_enter Tryz.func41,Tryz.ntmps41
    go_wp2_with (go_at_call 61;refine (Zj6 _ _).mono ?_;rw [HAB.o];rintro e w' ⟨rfl,rfl⟩)
    go_ret;exact⟨Zak HV.o.symm,Zad _ _⟩
  ·skip
   have hn1:¬ T.name.length<1:=ω;have hn2:¬ 1024<T.name.length:=ω;have HSH:=Zh (fun w=>Zwm 33 ⟨T.name.toArray⟩ w hnl);have HSC:=Zh (fun w=>Zwm 32 ⟨T.cycle.toArray⟩ w hyl);have HTI:=Zh (show Zg4 T.name=T.name.all (shC 33) from Zl8 (s:=⟨T.name.toArray⟩) (show 1<=T.name.length by omega) (show T.name.length<=1024 by omega));obtain⟨sv,hsv⟩:∃ sv,T.name.all (shC 33)=sv:=⟨_,rfl⟩;have HSV:=Zh hsv;cases sv with
   | false=>
    have HV:=Zh (show Zbb T=130 by unfold Zbb;rw [HAB.o,HTI.o,HSV.o];rfl);go_enter Tryz.func41,Tryz.ntmps41
    go_wp2_with (first | (go_at_call 61;refine (Zj6 _ _).mono ?_;rw [HAB.o];rintro e w' ⟨rfl,rfl⟩) | (go_at_call 62;refine (HSH.o _).mono ?_;rw [HSV.o];rintro e w' ⟨rfl,rfl⟩))
    go_ret;exact⟨Zak HV.o.symm,Zad _ _⟩
   | true=>
    have HT1:=Zh (HTI.o.trans HSV.o);by_cases hc1:262144<T.cycle.length
    ·have HV:=Zh (show Zbb T=130 by unfold Zbb;rw [HAB.o,HT1.o,show Ze6 T.cycle=false by unfold Ze6;rw [show decide (T.cycle.length<=262144)=false by simp;omega];rfl];rfl);go_enter Tryz.func41,Tryz.ntmps41;have fc1:decide ((262144:Int)<(T.cycle.length:Int))=true:=by simp;omega
     go_wp2_with (first | (go_at_call 61;refine (Zj6 _ _).mono ?_;rw [HAB.o];rintro e w' ⟨rfl,rfl⟩) | (go_at_call 62;refine (HSH.o _).mono ?_;rw [HSV.o];rintro e w' ⟨rfl,rfl⟩))
     go_quiet (fail)
     go_wp2_with fail
     go_ret;exact⟨Zak HV.o.symm,Zag (Zad _ _) _⟩
    ·have fc1:decide ((262144:Int)<(T.cycle.length:Int))=false:=by simp;omega
     obtain⟨cv,hcv⟩:∃ cv,T.cycle.all (shC 32)=cv:=⟨_,rfl⟩;have HCV:=Zh hcv;have HCY:=Zh (show Ze6 T.cycle=(cv&&Zhl T.cycle) by unfold Ze6;rw [show decide (T.cycle.length<=262144)=true by simp;omega,hcv];rfl);cases cv with
     | false=>
      have HV:=Zh (show Zbb T=130 by unfold Zbb;rw [HAB.o,HT1.o,HCY.o];rfl);go_enter Tryz.func41,Tryz.ntmps41
      go_wp2_with (first | (go_at_call 61;refine (Zj6 _ _).mono ?_;rw [HAB.o];rintro e w' ⟨rfl,rfl⟩) | (go_at_call 62;refine (HSH.o _).mono ?_;rw [HSV.o];rintro e w' ⟨rfl,rfl⟩))
      go_quiet ((go_at_call 62;exact Zdt ((HSC.o _).mono (fun e w' h=>by rw [HCV.o] at h;exact h))))
      go_wp2_with fail
      go_ret;exact⟨Zak HV.o.symm,Zag (Zad _ _) _⟩
     | true=>
      obtain⟨eb,heb⟩:∃ eb,Zhl T.cycle=eb:=⟨_,rfl⟩;have HEB:=Zh heb;have htr:=Zw2 T.cycle;rw [heb] at htr;have HTR:=Zh (fun w=>Z6y T.cycle w hyl);cases eb with
      | false=>
       have e1:(Lib.trimB T.cycle 32 == T.cycle)=false:=by simpa using htr
       have HV:=Zh (show Zbb T=130 by unfold Zbb;rw [HAB.o,HT1.o,HCY.o,HEB.o];rfl);go_enter Tryz.func41,Tryz.ntmps41
       go_wp2_with (first | (go_at_call 61;refine (Zj6 _ _).mono ?_;rw [HAB.o];rintro e w' ⟨rfl,rfl⟩) | (go_at_call 62;refine (HSH.o _).mono ?_;rw [HSV.o];rintro e w' ⟨rfl,rfl⟩))
       go_quiet ((first | (go_at_call 62;exact Zdt ((HSC.o _).mono (fun e w' h=>by rw [HCV.o] at h;exact h))) | (go_at_call 63;exact Calls.quiet_of (HTR.o _))))
       go_wp2_with fail
       go_ret;exact⟨Zak HV.o.symm,Zag (Zad _ _) _⟩
      | true=>
       have e1:(Lib.trimB T.cycle 32 == T.cycle)=true:=by simpa using htr
       have HC2:=Zh (show Ze6 T.cycle=true by rw [HCY.o,HEB.o];rfl);go_enter Tryz.func41,Tryz.ntmps41
       go_wp2_with (first | (go_at_call 61;refine (Zj6 _ _).mono ?_;rw [HAB.o];rintro e w' ⟨rfl,rfl⟩) | (go_at_call 62;refine (HSH.o _).mono ?_;rw [HSV.o];rintro e w' ⟨rfl,rfl⟩))
       go_quiet ((first | (go_at_call 62;exact Zdt ((HSC.o _).mono (fun e w' h=>by rw [HCV.o] at h;exact h))) | (go_at_call 63;exact Calls.quiet_of (HTR.o _))))
       go_wp2_with fail
       refine (Z4s ci cc HAB.o (HT.o.below (Zag (Zad w _) _))).mono ?_;rintro e w2 ⟨rfl,hb⟩;have HBW1:=Zh (Zab (Zag (Zad w _) _) hb);have HK1:=Zh (HBX.o.go (Zab (Zag (Below.refl _ _) _) hb));have k0:=HK1.o.cell 0;have k1:=HK1.o.cell 1;have k2:=HK1.o.cell 2;have k3:=HK1.o.cell 3;have k4:=HK1.o.cell 4;have k5:=HK1.o.cell 5;have k6:=HK1.o.cell 6;have k7:=HK1.o.cell 7;have k8:=HK1.o.cell 8;have k9:=HK1.o.cell 9;have k10:=HK1.o.cell 10;have k11:=HK1.o.cell 11;by_cases hE1:Zf7 T.arch T.code=0
       rotate_left
       ·have HV:=Zh (show Zbb T=Zf7 T.arch T.code by unfold Zbb;rw [HAB.o,HT1.o,HC2.o];simp [hE1]);have f1:(Zf7 T.arch T.code != 0)=true:=by simpa using hE1
        have f2:(Zf7 T.arch T.code == 0)=false:=by simpa using hE1
        go_wp2_with fail
        go_ret;exact⟨Zak HV.o.symm,HBW1.o⟩
       have XE1:=Zh hE1;have f1:(Zf7 T.arch T.code != 0)=false:=by simpa using hE1
       go_wp2_with fail
       refine (Z4i ci cc (Zi9 HAB.o) (HT.o.below (HBW1.o))).mono ?_;rintro e w3 ⟨rfl,hb⟩;have HBW2:=Zh (Zab (HBW1.o) hb);have HK2:=Zh (HK1.o.go (hb));have k0:=HK2.o.cell 0;have k1:=HK2.o.cell 1;have k2:=HK2.o.cell 2;have k3:=HK2.o.cell 3;have k4:=HK2.o.cell 4;have k5:=HK2.o.cell 5;have k6:=HK2.o.cell 6;have k7:=HK2.o.cell 7;have k8:=HK2.o.cell 8;have k9:=HK2.o.cell 9;have k10:=HK2.o.cell 10;have k11:=HK2.o.cell 11;by_cases hE2:Zgn T.arch T.code.length T.init=0
       rotate_left
       ·have HV:=Zh (show Zbb T=Zgn T.arch T.code.length T.init by unfold Zbb;rw [HAB.o,HT1.o,HC2.o,XE1.out];simp [hE2]);have f1:(Zgn T.arch T.code.length T.init != 0)=true:=by simpa using hE2
        have f2:(Zgn T.arch T.code.length T.init == 0)=false:=by simpa using hE2
        go_wp2_with fail
        go_ret;exact⟨Zak HV.o.symm,HBW2.o⟩
       have XE2:=Zh hE2;have f2:(Zgn T.arch T.code.length T.init != 0)=false:=by simpa using hE2
       go_wp2_with fail
       refine (Zt0 T.arch T.q T.k T.t T.r T.l T.v kv T.kids _ HT.o.llen (HT.o.below HBW2.o).kids).mono ?_;rintro e w4 ⟨rfl,hb⟩;have HBW3:=Zh (Zab HBW2.o hb);have HK3:=Zh (HK2.o.go hb);have k0:=HK3.o.cell 0;have k1:=HK3.o.cell 1;have k2:=HK3.o.cell 2;have k3:=HK3.o.cell 3;have k4:=HK3.o.cell 4;have k5:=HK3.o.cell 5;have k6:=HK3.o.cell 6;have k7:=HK3.o.cell 7;have k8:=HK3.o.cell 8;have k9:=HK3.o.cell 9;have k10:=HK3.o.cell 10;have k11:=HK3.o.cell 11;by_cases hE3:Zbg T.arch T.q T.k T.t T.r T.l T.v T.kids=0
       rotate_left
       ·have HV:=Zh (show Zbb T=Zbg T.arch T.q T.k T.t T.r T.l T.v T.kids by unfold Zbb;rw [HAB.o,HT1.o,HC2.o,XE1.out,XE2.out];simp [hE3]);exact m_49
       have XE3:=Zh hE3;have f3:(Zbg T.arch T.q T.k T.t T.r T.l T.v T.kids != 0)=false:=by simpa using hE3
       go_wp2_with fail
       refine (Zz7 ci cc (HT.o.below HBW3.o)).mono ?_;rintro e w5 ⟨u,rfl,hown,hb⟩;obtain⟨Au,cu,rfl,hth⟩:=Zet hown;have HBW4:=Zh (Zab HBW3.o hb);have HK4:=Zh (HK3.o.go hb);have HTH:=Zh hth;have htl:=Zez T
       go_wp2_with fail
       have hs5:w.heap.size<w5.heap.size:=HK4.o.lt;go_loopw [67] (fun i wr=>∃ k:Nat,k<=(Za8 T).length/\i=.int .i64 k/\((Za8 T).take k).any (fun x=>decide ((T.code.length:Int)<=x.1))=false/\Below w5.heap.size w5 wr) (fun i _=>(Za8 T).length - (intOf i).toNat)
       case atStart=>exact⟨0,Nat.zero_le _,rfl,by simp,Below.refl _ _⟩
       case round=>
        obtain⟨k,hk,rfl,hno,hb⟩:=hrel;have HNO:=Zh hno;have HBR:=Zh hb;have hzr:=hb.size;have hsw:w.heap.size<wr.heap.size:=ω;have HKR:=Zh (HK4.o.go hb);have HBWR:=Zh (Zab HBW4.o hb);by_cases hlt:k<(Za8 T).length
        ·have ex:=List.getElem?_eq_getElem hlt;obtain⟨x,hx⟩:∃ x,(Za8 T)[k]=x:=⟨_,rfl⟩;rw [hx] at ex;obtain⟨b,o,rfl,c0,c1,c2⟩:=Zzs (HTH.o.below HBR.o) ex;have hbl:b<wr.heap.size:=World.block_lt_of_cell? wr _ c0;have k4:=HKR.o.cell 4;have HX:=Zh ex;have hkl:(k:Int)<((Za8 T).length:Int):=ω;by_cases hbad:(T.code.length:Int)<=x.1
         ·have HV:=Zh (show Zbb T=80 by unfold Zbb;rw [HAB.o,HT1.o,HC2.o,XE1.out,XE2.out,XE3.out,show (Za8 T).any (fun x=>decide ((T.code.length:Int)<=x.1))=true from List.any_eq_true.2 ⟨x,List.mem_of_getElem? HX.o,by simpa using hbad⟩];rfl)
          go_wp2_with fail
          go_ret;exact⟨Zak HV.o.symm,Zaa HBWR.o _⟩
         ·have hbad2:x.1<(T.code.length:Int):=ω
          have HNX:=Zh (show ((Za8 T).take (k+1)).any (fun x=>decide ((T.code.length:Int)<=x.1))=false by
           obtain⟨h1,h2⟩:=List.getElem?_eq_some_iff.1 HX.o
           rw [List.take_succ_eq_append_getElem h1,List.any_append,HNO.o,h2];simp;omega)
          go_wp2_with fail
          go_roundw
          case rel=>exact⟨k+1,ω,by go_num,HNX.o,Zaa HBR.o _⟩
          case measure=>exact msr
        ·have HANY:=Zh (show (Za8 T).any (fun x=>decide ((T.code.length:Int)<=x.1))=false by have:=HNO.o;rwa [List.take_of_length_le ω] at this);have k0:=HKR.o.cell 0;have k1:=HKR.o.cell 1;have k2:=HKR.o.cell 2;have k3:=HKR.o.cell 3;have k4:=HKR.o.cell 4;have k5:=HKR.o.cell 5;have k6:=HKR.o.cell 6;have k7:=HKR.o.cell 7;have k8:=HKR.o.cell 8;have k9:=HKR.o.cell 9;have k10:=HKR.o.cell 10;have k11:=HKR.o.cell 11;by_cases h64:64<(Zdq (Zel T)).length
         ·have HV:=Zh (show Zbb T=2 by unfold Zbb;rw [HAB.o,HT1.o,HC2.o,XE1.out,XE2.out,XE3.out,HANY.o];simp [h64]);exact m_45
         ·have HV:=Zh (show Zbb T=0 by unfold Zbb;rw [HAB.o,HT1.o,HC2.o,XE1.out,XE2.out,XE3.out,HANY.o];simp [h64]);exact m_45
end
section
theorem Z4r (A:Option Addr)(cap:Nat)(L:List Nm)(w:World)(hl:L.length<=1000000)(h:Zc1.At w A L) :
  Calls Tryz.prog 69 #[.slice A L.length cap] w fun e w'=>∃ v,e=.returned v/\Zc1.Own 9 w.heap.size w' v L/\Below w.heap.size w w':=by
 by_cases h0:L=[]
 ·subst h0;cases A with
  | none=>exact (Tryz.slices_Clone_string_nil 0 cap w).mono fun e w' ⟨h1,h2⟩=>⟨_,h1,Enc.Own.nil _ _ _,by rw [h2];exact Below.refl _ _⟩
  | some a=>exact (Tryz.slices_Clone_string_zero a cap w).mono fun e w' ⟨v,h1,h2,_,h3⟩=>⟨v,h1,h2,h3⟩
 ·obtain⟨b,o,e,_⟩:=h 0 _ (List.getElem?_eq_getElem (List.length_pos_iff.2 h0));subst e;have hc:∀ j,j<(L.map fun x=>(⟨x.toArray⟩:ByteArray)).length->w.cell? ⟨b,o+j,none⟩=some (.string ((L.map fun x=>(⟨x.toArray⟩:ByteArray)).getD j ByteArray.empty)):=fun j hj=>by
   simp only [List.length_map] at hj;have hx:=List.getElem?_eq_getElem hj;have hcell:=h.cells j (.string ⟨L[j].toArray⟩) (by rw [Zsp,List.getElem?_map,hx];rfl);rw [hcell];simp [hj]
  refine (Tryz.slices_Clone_string b o L.length cap (L.map fun x=>(⟨x.toArray⟩:ByteArray)) w (by simp) ω hc).mono fun e w' ⟨v,h1,h2,_,h3⟩=>⟨v,h1,?_,h3⟩
  show w'.ownsRow w.heap.size 9 1 v L.length (Zc1.flat L);rw [List.take_of_length_le (by simp),List.map_map] at h2;rw [Zsp];exact h2
def Z85 (T:Tst)(w:World)(e:Ending)(w':World):Prop:=
 ((Zbb T≠0/\e=.returned (.tuple #[.slice none 0 0,.int .i64 (Zbb T)]))\/(Zbb T=0/\∃ v,e=.returned (.tuple #[v,.int .i64 0])/\Zc1.Own 9 w.heap.size w' v (Zdq (Zel T))))/\Below w.heap.size w w'
theorem Za0 {T:Tst}(h:Zbb T=0):(Zel T).length<=1000000/\(Zdq (Zel T)).length<=64/\Zef T.arch=true/\Zf7 T.arch T.code=0/\Zgn T.arch T.code.length T.init=0/\Zbg T.arch T.q T.k T.t T.r T.l T.v T.kids=0/\(Za8 T).any (fun x=>decide ((T.code.length:Int)<=x.1))=false:=by
 unfold Zbb at h
 split at h
 ·cases h
 rename_i h1
 split at h
 ·cases h
 split at h
 ·rename_i h3;exact absurd h h3
 rename_i h3
 split at h
 ·rename_i h4;exact absurd h h4
 rename_i h4
 split at h
 ·rename_i h5;exact absurd h h5
 rename_i h5
 split at h
 ·cases h
 rename_i h6
 split at h
 ·cases h
 rename_i h7;simp only [ne_eq,Decidable.not_not] at h3 h4 h5;exact⟨Zfc h3 h4,ω,by simpa using h1,h3,h4,h5,by simpa using h6⟩
section
set_option maxHeartbeats 4000000
set_option maxRecDepth 100000
variable {w:World} {T:Tst} {Ai Ac:Option Addr} {kv:Value}
theorem Z7y (ci cc:Nat)(hT:Zcu w T Ai Ac kv):Calls Tryz.prog 42 #[Zbu T (.slice Ai T.init.length ci) (.slice Ac T.code.length cc) kv] w (Z85 T w):=by
 have HT:=Zh hT;have HBX:=Zh (Blk.new w 32 #[.int .i64 T.arch,.string ⟨T.name.toArray⟩,.string ⟨T.cycle.toArray⟩,.slice Ai T.init.length ci,.slice Ac T.code.length cc,.int .i64 T.q,.int .i64 T.k,.int .i64 T.t,.int .i64 T.r,.string ⟨T.l.toArray⟩,.int .i64 T.v,kv]);have HB0:=Zh (Zad w (.cells #[.int .i64 T.arch,.string ⟨T.name.toArray⟩,.string ⟨T.cycle.toArray⟩,.slice Ai T.init.length ci,.slice Ac T.code.length cc,.int .i64 T.q,.int .i64 T.k,.int .i64 T.t,.int .i64 T.r,.string ⟨T.l.toArray⟩,.int .i64 T.v,kv] 32 (0,0)));go_enter Tryz.func42,Tryz.ntmps42
 go_wp2_with fail
 refine (Zty ci cc (HT.o.below HB0.o)).mono ?_;rintro e w2 ⟨rfl,hb⟩;have HB2:=Zh (Zab HB0.o hb);have HK2:=Zh (HBX.o.go hb);by_cases hE:Zbb T=0
 ·have HE:=Zh hE;have f1:(Zbb T != 0)=false:=by simpa using hE
  obtain⟨k0,k1,k2,k3,k4,k5,k6,k7,k8,k9,k10,k11⟩:=HK2.o.c12
  go_wp2_with (first
   | (go_at_call 68;refine (Zvq ci cc (Za0 HE.o).1 (HT.o.below HB2.o)).mono ?_;rintro e w3 ⟨A3,c3,rfl,hat3,hnew3,hb⟩;have HB3:=Zh (Zab HB2.o hb);have HAT:=Zh hat3;clear hat3 hnew3 hb)
   | (go_at_call 69;refine (Z4r _ _ _ _ (Nat.le_trans (Za0 HE.o).2.1 ω) HAT.o).mono ?_;rintro e w4 ⟨v4,rfl,hown,hb⟩;have HO:=Zh hown;have HB4:=Zh hb;clear hown hb))
  go_ret2
  exact⟨Or.inr ⟨HE.o,v4,rfl,Zd4 HO.o HB3.o.size⟩,Zab HB3.o HB4.o⟩
 ·have HE:=Zh hE;exact m_64
end
end
end Go.Proofs.YtgjefdaaihgliaaGreatDoor
