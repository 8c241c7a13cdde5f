/- Layer 13: a test's locations: the reference. -/
import Derived.Test.YtdfmcfppoohckaaGreatDoorTm28
import Derived.Test.YtdfmcfppoohckaaGreatDoorTm29
import Derived.Test.YtdfmcfppoohckaaGreatDoorTm31

namespace Go.Proofs.YtdfmcfppoohckaaGreatDoor
open Go.RowKit
section
theorem Zr0 (s:Nm):∀ l,(Zo5 s l).length=l.length+1
 | []=>rfl
 | y :: r=>by
  unfold Zo5
  split
  ·rfl
  ·simp [Zr0 s r]
theorem Zy9 (l:List Nm)(s:Nm):(Zk1 l s).length<=l.length+1:=by
 unfold Zk1
 split
 ·omega
 ·rw [Zr0];omega
def Zio (R l rest:List Nm):Prop:=rest.foldl Zk1 l=Zdp R/\l.length+rest.length<=R.length
theorem Zio.step {R l rest:List Nm}{s:Nm}(h:Zio R l (s :: rest)):Zio R (Zk1 l s) rest:=⟨h.1,by have:=h.2;have:=Zy9 l s;simp at *;omega⟩
theorem Zio.start (R:List Nm):Zio R [] R:=⟨Ztf R,by simp⟩
theorem Zio.len {R l rest:List Nm}(h:Zio R l rest)(hR:R.length<=1000000):l.length<=1000000:=by have:=h.2;omega
theorem Zio.done {R l:List Nm}(h:Zio R l []):l=Zdp R:=h.1
section
set_option maxHeartbeats 4000000
set_option maxRecDepth 100000
variable {w:World} {T:Tst} {Ai Ac:Option Addr} {kv:Value}
theorem Zjm.at13 {w:World}{A:Option Addr}{l:List Ini}(h:Zjm w A l){i:Nat}{x:Ini}(hx:l[i]?=some x):∃ b o,A=some ⟨b,o,none⟩/\w.cell? ⟨b,o+i*5,none⟩=some (.int .i64 x.th)/\w.cell? ⟨b,o+i*5+1,none⟩=some (.int .i64 x.rg)/\w.cell? ⟨b,o+i*5+2,none⟩=some (.string ⟨x.loc.toArray⟩)/\w.cell? ⟨b,o+i*5+3,none⟩=some (.string ⟨x.vl.toArray⟩)/\
  w.cell? ⟨b,o+i*5+4,none⟩=some (.int .i64 x.vn)/\x.loc.length<=9223372036854775807/\x.vl.length<=9223372036854775807/\(-9223372036854775808<=x.th/\x.th<=9223372036854775807)/\-9223372036854775808<=x.rg/\x.rg<=9223372036854775807:=h i x hx
def Z6o (L:List Nm)(w:World)(e:Ending)(w':World):Prop:=∃ A cap,e=.returned (.slice A L.length cap)/\Zlh w.heap.size w' A cap L/\Below w.heap.size w w'
theorem Zm7 (ci cc:Nat)(hraw:(Zel T).length<=1000000)(hT:Zcb w T Ai Ac kv):Calls Tryz.prog 70 #[Zbr T (.slice Ai T.init.length ci) (.slice Ac T.code.length cc) kv] w (Z6o (Zdp (Zel T)) w):=by
 have HI:=Zh hT.init;have HC:=Zh hT.code;have HKD:=Zh hT.kids;have hll:=hT.llen;have hil:=hT.ilen;have hcl:=hT.clen;have HRL:=Zh hraw;have HST:=Zh (show Zio (Zel T) [] ((T.init.drop 0).flatMap (fun x=>[x.loc,x.vl])++((T.code.flatMap fun c=>c.map fun x=>x.loc)++(Za5 T).map fun x=>x.2.2)) by rw [List.drop_zero];exact Zio.start _);simp only [Zbr];obtain⟨n,hn⟩:∃ n,T.init.length=n:=⟨_,rfl⟩;obtain⟨m,hm⟩:∃ m,T.code.length=m:=⟨_,rfl⟩;have HN:=Zh hn;have HM:=Zh hm;rw [hn,hm];rw [hn] at hil;rw [hm] at hcl;have HBX:=Zh (Blk.new w 32 #[.int .i64 T.arch,.string ⟨T.name.toArray⟩,.string ⟨T.cycle.toArray⟩,.slice Ai n ci,.slice Ac m cc,.int .i64 T.q,.int .i64 T.k,.int .i64 T.t,.int .i64 T.r,.string ⟨T.l.toArray⟩,.int .i64 T.v,kv]);have HB0:=Zh (Zad w (.cells #[.int .i64 T.arch,.string ⟨T.name.toArray⟩,.string ⟨T.cycle.toArray⟩,.slice Ai n ci,.slice Ac m cc,.int .i64 T.q,.int .i64 T.k,.int .i64 T.t,.int .i64 T.r,.string ⟨T.l.toArray⟩,.int .i64 T.v,kv] 32 (0,0)));go_enter Tryz.func70,Tryz.ntmps70
 go_wp2_with fail
 generalize hw1:w.alloc (.cells #[.int .i64 T.arch,.string ⟨T.name.toArray⟩,.string ⟨T.cycle.toArray⟩,.slice Ai n ci,.slice Ac m cc,.int .i64 T.q,.int .i64 T.k,.int .i64 T.t,.int .i64 T.r,.string ⟨T.l.toArray⟩,.int .i64 T.v,kv] 32 (0,0))=w1 at HBX HB0 ⊢;have hsz:w.heap.size<w1.heap.size:=HBX.o.lt;go_loopw [4,3] (fun i vv wr=>∃ (k:Nat) (l:List Nm) (Av:Option Addr) (cv:Nat),k<=n/\i=.int .i64 k/\vv=.slice Av l.length cv/\Zlh w.heap.size wr Av cv l/\Zio (Zel T) l ((T.init.drop k).flatMap (fun x=>[x.loc,x.vl])++((T.code.flatMap fun c=>c.map fun x=>x.loc)++(Za5 T).map fun x=>x.2.2))/\Below w1.heap.size w1 wr) (fun i _ _=>n - (intOf i).toNat)
 case atStart=>exact⟨0,[],none,0,Nat.zero_le _,rfl,rfl,Zlh.nil (Nat.le_of_lt hsz),HST.o,Below.refl _ _⟩
 case round=>
  obtain⟨k,l,Av,cv,hk,rfl,rfl,hv,hl,hb⟩:=hrel;have HV:=Zh hv;have HL:=Zh hl;have HBR:=Zh hb;have hzr:=hb.size;have hsw:w.heap.size<wr.heap.size:=ω;have k3:=(HBX.o.go hb).cell 3;have HBW:=Zh (Zaa HB0.o hb);by_cases hlt:k<n
  ·have hlk:k<T.init.length:=by rw [HN.o];exact hlt
   have ex:=List.getElem?_eq_getElem hlk;obtain⟨x,hx⟩:∃ x,T.init[k]=x:=⟨_,rfl⟩;rw [hx] at ex;obtain⟨b,o,rfl,c0,c1,c2,c3,c4,l1,l2,l3,l4⟩:=Zjm.at13 HI.o ex;have hbl:b<w.heap.size:=World.block_lt_of_cell? w _ c0;have d2:=Zac c2 HBW.o;have d3:=Zac c3 HBW.o;have HC3:=Zh c3;have hkn:(k:Int)<(n:Int):=ω;have HL2:=Zh (show Zio (Zel T) l (x.loc :: x.vl :: ((T.init.drop (k+1)).flatMap (fun x=>[x.loc,x.vl])++((T.code.flatMap fun c=>c.map fun x=>x.loc)++(Za5 T).map fun x=>x.2.2))) by have:=HL.o;rw [Zbp ex] at this;simpa using this)
   go_wp2_with fail
   refine (Zsf _ _ (l) x.loc _ (Zio.len HL2.o HRL.o) HV.o).mono ?_;rintro e wp1 ⟨Ap1,cp1,rfl,hat,hb⟩;have HPT1:=Zh hat;have HPB1:=Zh hb;have d3b:=Zac HC3.o (Zaa HBW.o HPB1.o);have k3b:=(HBX.o.go (Zaa HBR.o HPB1.o)).cell 3
   go_wp2_with fail
   refine (Zsf _ _ (Zk1 l x.loc) x.vl _ (Zio.len HL2.o.step HRL.o) HPT1.o).mono ?_;rintro e wp2 ⟨Ap2,cp2,rfl,hat,hb⟩;have HPT2:=Zh hat;have HPB2:=Zh hb
   go_wp2_with fail
   go_roundw
   case rel=>exact⟨k+1,_,_,_,ω,by go_num,rfl,HPT2.o,HL2.o.step.step,Zaa HBR.o (Zaa HPB1.o HPB2.o)⟩
   case measure=>exact msr
  ·have hkn:k=n:=ω;subst hkn;have HL1:=Zh (show Zio (Zel T) l ((T.code.flatMap fun c=>c.map fun x=>x.loc)++(Za5 T).map fun x=>x.2.2) by have:=HL.o;rw [List.drop_of_length_le (by have:=HN.o;omega)] at this;simpa using this);have HV0:=Zh HV.o;have HBA:=Zh HBR.o
   go_wp2_with fail
   obtain⟨wa,hwa⟩:∃ wa:World,wa=wr:=⟨_,rfl⟩;subst hwa;go_loopw [5,3] (fun i vv wr=>∃ (k:Nat) (l:List Nm) (Av:Option Addr) (cv:Nat),k<=m/\i=.int .i64 k/\vv=.slice Av l.length cv/\Zlh w.heap.size wr Av cv l/\Zio (Zel T) l (((T.code.drop k).flatMap fun c=>c.map fun x=>x.loc)++(Za5 T).map fun x=>x.2.2)/\Below w1.heap.size w1 wr) (fun i _ _=>m - (intOf i).toNat)
   case atStart=>exact⟨0,l,Av,cv,Nat.zero_le _,rfl,rfl,HV0.o,HL1.o,HBA.o⟩
   case round=>
    obtain⟨k2,l2,Av2,cv2,hk2,rfl,rfl,hv,hl,hb⟩:=hrel;have HV:=Zh hv;have HL:=Zh hl;have HBR:=Zh hb;have hzr:=hb.size;have hsw:w.heap.size<wr.heap.size:=ω;have k4:=(HBX.o.go hb).cell 4;have HBW:=Zh (Zaa HB0.o hb);by_cases hlt:k2<m
    ·have hlk:k2<T.code.length:=by rw [HM.o];exact hlt
     have ex:=List.getElem?_eq_getElem hlk;obtain⟨c,hx⟩:∃ c,T.code[k2]=c:=⟨_,rfl⟩;rw [hx] at ex;obtain⟨b,o,A2,c2,rfl,hc0,hA2,hl1,hl2⟩:=HC.o.at_ ex;have HCL:=Zh (show Zio (Zel T) l2 ((c.map fun x=>x.loc)++(((T.code.drop (k2+1)).flatMap fun c=>c.map fun x=>x.loc)++(Za5 T).map fun x=>x.2.2)) by have:=HL.o;rw [Zbp ex] at this;simpa using this);have HA2:=Zh hA2;have HC0:=Zh hc0;have hkn:(k2:Int)<(m:Int):=ω
     go_wp2_with fail
     obtain⟨wi,hwi⟩:∃ wi:World,wi=wr:=⟨_,rfl⟩;subst hwi;go_loopw [6,3] (fun i vv wr=>∃ (i':Nat) (l:List Nm) (Av:Option Addr) (cv:Nat),i'<=c.length/\i=.int .i64 i'/\vv=.slice Av l.length cv/\Zlh w.heap.size wr Av cv l/\Zio (Zel T) l (((c.drop i').map fun x=>x.loc)++(((T.code.drop (k2+1)).flatMap fun c=>c.map fun x=>x.loc)++(Za5 T).map fun x=>x.2.2))/\Below w1.heap.size w1 wr) (fun i _ _=>c.length - (intOf i).toNat)
     case atStart=>exact⟨0,l2,Av2,cv2,Nat.zero_le _,rfl,rfl,HV.o,HCL.o,HBR.o⟩
     case round=>
      obtain⟨i,l3,Av3,cv3,hi,rfl,rfl,hv3,hl3,hb3⟩:=hrel;have HV:=Zh hv3;have HCL:=Zh hl3;have HBR:=Zh hb3;have hzr:=hb3.size;have hsw:w.heap.size<wr.heap.size:=ω;have k4:=(HBX.o.go hb3).cell 4;have HBW:=Zh (Zaa HB0.o hb3);have hc0r:=Zac HC0.o HBW.o;by_cases hli:i<c.length
      ·have ey:=List.getElem?_eq_getElem hli;obtain⟨x,hx⟩:∃ x,c[i]=x:=⟨_,rfl⟩;rw [hx] at ey;obtain⟨b2,o2,rfl,hCi⟩:=HA2.o.at_ ey;have hbl:=hCi.lt;have d5:=(hCi.go HBW.o).c5;have hkl:(i:Int)<(c.length:Int):=ω;have HL2:=Zh (show Zio (Zel T) l3 (x.loc :: (((c.drop (i+1)).map fun x=>x.loc)++(((T.code.drop (k2+1)).flatMap fun c=>c.map fun x=>x.loc)++(Za5 T).map fun x=>x.2.2))) by have:=HCL.o;rw [Zbp ey] at this;simpa using this)
       go_wp2_with (go_at_call 117;refine (Zsf _ _ (l3) x.loc _ (Zio.len HL2.o HRL.o) HV.o).mono ?_;rintro e wp3 ⟨Ap3,cp3,rfl,hat,hb⟩;have HPT3:=Zh hat;have HPB3:=Zh hb;clear hat hb)
       go_roundw
       case rel=>exact⟨i+1,_,_,_,ω,by go_num,rfl,HPT3.o,HL2.o.step,Zaa HBR.o HPB3.o⟩
       case measure=>exact msr
      ·have HL3:=Zh (show Zio (Zel T) l3 (((T.code.drop (k2+1)).flatMap fun c=>c.map fun x=>x.loc)++(Za5 T).map fun x=>x.2.2) by have:=HCL.o;rw [List.drop_of_length_le ω] at this;simpa using this)
       go_wp2_with fail
       go_roundw
       case rel=>exact⟨k2+1,l3,Av3,cv3,ω,by go_num,rfl,HV.o,HL3.o,HBR.o⟩
       case measure=>exact msr
    ·have hkm:k2=m:=ω;subst hkm;have HL1:=Zh (show Zio (Zel T) l2 ((Za5 T).map fun x=>x.2.2) by have:=HL.o;rw [List.drop_of_length_le (by have:=HM.o;omega)] at this;simpa using this);have HV0:=Zh HV.o;have HBA:=Zh HBR.o;have HKW:=Zh (Zec.below HKD.o (Nat.le_refl _) HBW.o);obtain⟨-,-,-,-,-,k5,k6,k7,k8,k9,k10,k11⟩:=(HBX.o.go HBR.o).c12
     go_wp2_with (go_at_call 22;refine (Z7j w.heap.size kv ω HKW.o hll).mono ?_;rw [show Zk4 T.q T.k T.t T.r T.l T.v T.kids=Za5 T from rfl];rintro e w2 ⟨Au,cu,rfl,hths,hb2⟩;have HTH:=Zh hths;have HB2:=Zh hb2;clear hths hb2)
     have HVS:=Zh (HV0.o.below HB2.o);have HBS:=Zh (Zaa HBA.o HB2.o);have HT0:=Zh HTH.o.1;have htl:=Zeb T;go_loopw [9,3] (fun i vv wr=>∃ (k:Nat) (l:List Nm) (Av:Option Addr) (cv:Nat),k<=(Za5 T).length/\i=.int .i64 k/\vv=.slice Av l.length cv/\Zlh w.heap.size wr Av cv l/\Zio (Zel T) l (((Za5 T).drop k).map fun x=>x.2.2)/\Below w2.heap.size w2 wr) (fun i _ _=>(Za5 T).length - (intOf i).toNat)
     case atStart=>exact⟨0,l2,Av2,cv2,Nat.zero_le _,rfl,rfl,HVS.o,HL1.o,Below.refl _ _⟩
     case round=>
      obtain⟨j,l4,Av4,cv4,hj,rfl,rfl,hv,hl,hb⟩:=hrel;have HV:=Zh hv;have HL:=Zh hl;have HBR:=Zh hb;by_cases hlj:j<(Za5 T).length
      ·have ey:=List.getElem?_eq_getElem hlj;obtain⟨x,hx⟩:∃ x,(Za5 T)[j]=x:=⟨_,rfl⟩;rw [hx] at ey;obtain⟨b2,o2,rfl,g0,g1,g2⟩:=Z0f (HT0.o.below HBR.o) ey;have hjl:(j:Int)<((Za5 T).length:Int):=ω;have HL2:=Zh (show Zio (Zel T) l4 (x.2.2 :: (((Za5 T).drop (j+1)).map fun x=>x.2.2)) by have:=HL.o;rw [Zbp ey] at this;simpa using this)
       go_wp2_with (go_at_call 117;refine (Zsf _ _ (l4) x.2.2 _ (Zio.len HL2.o HRL.o) HV.o).mono ?_;rintro e wp4 ⟨Ap4,cp4,rfl,hat,hb⟩;have HPT4:=Zh hat;have HPB4:=Zh hb;clear hat hb)
       go_roundw
       case rel=>exact⟨j+1,_,_,_,ω,by go_num,rfl,HPT4.o,HL2.o.step,Zaa HBR.o HPB4.o⟩
       case measure=>exact msr
      ·have HLR:=Zh (show l4=Zdp (Zel T) from Zio.done (by have:=HL.o;rw [List.drop_of_length_le ω] at this;simpa using this));have HV9:=Zh HV.o
       go_wp2_with fail
       go_ret;have e4:=HLR.o;subst e4;exact⟨Av4,cv4,rfl,HV9.o,Zaa HB0.o (Zaa HBS.o HBR.o)⟩
end
end
section
theorem Z4t (A:Option Addr)(cap:Nat)(L:List Nm)(w:World)(hl:L.length<=1000000)(h:Zcy.At w A L) :
  Calls Tryz.prog 51 #[.slice A L.length cap] w fun e w'=>∃ v,e=.returned v/\Zcy.Own 9 w.heap.size w' v L/\Below w.heap.size w w':=by
 by_cases h0:L=[]
 ·subst h0;cases A with
  | none=>exact (Tryz.slices_Clone_string_nil 0 cap w).mono fun e w' ⟨h1,h2⟩=>⟨_,h1,Enc.Own.nil _ _ _,by rw [h2];exact Below.refl _ _⟩
  | some a=>exact (Tryz.slices_Clone_string_zero a cap w).mono fun e w' ⟨v,h1,h2,_,h3⟩=>⟨v,h1,h2,h3⟩
 ·obtain⟨b,o,e,_⟩:=h 0 _ (List.getElem?_eq_getElem (List.length_pos_iff.2 h0));subst e;have hc:∀ j,j<(L.map fun x=>(⟨x.toArray⟩:ByteArray)).length->w.cell? ⟨b,o+j,none⟩=some (.string ((L.map fun x=>(⟨x.toArray⟩:ByteArray)).getD j ByteArray.empty)):=fun j hj=>by
   simp only [List.length_map] at hj;have hx:=List.getElem?_eq_getElem hj;have hcell:=h.cells j (.string ⟨L[j].toArray⟩) (by rw [Zte,List.getElem?_map,hx];rfl);rw [hcell];simp [hj]
  refine (Tryz.slices_Clone_string b o L.length cap (L.map fun x=>(⟨x.toArray⟩:ByteArray)) w (by simp) ω hc).mono fun e w' ⟨v,h1,h2,_,h3⟩=>⟨v,h1,?_,h3⟩
  show w'.ownsRow w.heap.size 9 1 v L.length (Zcy.flat L);rw [List.take_of_length_le (by simp),List.map_map] at h2;rw [Zte];exact h2
def Z7y (T:Tst)(w:World)(e:Ending)(w':World):Prop:=
 ((Za6 T≠0/\e=.returned (.tuple #[.slice none 0 0,.int .i64 (Za6 T)]))\/(Za6 T=0/\∃ v,e=.returned (.tuple #[v,.int .i64 0])/\Zcy.Own 9 w.heap.size w' v (Zdp (Zel T))))/\Below w.heap.size w w'
theorem Za8 {T:Tst}(h:Za6 T=0):(Zel T).length<=1000000/\(Zdp (Zel T)).length<=64/\Zd3 T.arch=true/\Zfq T.arch T.code=0/\Zfx T.arch T.code.length T.init=0/\Zbe T.arch T.q T.k T.t T.r T.l T.v T.kids=0/\(Za5 T).any (fun x=>decide ((T.code.length:Int)<=x.1))=false:=by
 unfold Za6 at h
 split at h
 ·cases h
 rename_i h1
 split at h
 ·cases h
 split at h
 ·rename_i h3;exact absurd h h3
 rename_i h3
 split at h
 ·rename_i h4;exact absurd h h4
 rename_i h4
 split at h
 ·rename_i h5;exact absurd h h5
 rename_i h5
 split at h
 ·cases h
 rename_i h6
 split at h
 ·cases h
 rename_i h7;simp only [ne_eq,Decidable.not_not] at h3 h4 h5;exact⟨Zfi h3 h4,ω,by simpa using h1,h3,h4,h5,by simpa using h6⟩
section
set_option maxHeartbeats 4000000
set_option maxRecDepth 100000
variable {w:World} {T:Tst} {Ai Ac:Option Addr} {kv:Value}
theorem Z64 (ci cc:Nat)(hT:Zcb w T Ai Ac kv):Calls Tryz.prog 12 #[Zbr T (.slice Ai T.init.length ci) (.slice Ac T.code.length cc) kv] w (Z7y T w):=by
 have HT:=Zh hT;have HBX:=Zh (Blk.new w 32 #[.int .i64 T.arch,.string ⟨T.name.toArray⟩,.string ⟨T.cycle.toArray⟩,.slice Ai T.init.length ci,.slice Ac T.code.length cc,.int .i64 T.q,.int .i64 T.k,.int .i64 T.t,.int .i64 T.r,.string ⟨T.l.toArray⟩,.int .i64 T.v,kv]);have HB0:=Zh (Zad w (.cells #[.int .i64 T.arch,.string ⟨T.name.toArray⟩,.string ⟨T.cycle.toArray⟩,.slice Ai T.init.length ci,.slice Ac T.code.length cc,.int .i64 T.q,.int .i64 T.k,.int .i64 T.t,.int .i64 T.r,.string ⟨T.l.toArray⟩,.int .i64 T.v,kv] 32 (0,0)));go_enter Tryz.func12,Tryz.ntmps12
 go_wp2_with fail
 refine (Zuj ci cc (HT.o.below HB0.o)).mono ?_;rintro e w2 ⟨rfl,hb⟩;have HB2:=Zh (Zaa HB0.o hb);have HK2:=Zh (HBX.o.go hb);by_cases hE:Za6 T=0
 ·have HE:=Zh hE;have f1:(Za6 T != 0)=false:=by simpa using hE
  obtain⟨k0,k1,k2,k3,k4,k5,k6,k7,k8,k9,k10,k11⟩:=HK2.o.c12
  go_wp2_with (first
   | (go_at_call 50;refine (Zwb ci cc (Za8 HE.o).1 (HT.o.below HB2.o)).mono ?_;rintro e w3 ⟨A3,c3,rfl,hat3,hnew3,hb⟩;have HB3:=Zh (Zaa HB2.o hb);have HAT:=Zh hat3;clear hat3 hnew3 hb)
   | (go_at_call 51;refine (Z4t _ _ _ _ (Nat.le_trans (Za8 HE.o).2.1 ω) HAT.o).mono ?_;rintro e w4 ⟨v4,rfl,hown,hb⟩;have HO:=Zh hown;have HB4:=Zh hb;clear hown hb))
  go_ret2
  exact⟨Or.inr ⟨HE.o,v4,rfl,Zdx HO.o HB3.o.size⟩,Zaa HB3.o HB4.o⟩
 ·have HE:=Zh hE;exact m_98
end
end
section
def Zj2 (T:Tst):Int:=
 if Zbe T.arch T.q T.k T.t T.r T.l T.v T.kids≠0 then Zbe T.arch T.q T.k T.t T.r T.l T.v T.kids
 else if (Za5 T).any (fun x=>decide ((T.code.length:Int)<=x.1)) then 80 else 0
theorem Zvd (T:Tst):Za6 T=if Zd3 T.arch=false then 5 else if (Zg3 T.name&&Zfc T.cycle)=false then 130 else if Zfq T.arch T.code≠0 then Zfq T.arch T.code else if Zfx T.arch T.code.length T.init≠0 then Zfx T.arch T.code.length T.init else if Zj2 T≠0 then Zj2 T else if 64<(Zdp (Zel T)).length then 2 else 0:=by
 unfold Za6 Zj2;by_cases h1:Zbe T.arch T.q T.k T.t T.r T.l T.v T.kids=0 <;> cases h2:(Za5 T).any (fun x=>decide ((T.code.length:Int)<=x.1)) <;> simp [h1]
section
set_option maxHeartbeats 4000000
set_option maxRecDepth 100000
variable {w:World} {T:Tst} {Ai Ac:Option Addr} {kv:Value}
theorem Z4w (ci cc:Nat)(ha:Zd3 T.arch=true)(hT:Zcb w T Ai Ac kv):Calls Tryz.prog 67 #[Zbr T (.slice Ai T.init.length ci) (.slice Ac T.code.length cc) kv] w (RB w (.int .i64 (Zfq T.arch T.code))):=by
 rcases Zjr ha with h | h
 ·have:=Zyq ci cc h hT;rwa [<- h] at this
 ·have:=Zyr ci cc h hT;rwa [<- h] at this
theorem Z46 (ci cc:Nat)(ha:Zd3 T.arch=true)(hT:Zcb w T Ai Ac kv):Calls Tryz.prog 68 #[Zbr T (.slice Ai T.init.length ci) (.slice Ac T.code.length cc) kv] w (RB w (.int .i64 (Zfx T.arch T.code.length T.init))):=by
 rcases Zjr ha with h | h
 ·have:=Zy7 ci cc h hT;rwa [<- h] at this
 ·have:=Zy8 ci cc h hT;rwa [<- h] at this
theorem Z4i (ci cc:Nat)(hT:Zcb w T Ai Ac kv):Calls Tryz.prog 69 #[Zbr T (.slice Ai T.init.length ci) (.slice Ac T.code.length cc) kv] w (RB w (.int .i64 (Zj2 T))):=by
 have HT:=Zh hT;have hcl:=hT.clen;have HBX:=Zh (Blk.new w 32 #[.int .i64 T.arch,.string ⟨T.name.toArray⟩,.string ⟨T.cycle.toArray⟩,.slice Ai T.init.length ci,.slice Ac T.code.length cc,.int .i64 T.q,.int .i64 T.k,.int .i64 T.t,.int .i64 T.r,.string ⟨T.l.toArray⟩,.int .i64 T.v,kv]);have HB0:=Zh (Zad w (.cells #[.int .i64 T.arch,.string ⟨T.name.toArray⟩,.string ⟨T.cycle.toArray⟩,.slice Ai T.init.length ci,.slice Ac T.code.length cc,.int .i64 T.q,.int .i64 T.k,.int .i64 T.t,.int .i64 T.r,.string ⟨T.l.toArray⟩,.int .i64 T.v,kv] 32 (0,0)));go_enter Tryz.func69,Tryz.ntmps69
 go_wp2_with fail
 refine (Zum T.arch T.q T.k T.t T.r T.l T.v kv T.kids _ HT.o.llen (HT.o.below HB0.o).kids).mono ?_;rintro e w4 ⟨rfl,hb⟩;have HBW3:=Zh (Zaa HB0.o hb);have HK3:=Zh (HBX.o.go hb);have k0:=HK3.o.cell 0;have k1:=HK3.o.cell 1;have k2:=HK3.o.cell 2;have k3:=HK3.o.cell 3;have k4:=HK3.o.cell 4;have k5:=HK3.o.cell 5;have k6:=HK3.o.cell 6;have k7:=HK3.o.cell 7;have k8:=HK3.o.cell 8;have k9:=HK3.o.cell 9;have k10:=HK3.o.cell 10;have k11:=HK3.o.cell 11;by_cases hE3:Zbe T.arch T.q T.k T.t T.r T.l T.v T.kids=0
 rotate_left
 ·have HV:=Zh (show Zj2 T=Zbe T.arch T.q T.k T.t T.r T.l T.v T.kids by unfold Zj2;simp [hE3]);exact m_81
 have XE3:=Zh hE3;have f3:(Zbe T.arch T.q T.k T.t T.r T.l T.v T.kids != 0)=false:=by simpa using hE3
 have HKD:=Zh (Zec.below HT.o.kids (Nat.le_refl _) HBW3.o)
 go_wp2_with (go_at_call 22;refine (Z7j w.heap.size kv HBW3.o.size HKD.o HT.o.llen).mono ?_;rw [show Zk4 T.q T.k T.t T.r T.l T.v T.kids=Za5 T from rfl];rintro e w5 ⟨Au,cu,rfl,hths,hb⟩;have HBW4:=Zh (Zaa HBW3.o hb);have HK4:=Zh (HK3.o.go hb);have HTH:=Zh hths.1;clear hb hths)
 have htl:=Zeb T;have hs5:w.heap.size<w5.heap.size:=HK4.o.lt;go_loopw [6] (fun i wr=>∃ k:Nat,k<=(Za5 T).length/\i=.int .i64 k/\((Za5 T).take k).any (fun x=>decide ((T.code.length:Int)<=x.1))=false/\Below w5.heap.size w5 wr) (fun i _=>(Za5 T).length - (intOf i).toNat)
 case atStart=>exact⟨0,Nat.zero_le _,rfl,by simp,Below.refl _ _⟩
 case round=>
  obtain⟨k,hk,rfl,hno,hb⟩:=hrel;have HNO:=Zh hno;have HBR:=Zh hb;have hzr:=hb.size;have hsw:w.heap.size<wr.heap.size:=ω;have HKR:=Zh (HK4.o.go hb);have HBWR:=Zh (Zaa HBW4.o hb);by_cases hlt:k<(Za5 T).length
  ·have ex:=List.getElem?_eq_getElem hlt;obtain⟨x,hx⟩:∃ x,(Za5 T)[k]=x:=⟨_,rfl⟩;rw [hx] at ex;obtain⟨b,o,rfl,c0,c1,c2⟩:=Z0f (HTH.o.below HBR.o) ex;have hbl:b<wr.heap.size:=World.block_lt_of_cell? wr _ c0;have k4:=HKR.o.cell 4;have HX:=Zh ex;have hkl:(k:Int)<((Za5 T).length:Int):=ω;by_cases hbad:(T.code.length:Int)<=x.1
   ·have HV:=Zh (show Zj2 T=80 by unfold Zj2;rw [XE3.o,show (Za5 T).any (fun x=>decide ((T.code.length:Int)<=x.1))=true from List.any_eq_true.2 ⟨x,List.mem_of_getElem? HX.o,by simpa using hbad⟩];rfl)
    go_wp2_with fail
    go_quiet (fail)
    go_wp2_with fail
    go_ret;exact⟨Zai HV.o.symm,Zam HBWR.o _⟩
   ·have hbad2:x.1<(T.code.length:Int):=ω;have HNX:=Zh (show ((Za5 T).take (k+1)).any (fun x=>decide ((T.code.length:Int)<=x.1))=false by
     obtain⟨h1,h2⟩:=List.getElem?_eq_some_iff.1 HX.o;rw [List.take_succ_eq_append_getElem h1,List.any_append,HNO.o,h2];simp;omega)
    go_wp2_with fail
    go_quiet (fail)
    go_wp2_with fail
    go_roundw
    case rel=>exact⟨k+1,ω,by go_num,HNX.o,Zam HBR.o _⟩
    case measure=>exact msr
  ·have HANY:=Zh (show (Za5 T).any (fun x=>decide ((T.code.length:Int)<=x.1))=false by have:=HNO.o;rwa [List.take_of_length_le ω] at this);have HV:=Zh (show Zj2 T=0 by unfold Zj2;rw [XE3.o,HANY.o];rfl)
   go_wp2_with fail
   go_ret;exact⟨Zai HV.o.symm,HBWR.o⟩
theorem Zuk (ci cc:Nat)(hT:Zcb w T Ai Ac kv):Calls Tryz.prog 19 #[Zbr T (.slice Ai T.init.length ci) (.slice Ac T.code.length cc) kv] w (RB w (.int .i64 (Za6 T))):=by
 have HT:=Zh hT;have HTI:=Zh (fun w=>Z31 ⟨T.name.toArray⟩ w hT.nlen);have HCY:=Zh (fun w=>Z2l ⟨T.cycle.toArray⟩ w hT.ylen);have hcl:=hT.clen;have HBX:=Zh (Blk.new w 32 #[.int .i64 T.arch,.string ⟨T.name.toArray⟩,.string ⟨T.cycle.toArray⟩,.slice Ai T.init.length ci,.slice Ac T.code.length cc,.int .i64 T.q,.int .i64 T.k,.int .i64 T.t,.int .i64 T.r,.string ⟨T.l.toArray⟩,.int .i64 T.v,kv]);have HB0:=Zh (Zad w (.cells #[.int .i64 T.arch,.string ⟨T.name.toArray⟩,.string ⟨T.cycle.toArray⟩,.slice Ai T.init.length ci,.slice Ac T.code.length cc,.int .i64 T.q,.int .i64 T.k,.int .i64 T.t,.int .i64 T.r,.string ⟨T.l.toArray⟩,.int .i64 T.v,kv] 32 (0,0)));rw [Zvd];obtain⟨ab,hab⟩:∃ ab,Zd3 T.arch=ab:=⟨_,rfl⟩;have HAB:=Zh hab;rw [hab];cases ab with
 | false=>
  go_enter Tryz.func19,Tryz.ntmps19
  go_wp2_with (go_at_call 64;refine (Zr5 _ _).mono ?_;rw [HAB.o];rintro e w' ⟨rfl,rfl⟩)
  go_ret;exact⟨by simp,HB0.o⟩
 | true=>
  obtain⟨tb,htb⟩:∃ tb,Zg3 T.name=tb:=⟨_,rfl⟩;obtain⟨cb,hcb⟩:∃ cb,Zfc T.cycle=cb:=⟨_,rfl⟩;have HTB:=Zh htb;have HCB:=Zh hcb;rw [htb,hcb];by_cases htc:(tb&&cb)=false
  ·have hV:(if (true:Bool)=false then (5:Int) else if (tb&&cb)=false then 130 else if Zfq T.arch T.code≠0 then Zfq T.arch T.code else if Zfx T.arch T.code.length T.init≠0 then Zfx T.arch T.code.length T.init else if Zj2 T≠0 then Zj2 T else if 64<(Zdp (Zel T)).length then 2 else 0)=130:=by rw [htc];simp
   rw [hV];cases tb
   ·go_enter Tryz.func19,Tryz.ntmps19
    go_wp2_with (first
     | (go_at_call 64;refine (Zr5 _ _).mono ?_;rw [HAB.o];rintro e w' ⟨rfl,rfl⟩)
     | (go_at_call 65;refine (HTI.o _).mono ?_;(try rw [Zl5]);rw [HTB.o];rintro e w' ⟨rfl,rfl⟩))
    go_ret;exact⟨rfl,HB0.o⟩
   ·cases cb
    ·go_enter Tryz.func19,Tryz.ntmps19
     go_wp2_with (first
      | (go_at_call 64;refine (Zr5 _ _).mono ?_;rw [HAB.o];rintro e w' ⟨rfl,rfl⟩)
      | (go_at_call 65;refine (HTI.o _).mono ?_;(try rw [Zl5]);rw [HTB.o];rintro e w' ⟨rfl,rfl⟩)
      | (go_at_call 66;refine (HCY.o _).mono ?_;(try rw [Zl5]);rw [HCB.o];rintro e w' ⟨rfl,rfl⟩))
     go_ret;exact⟨rfl,HB0.o⟩
    ·cases htc
  ·obtain⟨rfl,rfl⟩:tb=true/\cb=true:=by cases tb <;> cases cb <;> simp at htc ⊢
   have hV:(if (true:Bool)=false then (5:Int) else if (true&&true)=false then 130 else if Zfq T.arch T.code≠0 then Zfq T.arch T.code else if Zfx T.arch T.code.length T.init≠0 then Zfx T.arch T.code.length T.init else if Zj2 T≠0 then Zj2 T else if 64<(Zdp (Zel T)).length then 2 else 0)=if Zfq T.arch T.code≠0 then Zfq T.arch T.code else if Zfx T.arch T.code.length T.init≠0 then Zfx T.arch T.code.length T.init else if Zj2 T≠0 then Zj2 T else if 64<(Zdp (Zel T)).length then 2 else 0:=by simp
   rw [hV];obtain⟨V,hVV⟩:∃ V,(if Zfq T.arch T.code≠0 then Zfq T.arch T.code else if Zfx T.arch T.code.length T.init≠0 then Zfx T.arch T.code.length T.init else if Zj2 T≠0 then Zj2 T else if 64<(Zdp (Zel T)).length then (2:Int) else 0)=V:=⟨_,rfl⟩;have HV:=Zh hVV;rw [hVV];go_enter Tryz.func19,Tryz.ntmps19
   go_wp2_with (first
    | (go_at_call 64;refine (Zr5 _ _).mono ?_;rw [HAB.o];rintro e w' ⟨rfl,rfl⟩)
    | (go_at_call 65;refine (HTI.o _).mono ?_;(try rw [Zl5]);rw [HTB.o];rintro e w' ⟨rfl,rfl⟩)
    | (go_at_call 66;refine (HCY.o _).mono ?_;(try rw [Zl5]);rw [HCB.o];rintro e w' ⟨rfl,rfl⟩))
   refine (Z4w ci cc HAB.o (HT.o.below HB0.o)).mono ?_;rintro e w2 ⟨rfl,hb⟩;have HBW1:=Zh (Zaa HB0.o hb);have HK1:=Zh (HBX.o.go hb);have k0:=HK1.o.cell 0;have k1:=HK1.o.cell 1;have k2:=HK1.o.cell 2;have k3:=HK1.o.cell 3;have k4:=HK1.o.cell 4;have k5:=HK1.o.cell 5;have k6:=HK1.o.cell 6;have k7:=HK1.o.cell 7;have k8:=HK1.o.cell 8;have k9:=HK1.o.cell 9;have k10:=HK1.o.cell 10;have k11:=HK1.o.cell 11;by_cases hE1:Zfq T.arch T.code=0
   rotate_left
   ·have HR:=Zh (show V=Zfq T.arch T.code by rw [<- HV.o,if_pos hE1]);have f3:(Zfq T.arch T.code != 0)=true:=by simpa using hE1
    have f4:(Zfq T.arch T.code == 0)=false:=by simpa using hE1
    go_wp2_with fail
    go_ret;exact⟨Zai HR.o.symm,HBW1.o⟩
   have XE1:=Zh hE1;have f1:(Zfq T.arch T.code != 0)=false:=by simpa using hE1
   go_wp2_with fail
   refine (Z46 ci cc HAB.o (HT.o.below HBW1.o)).mono ?_;rintro e w3 ⟨rfl,hb⟩;have HBW2:=Zh (Zaa HBW1.o hb);have HK2:=Zh (HK1.o.go hb);have k0:=HK2.o.cell 0;have k1:=HK2.o.cell 1;have k2:=HK2.o.cell 2;have k3:=HK2.o.cell 3;have k4:=HK2.o.cell 4;have k5:=HK2.o.cell 5;have k6:=HK2.o.cell 6;have k7:=HK2.o.cell 7;have k8:=HK2.o.cell 8;have k9:=HK2.o.cell 9;have k10:=HK2.o.cell 10;have k11:=HK2.o.cell 11;by_cases hE2:Zfx T.arch T.code.length T.init=0
   rotate_left
   ·have HR:=Zh (show V=Zfx T.arch T.code.length T.init by rw [<- HV.o,if_neg (by simp [XE1.o]),if_pos hE2]);have f3:(Zfx T.arch T.code.length T.init != 0)=true:=by simpa using hE2
    have f4:(Zfx T.arch T.code.length T.init == 0)=false:=by simpa using hE2
    go_wp2_with fail
    go_ret;exact⟨Zai HR.o.symm,HBW2.o⟩
   have XE2:=Zh hE2;have f2:(Zfx T.arch T.code.length T.init != 0)=false:=by simpa using hE2
   go_wp2_with fail
   refine (Z4i ci cc (HT.o.below HBW2.o)).mono ?_;rintro e w4 ⟨rfl,hb⟩;have HBW3:=Zh (Zaa HBW2.o hb);have HK3:=Zh (HK2.o.go hb);have k0:=HK3.o.cell 0;have k1:=HK3.o.cell 1;have k2:=HK3.o.cell 2;have k3:=HK3.o.cell 3;have k4:=HK3.o.cell 4;have k5:=HK3.o.cell 5;have k6:=HK3.o.cell 6;have k7:=HK3.o.cell 7;have k8:=HK3.o.cell 8;have k9:=HK3.o.cell 9;have k10:=HK3.o.cell 10;have k11:=HK3.o.cell 11;by_cases hE3:Zj2 T=0
   rotate_left
   ·have HR:=Zh (show V=Zj2 T by rw [<- HV.o,if_neg (by simp [XE1.o]),if_neg (by simp [XE2.o]),if_pos hE3]);have f3:(Zj2 T != 0)=true:=by simpa using hE3
    have f4:(Zj2 T == 0)=false:=by simpa using hE3
    go_wp2_with fail
    go_ret;exact⟨Zai HR.o.symm,HBW3.o⟩
   have XE3:=Zh hE3;have f3:(Zj2 T != 0)=false:=by simpa using hE3
   by_cases h64:64<(Zdp (Zel T)).length
   ·have HR:=Zh (show V=2 by rw [<- HV.o,if_neg (by simp [XE1.o]),if_neg (by simp [XE2.o]),if_neg (by simp [XE3.o]),if_pos h64]);exact m_77
   ·have HR:=Zh (show V=0 by rw [<- HV.o,if_neg (by simp [XE1.o]),if_neg (by simp [XE2.o]),if_neg (by simp [XE3.o]),if_neg h64]);exact m_77
end
end
end Go.Proofs.YtdfmcfppoohckaaGreatDoor
