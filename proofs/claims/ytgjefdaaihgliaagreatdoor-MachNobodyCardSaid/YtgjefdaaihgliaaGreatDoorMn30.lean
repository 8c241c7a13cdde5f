/- Layer 13: whether a test's code may be: the reference's coded. -/
import Derived.Test.YtgjefdaaihgliaaGreatDoorMn22
import Derived.Test.YtgjefdaaihgliaaGreatDoorMn26

namespace Go.Proofs.YtgjefdaaihgliaaGreatDoor
open Go.RowKit
section
set_option maxHeartbeats 4000000
set_option maxRecDepth 100000
theorem Z4o (x:Ins)(w:World)(h:x.loc.length<=9223372036854775807):Calls Tryz.prog 191 #[Zyj x] w (RB w (.int .i64 (Zb9 (Zqe x)))):=
 Z7n x.d x.a x.b x.imm ⟨x.loc.toArray⟩ ⟨x.label.toArray⟩ x.fence w h x.op
theorem Zyp (x:Ins)(w:World)(h1:x.loc.length<=9223372036854775807)(h2:x.label.length<=9223372036854775807):Calls Tryz.prog 130 #[.int .i64 1,Zyj x] w (RB w (.int .i64 (Zb9 (okX 1 x)))):=by
 have HB:=Zh (Zad w (.cells #[.int .i64 x.op,.int .i64 x.d,.int .i64 x.a,.int .i64 x.b,.int .i64 x.imm,.string ⟨x.loc.toArray⟩,.string ⟨x.label.toArray⟩,.int .i64 x.fence] 92 (0,0)));have _h1:=h1;have _h2:=h2;go_enter Tryz.func130,Tryz.ntmps130
 go_wp2_with (go_at_call 191;refine (Z4o x _ h1).mono ?_;rintro e w2 ⟨rfl,hb2⟩;have HB2:=Zh hb2;clear hb2)
 go_ret;exact⟨rfl,Zab HB.o HB2.o⟩
theorem Zyq (x:Ins)(w:World)(h1:x.loc.length<=9223372036854775807)(h2:x.label.length<=9223372036854775807):Calls Tryz.prog 130 #[.int .i64 2,Zyj x] w (RB w (.int .i64 (Zb9 (okX 2 x)))):=by
 have HB:=Zh (Zad w (.cells #[.int .i64 x.op,.int .i64 x.d,.int .i64 x.a,.int .i64 x.b,.int .i64 x.imm,.string ⟨x.loc.toArray⟩,.string ⟨x.label.toArray⟩,.int .i64 x.fence] 92 (0,0)));have _h1:=h1;have _h2:=h2;go_enter Tryz.func130,Tryz.ntmps130
 go_wp2_with (go_at_call 136;refine (Zt7 x _ h2).mono ?_;rintro e w2 ⟨rfl,hb2⟩;have HB2:=Zh hb2;clear hb2)
 go_ret;exact⟨rfl,Zab HB.o HB2.o⟩
variable {w:World} {T:Tst} {Ai Ac:Option Addr} {kv:Value}
theorem Z0m {a:Int}(hA:a=1\/a=2)(x:Ins)(w:World)(h1:x.loc.length<=9223372036854775807)(h2:x.label.length<=9223372036854775807):Calls Tryz.prog 130 #[.int .i64 a,Zyj x] w (RB w (.int .i64 (Zb9 (okX a x)))):=by
 rcases hA with rfl | rfl
 ·exact Zyp x w h1 h2
 ·exact Zyq x w h1 h2
theorem Z4t (ci cc:Nat)(hA:Zef T.arch=true)(hT:Zcu w T Ai Ac kv):Calls Tryz.prog 83 #[Zbu T (.slice Ai T.init.length ci) (.slice Ac T.code.length cc) kv] w (RB w (.int .i64 (Zf7 T.arch T.code))):=by
 obtain⟨n,hn⟩:∃ n,T.code.length=n:=⟨_,rfl⟩;have HC:=Zh (hT.code.below (Zad w (.cells #[.int .i64 T.arch,.string ⟨T.name.toArray⟩,.string ⟨T.cycle.toArray⟩,.slice Ai T.init.length ci,.slice Ac n cc,.int .i64 T.q,.int .i64 T.k,.int .i64 T.t,.int .i64 T.r,.string ⟨T.l.toArray⟩,.int .i64 T.v,kv] 32 (0,0))));have HBX:=Zh (Blk.new w 32 #[.int .i64 T.arch,.string ⟨T.name.toArray⟩,.string ⟨T.cycle.toArray⟩,.slice Ai T.init.length ci,.slice Ac n cc,.int .i64 T.q,.int .i64 T.k,.int .i64 T.t,.int .i64 T.r,.string ⟨T.l.toArray⟩,.int .i64 T.v,kv]);have HB0:=Zh (Zad w (.cells #[.int .i64 T.arch,.string ⟨T.name.toArray⟩,.string ⟨T.cycle.toArray⟩,.slice Ai T.init.length ci,.slice Ac n cc,.int .i64 T.q,.int .i64 T.k,.int .i64 T.t,.int .i64 T.r,.string ⟨T.l.toArray⟩,.int .i64 T.v,kv] 32 (0,0)));have hcl:=hT.clen;have HA:=Zh (Zi9 hA);simp only [Zbu];have HN:=Zh hn;rw [hn] at hcl ⊢;clear hT hA hn;by_cases hb1:n<1\/16<n
 ·have HV:=Zh (Zjc (a:=T.arch) (HN.o ▸ hb1));rcases hb1 with hb1 | hb1
  all_goals
   have f1:decide ((n:Int)<1)=decide (n<1):=by simp;omega
   go_enter Tryz.func83,Tryz.ntmps83
   go_wp2_with fail
   go_ret;exact⟨Zak HV.o.symm,HB0.o⟩
 ·have g1:1<=n:=ω;have g2:n<=16:=ω;clear hb1;go_enter Tryz.func83,Tryz.ntmps83
  go_wp2_with fail
  generalize hw1:w.alloc (.cells #[.int .i64 T.arch,.string ⟨T.name.toArray⟩,.string ⟨T.cycle.toArray⟩,.slice Ai T.init.length ci,.slice Ac n cc,.int .i64 T.q,.int .i64 T.k,.int .i64 T.t,.int .i64 T.r,.string ⟨T.l.toArray⟩,.int .i64 T.v,kv] 32 (0,0))=w1 at HC HBX HB0 ⊢;have hsz:w.heap.size<w1.heap.size:=HBX.o.lt;have k0:=HBX.o.k0;have k4:=HBX.o.k4;clear hw1
  go_loop [3] (fun i=>∃ k:Nat,k<=n/\i=.int .i64 k/\∀ (j:Nat) (c:List Ins),j<k->T.code[j]?=some c->c.length<=256) (fun i=>n - (intOf i).toNat)
  case atStart=>exact⟨0,Nat.zero_le _,rfl,fun j c hj=>absurd hj (Nat.not_lt_zero _)⟩
  case round=>
   obtain⟨k,hk,rfl,hno⟩:=hrel;have HNO:=Zh hno;clear hno;by_cases hlt:k<n
   ·have hlk:k<T.code.length:=by rw [HN.o];exact hlt
    exact m_16
   ·have HL:=Zh (fun (j:Nat) (c:List Ins) (hc:T.code[j]?=some c)=>HNO.o j c (by have:=(List.getElem?_eq_some_iff.1 hc).1;have:=HN.o;omega) hc);clear HNO hk
    go_wp2_with fail
    clear hlt;go_loopw [4] (fun i wr=>∃ k:Nat,k<=n/\i=.int .i64 k/\(∀ (j:Nat) (c:List Ins),j<k->T.code[j]?=some c->Zku T.arch c=0)/\Below w1.heap.size w1 wr) (fun i _=>n - (intOf i).toNat)
    case atStart=>exact⟨0,Nat.zero_le _,rfl,(fun j c hj=>absurd hj (Nat.not_lt_zero _)),Below.refl _ _⟩
    case round=>
     obtain⟨k,hk,rfl,hno,hb⟩:=hrel;have HNO:=Zh hno;have HB:=Zh hb;have hzr:=hb.size;have k0r:wr.cell? ⟨w.heap.size,0,none⟩=some (.int .i64 T.arch):=Zac k0 hb;have k4r:wr.cell? ⟨w.heap.size,4,none⟩=some (.slice Ac n cc):=Zac k4 hb;clear hno hb;by_cases hlt:k<n
     ·have hlk:k<T.code.length:=by rw [HN.o];exact hlt
      have ex:=List.getElem?_eq_getElem hlk;obtain⟨c,hx⟩:∃ c,T.code[k]=c:=⟨_,rfl⟩;rw [hx] at ex;obtain⟨b,o,A2,c2,rfl,hc0,hA2,hl1,hl2⟩:=HC.o.at_ ex;have hc256:=HL.o k c ex;have HX:=Zh ex;have HA2:=Zh hA2;have HC0:=Zh hc0;have hkn:(k:Int)<(n:Int):=ω;clear ex hx hlk hA2 hc0
      go_wp2_with fail
      clear k0r k4r;obtain⟨wi,hwi⟩:∃ wi:World,wi=wr:=⟨_,rfl⟩;subst hwi;go_loopw [5] (fun i wr=>∃ i':Nat,i'<=c.length/\i=.int .i64 i'/\(c.take i').all (okX T.arch)=true/\Below wi.heap.size wi wr) (fun i _=>c.length - (intOf i).toNat)
      case atStart=>exact⟨0,Nat.zero_le _,rfl,by simp,Below.refl _ _⟩
      case round=>
       obtain⟨i,hi,rfl,hall,hbi⟩:=hrel;have HALL:=Zh hall;have HBI:=Zh hbi;have hzi:=hbi.size;clear hall hbi;have HBW:=Zh (Zab HB.o HBI.o);have k0i:=Zac k0 HBW.o;have k4i:=Zac k4 HBW.o;have hci:=Zac HC0.o HBW.o;have hsw:w.heap.size<wr.heap.size:=ω;by_cases hli:i<c.length
       ·have ey:=List.getElem?_eq_getElem hli;obtain⟨x,hx⟩:∃ x,c[i]=x:=⟨_,rfl⟩;rw [hx] at ey;obtain⟨b2,o2,rfl,hC⟩:=HA2.o.at_ ey;have hbl:=hC.lt;obtain⟨c0,c1,c2',c3,c4,c5,c6,c7,l1,l2⟩:=hC.go HBW.o;have HY:=Zh ey;have HL1:=Zh l1;have HL2:=Zh l2;have hkl:(i:Int)<(c.length:Int):=ω;obtain⟨r,hr⟩:∃ r,okX T.arch x=r:=⟨_,rfl⟩;have HR:=Zh hr;clear ey hx hC hr l1 l2;cases r
        ·have HV:=Zh (Zjb (a:=T.arch) (e:=91) (by rw [HN.o];exact g1) (by rw [HN.o];exact g2) HL.o HX.o (by unfold Zku;rw [Ztq HY.o HR.o];rfl) (by decide) HNO.o)
         go_wp2_with fail
         refine Zgy 10 κ κ ?_;simp only [List.take_succ_cons,List.take_zero,List.drop_succ_cons,List.drop_zero]
         repeat still_step
         refine wpStill_nil ?_
         go_wp2_with (go_at_call 130;refine (Z0m HA.o x _ HL1.o HL2.o).mono ?_;rw [HR.o];rintro e w2 ⟨rfl,hb2⟩;have HB2:=Zh (Zas hb2);clear hb2)
         go_ret;exact⟨Zak HV.o.symm,Zab HB0.o (Zab HBW.o HB2.o)⟩
        ·skip
         go_wp2_with fail
         refine Zgy 10 κ κ ?_;simp only [List.take_succ_cons,List.take_zero,List.drop_succ_cons,List.drop_zero]
         repeat still_step
         refine wpStill_nil ?_
         go_wp2_with (go_at_call 130;refine (Z0m HA.o x _ HL1.o HL2.o).mono ?_;rw [HR.o];rintro e w2 ⟨rfl,hb2⟩;have HB2:=Zh (Zas hb2);clear hb2)
         go_roundw
         case rel=>exact⟨i+1,ω,by go_num,by rw [Zqy HY.o,HALL.o,HR.o];rfl,Zab HBI.o HB2.o⟩
         case measure=>exact msr
       ·have HALC:=Zh (show c.all (okX T.arch)=true by have:=HALL.o;rwa [List.take_of_length_le ω] at this);clear HALL;rcases HA.o with ha | ha
        ·have HTH:=Zh (show Zku T.arch c=0 by unfold Zku;rw [HALC.o,ha];rfl);exact m_44
        ·have HTH:=Zh (show Zku T.arch c=(Zfi c).1 by unfold Zku;rw [HALC.o,ha];rfl);rw [ha] at k0i;clear ha;by_cases hE:(Zfi c).1=0
         ·go_wp2_with (go_at_call 90;refine (Z0o c A2 c2 wr hc256 (HA2.o.below HBW.o)).mono ?_;rintro e w2 ⟨hres,hb2⟩;have HB2:=Zh hb2;clear hb2;(rcases hres with ⟨hne,rfl⟩ | ⟨heq,A3,c3,rfl,hat3⟩;exact absurd hE hne))
          exact m_48
         ·have HV:=Zh (Zjb (a:=T.arch) (by rw [HN.o];exact g1) (by rw [HN.o];exact g2) HL.o HX.o HTH.o hE HNO.o);have hE2:((Zfi c).1 != 0)=true:=by simpa using hE
          have hE3:((Zfi c).1 == 0)=false:=by simpa using hE
          go_wp2_with (go_at_call 90;refine (Z0o c A2 c2 wr hc256 (HA2.o.below HBW.o)).mono ?_;rintro e w2 ⟨hres,hb2⟩;have HB2:=Zh hb2;clear hb2;(rcases hres with ⟨hne,rfl⟩ | ⟨heq,A3,c3,rfl,hat3⟩;rotate_left;exact absurd heq hE))
          go_ret;exact⟨Zak HV.o.symm,Zab HB0.o (Zab HBW.o HB2.o)⟩
     exact m_46
end
end Go.Proofs.YtgjefdaaihgliaaGreatDoor
