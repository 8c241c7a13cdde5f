/- Layer 15: a trace that may be, is told to be so: the reference's before and thing, the pro -/
import Derived.Test.YtdfmcfppoohckaaGreatDoorTm02
import Derived.Test.YtdfmcfppoohckaaGreatDoorTm41
import Derived.Test.YtdfmcfppoohckaaGreatDoorTm42

namespace Go.Proofs.YtdfmcfppoohckaaGreatDoor
open Go.RowKit
section
set_option maxHeartbeats 4000000
set_option maxRecDepth 100000
theorem Z1u (a b:Th)(w:World)(h:ThO a b)(ha:a.1=-1->a.2.1=0)(hb:b.1=-1->b.2.1=0) :
  Calls Tryz.prog 40 #[.agg #[.int .i64 a.1,.int .i64 a.2.1,.string ⟨a.2.2.toArray⟩],.agg #[.int .i64 b.1,.int .i64 b.2.1,.string ⟨b.2.2.toArray⟩]] w fun e w'=>e=.returned (.bool true)/\Below w.heap.size w w':=by
 obtain⟨s,ar,al⟩:=a;obtain⟨t,br,bl⟩:=b;have HBA:=Zh (Zao w (.cells #[.int .i64 s,.int .i64 ar,.string ⟨al.toArray⟩] 25 (0,0)) (.cells #[.int .i64 t,.int .i64 br,.string ⟨bl.toArray⟩] 25 (0,0)));simp only at h ha hb HBA ⊢;unfold ThO at h;simp only at h;by_cases h1:s=-1
 ·rw [if_pos (Or.inl h1)] at h;have h2:t=-1:=(h.resolve_left (fun k=>k h1)).1;have h3:Op.bytesLess al bl=true:=by rw [Zc8];exact (h.resolve_left (fun k=>k h1)).2
  obtain rfl:=ha h1;obtain rfl:=hb h2;subst h1 h2;exact m_104
 ·have f1:(s == -1)=false:=by simpa using h1
  by_cases h2:t=-1
  ·subst h2;exact m_104
  ·have f2:(t == -1)=false:=by simpa using h2
   rw [if_neg (by rintro (k | k);exact h1 k;exact h2 k)] at h;clear ha hb h1 h2;have HAR:=Zh (fun z=>Zrj s ar t br z h);have HD:Hid (s≠t\/(s=t/\ar≠br)):=Zh (by rcases h with h | h;exact Or.inl ω;exact Or.inr ⟨h.1,ω⟩);clear h;rcases HD.o with hd | ⟨rfl,hd⟩
   ·have q1:(s == t)=false:=by simpa using hd
    exact m_79
   ·have q1:(ar == br)=false:=by simpa using hd
    exact m_79
theorem Z4g (a b:Th)(w:World)(h:ThO a b)(ha:a.1=-1->a.2.1=0)(hb:b.1=-1->b.2.1=0) :
  Calls Tryz.prog 35 #[.agg #[.int .i64 a.1,.int .i64 a.2.1,.string ⟨a.2.2.toArray⟩],.agg #[.int .i64 b.1,.int .i64 b.2.1,.string ⟨b.2.2.toArray⟩]] w fun e w'=>e=.returned (.bool true)/\Below w.heap.size w w':=by
 obtain⟨s,ar,al⟩:=a;obtain⟨t,br,bl⟩:=b;have HBA:=Zh (Zao w (.cells #[.int .i64 s,.int .i64 ar,.string ⟨al.toArray⟩] 25 (0,0)) (.cells #[.int .i64 t,.int .i64 br,.string ⟨bl.toArray⟩] 25 (0,0)));simp only at h ha hb HBA ⊢;unfold ThO at h;simp only at h;by_cases h1:s=-1
 ·rw [if_pos (Or.inl h1)] at h;have h2:t=-1:=(h.resolve_left (fun k=>k h1)).1;have h3:Op.bytesLess al bl=true:=by rw [Zc8];exact (h.resolve_left (fun k=>k h1)).2
  obtain rfl:=ha h1;obtain rfl:=hb h2;subst h1 h2;exact m_115
 ·have f1:(s == -1)=false:=by simpa using h1
  by_cases h2:t=-1
  ·subst h2;exact m_115
  ·have f2:(t == -1)=false:=by simpa using h2
   rw [if_neg (by rintro (k | k);exact h1 k;exact h2 k)] at h;clear ha hb h1 h2;rcases h with h | ⟨rfl,h⟩
   ·have q1:(s == t)=false:=by simp;omega
    go_enter Tryz.func35,Tryz.ntmps35
    go_wp2_with fail
    go_ret;exact⟨rfl,HBA.o⟩
   ·go_enter Tryz.func35,Tryz.ntmps35
    go_wp2_with fail
    go_ret;exact⟨rfl,HBA.o⟩
theorem Z8e (L:Ze2)(V:Ze5)(w:World)(x:Th)(e:Int×Int)(h:Zc1 w L V)(G:Zc5 L)(hx:Zk0 L x e) :
  Calls Tryz.prog 39 #[Zd4 V,.agg #[.int .i64 x.1,.int .i64 x.2.1,.string ⟨x.2.2.toArray⟩],.agg #[.int .i64 e.1,.int .i64 e.2]] w fun r w'=>r=.returned (.bool true)/\Below w.heap.size w w':=by
 have HPL:=Zh (fun (z:World) (hz:Below w.heap.size w z) (s:Nm) (hs:s∈L.lo)=>Zkl V L.lo s z (h.below hz).lo h.nlo G.nlo hs);obtain⟨⟨Al,nl,cl⟩,⟨Ai,ni,ci⟩,⟨Ae,ne,ce⟩,⟨Ab,nb,cb⟩,⟨Aa,na,ca⟩,⟨Ad,nd,cd⟩,⟨Ac,nc,cc⟩,⟨At,nt,ct⟩,⟨Ax,nx,cx⟩⟩:=V;simp only [Zd4,Sl.v];have HT:=Zh h;have hn1:=Zh (show nl=L.lo.length from h.nlo);have hn3:=Zh (show ne=L.a.evs.length from h.nev);simp only [Zd4,Sl.v] at HPL;have hl3:ne<=64:=by rw [hn3.o];exact G.nev
 clear h G;obtain⟨xt,xr,xl⟩:=x;obtain⟨ek,en⟩:=e;unfold Zk0 at hx;simp only at hx ⊢;have HBA:=Zh (Zug w (.cells #[.slice Al nl cl,.slice Ai ni ci,.slice Ae ne ce,.slice Ab nb cb,.slice Aa na ca,.slice Ad nd cd,.slice Ac nc cc,.slice At nt ct,.slice Ax nx cx] 41 (0,0)) (.cells #[.int .i64 xt,.int .i64 xr,.string ⟨xl.toArray⟩] 25 (0,0)) (.cells #[.int .i64 ek,.int .i64 en] 76 (0,0)));have HTA:Hid (Blk (((w.alloc (.cells #[.slice Al nl cl,.slice Ai ni ci,.slice Ae ne ce,.slice Ab nb cb,.slice Aa na ca,.slice Ad nd cd,.slice Ac nc cc,.slice At nt ct,.slice Ax nx cx] 41 (0,0))).alloc (.cells #[.int .i64 xt,.int .i64 xr,.string ⟨xl.toArray⟩] 25 (0,0))).alloc (.cells #[.int .i64 ek,.int .i64 en] 76 (0,0))) w.heap.size 41 #[.slice Al nl cl,.slice Ai ni ci,.slice Ae ne ce,.slice Ab nb cb,.slice Aa na ca,.slice Ad nd cd,.slice Ac nc cc,.slice At nt ct,.slice Ax nx cx]):=Zh (Blk.alloc (Blk.alloc (Blk.new w _ _) _) _)
 have HXA:Hid (Blk (((w.alloc (.cells #[.slice Al nl cl,.slice Ai ni ci,.slice Ae ne ce,.slice Ab nb cb,.slice Aa na ca,.slice Ad nd cd,.slice Ac nc cc,.slice At nt ct,.slice Ax nx cx] 41 (0,0))).alloc (.cells #[.int .i64 xt,.int .i64 xr,.string ⟨xl.toArray⟩] 25 (0,0))).alloc (.cells #[.int .i64 ek,.int .i64 en] 76 (0,0))) (w.heap.size+1) 25 #[.int .i64 xt,.int .i64 xr,.string ⟨xl.toArray⟩]):=Zh (Blk.alloc (by have:=Blk.new (w.alloc (.cells #[.slice Al nl cl,.slice Ai ni ci,.slice Ae ne ce,.slice Ab nb cb,.slice Aa na ca,.slice Ad nd cd,.slice Ac nc cc,.slice At nt ct,.slice Ax nx cx] 41 (0,0))) 25 #[.int .i64 xt,.int .i64 xr,.string ⟨xl.toArray⟩];rwa [World.size_alloc] at this) _)
 have HEA:Hid (Blk (((w.alloc (.cells #[.slice Al nl cl,.slice Ai ni ci,.slice Ae ne ce,.slice Ab nb cb,.slice Aa na ca,.slice Ad nd cd,.slice Ac nc cc,.slice At nt ct,.slice Ax nx cx] 41 (0,0))).alloc (.cells #[.int .i64 xt,.int .i64 xr,.string ⟨xl.toArray⟩] 25 (0,0))).alloc (.cells #[.int .i64 ek,.int .i64 en] 76 (0,0))) (w.heap.size+1+1) 76 #[.int .i64 ek,.int .i64 en]):=Zh (by have:=Blk.new ((w.alloc (.cells #[.slice Al nl cl,.slice Ai ni ci,.slice Ae ne ce,.slice Ab nb cb,.slice Aa na ca,.slice Ad nd cd,.slice Ac nc cc,.slice At nt ct,.slice Ax nx cx] 41 (0,0))).alloc (.cells #[.int .i64 xt,.int .i64 xr,.string ⟨xl.toArray⟩] 25 (0,0))) 76 #[.int .i64 ek,.int .i64 en];simpa only [World.size_alloc] using this);rcases hx with ⟨h1,h2,h3,h4,h5⟩ | ⟨h1,h2,h3,h4,h5,h6⟩
 ·subst h1 h2 h4 h5;have HP:=Zh (HPL.o _ HBA.o xl h3);obtain⟨j,hj⟩:∃ j,L.lo.idxOf xl=j:=⟨_,rfl⟩;rw [hj] at HP HBA HTA HXA HEA ⊢;clear hj h3 HTA HPL;go_enter Tryz.func39,Tryz.ntmps39
  go_wp2_with (go_at_call 21;refine HP.o.mono ?_;rintro r w9 ⟨rfl,hb⟩;have HB9:=Zh (Zaa HBA.o hb);have k1:=(HXA.o.go hb).cell 1;have k2:=(HEA.o.go hb).cell 0;have k3:=(HEA.o.go hb).cell 1;clear hb)
  go_ret;exact⟨rfl,HB9.o⟩
 ·subst h5;have hxf:(xt == -1)=false:=by simp;omega
  rcases h6 with ⟨rfl,h7⟩ | ⟨rfl,i,y,rfl,hy,h8,h9⟩
  ·have HNU:=Zh (fun (z:World)=>show Calls Tryz.prog 84 #[.int .i64 en] z fun r w'=>r=.returned (.bool true)/\z=w' by
    have:=Znk z en;rw [h7] at this;exact this)
   clear h7 HPL HTA HXA HEA;go_enter Tryz.func39,Tryz.ntmps39
   go_wp2_with (go_at_call 84;refine (HNU.o _).mono ?_;rintro r w' ⟨rfl,rfl⟩)
   go_ret;exact⟨rfl,HBA.o⟩
  ·obtain⟨b,o,eA,c0,c1,c2,c3,c4,c5⟩:=Zc6 (HT.o.ev.below HBA.o) hy;simp only at eA;subst eA;obtain⟨yt,yp,yd,yl,yv,yr⟩:=y;simp only at c0 c1 c2 c3 c4 c5 h8 h9;subst h8 h9;have hil:=(List.getElem?_eq_some_iff.1 hy).1;rw [<- hn3.o] at hil;have hii:(0:Int)<=(i:Int):=ω;have hij:(i:Int)<(ne:Int):=ω;have hd0:decide ((0:Int)<=(i:Int))=true:=decide_eq_true hii;have hd1:decide ((i:Int)<(ne:Int))=true:=decide_eq_true hij;have hd2:decide (i<ne)=true:=decide_eq_true hil;clear hy c1 c3 c4 c5 HPL;go_enter Tryz.func39,Tryz.ntmps39
   go_wp2_with fail
   generalize ((w.alloc _).alloc _).alloc _=w9 at *;have k2:w9.cell? ⟨w.heap.size,2,none⟩=some (.slice (some ⟨b,o,none⟩) ne ce):=HTA.o.cell 2;have k3:=HEA.o.cm 1;have k4:=HXA.o.cm 0
   go_quiet (fail)
   go_wp2_with fail
   go_ret;exact⟨rfl,Zam HBA.o _⟩
end
section
abbrev evV (x:Evt):Value:=.agg #[.int .i64 x.th,.int .i64 x.pl,.int .i64 x.dr,.int .i64 x.lc,.int .i64 x.vl,.int .i64 x.rg]
theorem Zhm {α:Type}{c:List α}{j:Nat}{x:α}(h:c[j]?=some x)(p:α->Bool):(c.take (j+1)).any p=((c.take j).any p||p x):=by
 obtain⟨h1,rfl⟩:=List.getElem?_eq_some_iff.1 h;rw [List.take_succ_eq_append_getElem h1,List.any_append];simp
theorem Z1q {α:Type}{c:List α}{j:Nat}{x:α}(h:c[j]?=some x)(p:α->Bool)(hp:p x=true):c.any p=true:=by
 obtain⟨h1,rfl⟩:=List.getElem?_eq_some_iff.1 h;exact List.any_eq_true.2 ⟨_,List.getElem_mem h1,hp⟩
section
set_option maxHeartbeats 4000000
set_option maxRecDepth 100000
theorem Z74 (bars:List Br)(A:Option Addr)(cap p:Nat)(a b:Evt)(w:World)(h:Zmq.At w A bars)(hl:bars.length<=4096)(hp:w.cell? ⟨p,3,none⟩=some (.slice A bars.length cap)) :
  Calls Tryz.prog 77 #[evV a,evV b,.pointer (some ⟨p,0,none⟩)] w fun e w'=>e=.returned (.bool (Zke Zcz bars a b))/\Below w.heap.size w w':=by
 obtain⟨at_,ap,ad,al,av,ar⟩:=a;obtain⟨bt,bp,bd,bl,bv,br⟩:=b;simp only [evV];have HA:=Zh h;have HB0:=Zh (Zao w (.cells #[.int .i64 at_,.int .i64 ap,.int .i64 ad,.int .i64 al,.int .i64 av,.int .i64 ar] 54 (0,0)) (.cells #[.int .i64 bt,.int .i64 bp,.int .i64 bd,.int .i64 bl,.int .i64 bv,.int .i64 br] 54 (0,0)));have hp2:=Zac hp HB0.o;have HKA0:=Zh (Blk.alloc (Blk.new w 54 #[.int .i64 at_,.int .i64 ap,.int .i64 ad,.int .i64 al,.int .i64 av,.int .i64 ar]) (.cells #[.int .i64 bt,.int .i64 bp,.int .i64 bd,.int .i64 bl,.int .i64 bv,.int .i64 br] 54 (0,0)));have HKB0:Hid (Blk _ (w.heap.size+1) _ _):=Zh (Zcl w (.cells #[.int .i64 at_,.int .i64 ap,.int .i64 ad,.int .i64 al,.int .i64 av,.int .i64 ar] 54 (0,0)) 54 #[.int .i64 bt,.int .i64 bp,.int .i64 bd,.int .i64 bl,.int .i64 bv,.int .i64 br]);obtain⟨P,hP⟩:∃ P:Br->Bool,(fun x:Br=>decide (x.th=at_)&&decide (ap<x.pl)&&decide (x.pl<bp)&&Zcz x.fe ad bd)=P:=⟨_,rfl⟩;have HP:=Zh (fun x:Br=>show P x=(decide (x.th=at_)&&decide (ap<x.pl)&&decide (x.pl<bp)&&Zcz x.fe ad bd) by rw [<- hP]);obtain⟨q,hq⟩:∃ q,bars.any P=q:=⟨_,rfl⟩;have HQ:=Zh hq;have hq2:Zke Zcz bars ⟨at_,ap,ad,al,av,ar⟩ ⟨bt,bp,bd,bl,bv,br⟩=q:=by rw [<- hq,<- hP];rfl
 rw [hq2];clear h hp hP hq hq2;go_enter Tryz.func77,Tryz.ntmps77
 go_wp2_with fail
 generalize (w.alloc (.cells #[.int .i64 at_,.int .i64 ap,.int .i64 ad,.int .i64 al,.int .i64 av,.int .i64 ar] 54 (0,0))).alloc (.cells #[.int .i64 bt,.int .i64 bp,.int .i64 bd,.int .i64 bl,.int .i64 bv,.int .i64 br] 54 (0,0))=w1 at *;go_loopw [11] (fun v wr=>∃ i:Nat,i<=bars.length/\v=.int .i64 i/\(bars.take i).any P=false/\Below w.heap.size w wr/\Blk wr w.heap.size 54 #[.int .i64 at_,.int .i64 ap,.int .i64 ad,.int .i64 al,.int .i64 av,.int .i64 ar]/\Blk wr (w.heap.size+1) 54 #[.int .i64 bt,.int .i64 bp,.int .i64 bd,.int .i64 bl,.int .i64 bv,.int .i64 br]) (fun v _=>bars.length - (intOf v).toNat)
 case atStart=>exact⟨0,Nat.zero_le _,rfl,by simp,HB0.o,HKA0.o,HKB0.o⟩
 case round=>
  obtain⟨i,hi,rfl,hno,hb,hka,hkb⟩:=hrel;have HNO:=Zh hno;have HB:=Zh hb;have hii:(0:Int)<=(i:Int):=ω;have a0:=hka.cm 0;have a1:=hka.cm 1;have a2:=hka.cm 2;have b1:=hkb.cm 1;have b2:=hkb.cm 2;have hgb:=hkb.lt;have hga:=hka.lt;by_cases hlt:i<bars.length
  ·have hij:(i:Int)<(bars.length:Int):=ω;obtain⟨x,hx⟩:∃ x,bars[i]?=some x:=⟨_,List.getElem?_eq_getElem hlt⟩;obtain⟨g,o,rfl,c0,c1,c2⟩:=Zog (HA.o.below hb) hx;have HX:=Zh hx;have hpx:=HP.o x;obtain⟨xt,xp,xf⟩:=x;simp only at c0 c1 c2 hpx;have HB1:=Zh (Zab hb (.cells #[.int .i64 xt,.int .i64 xp,.int .i64 xf] 123 (0,0)));have HKA:=Zh (hka.alloc (.cells #[.int .i64 xt,.int .i64 xp,.int .i64 xf] 123 (0,0)));have HKB:=Zh (hkb.alloc (.cells #[.int .i64 xt,.int .i64 xp,.int .i64 xf] 123 (0,0)));clear hx hno hb hka hkb HB0 HKA0 HKB0;by_cases h1:xt=at_
   ·by_cases h2:ap<xp
    ·by_cases h3:xp<bp
     ·obtain⟨r,hr⟩:∃ r,Zcz xf ad bd=r:=⟨_,rfl⟩;have HR:=Zh (show P ⟨xt,xp,xf⟩=r by rw [hpx];simp [h1,h2,h3,hr]);have HO:=Zh (fun z:World=>Z26 xf ad bd z);rw [hr] at HO;subst h1;clear hpx hr;cases r
      ·go_wp2_with (go_at_call 78;refine (HO.o _).mono ?_;rintro e w' ⟨rfl,hb9⟩;have HB9:=Zh hb9;clear hb9)
       go_roundw
       case rel=>exact⟨i+1,ω,by go_num,by rw [Zhm HX.o,HNO.o,HR.o];rfl,Zaa HB1.o HB9.o,HKA.o.go HB9.o,HKB.o.go HB9.o⟩
       case measure=>simp [intOf];omega
      ·go_wp2_with (go_at_call 78;refine (HO.o _).mono ?_;rintro e w' ⟨rfl,hb9⟩;have HB9:=Zh hb9;clear hb9)
       go_ret;exact⟨Zae (by rw [<- HQ.o,Z1q HX.o P HR.o]),Zaa HB1.o HB9.o⟩
     ·have HR:=Zh (show P ⟨xt,xp,xf⟩=false by rw [hpx];simp [h3]);exact m_93
    ·have HR:=Zh (show P ⟨xt,xp,xf⟩=false by rw [hpx];simp [h2]);exact m_93
   ·have HR:=Zh (show P ⟨xt,xp,xf⟩=false by rw [hpx];simp [h1]);have h1f:(xt == at_)=false:=by simpa using h1
    clear hpx
    go_wp2_with fail
    go_roundw
    case rel=>exact⟨i+1,ω,by go_num,by rw [Zhm HX.o,HNO.o,HR.o];rfl,HB1.o,HKA.o,HKB.o⟩
    case measure=>simp [intOf];omega
  ·have hij:¬ (i:Int)<(bars.length:Int):=ω;have HF:=Zh (show bars.any P=false by have:=HNO.o;rwa [List.take_of_length_le ω] at this)
   go_wp2_with fail
   go_ret;exact⟨Zae (by rw [<- HQ.o,HF.o]),HB.o⟩
end
end
section
set_option maxHeartbeats 4000000
set_option maxRecDepth 100000
theorem Z7q (a k:Nat)(w:World)(ha:a<18446744073709551616)(hk:k<64):Calls Tryz.prog 42 #[.int .u64 (a:Int),.int .i64 (k:Int)] w fun e w'=>e=.returned (.bool (a.testBit k))/\w=w':=by
 have hq:((a:Int) / (2:Int) ^ k)=((a / 2 ^ k:Nat):Int):=by simp
 have hlt2:a / 2 ^ k<18446744073709551616:=Nat.lt_of_le_of_lt (Nat.div_le_self _ _) ha;have hb:=Zj9 hlt2;rw [<- hq] at hb;have hbm:=Zqb a k;have hki:(k:Int)<64:=ω;have hk0:(0:Int)<=(k:Int):=ω;cases hbt:a.testBit k with
 | true=>
  have hb1:bits .and .u64 ((a:Int) / (2:Int) ^ k) 1=1:=by rw [hb];rw [hbt] at hbm;simp at hbm;simp [hbm]
  exact m_109
 | false=>
  have hb1:bits .and .u64 ((a:Int) / (2:Int) ^ k) 1=0:=by rw [hb];rw [hbt] at hbm;simp at hbm;simp [hbm]
  exact m_109
theorem Z5b (n q:Nat)(m:List Nat)(w:World)(hb:Blk w q 70 (Zjn.flat m).toArray)(hm:m.length=n)(hn:n<=64)(hlt:∀ x∈m,x<2 ^ n) :
  Calls Tryz.prog 41 #[.agg #[.int .i64 (n:Int),.slice (some ⟨q,0,none⟩) n n]] w fun e w'=>e=.returned (.bool true)/\Below w.heap.size w w':=by
 have HQ:=Zh hb;have HM:=Zh hm;have HL:=Zh hlt;have HB0:=Zh (Zad w (.cells #[.int .i64 (n:Int),.slice (some ⟨q,0,none⟩) n n] 48 (0,0)));have HR0:=Zh (Blk.new w 48 #[.int .i64 (n:Int),.slice (some ⟨q,0,none⟩) n n]);have hn1:(n:Int)<=64:=ω;clear hb hm hlt;go_enter Tryz.func41,Tryz.ntmps41
 go_wp2_with fail
 go_loopw [3] (fun v wr=>∃ i:Nat,i<=n/\v=.int .i64 i/\Below w.heap.size w wr/\Blk wr w.heap.size 48 #[.int .i64 (n:Int),.slice (some ⟨q,0,none⟩) n n]) (fun v _=>n - (intOf v).toNat)
 case atStart=>exact⟨0,Nat.zero_le _,rfl,HB0.o,HR0.o⟩
 case round=>
  obtain⟨i,hi,rfl,hb,hr⟩:=hrel;have HB:=Zh hb;have HR:=Zh hr;have k0:=hr.cm 0;have hii:(0:Int)<=(i:Int):=ω;clear hb hr HB0 HR0;by_cases hl:i<n
  ·have hij:(i:Int)<(n:Int):=ω;obtain⟨x,hx⟩:∃ x,m[i]?=some x:=⟨_,List.getElem?_eq_getElem (by rw [HM.o];exact hl)⟩;have HX:=Zh (HL.o x (List.mem_of_getElem? hx));have HC:=Zh (Zms hx);clear hx
   go_wp2_with fail
   go_loopw [4] (fun v wr=>∃ j:Nat,n<=j/\j<=64/\v=.int .i64 j/\Below w.heap.size w wr/\Blk wr w.heap.size 48 #[.int .i64 (n:Int),.slice (some ⟨q,0,none⟩) n n]) (fun v _=>64 - (intOf v).toNat)
   case atStart=>exact⟨n,Nat.le_refl _,hn,rfl,HB.o,HR.o⟩
   case round=>
    clear k0 HB HR;obtain⟨j,hj,hj2,rfl,hb,hr⟩:=hrel;have HB:=Zh hb;have HR:=Zh hr;have k1:wr.cell? ⟨w.heap.size,1,none⟩=some (.slice (some ⟨q,0,none⟩) n n):=hr.cell 1;have c0:wr.cell? ⟨q,i,none⟩=some (.int .u64 (x:Int)):=by rw [(HQ.o.go hb).cell];exact HC.o
    have hjj:(0:Int)<=(j:Int):=ω;clear hb hr;by_cases hl2:j<64
    ·have hjl:(j:Int)<64:=ω;have HBT:=Zh (fun z=>show Calls Tryz.prog 42 #[.int .u64 (x:Int),.int .i64 (j:Int)] z fun e w'=>e=.returned (.bool false)/\z=w' by
      have h1:=HX.o;have h2:(2:Nat) ^ n<=2 ^ j:=Nat.pow_le_pow_right ω hj;have h3:(2:Nat) ^ j<2 ^ 64:=Nat.pow_lt_pow_right ω hl2;have:=Z7q x j z ω hl2;rw [Nat.testBit_lt_two_pow ω] at this;exact this)
     go_wp2_with (go_at_call 42;refine (HBT.o _).mono ?_;rintro e w' ⟨rfl,rfl⟩)
     go_roundw
     case rel=>exact⟨j+1,ω,ω,by go_num,HB.o,HR.o⟩
     case measure=>simp [intOf];omega
    ·have hjl:¬ (j:Int)<64:=ω;clear c0 k1
     go_wp2_with fail
     go_roundw
     case rel=>exact⟨i+1,ω,by go_num,HB.o,HR.o⟩
     case measure=>simp [intOf];omega
  exact m_141
theorem Z75 (n q:Nat)(m:List Nat)(w:World)(i j x:Nat)(hb:Blk w q 70 (Zjn.flat m).toArray)(hm:m.length=n)(hn:n<=64)(hlt:∀ x∈m,x<2 ^ n)(hx:m[i]?=some x)(hj:j<n) :
  Calls Tryz.prog 10 #[.agg #[.int .i64 (n:Int),.slice (some ⟨q,0,none⟩) n n],.int .i64 (i:Int),.int .i64 (j:Int)] w fun e w'=>e=.returned (.bool (x.testBit j))/\Below w.heap.size w w':=by
 have HB0:=Zh (Zad w (.cells #[.int .i64 (n:Int),.slice (some ⟨q,0,none⟩) n n] 48 (0,0)));have HR0:=Zh (Blk.new w 48 #[.int .i64 (n:Int),.slice (some ⟨q,0,none⟩) n n]);have HMY:=Zh (Z5b n q m _ (hb.go HB0.o) hm hn hlt);have HQ:=Zh hb;have HC:=Zh (Zms hx);have HBT:=Zh (fun z=>Z7q x j z (by have h1:=hlt x (List.mem_of_getElem? hx);have h2:(2:Nat) ^ n<=2 ^ 64:=Nat.pow_le_pow_right ω hn;omega) ω);have hi:=(List.getElem?_eq_some_iff.1 hx).1;rw [hm] at hi;have hii:(0:Int)<=(i:Int):=ω;have hij:(i:Int)<(n:Int):=ω;have hji:(0:Int)<=(j:Int):=ω;have hjj:(j:Int)<(n:Int):=ω;clear hb hm hlt hx;go_enter Tryz.func10,Tryz.ntmps10
 go_wp2_with first | (go_at_call 41;refine HMY.o.mono ?_;rintro e w2 ⟨rfl,hb2⟩;have HB2:=Zh (Zaa HB0.o hb2);have k0:=(HR0.o.go hb2).cell 0;have k1:=(HR0.o.go hb2).cell 1;have c0:w2.cell? ⟨q,i,none⟩=some (.int .u64 (x:Int)):=(by rw [(HQ.o.go HB2.o).cell];exact HC.o);clear hb2) | (go_at_call 42;refine (HBT.o _).mono ?_;rintro e w' ⟨rfl,rfl⟩)
 go_ret;exact⟨rfl,HB2.o⟩
end
theorem Z1v (w:World)(t:TypeId)(c:Array Value)(n:Nat)(hn:w.heap.size=n):Blk (w.alloc (.cells c t (0,0))) n t c:=by rw [<- hn];exact Blk.new w t c
theorem Z4m {P:World->Prop}(w:World)(t:TypeId)(c:Array Value)(h:∀ W,Blk W w.heap.size t c->W.heap.size=w.heap.size+1->Below w.heap.size w W->P W):P (w.alloc (.cells c t (0,0))):=
 h _ (Blk.new w t c) (by simp) (Zad w _)
theorem Z6l {P:World->Prop}(w:World)(t1 t2:TypeId)(c1 c2:Array Value)(h:∀ W,Blk W w.heap.size t1 c1->Blk W (w.heap.size+1) t2 c2->W.heap.size=w.heap.size+2->Below w.heap.size w W->P W):P ((w.alloc (.cells c1 t1 (0,0))).alloc (.cells c2 t2 (0,0))):=
 h _ ((Blk.new w t1 c1).alloc _) (Z1v _ t2 c2 _ (by simp)) (by simp) (Zao w _ _)
theorem Zhf {P:World->Prop}(w:World)(t1 t2 t3:TypeId)(c1 c2 c3:Array Value)(h:∀ W,Blk W w.heap.size t1 c1->Blk W (w.heap.size+1) t2 c2->Blk W (w.heap.size+1+1) t3 c3->W.heap.size=w.heap.size+3->Below w.heap.size w W->P W):P (((w.alloc (.cells c1 t1 (0,0))).alloc (.cells c2 t2 (0,0))).alloc (.cells c3 t3 (0,0))):=
 h _ (((Blk.new w t1 c1).alloc _).alloc _) (Blk.alloc (Z1v _ t2 c2 _ (by simp)) _) (Z1v _ t3 c3 _ (by simp)) (by simp) ((Zao w _ _).trans ((Zad _ _).mono (by simp;omega)))
theorem Blk.row {w:World}{q:Nat}{t:TypeId}{z:Array Value}(h:Blk w q t z)(c:Array Value):Blk (w.setRow q c) q t c:=setRow_heap w q z c t (0,0) h
theorem Blk.farRow {w:World}{g q:Nat}{t:TypeId}{z:Array Value}(h:Blk w g t z)(hne:g≠q)(c:Array Value):Blk (w.setRow q c) g t z:=(setRow_other w q g c hne).trans h
theorem Zjf {P:Program}{fn:Func}{rp:Nat}{T:TypeId}{tmps:Array Value}{W:World}{v:Value}{q:Nat}(hr:fn.results=#[.cell rp T])(hb:tmps.getD rp undef=.pointer (some ⟨q,0,none⟩))(hl:(loadVar T ⟨q,0,none⟩).run P W=.ok v W):(results fn tmps).run P W=.ok v W:=by
 have hb':tmps[rp]?.getD undef=.pointer (some ⟨q,0,none⟩):=by rw [<- hb];simp
 simp [results,hr,hb',asAddr,hl]
theorem Zas {P:Program}{ops:Array Oper}{l:List Oper}{a:Act}{W:World}{Q:Exit->Act->World->Prop}(h:wpList P ops Q l a W):wpList P ops Q l a W:=h
theorem Zfw {P:Program}{c:Code}{a:Act}{W:World}{Q:Exit->Act->World->Prop}(h:c.wp P Q a W):c.wp P Q a W:=h
theorem Zaw {P:Program}{ops:Array Oper}{rest:List Oper}{o:Oper}{a:Act}{W:World}{Q:Exit->Act->World->Prop}(T:TypeId)(tp g:Nat){t:TypeId}{c:Array Value}{d:TypeDesc}
  (h1:o.op=.load T (.tmp tp)) (g1:o.guard=none) (hg:Blk W g t c) (hu:P.underlying T=some d) (hd:(match d with | .struct _ | .array _ _=>true | _=>false)=true) (hi:(P.info? T).map (·.size)=some c.size)
  (ha:a.tmps.getD tp undef=.pointer (some ⟨g,0,none⟩)) (hK:wpList P ops Q rest (a.put o.dst (.agg c)) W):wpList P ops Q (o :: rest) a W:=
 wpList_plain g1 fun K1 hK1=>by
  unfold Oper.wp execOp;simp only [h1,Act.eval,ha,Instr.loadAt,Instr.sureAddr,Sem.run_bind,Sem.run_pure,Result.andThen_ok,run_loadVar_row W g t T c (0,0) d hg hu hd hi];exact hK1 _ _ hK
theorem Zap {P:Program}{ops:Array Oper}{rest:List Oper}{o:Oper}{a:Act}{W:World}{Q:Exit->Act->World->Prop}(T:TypeId)(tp vp q:Nat){t:TypeId}{c z:Array Value}
  (h1:o.op=.store T (.tmp tp) (.tmp vp)) (g1:o.guard=none) (e1:o.dst=none) (hq:Blk W q t z) (hz:z.size=c.size) (hi:(P.info? T).map (·.size)=some c.size) (hone:c.all (·.oneCell')=true)
  (ha:a.tmps.getD tp undef=.pointer (some ⟨q,0,none⟩)) (hv:a.tmps.getD vp undef=.agg c) (hK:wpList P ops Q rest a (W.setRow q c)):wpList P ops Q (o :: rest) a W:=
 wpList_plain g1 fun K1 hK1=>by
  unfold Oper.wp execOp;simp only [h1,Act.eval,ha,hv,Instr.storeAt,Instr.sureAddr,Sem.run_bind,Sem.run_pure,Result.andThen_ok,run_storeVar_row W q t T z c hq hi hz hone];have h:=hK1 _ _ hK;simpa [Oper.upon,Act.put,e1] using h
theorem Zjk {P:Program}{o:Oper}{a:Act}{W:World}{K:Act->World->Prop}{Q:Exit->Act->World->Prop}(T:TypeId)(tp vp q:Nat){t:TypeId}{c z:Array Value}
  (h1:o.op=.store T (.tmp tp) (.tmp vp)) (e1:o.dst=none) (hq:Blk W q t z) (hz:z.size=c.size) (hi:(P.info? T).map (·.size)=some c.size) (hone:c.all (·.oneCell')=true)
  (ha:a.tmps.getD tp undef=.pointer (some ⟨q,0,none⟩)) (hv:a.tmps.getD vp undef=.agg c) (h:K a (W.setRow q c)):o.wp P a W K Q:=by
 unfold Oper.wp execOp;simp only [h1,Act.eval,ha,hv,Instr.storeAt,Instr.sureAddr,Sem.run_bind,Sem.run_pure,Result.andThen_ok,run_storeVar_row W q t T z c hq hi hz hone];simpa [Oper.upon,Act.put,e1] using h
theorem Zbt {P:Program}{fn:Func}{R:Ending->World->Prop}{a:Act}{W:World}(T:TypeId)(rp q:Nat){t:TypeId}{c:Array Value}{d:TypeDesc}
  (hr:fn.results=#[.cell rp T]) (hq:Blk W q t c) (hu:P.underlying T=some d) (hd:(match d with | .struct _ | .array _ _=>true | _=>false)=true) (hi:(P.info? T).map (·.size)=some c.size)
  (hb:a.tmps.getD rp undef=.pointer (some ⟨q,0,none⟩)) (hdf:a.defers=[]) (h:R (.returned (.agg c)) W):bodyPost P fn R .ret a W:=
 ⟨hdf,_,Zjf hr hb (run_loadVar_row W q t T c (0,0) d hq hu hd hi),h⟩
theorem Znu {P:Program}{fn:Func}{rp sl:Nat}{T:TypeId}{tmps:Array Value}{W:World}{v:Value}{q:Nat}(hr:fn.results=#[.cell rp T,.tmp sl])(hb:tmps.getD rp undef=.pointer (some ⟨q,0,none⟩))(hl:(loadVar T ⟨q,0,none⟩).run P W=.ok v W):(results fn tmps).run P W=.ok (.tuple #[v,tmps.getD sl undef]) W:=by
 have hb':tmps[rp]?.getD undef=.pointer (some ⟨q,0,none⟩):=by rw [<- hb];simp
 simp [results,hr,hb',asAddr,hl]
theorem Znv {P:Program}{fn:Func}{R:Ending->World->Prop}{a:Act}{W:World}(T:TypeId)(rp q sl:Nat){t:TypeId}{c:Array Value}{d:TypeDesc}{u:Value}
  (hr:fn.results=#[.cell rp T,.tmp sl]) (hq:Blk W q t c) (hu:P.underlying T=some d) (hd:(match d with | .struct _ | .array _ _=>true | _=>false)=true) (hi:(P.info? T).map (·.size)=some c.size)
  (hb:a.tmps.getD rp undef=.pointer (some ⟨q,0,none⟩)) (hv:a.tmps.getD sl undef=u) (hdf:a.defers=[]) (h:R (.returned (.tuple #[.agg c,u])) W):bodyPost P fn R .ret a W:=
 ⟨hdf,_,Znu hr hb (run_loadVar_row W q t T c (0,0) d hq hu hd hi),by rw [hv];exact h⟩
theorem Zce {P:Program}{fn:Func}{R:Ending->World->Prop}{a:Act}{W:World}(i j:Nat)(hr:fn.results=#[.tmp i,.tmp j])(hdf:a.defers=[])(h:R (.returned (.tuple #[a.tmps.getD i undef,a.tmps.getD j undef])) W):bodyPost P fn R .ret a W:=
 ⟨hdf,_,by simp [results,hr],h⟩
theorem Zaz {P:Program}{a:Act}{o:Oper}{T:TypeId}{x:Operand}{A:Addr}{v:Value}{w:World}(h1:o.op=.load T x)(ha:a.eval x=.pointer (some A))(hl:(loadVar T A).run P w=.ok v w):(execOp a.eval o).run P w=.ok (.value v) w:=by
 unfold execOp;simp only [h1,ha,Instr.loadAt,Instr.sureAddr,Sem.run_bind,Sem.run_pure,Result.andThen_ok,hl]
theorem Zyu {P:Program}(fn:Func){R:Ending->World->Prop}{a:Act}{W:World}{Q:Exit->Act->World->Prop}{id:Nat}{o1 o2:Oper}(T:TypeId)(tp rp d1 g q:Nat){t t2:TypeId}{c z:Array Value}{d:TypeDesc}
  (h1:o1.op=.load T (.tmp tp)) (g1:o1.guard=none) (e1:o1.dst=some d1) (h2:o2.op=.store T (.tmp rp) (.tmp d1)) (g2:o2.guard=none) (e2:o2.dst=none) (hr:fn.results=#[.cell rp T])
  (hg:Blk W g t c) (hq:Blk W q t2 z) (hz:z.size=c.size) (hu:P.underlying T=some d) (hd:(match d with | .struct _ | .array _ _=>true | _=>false)=true) (hi:(P.info? T).map (·.size)=some c.size) (hone:c.all (·.oneCell')=true)
  (ha:a.tmps.getD tp undef=.pointer (some ⟨g,0,none⟩)) (hb:a.tmps.getD rp undef=.pointer (some ⟨q,0,none⟩)) (hne:rp≠d1) (hlt:d1<a.tmps.size) (hdf:a.defers=[])
  (hQ:∀ a' W',bodyPost P fn R .ret a' W'->Q .ret a' W') (h:R (.returned (.agg c)) (W.setRow q c)):(Code.seq (.region id #[o1,o2] false) .ret).wp P Q a W:=by
 apply wp_seq_k;intro K hK;have hl:(loadVar T ⟨g,0,none⟩).run P W=.ok (.agg c) W:=run_loadVar_row W g t T c (0,0) d hg hu hd hi;have hs:(storeVar T ⟨q,0,none⟩ (.agg c)).run P W=.ok () (W.setRow q c):=run_storeVar_row W q t2 T z c hq hi hz hone;have hl2:(loadVar T ⟨q,0,none⟩).run P (W.setRow q c)=.ok (.agg c) (W.setRow q c):=run_loadVar_row _ q t2 T c (0,0) d (hq.row c) hu hd hi;refine wp_region_lit (l:=[o1,o2]) (wpList_plain g1 fun K1 hK1=>?_);unfold Oper.wp execOp;simp only [h1,Act.eval,ha,Instr.loadAt,Instr.sureAddr,Sem.run_bind,Sem.run_pure,Result.andThen_ok,hl];refine hK1 _ _ (wpList_plain g2 fun K2 hK2=>?_);have ev:(a.put o1.dst (.agg c)).tmps.getD d1 undef=.agg c:=by
  rw [e1];simp [Act.put,hlt]
 have er:(a.put o1.dst (.agg c)).tmps.getD rp undef=.pointer (some ⟨q,0,none⟩):=by
  rw [e1,<- hb];simp [Act.put,Array.getElem?_setIfInBounds_ne (Ne.symm hne)]
 unfold Oper.wp execOp;simp only [h2,Act.eval,ev,er,Instr.storeAt,Instr.sureAddr,Sem.run_bind,Sem.run_pure,Result.andThen_ok,hs];refine hK2 _ _ (wpList_nil (hK _ _ (wp_ret (hQ _ _ ⟨?_,_,Zjf hr ?_ hl2,h⟩))))
 ·rw [e1,e2];exact hdf
 ·rw [e2];exact er
section
set_option maxHeartbeats 4000000
set_option maxRecDepth 100000
theorem Z47 (f:Nat)(a b:Rg)(w:World):Calls Tryz.prog 122 #[Za2 f a,Za2 f b] w fun e w'=>∃ v,e=.returned (.tuple #[.bool v,.bool (!(Zby a.h||Zby b.h))])/\((Zby a.h||Zby b.h)=false->v=Zan a.h b.h)/\Below w.heap.size w w':=by
 obtain⟨ha,oa⟩:=a;obtain⟨hb,ob⟩:=b;cases ha with
 | num x=>
  cases hb with
  | num y=>
   by_cases e:x=y
   ·subst e;exact m_66
   exact m_65
  | adr y=>
   exact m_66
  | rd y=>
   exact m_66
  | non=>
   exact m_66
 | adr x=>
  cases hb with
  | num y=>
   exact m_66
  | adr y=>
   by_cases e:x=y
   ·subst e;exact m_66
   ·have e1:(x == y)=false:=by simpa using e
    exact m_67
  | rd y=>
   exact m_66
  | non=>
   exact m_66
 | rd x=>
  cases hb with
  | num y=>
   exact m_66
  | adr y=>
   exact m_66
  | rd y=>
   by_cases e:((f+x:Nat):Int)=((f+y:Nat):Int)
   ·skip
    exact m_67
   exact m_65
  | non=>
   exact m_66
 | non=>
  cases hb with
  | num y=>
   exact m_66
  | adr y=>
   exact m_66
  | rd y=>
   exact m_66
  | non=>
   exact m_66
end
section
set_option maxHeartbeats 4000000
set_option maxRecDepth 100000
theorem Z25 {op:Int}(h8:op=8\/op=9\/op=10):∀ {a:Zd8},Zqs a->Zcw op a (.num 0)=a
 | .num x,h=>by
  show Zd8.num (opN op x 0)=_;rcases h8 with rfl | rfl | rfl
  ·rw [show opN 8 x 0=bits .or .i64 x 0 from rfl,Zwj h]
  ·rw [show opN 9 x 0=bits .xor .i64 x 0 from rfl,Zt3 h]
  ·rw [show opN 10 x 0=IntKind.i32.wrap (x+0) from rfl,Int.add_zero,wrap32 h]
 | .adr _,_=>rfl
 | .rd _,_=>rfl
 | .non,_=>rfl
theorem Z24 {op:Int}(h8:op=8\/op=9\/op=10):∀ {b:Zd8},Zqs b->Zcw op (.num 0) b=b
 | .num x,h=>by
  show Zd8.num (opN op 0 x)=_;rcases h8 with rfl | rfl | rfl
  ·rw [show opN 8 0 x=bits .or .i64 0 x from rfl,Zxo h]
  ·rw [show opN 9 0 x=bits .xor .i64 0 x from rfl,Zt5 h]
  ·rw [show opN 10 0 x=IntKind.i32.wrap (0+x) from rfl,Int.zero_add,wrap32 h]
 | .adr _,_=>rfl
 | .rd _,_=>rfl
 | .non,_=>rfl
theorem Z21 {op:Int}:∀ {a b:Zd8},Zo8 a=false->Zc3 b=false->Zcw op a b=.non
 | .num _,_,h,_=>by cases h
 | .adr _,.num y,_,h=>by simp only [Zc3,decide_eq_false_iff_not] at h;simp [Zcw,h]
 | .rd _,.num y,_,h=>by simp only [Zc3,decide_eq_false_iff_not] at h;simp [Zcw,h]
 | .non,.num y,_,h=>by simp only [Zc3,decide_eq_false_iff_not] at h;simp [Zcw,h]
 | .adr _,.adr _,_,_=>rfl
 | .adr _,.rd _,_,_=>rfl
 | .adr _,.non,_,_=>rfl
 | .rd _,.adr _,_,_=>rfl
 | .rd _,.rd _,_,_=>rfl
 | .rd _,.non,_,_=>rfl
 | .non,.adr _,_,_=>rfl
 | .non,.rd _,_,_=>rfl
 | .non,.non,_,_=>rfl
theorem Z22 {op:Int}:∀ {a b:Zd8},Zo8 b=false->Zc3 a=false->Zcw op a b=.non
 | _,.num _,h,_=>by cases h
 | .num x,.adr _,_,h=>by simp only [Zc3,decide_eq_false_iff_not] at h;simp [Zcw,h]
 | .num x,.rd _,_,h=>by simp only [Zc3,decide_eq_false_iff_not] at h;simp [Zcw,h]
 | .num x,.non,_,h=>by simp only [Zc3,decide_eq_false_iff_not] at h;simp [Zcw,h]
 | .adr _,.adr _,_,_=>rfl
 | .adr _,.rd _,_,_=>rfl
 | .adr _,.non,_,_=>rfl
 | .rd _,.adr _,_,_=>rfl
 | .rd _,.rd _,_,_=>rfl
 | .rd _,.non,_,_=>rfl
 | .non,.adr _,_,_=>rfl
 | .non,.rd _,_,_=>rfl
 | .non,.non,_,_=>rfl
theorem Zm1:∀ {a:Zd8},Zo8 a=false->Zax a≠1
 | .num _,h=>by cases h
 | .adr _,_=>by show (2:Int)≠1;decide
 | .rd _,_=>by show (3:Int)≠1;decide
 | .non,_=>by show (4:Int)≠1;decide
theorem Zzo (f:Nat)(op:Int)(ha:Zd8)(oa ob:Nat)(w:World)(h1:oa<<<f<18446744073709551616)(h2:ob<<<f<18446744073709551616) :
  Calls Tryz.prog 127 #[.int .i64 op,Za2 f ⟨ha,oa⟩,Za2 f ⟨.num 0,ob⟩] w fun e w'=>e=.returned (Za2 f ⟨ha,oa|||ob⟩)/\Below w.heap.size w w':=by
 have HZA:=Zh (fun w=>Zij f ⟨ha,oa⟩ w);have HZB:=Zh (fun w=>Zij f ⟨(.num 0),ob⟩ w);have hor:=Zcf h1 h2;have hsh:=Zh7 oa ob f;simp only [Za2,hsh] at *;clear h1 h2 hsh;generalize oa<<<f=A at *;generalize ob<<<f=E at *;generalize A|||E=C at *
 go_enter Tryz.func127,Tryz.ntmps127;apply wp_seq_k;intro K hK;have HK:=Zh hK;clear hK
 go_wp2_with fail
 refine Zhf (P:=fun X=>K _ X) w _ _ _ _ _ _ ?_;intro W b0 b1 b2 hz hbW;refine HK.o _ _ ?_;clear HK K;have HA:=Zh b0;have HB:=Zh b1;have HO:=Zh b2;have HW:=Zh hbW;have hzW:w.heap.size+1+1<W.heap.size:=ω;have hzW1:w.heap.size+1<W.heap.size:=ω;have hzW0:w.heap.size<W.heap.size:=ω;clear b0 b1 b2 hz hbW;have a0:=HA.o.cm 0;have a1:=HA.o.cm 1;have a2:=HA.o.cm 2;have a3:=HA.o.cm 3;have b0:=HB.o.cm 0;have b1:=HB.o.cm 1;have b2:=HB.o.cm 2;have b3:=HB.o.cm 3
 go_wp2_with (go_at_call 165;refine Hid.o ?_)
 refine Zh ?_;refine (HZB.o _).mono ?_;rintro e w1 ⟨he,hb1⟩;simp only [Zc3,decide_true] at he;subst he;dsimp only;have hb2:=Zaa (Zad W (.cells #[.int .i64 4,.int .i64 0,.string ⟨#[]⟩,.int .u64 0] 87 (0,0))) hb1;have HL1:=Zh ((Blk.new W 87 #[.int .i64 4,.int .i64 0,.string ⟨#[]⟩,.int .u64 0]).go hb1);have HA1:=Zh (HA.o.go hb2);have HB1:=Zh (HB.o.go hb2);have HO1:=Zh (HO.o.go hb2);have HW1:=Zh (Zaa HW.o hb2);have hw1:=hb2.size;clear HA HB HO HW hb1 hb2 a0 a1 a2 a3 b0 b1 b2 b3;have a0:=HA1.o.cm 0;have a1:=HA1.o.cm 1;have a2:=HA1.o.cm 2;have a3:=HA1.o.cm 3;have b0:=HB1.o.cm 0;have b1:=HB1.o.cm 1;have b2:=HB1.o.cm 2;have b3:=HB1.o.cm 3;have HA9:=Zh (HA1.o.farRow (show w.heap.size≠W.heap.size by omega) #[.int .i64 (Zax ha),.int .i64 (Zb6 f ha),.string ⟨(Zb5 ha).toArray⟩,.int .u64 ((A:Nat):Int)]);have HB9:=Zh (HB1.o.farRow (show w.heap.size+1≠W.heap.size by omega) #[.int .i64 (Zax ha),.int .i64 (Zb6 f ha),.string ⟨(Zb5 ha).toArray⟩,.int .u64 ((A:Nat):Int)]);have HL9:=Zh (HL1.o.row #[.int .i64 (Zax ha),.int .i64 (Zb6 f ha),.string ⟨(Zb5 ha).toArray⟩,.int .u64 ((A:Nat):Int)])
 have HLf:Hid (Blk ((w1.setRow W.heap.size #[.int .i64 (Zax ha),.int .i64 (Zb6 f ha),.string ⟨(Zb5 ha).toArray⟩,.int .u64 ((A:Nat):Int)]).setCell ⟨W.heap.size,3,none⟩ (.int .u64 ((C:Nat):Int))) W.heap.size 87 #[.int .i64 (Zax ha),.int .i64 (Zb6 f ha),.string ⟨(Zb5 ha).toArray⟩,.int .u64 ((C:Nat):Int)]):=Zh (HL9.o.set_ 3 _);have HOf:=Zh ((HO1.o.farRow (show w.heap.size+1+1≠W.heap.size by omega) #[.int .i64 (Zax ha),.int .i64 (Zb6 f ha),.string ⟨(Zb5 ha).toArray⟩,.int .u64 ((A:Nat):Int)]).far (p:=⟨W.heap.size,3,none⟩) (show w.heap.size+1+1≠W.heap.size by omega) (.int .u64 ((C:Nat):Int)));have HWf:=Zh ((below_setRow HW1.o (show w.heap.size<=W.heap.size by omega) #[.int .i64 (Zax ha),.int .i64 (Zb6 f ha),.string ⟨(Zb5 ha).toArray⟩,.int .u64 ((A:Nat):Int)]).setCell (p:=⟨W.heap.size,3,none⟩) (show w.heap.size<=W.heap.size by omega) (.int .u64 ((C:Nat):Int)));have y3:=HA9.o.cell 3;have z3:=HB9.o.cell 3;have l3:=HL9.o.cell 3;have fl:=HL9.o.frozen 3;simp only [List.getElem?_toArray,List.getElem?_cons_succ,List.getElem?_cons_zero] at y3 z3 l3;clear a0 a1 a2 a3 b0 b1 b2 b3
 repeat (first | ((with_reducible refine Zas ?_);refine Zaw 87 4 w.heap.size rfl rfl HA1.o Tryz.underlying87 rfl κ rfl ?_) | ((with_reducible refine Zas ?_);refine Zap 87 7 12 W.heap.size rfl rfl rfl HL1.o (by rfl) κ κ rfl rfl ?_) | ((with_reducible refine Zas ?_);refine Zaw 87 7 W.heap.size rfl rfl HLf.o Tryz.underlying87 rfl κ rfl ?_) | ((with_reducible refine Zas ?_);refine Zap 87 6 77 (w.heap.size+1+1) rfl rfl rfl HOf.o (by rfl) κ κ rfl rfl ?_) | go_step)
 refine Zbt 87 6 (w.heap.size+1+1) rfl (HOf.o.row _) Tryz.underlying87 rfl κ rfl rfl ?_;exact⟨rfl,below_setRow HWf.o (show w.heap.size<=w.heap.size+1+1 by omega) _⟩
theorem Zzp (f:Nat)(op:Int)(hb:Zd8)(hzb:Zc3 hb=false)(oa ob:Nat)(w:World)(h1:oa<<<f<18446744073709551616)(h2:ob<<<f<18446744073709551616) :
  Calls Tryz.prog 127 #[.int .i64 op,Za2 f ⟨.num 0,oa⟩,Za2 f ⟨hb,ob⟩] w fun e w'=>e=.returned (Za2 f ⟨hb,oa|||ob⟩)/\Below w.heap.size w w':=by
 have HZA:=Zh (fun w=>Zij f ⟨(.num 0),oa⟩ w);have HZB:=Zh (fun w=>Zij f ⟨hb,ob⟩ w);have hor:=Zcf h1 h2;have hsh:=Zh7 oa ob f;simp only [Za2,hsh] at *;clear h1 h2 hsh;generalize oa<<<f=A at *;generalize ob<<<f=E at *;generalize A|||E=C at *
 go_enter Tryz.func127,Tryz.ntmps127;apply wp_seq_k;intro K hK;have HK:=Zh hK;clear hK
 go_wp2_with fail
 refine Zhf (P:=fun X=>K _ X) w _ _ _ _ _ _ ?_;intro W b0 b1 b2 hz hbW;refine HK.o _ _ ?_;clear HK K;have HA:=Zh b0;have HB:=Zh b1;have HO:=Zh b2;have HW:=Zh hbW;have hzW:w.heap.size+1+1<W.heap.size:=ω;have hzW1:w.heap.size+1<W.heap.size:=ω;have hzW0:w.heap.size<W.heap.size:=ω;clear b0 b1 b2 hz hbW;have a0:=HA.o.cm 0;have a1:=HA.o.cm 1;have a2:=HA.o.cm 2;have a3:=HA.o.cm 3;have b0:=HB.o.cm 0;have b1:=HB.o.cm 1;have b2:=HB.o.cm 2;have b3:=HB.o.cm 3
 go_wp2_with (go_at_call 165;refine Hid.o ?_)
 refine Zh ?_;refine (HZB.o _).mono ?_;rintro e w1 ⟨he,hb1⟩;simp only [hzb] at he;subst he;dsimp only;have hb2:=Zaa (Zad W (.cells #[.int .i64 4,.int .i64 0,.string ⟨#[]⟩,.int .u64 0] 87 (0,0))) hb1;have HL1:=Zh ((Blk.new W 87 #[.int .i64 4,.int .i64 0,.string ⟨#[]⟩,.int .u64 0]).go hb1);have HA1:=Zh (HA.o.go hb2);have HB1:=Zh (HB.o.go hb2);have HO1:=Zh (HO.o.go hb2);have HW1:=Zh (Zaa HW.o hb2);have hw1:=hb2.size;clear HA HB HO HW hb1 hb2 a0 a1 a2 a3 b0 b1 b2 b3;have a0:=HA1.o.cm 0;have a1:=HA1.o.cm 1;have a2:=HA1.o.cm 2;have a3:=HA1.o.cm 3;have b0:=HB1.o.cm 0;have b1:=HB1.o.cm 1;have b2:=HB1.o.cm 2;have b3:=HB1.o.cm 3
 go_wp2_with (go_at_call 165;refine Hid.o ?_)
 refine Zh ?_;refine (HZA.o _).mono ?_;rintro e w2 ⟨he,hb1⟩;simp only [Zc3,decide_true] at he;subst he;dsimp only;have HL2:=Zh (HL1.o.go hb1);have HA2:=Zh (HA1.o.go hb1);have HB2:=Zh (HB1.o.go hb1);have HO2:=Zh (HO1.o.go hb1);have HW2:=Zh (Zaa HW1.o hb1);have hw2:=hb1.size;clear HL1 HA1 HB1 HO1 HW1 hb1 a0 a1 a2 a3 b0 b1 b2 b3;have HA9:=Zh (HA2.o.farRow (show w.heap.size≠W.heap.size by omega) #[.int .i64 (Zax hb),.int .i64 (Zb6 f hb),.string ⟨(Zb5 hb).toArray⟩,.int .u64 ((E:Nat):Int)]);have HB9:=Zh (HB2.o.farRow (show w.heap.size+1≠W.heap.size by omega) #[.int .i64 (Zax hb),.int .i64 (Zb6 f hb),.string ⟨(Zb5 hb).toArray⟩,.int .u64 ((E:Nat):Int)]);have HL9:=Zh (HL2.o.row #[.int .i64 (Zax hb),.int .i64 (Zb6 f hb),.string ⟨(Zb5 hb).toArray⟩,.int .u64 ((E:Nat):Int)]);have HLf:Hid (Blk ((w2.setRow W.heap.size #[.int .i64 (Zax hb),.int .i64 (Zb6 f hb),.string ⟨(Zb5 hb).toArray⟩,.int .u64 ((E:Nat):Int)]).setCell ⟨W.heap.size,3,none⟩ (.int .u64 ((C:Nat):Int))) W.heap.size 87 #[.int .i64 (Zax hb),.int .i64 (Zb6 f hb),.string ⟨(Zb5 hb).toArray⟩,.int .u64 ((C:Nat):Int)]):=Zh (HL9.o.set_ 3 _);have HOf:=Zh ((HO2.o.farRow (show w.heap.size+1+1≠W.heap.size by omega) #[.int .i64 (Zax hb),.int .i64 (Zb6 f hb),.string ⟨(Zb5 hb).toArray⟩,.int .u64 ((E:Nat):Int)]).far (p:=⟨W.heap.size,3,none⟩) (show w.heap.size+1+1≠W.heap.size by omega) (.int .u64 ((C:Nat):Int)))
 have HWf:=Zh ((below_setRow HW2.o (show w.heap.size<=W.heap.size by omega) #[.int .i64 (Zax hb),.int .i64 (Zb6 f hb),.string ⟨(Zb5 hb).toArray⟩,.int .u64 ((E:Nat):Int)]).setCell (p:=⟨W.heap.size,3,none⟩) (show w.heap.size<=W.heap.size by omega) (.int .u64 ((C:Nat):Int)));have y3:=HA9.o.cell 3;have z3:=HB9.o.cell 3;have l3:=HL9.o.cell 3;have fl:=HL9.o.frozen 3;simp only [List.getElem?_toArray,List.getElem?_cons_succ,List.getElem?_cons_zero] at y3 z3 l3
 repeat (first | ((with_reducible refine Zas ?_);refine Zaw 87 5 (w.heap.size+1) rfl rfl HB2.o Tryz.underlying87 rfl κ rfl ?_) | ((with_reducible refine Zas ?_);refine Zap 87 7 16 W.heap.size rfl rfl rfl HL2.o (by rfl) κ κ rfl rfl ?_) | ((with_reducible refine Zas ?_);refine Zaw 87 7 W.heap.size rfl rfl HLf.o Tryz.underlying87 rfl κ rfl ?_) | ((with_reducible refine Zas ?_);refine Zap 87 6 77 (w.heap.size+1+1) rfl rfl rfl HOf.o (by rfl) κ κ rfl rfl ?_) | go_step)
 refine Zbt 87 6 (w.heap.size+1+1) rfl (HOf.o.row _) Tryz.underlying87 rfl κ rfl rfl ?_;exact⟨rfl,below_setRow HWf.o (show w.heap.size<=w.heap.size+1+1 by omega) _⟩
theorem Zzq (f:Nat)(op:Int)(ha hb:Zd8)(hka:Zo8 ha=false)(hzb:Zc3 hb=false)(oa ob:Nat)(w:World)(h1:oa<<<f<18446744073709551616)(h2:ob<<<f<18446744073709551616) :
  Calls Tryz.prog 127 #[.int .i64 op,Za2 f ⟨ha,oa⟩,Za2 f ⟨hb,ob⟩] w fun e w'=>e=.returned (Za2 f ⟨.non,oa|||ob⟩)/\Below w.heap.size w w':=by
 have hza:Zc3 ha=false:=by
  cases ha with
  | num n=>cases hka
  | adr s=>rfl
  | rd i=>rfl
  | non=>rfl
 have hk1:=Zm1 hka;have hk2:¬ Zax ha=1:=hk1;have hk3:(Zax ha != 1)=true:=by simpa using hk1
 have hk4:decide (Zax ha=1)=false:=by simpa using hk1
 have HZA:=Zh (fun w=>Zij f ⟨ha,oa⟩ w);have HZB:=Zh (fun w=>Zij f ⟨hb,ob⟩ w);have hor:=Zcf h1 h2;have hsh:=Zh7 oa ob f;simp only [Za2,hsh] at *;clear h1 h2 hsh;generalize oa<<<f=A at *;generalize ob<<<f=E at *;generalize A|||E=C at *
 go_enter Tryz.func127,Tryz.ntmps127;apply wp_seq_k;intro K hK;have HK:=Zh hK;clear hK
 go_wp2_with fail
 refine Zhf (P:=fun X=>K _ X) w _ _ _ _ _ _ ?_;intro W b0 b1 b2 hz hbW;refine HK.o _ _ ?_;clear HK K;have HA:=Zh b0;have HB:=Zh b1;have HO:=Zh b2;have HW:=Zh hbW;have hzW:w.heap.size+1+1<W.heap.size:=ω;have hzW1:w.heap.size+1<W.heap.size:=ω;have hzW0:w.heap.size<W.heap.size:=ω;clear b0 b1 b2 hz hbW;have a0:=HA.o.cm 0;have a1:=HA.o.cm 1;have a2:=HA.o.cm 2;have a3:=HA.o.cm 3;have b0:=HB.o.cm 0;have b1:=HB.o.cm 1;have b2:=HB.o.cm 2;have b3:=HB.o.cm 3
 go_wp2_with (go_at_call 165;refine Hid.o ?_)
 refine Zh ?_;refine (HZB.o _).mono ?_;rintro e w1 ⟨he,hb1⟩;simp only [hzb] at he;subst he;dsimp only;have hb2:=Zaa (Zad W (.cells #[.int .i64 4,.int .i64 0,.string ⟨#[]⟩,.int .u64 0] 87 (0,0))) hb1;have HL1:=Zh ((Blk.new W 87 #[.int .i64 4,.int .i64 0,.string ⟨#[]⟩,.int .u64 0]).go hb1);have HA1:=Zh (HA.o.go hb2);have HB1:=Zh (HB.o.go hb2);have HO1:=Zh (HO.o.go hb2);have HW1:=Zh (Zaa HW.o hb2);have hw1:=hb2.size;clear HA HB HO HW hb1 hb2 a0 a1 a2 a3 b0 b1 b2 b3;have a0:=HA1.o.cm 0;have a1:=HA1.o.cm 1;have a2:=HA1.o.cm 2;have a3:=HA1.o.cm 3;have b0:=HB1.o.cm 0;have b1:=HB1.o.cm 1;have b2:=HB1.o.cm 2;have b3:=HB1.o.cm 3
 go_wp2_with (go_at_call 165;refine Hid.o ?_)
 refine Zh ?_;refine (HZA.o _).mono ?_;rintro e w2 ⟨he,hb1⟩;simp only [hza] at he;subst he;dsimp only;have HL2:=Zh (HL1.o.go hb1);have HA2:=Zh (HA1.o.go hb1);have HB2:=Zh (HB1.o.go hb1);have HO2:=Zh (HO1.o.go hb1);have HW2:=Zh (Zaa HW1.o hb1);have hw2:=hb1.size;clear HL1 HA1 HB1 HO1 HW1 hb1 a0 a1 a2 a3 b0 b1 b2 b3;have HLf:Hid (Blk (w2.setCell ⟨W.heap.size,3,none⟩ (.int .u64 ((C:Nat):Int))) W.heap.size 87 #[.int .i64 4,.int .i64 0,.string ⟨#[]⟩,.int .u64 ((C:Nat):Int)]):=Zh (HL2.o.set_ 3 _);have HOf:=Zh (HO2.o.far (p:=⟨W.heap.size,3,none⟩) (show w.heap.size+1+1≠W.heap.size by omega) (.int .u64 ((C:Nat):Int)));have HWf:=Zh (HW2.o.setCell (p:=⟨W.heap.size,3,none⟩) (show w.heap.size<=W.heap.size by omega) (.int .u64 ((C:Nat):Int)));have y3:=HA2.o.cm 3;have z3:=HB2.o.cm 3;have l3:=HL2.o.cm 3;have fl:=HL2.o.frozen 3;have a0:=HA2.o.cm 0;have b0:=HB2.o.cm 0
 repeat (first | ((with_reducible refine Zas ?_);refine Zap 87 7 12 W.heap.size rfl rfl rfl HL2.o (by rfl) κ κ rfl rfl ?_) | ((with_reducible refine Zas ?_);refine Zaw 87 7 W.heap.size rfl rfl HLf.o Tryz.underlying87 rfl κ rfl ?_) | ((with_reducible refine Zas ?_);refine Zap 87 6 77 (w.heap.size+1+1) rfl rfl rfl HOf.o (by rfl) κ κ rfl rfl ?_) | go_step)
 refine Zbt 87 6 (w.heap.size+1+1) rfl (HOf.o.row _) Tryz.underlying87 rfl κ rfl rfl ?_;exact⟨rfl,below_setRow HWf.o (show w.heap.size<=w.heap.size+1+1 by omega) _⟩
theorem Zzr (f:Nat)(op:Int)(x:Int)(hb:Zd8)(hzx:Zc3 (.num x)=false)(hkb:Zo8 hb=false)(oa ob:Nat)(w:World)(h1:oa<<<f<18446744073709551616)(h2:ob<<<f<18446744073709551616) :
  Calls Tryz.prog 127 #[.int .i64 op,Za2 f ⟨.num x,oa⟩,Za2 f ⟨hb,ob⟩] w fun e w'=>e=.returned (Za2 f ⟨.non,oa|||ob⟩)/\Below w.heap.size w w':=by
 have hzb:Zc3 hb=false:=by
  cases hb with
  | num n=>cases hkb
  | adr s=>rfl
  | rd i=>rfl
  | non=>rfl
 have hk1:=Zm1 hkb;have hk2:¬ Zax hb=1:=hk1;have hk3:(Zax hb != 1)=true:=by simpa using hk1
 have hk4:decide (Zax hb=1)=false:=by simpa using hk1
 have HZA:=Zh (fun w=>Zij f ⟨(.num x),oa⟩ w);have HZB:=Zh (fun w=>Zij f ⟨hb,ob⟩ w);have hor:=Zcf h1 h2;have hsh:=Zh7 oa ob f;simp only [Za2,hsh] at *;clear h1 h2 hsh;generalize oa<<<f=A at *;generalize ob<<<f=E at *;generalize A|||E=C at *
 go_enter Tryz.func127,Tryz.ntmps127;apply wp_seq_k;intro K hK;have HK:=Zh hK;clear hK
 go_wp2_with fail
 refine Zhf (P:=fun X=>K _ X) w _ _ _ _ _ _ ?_;intro W b0 b1 b2 hz hbW;refine HK.o _ _ ?_;clear HK K;have HA:=Zh b0;have HB:=Zh b1;have HO:=Zh b2;have HW:=Zh hbW;have hzW:w.heap.size+1+1<W.heap.size:=ω;have hzW1:w.heap.size+1<W.heap.size:=ω;have hzW0:w.heap.size<W.heap.size:=ω;clear b0 b1 b2 hz hbW;have a0:=HA.o.cm 0;have a1:=HA.o.cm 1;have a2:=HA.o.cm 2;have a3:=HA.o.cm 3;have b0:=HB.o.cm 0;have b1:=HB.o.cm 1;have b2:=HB.o.cm 2;have b3:=HB.o.cm 3
 go_wp2_with (go_at_call 165;refine Hid.o ?_)
 refine Zh ?_;refine (HZB.o _).mono ?_;rintro e w1 ⟨he,hb1⟩;simp only [hzb] at he;subst he;dsimp only;have hb2:=Zaa (Zad W (.cells #[.int .i64 4,.int .i64 0,.string ⟨#[]⟩,.int .u64 0] 87 (0,0))) hb1;have HL1:=Zh ((Blk.new W 87 #[.int .i64 4,.int .i64 0,.string ⟨#[]⟩,.int .u64 0]).go hb1);have HA1:=Zh (HA.o.go hb2);have HB1:=Zh (HB.o.go hb2);have HO1:=Zh (HO.o.go hb2);have HW1:=Zh (Zaa HW.o hb2);have hw1:=hb2.size;clear HA HB HO HW hb1 hb2 a0 a1 a2 a3 b0 b1 b2 b3;have a0:=HA1.o.cm 0;have a1:=HA1.o.cm 1;have a2:=HA1.o.cm 2;have a3:=HA1.o.cm 3;have b0:=HB1.o.cm 0;have b1:=HB1.o.cm 1;have b2:=HB1.o.cm 2;have b3:=HB1.o.cm 3
 go_wp2_with (go_at_call 165;refine Hid.o ?_)
 refine Zh ?_;refine (HZA.o _).mono ?_;rintro e w2 ⟨he,hb1⟩;simp only [hzx] at he;subst he;dsimp only;have HL2:=Zh (HL1.o.go hb1);have HA2:=Zh (HA1.o.go hb1);have HB2:=Zh (HB1.o.go hb1);have HO2:=Zh (HO1.o.go hb1);have HW2:=Zh (Zaa HW1.o hb1);have hw2:=hb1.size;clear HL1 HA1 HB1 HO1 HW1 hb1 a0 a1 a2 a3 b0 b1 b2 b3;have HLf:Hid (Blk (w2.setCell ⟨W.heap.size,3,none⟩ (.int .u64 ((C:Nat):Int))) W.heap.size 87 #[.int .i64 4,.int .i64 0,.string ⟨#[]⟩,.int .u64 ((C:Nat):Int)]):=Zh (HL2.o.set_ 3 _);have HOf:=Zh (HO2.o.far (p:=⟨W.heap.size,3,none⟩) (show w.heap.size+1+1≠W.heap.size by omega) (.int .u64 ((C:Nat):Int)));have HWf:=Zh (HW2.o.setCell (p:=⟨W.heap.size,3,none⟩) (show w.heap.size<=W.heap.size by omega) (.int .u64 ((C:Nat):Int)));have y3:=HA2.o.cm 3;have z3:=HB2.o.cm 3;have l3:=HL2.o.cm 3;have fl:=HL2.o.frozen 3;have a0:=HA2.o.cm 0;have b0:=HB2.o.cm 0
 repeat (first | ((with_reducible refine Zas ?_);refine Zap 87 7 12 W.heap.size rfl rfl rfl HL2.o (by rfl) κ κ rfl rfl ?_) | ((with_reducible refine Zas ?_);refine Zaw 87 7 W.heap.size rfl rfl HLf.o Tryz.underlying87 rfl κ rfl ?_) | ((with_reducible refine Zas ?_);refine Zap 87 6 77 (w.heap.size+1+1) rfl rfl rfl HOf.o (by rfl) κ κ rfl rfl ?_) | go_step)
 refine Zbt 87 6 (w.heap.size+1+1) rfl (HOf.o.row _) Tryz.underlying87 rfl κ rfl rfl ?_;exact⟨rfl,below_setRow HWf.o (show w.heap.size<=w.heap.size+1+1 by omega) _⟩
theorem Zzt (f:Nat)(x y:Int)(hx:Zc7 x)(hy:Zc7 y)(hzx:Zc3 (.num x)=false)(hzy:Zc3 (.num y)=false)(oa ob:Nat)(w:World)(h1:oa<<<f<18446744073709551616)(h2:ob<<<f<18446744073709551616) :
  Calls Tryz.prog 127 #[.int .i64 9,Za2 f ⟨.num x,oa⟩,Za2 f ⟨.num y,ob⟩] w fun e w'=>e=.returned (Za2 f ⟨.num (bits .xor .i64 x y),oa|||ob⟩)/\Below w.heap.size w w':=by
 have h4:=Zt2 hx hy;have h6:wrap64 (bits .xor .i64 x y)=bits .xor .i64 x y:=by rw [h4.1];exact Zgj h4.2
 clear h4 hx hy;have HZA:=Zh (fun w=>Zij f ⟨(.num x),oa⟩ w);have HZB:=Zh (fun w=>Zij f ⟨(.num y),ob⟩ w);have hor:=Zcf h1 h2;have hsh:=Zh7 oa ob f;simp only [Za2,hsh] at *;clear h1 h2 hsh;generalize oa<<<f=A at *;generalize ob<<<f=E at *;generalize A|||E=C at *
 go_enter Tryz.func127,Tryz.ntmps127;apply wp_seq_k;intro K hK;have HK:=Zh hK;clear hK
 go_wp2_with fail
 refine Zhf (P:=fun X=>K _ X) w _ _ _ _ _ _ ?_;intro W b0 b1 b2 hz hbW;refine HK.o _ _ ?_;clear HK K;have HA:=Zh b0;have HB:=Zh b1;have HO:=Zh b2;have HW:=Zh hbW;have hzW:w.heap.size+1+1<W.heap.size:=ω;have hzW1:w.heap.size+1<W.heap.size:=ω;have hzW0:w.heap.size<W.heap.size:=ω;clear b0 b1 b2 hz hbW;have a0:=HA.o.cm 0;have a1:=HA.o.cm 1;have a2:=HA.o.cm 2;have a3:=HA.o.cm 3;have b0:=HB.o.cm 0;have b1:=HB.o.cm 1;have b2:=HB.o.cm 2;have b3:=HB.o.cm 3
 go_wp2_with (go_at_call 165;refine Hid.o ?_)
 refine Zh ?_;refine (HZB.o _).mono ?_;rintro e w1 ⟨he,hb1⟩;simp only [hzy] at he;subst he;dsimp only;have hb2:=Zaa (Zad W (.cells #[.int .i64 4,.int .i64 0,.string ⟨#[]⟩,.int .u64 0] 87 (0,0))) hb1;have HL1:=Zh ((Blk.new W 87 #[.int .i64 4,.int .i64 0,.string ⟨#[]⟩,.int .u64 0]).go hb1);have HA1:=Zh (HA.o.go hb2);have HB1:=Zh (HB.o.go hb2);have HO1:=Zh (HO.o.go hb2);have HW1:=Zh (Zaa HW.o hb2);have hw1:=hb2.size;clear HA HB HO HW hb1 hb2 a0 a1 a2 a3 b0 b1 b2 b3;have a0:=HA1.o.cm 0;have a1:=HA1.o.cm 1;have a2:=HA1.o.cm 2;have a3:=HA1.o.cm 3;have b0:=HB1.o.cm 0;have b1:=HB1.o.cm 1;have b2:=HB1.o.cm 2;have b3:=HB1.o.cm 3
 go_wp2_with (go_at_call 165;refine Hid.o ?_)
 refine Zh ?_;refine (HZA.o _).mono ?_;rintro e w2 ⟨he,hb1⟩;simp only [hzx] at he;subst he;dsimp only;have HL2:=Zh (HL1.o.go hb1);have HA2:=Zh (HA1.o.go hb1);have HB2:=Zh (HB1.o.go hb1);have HO2:=Zh (HO1.o.go hb1);have HW2:=Zh (Zaa HW1.o hb1);have hw2:=hb1.size;clear HL1 HA1 HB1 HO1 HW1 hb1 a0 a1 a2 a3 b0 b1 b2 b3;have HA9:=Zh (HA2.o.farRow (show w.heap.size≠W.heap.size by omega) #[.int .i64 1,.int .i64 (bits .xor .i64 x y),.string ⟨#[]⟩,.int .u64 0]);have HB9:=Zh (HB2.o.farRow (show w.heap.size+1≠W.heap.size by omega) #[.int .i64 1,.int .i64 (bits .xor .i64 x y),.string ⟨#[]⟩,.int .u64 0]);have HL9:=Zh (HL2.o.row #[.int .i64 1,.int .i64 (bits .xor .i64 x y),.string ⟨#[]⟩,.int .u64 0]);have HLf:Hid (Blk ((w2.setRow W.heap.size #[.int .i64 1,.int .i64 (bits .xor .i64 x y),.string ⟨#[]⟩,.int .u64 0]).setCell ⟨W.heap.size,3,none⟩ (.int .u64 ((C:Nat):Int))) W.heap.size 87 #[.int .i64 1,.int .i64 (bits .xor .i64 x y),.string ⟨#[]⟩,.int .u64 ((C:Nat):Int)]):=Zh (HL9.o.set_ 3 _);have HOf:=Zh ((HO2.o.farRow (show w.heap.size+1+1≠W.heap.size by omega) #[.int .i64 1,.int .i64 (bits .xor .i64 x y),.string ⟨#[]⟩,.int .u64 0]).far (p:=⟨W.heap.size,3,none⟩) (show w.heap.size+1+1≠W.heap.size by omega) (.int .u64 ((C:Nat):Int)))
 have HWf:=Zh ((below_setRow HW2.o (show w.heap.size<=W.heap.size by omega) #[.int .i64 1,.int .i64 (bits .xor .i64 x y),.string ⟨#[]⟩,.int .u64 0]).setCell (p:=⟨W.heap.size,3,none⟩) (show w.heap.size<=W.heap.size by omega) (.int .u64 ((C:Nat):Int)));have y3:=HA9.o.cell 3;have z3:=HB9.o.cell 3;have l3:=HL9.o.cell 3;have fl:=HL9.o.frozen 3;simp only [List.getElem?_toArray,List.getElem?_cons_succ,List.getElem?_cons_zero] at y3 z3 l3;have a0:=HA2.o.cm 0;have b0:=HB2.o.cm 0;have a1:w2.cell? ⟨w.heap.size,1,none⟩=some (.int .i64 x):=HA2.o.cell 1;have b1:w2.cell? ⟨w.heap.size+1,1,none⟩=some (.int .i64 y):=HB2.o.cell 1
 repeat (first | ((with_reducible refine Zas ?_);refine Zap 87 7 55 W.heap.size rfl rfl rfl HL2.o (by rfl) κ κ rfl rfl ?_) | ((with_reducible refine Zas ?_);refine Zaw 87 7 W.heap.size rfl rfl HLf.o Tryz.underlying87 rfl κ rfl ?_) | ((with_reducible refine Zas ?_);refine Zap 87 6 77 (w.heap.size+1+1) rfl rfl rfl HOf.o (by rfl) κ κ rfl rfl ?_) | go_step)
 refine Zbt 87 6 (w.heap.size+1+1) rfl (HOf.o.row _) Tryz.underlying87 rfl κ rfl rfl ?_;exact⟨rfl,below_setRow HWf.o (show w.heap.size<=w.heap.size+1+1 by omega) _⟩
theorem Zzs (f:Nat)(x y:Int)(hx:Zc7 x)(hy:Zc7 y)(hzx:Zc3 (.num x)=false)(hzy:Zc3 (.num y)=false)(oa ob:Nat)(w:World)(h1:oa<<<f<18446744073709551616)(h2:ob<<<f<18446744073709551616) :
  Calls Tryz.prog 127 #[.int .i64 8,Za2 f ⟨.num x,oa⟩,Za2 f ⟨.num y,ob⟩] w fun e w'=>e=.returned (Za2 f ⟨.num (bits .or .i64 x y),oa|||ob⟩)/\Below w.heap.size w w':=by
 have h4:=Z38 hx hy;have h6:wrap64 (bits .or .i64 x y)=bits .or .i64 x y:=by rw [h4.1];exact Zgj h4.2
 clear h4 hx hy;have HZA:=Zh (fun w=>Zij f ⟨(.num x),oa⟩ w);have HZB:=Zh (fun w=>Zij f ⟨(.num y),ob⟩ w);have hor:=Zcf h1 h2;have hsh:=Zh7 oa ob f;simp only [Za2,hsh] at *;clear h1 h2 hsh;generalize oa<<<f=A at *;generalize ob<<<f=E at *;generalize A|||E=C at *
 go_enter Tryz.func127,Tryz.ntmps127;apply wp_seq_k;intro K hK;have HK:=Zh hK;clear hK
 go_wp2_with fail
 refine Zhf (P:=fun X=>K _ X) w _ _ _ _ _ _ ?_;intro W b0 b1 b2 hz hbW;refine HK.o _ _ ?_;clear HK K;have HA:=Zh b0;have HB:=Zh b1;have HO:=Zh b2;have HW:=Zh hbW;have hzW:w.heap.size+1+1<W.heap.size:=ω;have hzW1:w.heap.size+1<W.heap.size:=ω;have hzW0:w.heap.size<W.heap.size:=ω;clear b0 b1 b2 hz hbW;have a0:=HA.o.cm 0;have a1:=HA.o.cm 1;have a2:=HA.o.cm 2;have a3:=HA.o.cm 3;have b0:=HB.o.cm 0;have b1:=HB.o.cm 1;have b2:=HB.o.cm 2;have b3:=HB.o.cm 3
 go_wp2_with (go_at_call 165;refine Hid.o ?_)
 refine Zh ?_;refine (HZB.o _).mono ?_;rintro e w1 ⟨he,hb1⟩;simp only [hzy] at he;subst he;dsimp only;have hb2:=Zaa (Zad W (.cells #[.int .i64 4,.int .i64 0,.string ⟨#[]⟩,.int .u64 0] 87 (0,0))) hb1;have HL1:=Zh ((Blk.new W 87 #[.int .i64 4,.int .i64 0,.string ⟨#[]⟩,.int .u64 0]).go hb1);have HA1:=Zh (HA.o.go hb2);have HB1:=Zh (HB.o.go hb2);have HO1:=Zh (HO.o.go hb2);have HW1:=Zh (Zaa HW.o hb2);have hw1:=hb2.size;clear HA HB HO HW hb1 hb2 a0 a1 a2 a3 b0 b1 b2 b3;have a0:=HA1.o.cm 0;have a1:=HA1.o.cm 1;have a2:=HA1.o.cm 2;have a3:=HA1.o.cm 3;have b0:=HB1.o.cm 0;have b1:=HB1.o.cm 1;have b2:=HB1.o.cm 2;have b3:=HB1.o.cm 3
 go_wp2_with (go_at_call 165;refine Hid.o ?_)
 refine Zh ?_;refine (HZA.o _).mono ?_;rintro e w2 ⟨he,hb1⟩;simp only [hzx] at he;subst he;dsimp only;have HL2:=Zh (HL1.o.go hb1);have HA2:=Zh (HA1.o.go hb1);have HB2:=Zh (HB1.o.go hb1);have HO2:=Zh (HO1.o.go hb1);have HW2:=Zh (Zaa HW1.o hb1);have hw2:=hb1.size;clear HL1 HA1 HB1 HO1 HW1 hb1 a0 a1 a2 a3 b0 b1 b2 b3;have HA9:=Zh (HA2.o.farRow (show w.heap.size≠W.heap.size by omega) #[.int .i64 1,.int .i64 (bits .or .i64 x y),.string ⟨#[]⟩,.int .u64 0]);have HB9:=Zh (HB2.o.farRow (show w.heap.size+1≠W.heap.size by omega) #[.int .i64 1,.int .i64 (bits .or .i64 x y),.string ⟨#[]⟩,.int .u64 0]);have HL9:=Zh (HL2.o.row #[.int .i64 1,.int .i64 (bits .or .i64 x y),.string ⟨#[]⟩,.int .u64 0]);have HLf:Hid (Blk ((w2.setRow W.heap.size #[.int .i64 1,.int .i64 (bits .or .i64 x y),.string ⟨#[]⟩,.int .u64 0]).setCell ⟨W.heap.size,3,none⟩ (.int .u64 ((C:Nat):Int))) W.heap.size 87 #[.int .i64 1,.int .i64 (bits .or .i64 x y),.string ⟨#[]⟩,.int .u64 ((C:Nat):Int)]):=Zh (HL9.o.set_ 3 _);have HOf:=Zh ((HO2.o.farRow (show w.heap.size+1+1≠W.heap.size by omega) #[.int .i64 1,.int .i64 (bits .or .i64 x y),.string ⟨#[]⟩,.int .u64 0]).far (p:=⟨W.heap.size,3,none⟩) (show w.heap.size+1+1≠W.heap.size by omega) (.int .u64 ((C:Nat):Int)))
 have HWf:=Zh ((below_setRow HW2.o (show w.heap.size<=W.heap.size by omega) #[.int .i64 1,.int .i64 (bits .or .i64 x y),.string ⟨#[]⟩,.int .u64 0]).setCell (p:=⟨W.heap.size,3,none⟩) (show w.heap.size<=W.heap.size by omega) (.int .u64 ((C:Nat):Int)));have y3:=HA9.o.cell 3;have z3:=HB9.o.cell 3;have l3:=HL9.o.cell 3;have fl:=HL9.o.frozen 3;simp only [List.getElem?_toArray,List.getElem?_cons_succ,List.getElem?_cons_zero] at y3 z3 l3;have a0:=HA2.o.cm 0;have b0:=HB2.o.cm 0;have a1:w2.cell? ⟨w.heap.size,1,none⟩=some (.int .i64 x):=HA2.o.cell 1;have b1:w2.cell? ⟨w.heap.size+1,1,none⟩=some (.int .i64 y):=HB2.o.cell 1
 repeat (first | ((with_reducible refine Zas ?_);refine Zap 87 7 70 W.heap.size rfl rfl rfl HL2.o (by rfl) κ κ rfl rfl ?_) | ((with_reducible refine Zas ?_);refine Zaw 87 7 W.heap.size rfl rfl HLf.o Tryz.underlying87 rfl κ rfl ?_) | ((with_reducible refine Zas ?_);refine Zap 87 6 77 (w.heap.size+1+1) rfl rfl rfl HOf.o (by rfl) κ κ rfl rfl ?_) | go_step)
 refine Zbt 87 6 (w.heap.size+1+1) rfl (HOf.o.row _) Tryz.underlying87 rfl κ rfl rfl ?_;exact⟨rfl,below_setRow HWf.o (show w.heap.size<=w.heap.size+1+1 by omega) _⟩
theorem Zv6 (f:Nat)(x y:Int)(hx:Zc7 x)(hy:Zc7 y)(hzx:Zc3 (.num x)=false)(hzy:Zc3 (.num y)=false)(oa ob:Nat)(w:World)(h1:oa<<<f<18446744073709551616)(h2:ob<<<f<18446744073709551616) :
  Calls Tryz.prog 127 #[.int .i64 10,Za2 f ⟨.num x,oa⟩,Za2 f ⟨.num y,ob⟩] w fun e w'=>e=.returned (Za2 f ⟨.num (IntKind.i32.wrap (x+y)),oa|||ob⟩)/\Below w.heap.size w w':=by
 have h6:wrap64 (x+y)=x+y:=by unfold Zc7 at hx hy;simp [wrap64];omega
 have HWR:=Zh (fun w=>Z7l (x+y) w);rw [show IntKind.i32.wrap (x+y)=RowKit.wrap32 (x+y) by unfold IntKind.wrap;simp [RowKit.wrap32,IntKind.bits,IntKind.signed];omega];clear hx hy;have HZA:=Zh (fun w=>Zij f ⟨(.num x),oa⟩ w);have HZB:=Zh (fun w=>Zij f ⟨(.num y),ob⟩ w);have hor:=Zcf h1 h2;have hsh:=Zh7 oa ob f;simp only [Za2,hsh] at *;clear h1 h2 hsh;generalize oa<<<f=A at *;generalize ob<<<f=E at *;generalize A|||E=C at *
 go_enter Tryz.func127,Tryz.ntmps127;apply wp_seq_k;intro K hK;have HK:=Zh hK;clear hK
 go_wp2_with fail
 refine Zhf (P:=fun X=>K _ X) w _ _ _ _ _ _ ?_;intro W b0 b1 b2 hz hbW;refine HK.o _ _ ?_;clear HK K;have HA:=Zh b0;have HB:=Zh b1;have HO:=Zh b2;have HW:=Zh hbW;have hzW:w.heap.size+1+1<W.heap.size:=ω;have hzW1:w.heap.size+1<W.heap.size:=ω;have hzW0:w.heap.size<W.heap.size:=ω;clear b0 b1 b2 hz hbW;have a0:=HA.o.cm 0;have a1:=HA.o.cm 1;have a2:=HA.o.cm 2;have a3:=HA.o.cm 3;have b0:=HB.o.cm 0;have b1:=HB.o.cm 1;have b2:=HB.o.cm 2;have b3:=HB.o.cm 3
 go_wp2_with (go_at_call 165;refine Hid.o ?_)
 refine Zh ?_;refine (HZB.o _).mono ?_;rintro e w1 ⟨he,hb1⟩;simp only [hzy] at he;subst he;dsimp only;have hb2:=Zaa (Zad W (.cells #[.int .i64 4,.int .i64 0,.string ⟨#[]⟩,.int .u64 0] 87 (0,0))) hb1;have HL1:=Zh ((Blk.new W 87 #[.int .i64 4,.int .i64 0,.string ⟨#[]⟩,.int .u64 0]).go hb1);have HA1:=Zh (HA.o.go hb2);have HB1:=Zh (HB.o.go hb2);have HO1:=Zh (HO.o.go hb2);have HW1:=Zh (Zaa HW.o hb2);have hw1:=hb2.size;clear HA HB HO HW hb1 hb2 a0 a1 a2 a3 b0 b1 b2 b3;have a0:=HA1.o.cm 0;have a1:=HA1.o.cm 1;have a2:=HA1.o.cm 2;have a3:=HA1.o.cm 3;have b0:=HB1.o.cm 0;have b1:=HB1.o.cm 1;have b2:=HB1.o.cm 2;have b3:=HB1.o.cm 3
 go_wp2_with (go_at_call 165;refine Hid.o ?_)
 refine Zh ?_;refine (HZA.o _).mono ?_;rintro e w2 ⟨he,hb1⟩;simp only [hzx] at he;subst he;dsimp only;have HL2:=Zh (HL1.o.go hb1);have HA2:=Zh (HA1.o.go hb1);have HB2:=Zh (HB1.o.go hb1);have HO2:=Zh (HO1.o.go hb1);have HW2:=Zh (Zaa HW1.o hb1);have hw2:=hb1.size;clear HL1 HA1 HB1 HO1 HW1 hb1 a0 a1 a2 a3 b0 b1 b2 b3;have HA9:=Zh (HA2.o.farRow (show w.heap.size≠W.heap.size by omega) #[.int .i64 1,.int .i64 (RowKit.wrap32 (x+y)),.string ⟨#[]⟩,.int .u64 0]);have HB9:=Zh (HB2.o.farRow (show w.heap.size+1≠W.heap.size by omega) #[.int .i64 1,.int .i64 (RowKit.wrap32 (x+y)),.string ⟨#[]⟩,.int .u64 0]);have HL9:=Zh (HL2.o.row #[.int .i64 1,.int .i64 (RowKit.wrap32 (x+y)),.string ⟨#[]⟩,.int .u64 0]);have HLf:Hid (Blk ((w2.setRow W.heap.size #[.int .i64 1,.int .i64 (RowKit.wrap32 (x+y)),.string ⟨#[]⟩,.int .u64 0]).setCell ⟨W.heap.size,3,none⟩ (.int .u64 ((C:Nat):Int))) W.heap.size 87 #[.int .i64 1,.int .i64 (RowKit.wrap32 (x+y)),.string ⟨#[]⟩,.int .u64 ((C:Nat):Int)]):=Zh (HL9.o.set_ 3 _);have HOf:=Zh ((HO2.o.farRow (show w.heap.size+1+1≠W.heap.size by omega) #[.int .i64 1,.int .i64 (RowKit.wrap32 (x+y)),.string ⟨#[]⟩,.int .u64 0]).far (p:=⟨W.heap.size,3,none⟩) (show w.heap.size+1+1≠W.heap.size by omega) (.int .u64 ((C:Nat):Int)))
 have HWf:=Zh ((below_setRow HW2.o (show w.heap.size<=W.heap.size by omega) #[.int .i64 1,.int .i64 (RowKit.wrap32 (x+y)),.string ⟨#[]⟩,.int .u64 0]).setCell (p:=⟨W.heap.size,3,none⟩) (show w.heap.size<=W.heap.size by omega) (.int .u64 ((C:Nat):Int)));have y3:=HA9.o.cell 3;have z3:=HB9.o.cell 3;have l3:=HL9.o.cell 3;have fl:=HL9.o.frozen 3;simp only [List.getElem?_toArray,List.getElem?_cons_succ,List.getElem?_cons_zero] at y3 z3 l3;have a0:=HA2.o.cm 0;have b0:=HB2.o.cm 0;have a1:w2.cell? ⟨w.heap.size,1,none⟩=some (.int .i64 x):=HA2.o.cell 1;have b1:w2.cell? ⟨w.heap.size+1,1,none⟩=some (.int .i64 y):=HB2.o.cell 1
 go_wp2_with (go_at_call 166;refine Hid.o ?_)
 refine Zh ?_;refine (HWR.o _).mono ?_;rintro e w3 ⟨rfl,rfl⟩;dsimp only
 repeat (first | ((with_reducible refine Zas ?_);refine Zap 87 7 36 W.heap.size rfl rfl rfl HL2.o (by rfl) κ κ rfl rfl ?_) | ((with_reducible refine Zas ?_);refine Zaw 87 7 W.heap.size rfl rfl HLf.o Tryz.underlying87 rfl κ rfl ?_) | ((with_reducible refine Zas ?_);refine Zap 87 6 77 (w.heap.size+1+1) rfl rfl rfl HOf.o (by rfl) κ κ rfl rfl ?_) | go_step)
 refine Zbt 87 6 (w.heap.size+1+1) rfl (HOf.o.row _) Tryz.underlying87 rfl κ rfl rfl ?_;exact⟨rfl,below_setRow HWf.o (show w.heap.size<=w.heap.size+1+1 by omega) _⟩
theorem Zv5 (f:Nat)(op:Int)(h8:op=8\/op=9\/op=10)(a b:Rg)(ha:Zqs a.h)(hb:Zqs b.h)(w:World)(h1:a.on<<<f<18446744073709551616)(h2:b.on<<<f<18446744073709551616) :
  Calls Tryz.prog 127 #[.int .i64 op,Za2 f a,Za2 f b] w fun e w'=>e=.returned (Za2 f ⟨Zcw op a.h b.h,a.on|||b.on⟩)/\Below w.heap.size w w':=by
 obtain⟨ha',oa⟩:=a;obtain⟨hb',ob⟩:=b;simp only at ha hb h1 h2 ⊢;cases hzb:Zc3 hb' with
 | true=>
  cases hb' with
  | num y=>
   have hy:y=0:=by simpa [Zc3] using hzb
   subst hy;rw [Z25 h8 ha];exact Zzo f op ha' oa ob w h1 h2
  | adr s=>cases hzb
  | rd i=>cases hzb
  | non=>cases hzb
 | false=>
  cases hza:Zc3 ha' with
  | true=>
   cases ha' with
   | num x=>
    have hx:x=0:=by simpa [Zc3] using hza
    subst hx;rw [Z24 h8 hb];exact Zzp f op hb' hzb oa ob w h1 h2
   | adr s=>cases hza
   | rd i=>cases hza
   | non=>cases hza
  | false=>
   cases hka:Zo8 ha' with
   | false=>
    rw [Z21 hka hzb];exact Zzq f op ha' hb' hka hzb oa ob w h1 h2
   | true=>
    cases ha' with
    | num x=>
     cases hkb:Zo8 hb' with
     | false=>
      rw [Z22 hkb hza];exact Zzr f op x hb' hza hkb oa ob w h1 h2
     | true=>
      cases hb' with
      | num y=>
       rcases h8 with rfl | rfl | rfl
       ·exact Zzs f x y ha hb hza hzb oa ob w h1 h2
       ·exact Zzt f x y ha hb hza hzb oa ob w h1 h2
       ·exact Zv6 f x y ha hb hza hzb oa ob w h1 h2
      | adr s=>cases hkb
      | rd i=>cases hkb
      | non=>cases hkb
    | adr s=>cases hka
    | rd i=>cases hka
    | non=>cases hka
end
end Go.Proofs.YtdfmcfppoohckaaGreatDoor
