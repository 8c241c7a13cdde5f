/- Layer 10: the reference's Links. -/
import Derived.Test.YtgjefdaaihgliaaGreatDoorMn14
import Derived.Test.YtgjefdaaihgliaaGreatDoorMn18

namespace Go.Proofs.YtgjefdaaihgliaaGreatDoor
open Go.RowKit
section
def Zhh (c:List Ins)(w:World)(e:Ending)(w':World):Prop:=
 (((Zfi c).1≠0/\e=.returned (.tuple #[.slice none 0 0,.int .i64 (Zfi c).1,.int .i64 ((Zfi c).2:Int)]))\/
   ((Zfi c).1=0/\∃ A cap,e=.returned (.tuple #[.slice A c.length cap,.int .i64 0,.int .i64 0])/\Zde.At w' A (Zmx c)))/\Below w.heap.size w w'
def Zn2 (c:List Ins)(w:World)(e:Ending)(w':World):Prop:=
 (((Zfi c).1≠0/\e=.returned (.tuple #[.slice none 0 0,.int .i64 (Zfi c).1,.int .i64 ((Zfi c).2:Int)]))\/
   ((Zfi c).1=0/\∃ A cap,e=.returned (.tuple #[.slice A c.length cap,.int .i64 0,.int .i64 0])/\Zde.At w' A (Zmx c)/\Zde.Own 3 w.heap.size w' (.slice A c.length cap) (Zmx c)))/\Below w.heap.size w w'
theorem Zhh.bad {c:List Ins}{w w':World}{e:Ending}(h:(Zfi c).1≠0)(he:e=.returned (.tuple #[.slice none 0 0,.int .i64 (Zfi c).1,.int .i64 ((Zfi c).2:Int)]))(hb:Below w.heap.size w w'):Zn2 c w e w':=⟨Or.inl ⟨h,he⟩,hb⟩
theorem Zt7 (x:Ins)(w:World)(h:x.label.length<=9223372036854775807):Calls Tryz.prog 136 #[Zyj x] w (RB w (.int .i64 (Zb9 (Zk9 x)))):=
 Z7p x.op x.d x.a x.b x.imm ⟨x.loc.toArray⟩ ⟨x.label.toArray⟩ x.fence w h
def Zhq (c:List Ins)(k:Nat):List Int:=(List.range k).map (Zqg c)
theorem Zki (c:List Ins)(k:Nat):Zhq c (k+1)=Zhq c k++[Zqg c k]:=by simp [Zhq,List.range_succ]
theorem Zim (c:List Ins)(k:Nat):(Zhq c k).length=k:=by simp [Zhq]
def AtB (c:List Ins)(i:Nat)(s:List UInt8)(k:Nat)(at_:Int):Prop:=
 (at_=-1/\∀ j x,i<j->j<k->c[j]?=some x->Zct s x=false)\/
  ∃ m:Nat,at_=(m:Int)/\k=m+1/\i<m/\(c.drop (i+1)).findIdx? (Zct s)=some (m - (i+1))
theorem AtB.start (c:List Ins)(i:Nat)(s:List UInt8):AtB c i s (i+1) (-1):=Or.inl ⟨rfl,fun j x h1 h2=>by omega⟩
theorem AtB.more {c:List Ins}{i k:Nat}{s:List UInt8}(h:∀ j x,i<j->j<k->c[j]?=some x->Zct s x=false)(_hik:i+1<=k){y:Ins}(hy:c[k]?=some y)(hl:Zct s y=false):AtB c i s (k+1) (-1):=by
 refine Or.inl ⟨rfl,fun j x h1 h2 h3=>?_⟩;by_cases e:j=k
 ·subst e;rw [hy] at h3;cases h3;exact hl
 ·exact h j x h1 ω h3
theorem AtB.hit {c:List Ins}{i k:Nat}{s:List UInt8}(h:∀ j x,i<j->j<k->c[j]?=some x->Zct s x=false)(hik:i+1<=k){y:Ins}(hy:c[k]?=some y)(hl:Zct s y=true):AtB c i s (k+1) (k:Int):=by
 refine Or.inr ⟨k,rfl,rfl,ω,?_⟩;obtain⟨h1,rfl⟩:=List.getElem?_eq_some_iff.1 hy;rw [List.findIdx?_eq_some_iff_getElem];refine⟨by rw [List.length_drop];omega,by rw [List.getElem_drop];simpa [show i+1+(k - (i+1))=k by omega] using hl,fun j hj=>?_⟩;rw [List.getElem_drop];rw [h (i+1+j) _ ω ω (List.getElem?_eq_getElem ω)];simp
theorem AtB.none {c:List Ins}{i k:Nat}{s:List UInt8}(h:∀ j x,i<j->j<k->c[j]?=some x->Zct s x=false)(hk:c.length<=k):(c.drop (i+1)).any (Zct s)=false:=by
 rw [List.any_eq_false];intro x hx;obtain⟨j,hj⟩:=List.getElem?_of_mem hx;rw [List.getElem?_drop] at hj;rw [h _ x ω (by have:=(List.getElem?_eq_some_iff.1 hj).1;omega) hj];simp
theorem AtB.some_any {c:List Ins}{i m:Nat}{s:List UInt8}(h:(c.drop (i+1)).findIdx? (Zct s)=some m):(c.drop (i+1)).any (Zct s)=true:=by
 obtain⟨h1,h2,h3⟩:=List.findIdx?_eq_some_iff_getElem.1 h;exact List.any_eq_true.2 ⟨_,List.getElem_mem h1,h2⟩
theorem AtB.some_val {c:List Ins}{i m:Nat}{s:List UInt8}(him:i<m)(h:(c.drop (i+1)).findIdx? (Zct s)=some (m - (i+1))):((i+1+(c.drop (i+1)).findIdx (Zct s):Nat):Int)=(m:Int):=by
 rw [List.findIdx?_eq_some_iff_findIdx_eq] at h;rw [h.2];omega
section
set_option maxHeartbeats 4000000
set_option maxRecDepth 100000
theorem Zvb (c:List Ins)(A:Option Addr)(cap:Nat)(w:World)(hlen:c.length<=256)(hA:Zcj w A c) :
  Calls Tryz.prog 90 #[.slice A c.length cap] w (Zn2 c w):=by
 have HA:=Zh hA;have h256:¬ (256:Int)<(c.length:Int):=ω;go_enter Tryz.func90,Tryz.ntmps90
 go_wp2_with fail
 go_loopw [6] (fun kk wr=>∃ i:Nat,i<=c.length/\kk=.int .i64 i/\(∀ j,j<i->Zt2 c j=false)/\Below w.heap.size w wr) (fun kk _=>c.length - (intOf kk).toNat)
 case atStart=>exact⟨0,Nat.zero_le _,rfl,fun j hj=>absurd hj (Nat.not_lt_zero _),Below.refl _ _⟩
 case round=>
  obtain⟨i,hi,rfl,hno,hb⟩:=hrel;have HNO:=Zh hno;have HBR:=Zh hb;have hzr:=hb.size;by_cases hlt:i<c.length
  ·have ex:=List.getElem?_eq_getElem hlt;obtain⟨x,hx⟩:∃ x,c[i]=x:=⟨_,rfl⟩;rw [hx] at ex;obtain⟨b,o,rfl,hC⟩:=HA.o.at_ ex;have hbl:=hC.lt;obtain⟨c0,c1,c2,c3,c4,c5,c6,c7,l1,l2⟩:=hC.go HBR.o;have HX:=Zh ex;have HL2:=Zh l2;obtain⟨r,hr⟩:∃ r,Zk9 x=r:=⟨_,rfl⟩;have HR:=Zh hr;have hkl:(i:Int)<(c.length:Int):=ω;cases r
   ·go_wp2_with (go_at_call 136;refine (Zt7 x _ HL2.o).mono ?_;rw [HR.o];rintro e w2 ⟨rfl,hb2⟩;have HB2:=Zh hb2;clear hb2)
    refine bodyPost_ret (v:=.tuple #[.slice none 0 0,.int .i64 91,.int .i64 (i:Int)]) (by simp [results,Tryz.results90,go_sem]) rfl ?_;have e1:=Zri hlen hlt (by rw [Zmi HX.o,HR.o];rfl) HNO.o;exact Zhh.bad (by rw [e1];simp) (by rw [e1]) (Zab HBR.o HB2.o)
   ·go_wp2_with (go_at_call 136;refine (Zt7 x _ HL2.o).mono ?_;rw [HR.o];rintro e w2 ⟨rfl,hb2⟩;have HB2:=Zh hb2;clear hb2)
    go_roundw
    case rel=>exact⟨i+1,ω,by go_num,fun j hj=>by (rcases Nat.lt_succ_iff_lt_or_eq.1 hj with h | h);exact HNO.o j h;rw [h,Zmi HX.o,HR.o];rfl,Zab HBR.o HB2.o⟩
    case measure=>exact msr
  ·have hkn:i=c.length:=ω;subst hkn;have HOK:=Zh HNO.o;have HB0:=Zh HBR.o
   go_wp2_with fail
   obtain⟨wa,hwa⟩:∃ wa:World,wa=wr:=⟨_,rfl⟩;subst hwa;go_loopw [8,7] (fun kk vv wr=>∃ (i:Nat) (v:Value),i<=c.length/\kk=.int .i64 i/\vv=v/\(∀ j,j<i->Zj8 c j=false)/\Zde.Own 3 w.heap.size wr v (Zhq c i)/\Below w.heap.size w wr) (fun kk _ _=>c.length - (intOf kk).toNat)
   case atStart=>exact⟨0,_,Nat.zero_le _,rfl,rfl,fun j hj=>absurd hj (Nat.not_lt_zero _),Enc.Own.nil _ _ _,HB0.o⟩
   case round=>
    obtain⟨i,v,hi,rfl,rfl,hno,how,hb⟩:=hrel;obtain⟨Av,cv,rfl⟩:=Enc.Own.shp how;have HNO:=Zh hno;have HOW:=Zh how;have HBI:=Zh hb;have hzi:=hb.size;have HRL:=Zh (Zim c i);obtain⟨wi,hwi⟩:∃ wi:World,wi=wr:=⟨_,rfl⟩;subst hwi;by_cases hlt:i<c.length
    ·have ex:=List.getElem?_eq_getElem hlt;obtain⟨x,hx⟩:∃ x,c[i]=x:=⟨_,rfl⟩;rw [hx] at ex;obtain⟨b,o,rfl,hC⟩:=HA.o.at_ ex;have hbl:=hC.lt;obtain⟨c0,c1,c2,c3,c4,c5,c6,c7,_,_⟩:=hC.go HBI.o;have HX:=Zh ex;have hkl:(i:Int)<(c.length:Int):=ω;cases he12:(x.op == 12) with
     | true=>
      have he11:(x.op == 11)=false:=by simp at he12;simp [he12]
      go_wp2_with fail
      go_loopw [10] (fun kk wr2=>∃ k:Nat,k<=i/\kk=.int .i64 k/\(c.take k).any (Zct x.label)=false/\Below wi.heap.size wi wr2) (fun kk _=>i - (intOf kk).toNat)
      case atStart=>exact⟨0,Nat.zero_le _,rfl,by simp,Below.refl _ _⟩
      case round=>
       obtain⟨k,hk,rfl,hno2,hb2⟩:=hrel;have HN2:=Zh hno2;have HBK:=Zh hb2;have hzk:=hb2.size;by_cases hlk:k<i
       ·have ey:=List.getElem?_eq_getElem (show k<c.length by omega);obtain⟨y,hy⟩:∃ y,c[k]=y:=⟨_,rfl⟩;rw [hy] at ey;have HY:=Zh ey;have hlki:(k:Int)<(i:Int):=ω;have hlkn:(k:Int)<(c.length:Int):=ω;obtain⟨b2,o2,e2,hD⟩:=HA.o.at_ ey;simp only [Option.some.injEq,Addr.mk.injEq,and_true] at e2;obtain⟨rfl,rfl⟩:=e2;obtain⟨f0,f1,f2,f3,f4,f5,f6,f7,_,_⟩:=hD.go (Zab HBI.o HBK.o);obtain⟨d0,d1,d2,d3,d4,d5,d6,d7,_,_⟩:=hC.go (Zab HBI.o HBK.o);cases hy1:(y.op == 12) with
        | false=>
         have HNX:=Zh (show (c.take (k+1)).any (Zct x.label)=false by rw [Zjo HY.o,HN2.o];simp [Zct,hy1]);exact m_74
        | true=>
         cases hy2:(y.label == x.label) with
         | false=>
          have HNX:=Zh (show (c.take (k+1)).any (Zct x.label)=false by rw [Zjo HY.o,HN2.o];simp [Zct,hy2]);exact m_74
         | true=>
          have HLB:Hid (Zj8 c i=true):=Zh (by
           rw [Zdh HX.o,he12,Bool.true_and,show (c.take i).any (Zct x.label)=true from Ztr (j:=k) (by rw [List.getElem?_take,if_pos hlk];exact HY.o) _ (by simp [Zct,hy1,hy2])];rfl)
          go_wp2_with fail
          go_quiet (fail)
          go_wp2_with fail
          refine bodyPost_ret (v:=.tuple #[.slice none 0 0,.int .i64 93,.int .i64 (i:Int)]) (by simp [results,Tryz.results90,go_sem]) rfl ?_;have e1:=Zgr hlen hlt HOK.o HLB.o HNO.o;exact Zhh.bad (by rw [e1];simp) (by rw [e1]) (Zab HBI.o (Zag HBK.o _))
       ·have hki:k=i:=ω;subst hki;have HLB:=Zh (show Zj8 c k=false by rw [Zdh HX.o,HN2.o];simp [he11]);have HLV:=Zh (show Zqg c k=-1 by simp [Zqg,HX.o,he11]);obtain⟨d0,d1,d2,d3,d4,d5,d6,d7,_,_⟩:=hC.go (Zab HBI.o HBK.o);have HOK2:=Zh (HOW.o.below HBK.o)
        go_wp2_with (at_builtin;refine Enc.app Zmm _ rfl (.tmp 110) (.tmp 112) rfl (-1) w.heap.size _ _ rfl rfl HOK2.o (by have:=HRL.o;omega) (by have:=HRL.o;omega) ω ?_)
        intro v' w3 hown3 hg3;obtain⟨Av3,cv3,rfl⟩:=Enc.Own.shp hown3;have HO3:=Zh hown3;have HB3:=Zh hg3.below
        go_wp2_with fail
        go_roundw
        case rel=>exact⟨k+1,_,ω,by go_num,rfl,fun j hj=>by (rcases Nat.lt_succ_iff_lt_or_eq.1 hj with h | h);exact HNO.o j h;rw [h];exact HLB.o,by rw [Zki,HLV.o];exact HO3.o,(Zab HBI.o HBK.o).trans HB3.o⟩
        case measure=>exact msr
     | false=>
      cases he11:(x.op == 11) with
      | true=>
       go_wp2_with fail
       go_loopw [11,9] (fun kk aa wr2=>∃ (k:Nat) (at_:Int),i+1<=k/\k<=c.length/\kk=.int .i64 k/\aa=.int .i64 at_/\AtB c i x.label k at_/\Below wi.heap.size wi wr2) (fun kk _ _=>c.length - (intOf kk).toNat)
       case atStart=>exact⟨i+1,-1,Nat.le_refl _,ω,by go_num,rfl,AtB.start c i _,Below.refl _ _⟩
       case round=>
        obtain⟨k,at_,hik,hk,rfl,rfl,hat,hb2⟩:=hrel;have HBK:=Zh hb2;have hzk:=hb2.size;have HOKK:=Zh (HOW.o.below HBK.o);rcases hat with ⟨rfl,hno2⟩ | ⟨m,rfl,rfl,him,hany⟩
        ·have HN2:=Zh hno2;by_cases hlk:k<c.length
         ·have ey:=List.getElem?_eq_getElem hlk;obtain⟨y,hy⟩:∃ y,c[k]=y:=⟨_,rfl⟩;rw [hy] at ey;have HY:=Zh ey;have hlkn:(k:Int)<(c.length:Int):=ω;obtain⟨b2,o2,e2,hD⟩:=HA.o.at_ ey;simp only [Option.some.injEq,Addr.mk.injEq,and_true] at e2;obtain⟨rfl,rfl⟩:=e2;obtain⟨f0,f1,f2,f3,f4,f5,f6,f7,_,_⟩:=hD.go (Zab HBI.o HBK.o);obtain⟨d0,d1,d2,d3,d4,d5,d6,d7,_,_⟩:=hC.go (Zab HBI.o HBK.o);cases hy1:(y.op == 12) with
          | false=>
           have HNX:=Zh (AtB.more HN2.o hik HY.o (show Zct x.label y=false by simp [Zct,hy1]));exact m_69
          | true=>
           cases hy2:(y.label == x.label) with
           | false=>
            have HNX:=Zh (AtB.more HN2.o hik HY.o (show Zct x.label y=false by simp [Zct,hy2]));exact m_69
           | true=>
            have HNX:=Zh (AtB.hit HN2.o hik HY.o (show Zct x.label y=true by simp [Zct,hy1,hy2]))
            go_wp2_with fail
            go_quiet (fail)
            go_wp2_with fail
            go_roundw
            case rel=>exact⟨k+1,k,ω,ω,by go_num,rfl,HNX.o,Zag HBK.o _⟩
            case measure=>exact msr
         ·have HLB:Hid (Zj8 c i=true):=Zh (by rw [Zdh HX.o,AtB.none HN2.o ω];simp [he11])
          go_wp2_with fail
          refine bodyPost_ret (v:=.tuple #[.slice none 0 0,.int .i64 93,.int .i64 (i:Int)]) (by simp [results,Tryz.results90,go_sem]) rfl ?_;have e1:=Zgr hlen hlt HOK.o HLB.o HNO.o;exact Zhh.bad (by rw [e1];simp) (by rw [e1]) (Zab HBI.o HBK.o)
        ·have HLB:=Zh (show Zj8 c i=false by rw [Zdh HX.o,AtB.some_any hany];simp [he12]);have HLV:=Zh (show Zqg c i=(m:Int) by simp only [Zqg,HX.o,he11];simp only [if_true];exact AtB.some_val him hany);have hm0:¬ (m:Int)<0:=ω;by_cases hlk:m+1<c.length
         all_goals
          go_wp2_with (at_builtin;refine Enc.app Zmm _ rfl (.tmp 110) (.tmp 112) rfl ((m:Int)) w.heap.size _ _ rfl rfl HOKK.o (by have:=HRL.o;omega) (by have:=HRL.o;omega) ω ?_)
          intro v' w3 hown3 hg3;obtain⟨Av3,cv3,rfl⟩:=Enc.Own.shp hown3;have HO3:=Zh hown3;have HB3:=Zh hg3.below
          go_wp2_with fail
          go_roundw
          case rel=>exact⟨i+1,_,ω,by go_num,rfl,fun j hj=>by (rcases Nat.lt_succ_iff_lt_or_eq.1 hj with h | h);exact HNO.o j h;rw [h];exact HLB.o,by rw [Zki,HLV.o];exact HO3.o,(Zab HBI.o HBK.o).trans HB3.o⟩
          case measure=>exact msr
      | false=>
       have HLB:=Zh (show Zj8 c i=false by rw [Zdh HX.o];simp [he11,he12]);have HLV:=Zh (show Zqg c i=-1 by simp [Zqg,HX.o,he11])
       go_wp2_with (at_builtin;refine Enc.app Zmm _ rfl (.tmp 110) (.tmp 112) rfl (-1) w.heap.size _ _ rfl rfl HOW.o (by have:=HRL.o;omega) (by have:=HRL.o;omega) ω ?_)
       intro v' w3 hown3 hg3;obtain⟨Av3,cv3,rfl⟩:=Enc.Own.shp hown3;have HO3:=Zh hown3;have HB3:=Zh hg3.below
       go_wp2_with fail
       go_roundw
       case rel=>exact⟨i+1,_,ω,by go_num,rfl,fun j hj=>by (rcases Nat.lt_succ_iff_lt_or_eq.1 hj with h | h);exact HNO.o j h;rw [h];exact HLB.o,by rw [Zki,HLV.o];exact HO3.o,HBI.o.trans HB3.o⟩
       case measure=>exact msr
    ·have hkn:i=c.length:=ω;subst hkn;have e1:=Zvc hlen HOK.o HNO.o
     go_wp2_with fail
     refine bodyPost_ret (v:=.tuple #[.slice Av (Zhq c c.length).length cv,.int .i64 0,.int .i64 0]) (by simp [results,Tryz.results90,go_sem]) rfl ?_;obtain⟨A',cap',e3,hat3,_,_⟩:=HOW.o.at_;rw [e3];refine⟨Or.inr ⟨by rw [e1],A',cap',by rw [Zim],?_⟩,HBI.o⟩;rw [show Zmx c=Zhq c c.length by simp [Zmx,e1,Zhq]];refine⟨hat3,?_⟩;have ho:=HOW.o;rw [e3,Zim] at ho;exact ho
theorem Z0o (c:List Ins)(A:Option Addr)(cap:Nat)(w:World)(hlen:c.length<=256)(hA:Zcj w A c) :
  Calls Tryz.prog 90 #[.slice A c.length cap] w (Zhh c w):=by
 refine (Zvb c A cap w hlen hA).mono fun e w' h=>?_
 obtain⟨h | ⟨h1,A',cap',h2,h3,_⟩,hb⟩:=h
 ·exact⟨Or.inl h,hb⟩
 ·exact⟨Or.inr ⟨h1,A',cap',h2,h3⟩,hb⟩
end
end
end Go.Proofs.YtgjefdaaihgliaaGreatDoor
