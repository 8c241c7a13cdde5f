/- Layer 13: whether a test's initial state may be: the reference's inits. -/
import Derived.Test.YtgjefdaaihgliaaGreatDoorMn24
import Derived.Test.YtgjefdaaihgliaaGreatDoorMn25

namespace Go.Proofs.YtgjefdaaihgliaaGreatDoor
open Go.RowKit
section
theorem Zjp {l:List Ini}{j:Nat}{x:Ini}(h:l[j]?=some x)(p:Ini->Bool):(l.take (j+1)).any p=((l.take j).any p||p x):=by
 rw [Zl5 h,List.any_append];simp
theorem Z1a {l:List Ini}{j:Nat}{x:Ini}(h:l[j]?=some x)(p:Ini->Bool)(hp:p x=true):l.any p=true:=List.any_eq_true.2 ⟨x,List.mem_of_getElem? h,hp⟩
section
set_option maxHeartbeats 4000000
set_option maxRecDepth 100000
variable {w:World} {T:Tst} {Ai Ac:Option Addr} {kv:Value}
theorem Z5b (ci cc:Nat)(hA:T.arch=1\/T.arch=2)(hT:Zcu w T Ai Ac kv):Calls Tryz.prog 84 #[Zbu T (.slice Ai T.init.length ci) (.slice Ac T.code.length cc) kv] w (RB w (.int .i64 (Zgn T.arch T.code.length T.init))):=by
 obtain⟨n,hn⟩:∃ n,T.init.length=n:=⟨_,rfl⟩;have HI:=Zh hT.init;have HFST:=Zh (fun (x:Ini) (h1:x.loc.length<=9223372036854775807) (h2:x.vl.length<=9223372036854775807) (w:World)=>Z5e (w:=w) (Ai:=Ai) (Ac:=Ac) (kv:=kv) ci cc x hA h1 h2);have hil:=hT.ilen;simp only [Zbu] at HFST ⊢;have HN:=Zh hn;rw [hn] at hil HFST ⊢;have HBX:=Zh (Blk.new w 32 #[.int .i64 T.arch,.string ⟨T.name.toArray⟩,.string ⟨T.cycle.toArray⟩,.slice Ai n ci,.slice Ac T.code.length cc,.int .i64 T.q,.int .i64 T.k,.int .i64 T.t,.int .i64 T.r,.string ⟨T.l.toArray⟩,.int .i64 T.v,kv]);have HB0:=Zh (Zad w (.cells #[.int .i64 T.arch,.string ⟨T.name.toArray⟩,.string ⟨T.cycle.toArray⟩,.slice Ai n ci,.slice Ac T.code.length cc,.int .i64 T.q,.int .i64 T.k,.int .i64 T.t,.int .i64 T.r,.string ⟨T.l.toArray⟩,.int .i64 T.v,kv] 32 (0,0)));by_cases hbig:1024<n
 ·have HV:=Zh (Zj5 (a:=T.arch) (n:=T.code.length) (show 1024<T.init.length by rw [HN.o];exact hbig));go_enter Tryz.func84,Tryz.ntmps84
  go_wp2_with fail
  go_ret;exact⟨Zak HV.o.symm,Zad _ _⟩
 ·have HL:=Zh (show T.init.length<=1024 by rw [HN.o];omega);go_enter Tryz.func84,Tryz.ntmps84
  go_wp2_with fail
  generalize hw1:w.alloc (.cells #[.int .i64 T.arch,.string ⟨T.name.toArray⟩,.string ⟨T.cycle.toArray⟩,.slice Ai n ci,.slice Ac T.code.length cc,.int .i64 T.q,.int .i64 T.k,.int .i64 T.t,.int .i64 T.r,.string ⟨T.l.toArray⟩,.int .i64 T.v,kv] 32 (0,0))=w1 at HBX HB0 ⊢;have hsz:w.heap.size<w1.heap.size:=HBX.o.lt;go_loopw [3] (fun i wr=>∃ k:Nat,k<=n/\i=.int .i64 k/\(∀ j,j<k->Zq1 T.arch T.code.length T.init j=false)/\Below w1.heap.size w1 wr) (fun i _=>n - (intOf i).toNat)
  case atStart=>exact⟨0,Nat.zero_le _,rfl,(fun j hj=>absurd hj (Nat.not_lt_zero _)),Below.refl _ _⟩
  case round=>
   obtain⟨k,hk,rfl,hno,hb⟩:=hrel;have HNO:=Zh hno;have HBR:=Zh hb;have hzr:=hb.size;have hzo2:w.heap.size<wr.heap.size:=ω;have HBWR:=Zh (Zab HB0.o HBR.o);have HBR1:=Zh (HBX.o.go HBR.o);by_cases hlt:k<n
   ·have hlk:k<T.init.length:=by rw [HN.o];exact hlt
    have ex:=List.getElem?_eq_getElem hlk;obtain⟨x,hx⟩:∃ x,T.init[k]=x:=⟨_,rfl⟩;rw [hx] at ex;obtain⟨b,o,rfl,c0,c1,c2,c3,c4,l1,l2,l3,l4⟩:=HI.o.at_ ex;have hbl:b<w.heap.size:=World.block_lt_of_cell? w _ c0;have d0:=Zac c0 HBWR.o;have d1:=Zac c1 HBWR.o;have d2:=Zac c2 HBWR.o;have d3:=Zac c3 HBWR.o;have d4:=Zac c4 HBWR.o;have hblr:b<wr.heap.size:=ω;have HX:=Zh ex;have HF2:=Zh (HFST.o x l1 l2);have HFST:=HF2;have hkn:(k:Int)<(n:Int):=ω;have HB1:=Zh (Zad wr (.cells #[.int .i64 x.th,.int .i64 x.rg,.string ⟨x.loc.toArray⟩,.string ⟨x.vl.toArray⟩,.int .i64 x.vn] 94 (0,0)));have HXB:=Zh (Blk.new wr 94 #[.int .i64 x.th,.int .i64 x.rg,.string ⟨x.loc.toArray⟩,.string ⟨x.vl.toArray⟩,.int .i64 x.vn]);obtain⟨k0,k1,k2,k3,k4,k5,k6,k7,k8,k9,k10,k11⟩:=HBR1.o.c12;obtain⟨f,hf⟩:∃ f,Zeg T.arch T.code.length x=f:=⟨_,rfl⟩;have HFB:=Zh hf;cases f
    ·have HBAD:=Zh (Zjj (a:=T.arch) (n:=T.code.length) HL.o (by rw [HN.o];exact hlt) (by rw [Zf4 HX.o,HFB.o];rfl) HNO.o)
     go_wp2_with (go_at_call 131;refine (HFST.o _).mono ?_;rw [HFB.o];rintro e w2 ⟨rfl,hb2⟩;have HB2:=Zh (Zab HB1.o hb2);have HX2:=Zh (HXB.o.go hb2);clear hb2)
     go_ret;exact⟨Zak HBAD.o.symm,Zab HBWR.o HB2.o⟩
    ·go_wp2_with (go_at_call 131;refine (HFST.o _).mono ?_;rw [HFB.o];rintro e w2 ⟨rfl,hb2⟩;have HB2:=Zh (Zab HB1.o hb2);have HX2:=Zh (HXB.o.go hb2);clear hb2)
     obtain⟨wq,hwq⟩:∃ wq:World,wq=wr:=⟨_,rfl⟩;subst hwq;obtain⟨wi,hwi⟩:∃ wi:World,wi=w2:=⟨_,rfl⟩;subst hwi;go_loopw [5] (fun kk wr3=>∃ j:Nat,j<=k/\kk=.int .i64 j/\(T.init.take j).any (fun y=>decide (Zg7 y=Zg7 x))=false/\Below wi.heap.size wi wr3) (fun kk _=>k - (intOf kk).toNat)
     case atStart=>exact⟨0,Nat.zero_le _,rfl,by simp,Below.refl _ _⟩
     case round=>
      obtain⟨j,hj,rfl,hno2,hb2⟩:=hrel;have HN2:=Zh hno2;have HBJ:=Zh hb2;have hzj:=hb2.size;by_cases hlj:j<k
      ·have hlk2:j<T.init.length:=by rw [HN.o];omega
       have ey:=List.getElem?_eq_getElem hlk2;obtain⟨y,hy⟩:∃ y,T.init[j]=y:=⟨_,rfl⟩;rw [hy] at ey;obtain⟨b2,o2,e2,c0,c1,c2,c3,c4,l1,l2,l3,l4⟩:=HI.o.at_ ey;simp only [Option.some.injEq,Addr.mk.injEq,and_true] at e2;obtain⟨rfl,rfl⟩:=e2;have HBW2:=Zh (Zab HBWR.o (Zab HB2.o HBJ.o));have f0:=Zac c0 HBW2.o;have f1:=Zac c1 HBW2.o;have f2:=Zac c2 HBW2.o;have f3:=Zac c3 HBW2.o;have f4:=Zac c4 HBW2.o;have HXJ:=Zh (HX2.o.go HBJ.o);obtain⟨g0,g1,g2⟩:=HXJ.o.c3;have HKJ:=Zh (HBR1.o.go (Zab HB2.o HBJ.o));have k3:=HKJ.o.cell 3;have HY:=Zh ey;have hjn:(j:Int)<(n:Int):=ω;have hjk:(j:Int)<(k:Int):=ω;have hs1:wq.heap.size<wr.heap.size:=by have:=HXJ.o.lt;omega
       have hs2:w.heap.size<wr.heap.size:=ω;have hs3:b<wr.heap.size:=ω;have HBK:=Zh (Zad wr (.cells #[.int .i64 y.th,.int .i64 y.rg,.string ⟨y.loc.toArray⟩,.string ⟨y.vl.toArray⟩,.int .i64 y.vn] 94 (0,0)));by_cases h1:x.th=y.th
       ·have e1:(x.th == y.th)=true:=by simpa using h1
        by_cases h2:x.rg=y.rg
        ·have e2:(x.rg == y.rg)=true:=by simpa using h2
         by_cases h3:x.loc=y.loc
         ·have e3:(x.loc == y.loc)=true:=by simpa using h3
          have HBAD:=Zh (Zjj (a:=T.arch) (n:=T.code.length) HL.o (by rw [HN.o];exact hlt) (by rw [Zf4 HX.o,Z1a (j:=j) (x:=y) (by rw [List.getElem?_take,if_pos hlj];exact HY.o) _ (by simp [Zg7,h1,h2,h3])];simp) HNO.o)
          go_wp2_with fail
          go_ret;exact⟨Zak HBAD.o.symm,Zab HBW2.o (Zad _ _)⟩
         ·have e3:(x.loc == y.loc)=false:=by simpa using h3
          have HNX:=Zh (show (T.init.take (j+1)).any (fun y=>decide (Zg7 y=Zg7 x))=false by rw [Zjp HY.o,HN2.o];simp [Zg7];intro _ _;exact fun h=>h3 h.symm);exact m_95
        ·have e2:(x.rg == y.rg)=false:=by simpa using h2
         have HNX:=Zh (show (T.init.take (j+1)).any (fun y=>decide (Zg7 y=Zg7 x))=false by rw [Zjp HY.o,HN2.o];simp [Zg7];intro _ h;exact absurd h.symm h2);exact m_95
       ·have e1:(x.th == y.th)=false:=by simpa using h1
        have HNX:=Zh (show (T.init.take (j+1)).any (fun y=>decide (Zg7 y=Zg7 x))=false by rw [Zjp HY.o,HN2.o];simp [Zg7];intro h;exact absurd h.symm h1);exact m_95
      ·have hjk:j=k:=ω;subst hjk;have HGOOD:=Zh (show Zq1 T.arch T.code.length T.init j=false by rw [Zf4 HX.o,HFB.o,HN2.o];rfl)
       go_wp2_with fail
       go_roundw
       case rel=>exact⟨j+1,ω,by go_num,(fun i hi=>by (rcases Nat.lt_succ_iff_lt_or_eq.1 hi with h | h);exact HNO.o i h;rw [h];exact HGOOD.o),Zab HBR.o (Zab HB2.o HBJ.o)⟩
       case measure=>exact msr
   ·have HV:=Zh (Zu4 (a:=T.arch) (n:=T.code.length) HL.o (fun j hj=>HNO.o j (by have:=HN.o;omega)));have k3:=HBR1.o.cell 3
    go_wp2_with fail
    go_ret;exact⟨Zak HV.o.symm,HBWR.o⟩
end
end
end Go.Proofs.YtgjefdaaihgliaaGreatDoor
