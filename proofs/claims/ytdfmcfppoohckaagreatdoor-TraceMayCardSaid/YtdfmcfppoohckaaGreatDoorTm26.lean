/- Layer 13: whether a test's initial state may be: plain, and the program's begun. -/
import Derived.Test.YtdfmcfppoohckaaGreatDoorTm23

namespace Go.Proofs.YtdfmcfppoohckaaGreatDoor
open Go.RowKit
open Go.Maps
abbrev Zea (x:Ini):Th:=(x.th,x.rg,x.loc)
def Zn9 (a:Int)(n:Nat)(l:List Ini)(k:Nat):Bool:=match l[k]? with
 | some x=>!Zak a n x||(l.take k).any (fun y=>decide (Zea y=Zea x))
 | none=>false
def Zfx (a:Int)(n:Nat)(l:List Ini):Int:=if 1024<l.length then 2 else match fst? (Zn9 a n l) l.length with
 | some _=>130
 | none=>0
theorem Zf8 {a:Int}{n:Nat}{l:List Ini}(h:1024<l.length):Zfx a n l=2:=by simp [Zfx,h]
theorem Zev {a:Int}{n:Nat}{l:List Ini}{k:Nat}(h:l.length<=1024)(hk:k<l.length)(h1:Zn9 a n l k=true)(hn:∀ j,j<k->Zn9 a n l j=false):Zfx a n l=130:=by
 unfold Zfx;rw [if_neg ω,Zmt hk h1 hn]
theorem Zmw {a:Int}{n:Nat}{l:List Ini}(h:l.length<=1024)(hn:∀ j,j<l.length->Zn9 a n l j=false):Zfx a n l=0:=by
 unfold Zfx;rw [if_neg ω,Zju hn]
theorem Zdi {a:Int}{n:Nat}{l:List Ini}{k:Nat}{x:Ini}(h:l[k]?=some x):Zn9 a n l k=(!Zak a n x||(l.take k).any (fun y=>decide (Zea y=Zea x))):=by simp [Zn9,h]
theorem Zjm.at_ {w:World}{A:Option Addr}{l:List Ini}(h:Zjm w A l){i:Nat}{x:Ini}(hx:l[i]?=some x):∃ b o,A=some ⟨b,o,none⟩/\w.cell? ⟨b,o+i*5,none⟩=some (.int .i64 x.th)/\w.cell? ⟨b,o+i*5+1,none⟩=some (.int .i64 x.rg)/\w.cell? ⟨b,o+i*5+2,none⟩=some (.string ⟨x.loc.toArray⟩)/\w.cell? ⟨b,o+i*5+3,none⟩=some (.string ⟨x.vl.toArray⟩)/\
  w.cell? ⟨b,o+i*5+4,none⟩=some (.int .i64 x.vn)/\x.loc.length<=9223372036854775807/\x.vl.length<=9223372036854775807/\(-9223372036854775808<=x.th/\x.th<=9223372036854775807)/\-9223372036854775808<=x.rg/\x.rg<=9223372036854775807:=h i x hx
def okI (x:Th):Prop:=(-9223372036854775808<=x.1/\x.1<=9223372036854775807)/\(-9223372036854775808<=x.2.1/\x.2.1<=9223372036854775807)/\x.2.2.length<=9223372036854775807
theorem Zm0 {x:Th}(h:okI x):keyOf Tryz.prog 25 (Zek x.1 x.2.1 x.2.2)=some (klT x):=
 Zvq _ _ _ (WalkArith.wf_i64 (by have:=h.1;omega)) (WalkArith.wf_i64 (by have:=h.2.1;omega)) h.2.2
theorem Zze {x y:Th}(hx:okI x)(hy:okI y)(h:klT x=klT y):x=y:=by
 have h1:=Zm0 hx;have h2:=Zm0 hy;rw [h] at h1;have:=Zdl.inj h1 h2;obtain⟨a,b,c⟩:=x;obtain⟨a',b',c'⟩:=y;simp only [Value.agg.injEq,Array.mk.injEq,List.cons.injEq,Value.int.injEq,Value.string.injEq,true_and,and_true,ByteArray.mk.injEq] at this;obtain⟨rfl,rfl,h3⟩:=this
 first | subst h3 | (simp at h3;subst h3)
 rfl
def Zfo (w:World)(b n:Nat)(S:List Ini):Prop:=∃ D:DataW Unit,w.ownsMap Tryz.prog 25 (plainElem Tryz.prog 3) b n D/\IsMap D/\∀ x,okI x->∃ v:Int,D.atKey (klT x) (.lit (.int .i64 0))=.lit (.int .i64 v)/\decide (0<v)=S.any (fun y=>decide (Zea y=x))
theorem Zfo.made (w:World):Zfo (w.alloc (.map #[] 0)) w.heap.size 0 []:=
 ⟨.map [],World.ownsMap_made _ _ _ _,isMap_empty,fun x _=>⟨0,WideAt.atKey_none _ (fun p hp=>by cases hp),by simp⟩⟩
theorem Zfo.put {D:DataW Unit}{S:List Ini}{y:Ini}{v:Int}(hy:okI (Zea y))(hv:0<v)(hD:IsMap D)(h:∀ x,okI x->∃ v:Int,D.atKey (klT x) (.lit (.int .i64 0))=.lit (.int .i64 v)/\decide (0<v)=S.any (fun y=>decide (Zea y=x))) :
  IsMap (D.put (klT (Zea y)) (.lit (.int .i64 v)))/\∀ x,okI x->∃ u:Int,(D.put (klT (Zea y)) (.lit (.int .i64 v))).atKey (klT x) (.lit (.int .i64 0))=.lit (.int .i64 u)/\decide (0<u)=(S++[y]).any (fun y=>decide (Zea y=x)):=by
 refine⟨hD.put _ _,fun x hx=>?_⟩;by_cases e:x=Zea y
 ·subst e;refine⟨v,atKey_put_same hD (show WideAt.IsKeyLit (klT (Zea y)) from trivial) _ _,?_⟩;simp [hv]
 ·obtain⟨u,h1,h2⟩:=h x hx;refine⟨u,by rw [atKey_put_other (fun e2=>e (Zze hx hy e2)),h1],?_⟩;have e':¬ Zea y=x:=fun h=>e h.symm
  rw [h2,List.any_append];simp [e']
theorem Zi9 {l:List Ini}{k:Nat}{x:Ini}(h:l[k]?=some x):l.take (k+1)=l.take k++[x]:=by
 obtain⟨h1,rfl⟩:=List.getElem?_eq_some_iff.1 h;exact List.take_succ_eq_append_getElem h1
section
set_option maxHeartbeats 4000000
set_option maxRecDepth 100000
variable {w:World} {T:Tst} {Ai Ac:Option Addr} {kv:Value}
theorem Zx6 (ci cc:Nat)(ha:T.arch=1)(hT:Zcb w T Ai Ac kv):Calls Tryz.prog 47 #[Zbr T (.slice Ai T.init.length ci) (.slice Ac T.code.length cc) kv] w (RB w (.int .i64 (Zfx 1 T.code.length T.init))):=by
 obtain⟨n,hn⟩:∃ n,T.init.length=n:=⟨_,rfl⟩;have HI:=Zh hT.init;have HFST:=Zh (fun (x:Ini) (h1:x.loc.length<=9223372036854775807) (h2:x.vl.length<=9223372036854775807) (w:World)=>Zy1 (w:=w) (Ai:=Ai) (Ac:=Ac) (kv:=kv) ci cc x ha h1 h2);have hil:=hT.ilen;simp only [Zbr,ha] at HFST ⊢;have HN:=Zh hn;rw [hn] at hil HFST ⊢;have hmm:=@run_makeMap Tryz.prog;have HBX:=Zh ((Blk.new w 32 #[.int .i64 1,.string ⟨T.name.toArray⟩,.string ⟨T.cycle.toArray⟩,.slice Ai n ci,.slice Ac T.code.length cc,.int .i64 T.q,.int .i64 T.k,.int .i64 T.t,.int .i64 T.r,.string ⟨T.l.toArray⟩,.int .i64 T.v,kv]).alloc (.map #[] 0));have HB0:=Zh (Zao w (.cells #[.int .i64 1,.string ⟨T.name.toArray⟩,.string ⟨T.cycle.toArray⟩,.slice Ai n ci,.slice Ac T.code.length cc,.int .i64 T.q,.int .i64 T.k,.int .i64 T.t,.int .i64 T.r,.string ⟨T.l.toArray⟩,.int .i64 T.v,kv] 32 (0,0)) (.map #[] 0));have HMS:=Zh (Zfo.made (w.alloc (.cells #[.int .i64 1,.string ⟨T.name.toArray⟩,.string ⟨T.cycle.toArray⟩,.slice Ai n ci,.slice Ac T.code.length cc,.int .i64 T.q,.int .i64 T.k,.int .i64 T.t,.int .i64 T.r,.string ⟨T.l.toArray⟩,.int .i64 T.v,kv] 32 (0,0))));have hsz0:(w.alloc (.cells #[.int .i64 1,.string ⟨T.name.toArray⟩,.string ⟨T.cycle.toArray⟩,.slice Ai n ci,.slice Ac T.code.length cc,.int .i64 T.q,.int .i64 T.k,.int .i64 T.t,.int .i64 T.r,.string ⟨T.l.toArray⟩,.int .i64 T.v,kv] 32 (0,0))).heap.size=w.heap.size+1:=by simp
 rw [hsz0] at HMS;by_cases hbig:1024<n
 ·have HV:=Zh (Zf8 (a:=1) (n:=T.code.length) (show 1024<T.init.length by rw [HN.o];exact hbig));exact m_118
 ·have HL:=Zh (show T.init.length<=1024 by rw [HN.o];omega);go_enter Tryz.func47,Tryz.ntmps47
  go_wp2_with fail
  generalize hw1:(w.alloc (.cells #[.int .i64 1,.string ⟨T.name.toArray⟩,.string ⟨T.cycle.toArray⟩,.slice Ai n ci,.slice Ac T.code.length cc,.int .i64 T.q,.int .i64 T.k,.int .i64 T.t,.int .i64 T.r,.string ⟨T.l.toArray⟩,.int .i64 T.v,kv] 32 (0,0))).alloc (.map #[] 0)=w1 at HBX HB0 HMS ⊢;have hsz:w.heap.size+1<w1.heap.size:=by rw [<- hw1];simp
  go_loopw [15] (fun i wr=>∃ k cnt:Nat,k<=n/\i=.int .i64 k/\cnt<=k/\(∀ j,j<k->Zn9 1 T.code.length T.init j=false)/\Zfo wr (w.heap.size+1) cnt (T.init.take k)/\Below (w.heap.size+1) w1 wr) (fun i _=>n - (intOf i).toNat)
  case atStart=>exact⟨0,0,Nat.zero_le _,rfl,Nat.zero_le _,(fun j hj=>absurd hj (Nat.not_lt_zero _)),HMS.o,Below.refl _ _⟩
  case round=>
   obtain⟨k,cnt,hk,rfl,hcnt,hno,hms,hb⟩:=hrel;obtain⟨D,hown,hD,hat⟩:=hms;have HNO:=Zh hno;have HOWN:=Zh hown;have HD:=Zh hD;have HAT:=Zh hat;have HBR:=Zh hb;have hzr:=hb.size;have hzo:w.heap.size+1<wr.heap.size:=ω;have hzo2:w.heap.size<wr.heap.size:=ω;by_cases hlt:k<n
   ·have hlk:k<T.init.length:=by rw [HN.o];exact hlt
    have ex:=List.getElem?_eq_getElem hlk;obtain⟨x,hx⟩:∃ x,T.init[k]=x:=⟨_,rfl⟩;rw [hx] at ex;obtain⟨b,o,rfl,c0,c1,c2,c3,c4,l1,l2,l3,l4⟩:=HI.o.at_ ex;have hbl:b<w.heap.size:=World.block_lt_of_cell? w _ c0;have HBWR:=Zh (HB0.o.trans (HBR.o.mono ω));have d0:=Zcx c0 HBWR.o hbl;have d1:=Zcx c1 HBWR.o hbl;have d2:=Zcx c2 HBWR.o hbl;have d3:=Zcx c3 HBWR.o hbl;have d4:=Zcx c4 HBWR.o hbl;have hblr:b<wr.heap.size:=ω;have HX:=Zh ex;have HOK:=Zh (show okI (Zea x) from⟨l3,l4,l1⟩);have HKW:=Zh (Zm0 HOK.o);have HF2:=Zh (HFST.o x l1 l2);have HFST:=HF2;have hkn:(k:Int)<(n:Int):=ω;obtain⟨v,hv1,hv2⟩:=HAT.o (Zea x) HOK.o;have HAX:=Zh (And.intro hv1 hv2);have HB1:=Zh (Zao wr (.cells #[.int .i64 x.th,.int .i64 x.rg,.string ⟨x.loc.toArray⟩,.string ⟨x.vl.toArray⟩,.int .i64 x.vn] 62 (0,0)) (.cells #[.int .i64 x.th,.int .i64 x.rg,.string ⟨x.loc.toArray⟩] 25 (0,0)));have HOW2:=Zh (Zei (Zei HOWN.o (.cells #[.int .i64 x.th,.int .i64 x.rg,.string ⟨x.loc.toArray⟩,.string ⟨x.vl.toArray⟩,.int .i64 x.vn] 62 (0,0))) (.cells #[.int .i64 x.th,.int .i64 x.rg,.string ⟨x.loc.toArray⟩] 25 (0,0)));have HBR1:=Zh ((HBX.o.below HBR.o ω));obtain⟨k0,k1,k2,k3,k4,k5,k6,k7,k8,k9,k10,k11⟩:=HBR1.o.c12;obtain⟨f,hf⟩:∃ f,Zak 1 T.code.length x=f:=⟨_,rfl⟩;have HFB:=Zh hf;by_cases hvp:0<v
    ·have HBAD:=Zh (Zev (a:=1) (n:=T.code.length) HL.o (by rw [HN.o];exact hlt) (by rw [Zdi HX.o,<- hv2];simp [hvp]) HNO.o);exact m_44
    ·have hvp2:v<=0:=ω;cases f
     ·have HBAD:=Zh (Zev (a:=1) (n:=T.code.length) HL.o (by rw [HN.o];exact hlt) (by rw [Zdi HX.o,HFB.o];rfl) HNO.o);exact m_23
     ·have HGOOD:=Zh (show Zn9 1 T.code.length T.init k=false by rw [Zdi HX.o,HFB.o,<- hv2];simp [hvp]);exact m_8
   ·have HV:=Zh (Zmw (a:=1) (n:=T.code.length) HL.o (fun j hj=>HNO.o j (by have:=HN.o;omega)))
    go_wp2_with fail
    go_ret;exact⟨Zai HV.o.symm,HB0.o.trans (HBR.o.mono ω)⟩
theorem Zx7 (ci cc:Nat)(ha:T.arch=2)(hT:Zcb w T Ai Ac kv):Calls Tryz.prog 47 #[Zbr T (.slice Ai T.init.length ci) (.slice Ac T.code.length cc) kv] w (RB w (.int .i64 (Zfx 2 T.code.length T.init))):=by
 obtain⟨n,hn⟩:∃ n,T.init.length=n:=⟨_,rfl⟩;have HI:=Zh hT.init;have HFST:=Zh (fun (x:Ini) (h1:x.loc.length<=9223372036854775807) (h2:x.vl.length<=9223372036854775807) (w:World)=>Zy2 (w:=w) (Ai:=Ai) (Ac:=Ac) (kv:=kv) ci cc x ha h1 h2);have hil:=hT.ilen;simp only [Zbr,ha] at HFST ⊢;have HN:=Zh hn;rw [hn] at hil HFST ⊢;have hmm:=@run_makeMap Tryz.prog;have HBX:=Zh ((Blk.new w 32 #[.int .i64 2,.string ⟨T.name.toArray⟩,.string ⟨T.cycle.toArray⟩,.slice Ai n ci,.slice Ac T.code.length cc,.int .i64 T.q,.int .i64 T.k,.int .i64 T.t,.int .i64 T.r,.string ⟨T.l.toArray⟩,.int .i64 T.v,kv]).alloc (.map #[] 0));have HB0:=Zh (Zao w (.cells #[.int .i64 2,.string ⟨T.name.toArray⟩,.string ⟨T.cycle.toArray⟩,.slice Ai n ci,.slice Ac T.code.length cc,.int .i64 T.q,.int .i64 T.k,.int .i64 T.t,.int .i64 T.r,.string ⟨T.l.toArray⟩,.int .i64 T.v,kv] 32 (0,0)) (.map #[] 0));have HMS:=Zh (Zfo.made (w.alloc (.cells #[.int .i64 2,.string ⟨T.name.toArray⟩,.string ⟨T.cycle.toArray⟩,.slice Ai n ci,.slice Ac T.code.length cc,.int .i64 T.q,.int .i64 T.k,.int .i64 T.t,.int .i64 T.r,.string ⟨T.l.toArray⟩,.int .i64 T.v,kv] 32 (0,0))));have hsz0:(w.alloc (.cells #[.int .i64 2,.string ⟨T.name.toArray⟩,.string ⟨T.cycle.toArray⟩,.slice Ai n ci,.slice Ac T.code.length cc,.int .i64 T.q,.int .i64 T.k,.int .i64 T.t,.int .i64 T.r,.string ⟨T.l.toArray⟩,.int .i64 T.v,kv] 32 (0,0))).heap.size=w.heap.size+1:=by simp
 rw [hsz0] at HMS;by_cases hbig:1024<n
 ·have HV:=Zh (Zf8 (a:=2) (n:=T.code.length) (show 1024<T.init.length by rw [HN.o];exact hbig));exact m_118
 ·have HL:=Zh (show T.init.length<=1024 by rw [HN.o];omega);go_enter Tryz.func47,Tryz.ntmps47
  go_wp2_with fail
  generalize hw1:(w.alloc (.cells #[.int .i64 2,.string ⟨T.name.toArray⟩,.string ⟨T.cycle.toArray⟩,.slice Ai n ci,.slice Ac T.code.length cc,.int .i64 T.q,.int .i64 T.k,.int .i64 T.t,.int .i64 T.r,.string ⟨T.l.toArray⟩,.int .i64 T.v,kv] 32 (0,0))).alloc (.map #[] 0)=w1 at HBX HB0 HMS ⊢;have hsz:w.heap.size+1<w1.heap.size:=by rw [<- hw1];simp
  go_loopw [15] (fun i wr=>∃ k cnt:Nat,k<=n/\i=.int .i64 k/\cnt<=k/\(∀ j,j<k->Zn9 2 T.code.length T.init j=false)/\Zfo wr (w.heap.size+1) cnt (T.init.take k)/\Below (w.heap.size+1) w1 wr) (fun i _=>n - (intOf i).toNat)
  case atStart=>exact⟨0,0,Nat.zero_le _,rfl,Nat.zero_le _,(fun j hj=>absurd hj (Nat.not_lt_zero _)),HMS.o,Below.refl _ _⟩
  case round=>
   obtain⟨k,cnt,hk,rfl,hcnt,hno,hms,hb⟩:=hrel;obtain⟨D,hown,hD,hat⟩:=hms;have HNO:=Zh hno;have HOWN:=Zh hown;have HD:=Zh hD;have HAT:=Zh hat;have HBR:=Zh hb;have hzr:=hb.size;have hzo:w.heap.size+1<wr.heap.size:=ω;have hzo2:w.heap.size<wr.heap.size:=ω;by_cases hlt:k<n
   ·have hlk:k<T.init.length:=by rw [HN.o];exact hlt
    have ex:=List.getElem?_eq_getElem hlk;obtain⟨x,hx⟩:∃ x,T.init[k]=x:=⟨_,rfl⟩;rw [hx] at ex;obtain⟨b,o,rfl,c0,c1,c2,c3,c4,l1,l2,l3,l4⟩:=HI.o.at_ ex;have hbl:b<w.heap.size:=World.block_lt_of_cell? w _ c0;have HBWR:=Zh (HB0.o.trans (HBR.o.mono ω));have d0:=Zcx c0 HBWR.o hbl;have d1:=Zcx c1 HBWR.o hbl;have d2:=Zcx c2 HBWR.o hbl;have d3:=Zcx c3 HBWR.o hbl;have d4:=Zcx c4 HBWR.o hbl;have hblr:b<wr.heap.size:=ω;have HX:=Zh ex;have HOK:=Zh (show okI (Zea x) from⟨l3,l4,l1⟩);have HKW:=Zh (Zm0 HOK.o);have HF2:=Zh (HFST.o x l1 l2);have HFST:=HF2;have hkn:(k:Int)<(n:Int):=ω;obtain⟨v,hv1,hv2⟩:=HAT.o (Zea x) HOK.o;have HAX:=Zh (And.intro hv1 hv2);have HB1:=Zh (Zao wr (.cells #[.int .i64 x.th,.int .i64 x.rg,.string ⟨x.loc.toArray⟩,.string ⟨x.vl.toArray⟩,.int .i64 x.vn] 62 (0,0)) (.cells #[.int .i64 x.th,.int .i64 x.rg,.string ⟨x.loc.toArray⟩] 25 (0,0)));have HOW2:=Zh (Zei (Zei HOWN.o (.cells #[.int .i64 x.th,.int .i64 x.rg,.string ⟨x.loc.toArray⟩,.string ⟨x.vl.toArray⟩,.int .i64 x.vn] 62 (0,0))) (.cells #[.int .i64 x.th,.int .i64 x.rg,.string ⟨x.loc.toArray⟩] 25 (0,0)));have HBR1:=Zh ((HBX.o.below HBR.o ω));obtain⟨k0,k1,k2,k3,k4,k5,k6,k7,k8,k9,k10,k11⟩:=HBR1.o.c12;obtain⟨f,hf⟩:∃ f,Zak 2 T.code.length x=f:=⟨_,rfl⟩;have HFB:=Zh hf;by_cases hvp:0<v
    ·have HBAD:=Zh (Zev (a:=2) (n:=T.code.length) HL.o (by rw [HN.o];exact hlt) (by rw [Zdi HX.o,<- hv2];simp [hvp]) HNO.o);exact m_44
    ·have hvp2:v<=0:=ω;cases f
     ·have HBAD:=Zh (Zev (a:=2) (n:=T.code.length) HL.o (by rw [HN.o];exact hlt) (by rw [Zdi HX.o,HFB.o];rfl) HNO.o);exact m_23
     ·have HGOOD:=Zh (show Zn9 2 T.code.length T.init k=false by rw [Zdi HX.o,HFB.o,<- hv2];simp [hvp]);exact m_8
   ·have HV:=Zh (Zmw (a:=2) (n:=T.code.length) HL.o (fun j hj=>HNO.o j (by have:=HN.o;omega)))
    go_wp2_with fail
    go_ret;exact⟨Zai HV.o.symm,HB0.o.trans (HBR.o.mono ω)⟩
end
end Go.Proofs.YtdfmcfppoohckaaGreatDoor
