/- Layer 13: whether a test's initial state may be: plain, and the program's begun. -/
import Derived.Test.YtgjefdaaihgliaaGreatDoorMn21
import Derived.Test.YtgjefdaaihgliaaGreatDoorMn23

namespace Go.Proofs.YtgjefdaaihgliaaGreatDoor
open Go.RowKit
open Go.Maps
abbrev Zg7 (x:Ini):Th:=(x.th,x.rg,x.loc)
def Zq1 (a:Int)(n:Nat)(l:List Ini)(k:Nat):Bool:=match l[k]? with
 | some x=>!Zeg a n x||(l.take k).any (fun y=>decide (Zg7 y=Zg7 x))
 | none=>false
def Zgn (a:Int)(n:Nat)(l:List Ini):Int:=if 1024<l.length then 2 else match fst? (Zq1 a n l) l.length with
 | some _=>130
 | none=>0
theorem Zj5 {a:Int}{n:Nat}{l:List Ini}(h:1024<l.length):Zgn a n l=2:=by simp [Zgn,h]
theorem Zjj {a:Int}{n:Nat}{l:List Ini}{k:Nat}(h:l.length<=1024)(hk:k<l.length)(h1:Zq1 a n l k=true)(hn:∀ j,j<k->Zq1 a n l j=false):Zgn a n l=130:=by
 unfold Zgn;rw [if_neg ω,Zmo hk h1 hn]
theorem Zu4 {a:Int}{n:Nat}{l:List Ini}(h:l.length<=1024)(hn:∀ j,j<l.length->Zq1 a n l j=false):Zgn a n l=0:=by
 unfold Zgn;rw [if_neg ω,Zjd hn]
theorem Zf4 {a:Int}{n:Nat}{l:List Ini}{k:Nat}{x:Ini}(h:l[k]?=some x):Zq1 a n l k=(!Zeg a n x||(l.take k).any (fun y=>decide (Zg7 y=Zg7 x))):=by simp [Zq1,h]
theorem Zi2.at_ {w:World}{A:Option Addr}{l:List Ini}(h:Zi2 w A l){i:Nat}{x:Ini}(hx:l[i]?=some x):∃ b o,A=some ⟨b,o,none⟩/\w.cell? ⟨b,o+i*5,none⟩=some (.int .i64 x.th)/\w.cell? ⟨b,o+i*5+1,none⟩=some (.int .i64 x.rg)/\w.cell? ⟨b,o+i*5+2,none⟩=some (.string ⟨x.loc.toArray⟩)/\w.cell? ⟨b,o+i*5+3,none⟩=some (.string ⟨x.vl.toArray⟩)/\
  w.cell? ⟨b,o+i*5+4,none⟩=some (.int .i64 x.vn)/\x.loc.length<=9223372036854775807/\x.vl.length<=9223372036854775807/\(-9223372036854775808<=x.th/\x.th<=9223372036854775807)/\-9223372036854775808<=x.rg/\x.rg<=9223372036854775807:=h i x hx
def okI (x:Th):Prop:=(-9223372036854775808<=x.1/\x.1<=9223372036854775807)/\(-9223372036854775808<=x.2.1/\x.2.1<=9223372036854775807)/\x.2.2.length<=9223372036854775807
theorem Zqf {x:Th}(h:okI x):keyOf Tryz.prog 25 (Zek x.1 x.2.1 x.2.2)=some (klT x):=
 Zu7 _ _ _ (WalkArith.wf_i64 (by have:=h.1;omega)) (WalkArith.wf_i64 (by have:=h.2.1;omega)) h.2.2
theorem Zyr {x y:Th}(hx:okI x)(hy:okI y)(h:klT x=klT y):x=y:=by
 have h1:=Zqf hx;have h2:=Zqf hy;rw [h] at h1;have:=Zga.inj h1 h2;obtain⟨a,b,c⟩:=x;obtain⟨a',b',c'⟩:=y;simp only [Value.agg.injEq,Array.mk.injEq,List.cons.injEq,Value.int.injEq,Value.string.injEq,true_and,and_true,ByteArray.mk.injEq] at this;obtain⟨rfl,rfl,h3⟩:=this
 first | subst h3 | (simp at h3;subst h3)
 rfl
def Zic (w:World)(b n:Nat)(S:List Ini):Prop:=∃ D:DataW Unit,w.ownsMap Tryz.prog 25 (plainElem Tryz.prog 3) b n D/\IsMap D/\∀ x,okI x->∃ v:Int,D.atKey (klT x) (.lit (.int .i64 0))=.lit (.int .i64 v)/\decide (0<v)=S.any (fun y=>decide (Zg7 y=x))
theorem Zic.made (w:World):Zic (w.alloc (.map #[] 0)) w.heap.size 0 []:=
 ⟨.map [],World.ownsMap_made _ _ _ _,isMap_empty,fun x _=>⟨0,WideAt.atKey_none _ (fun p hp=>by cases hp),by simp⟩⟩
theorem Zic.put {D:DataW Unit}{S:List Ini}{y:Ini}{v:Int}(hy:okI (Zg7 y))(hv:0<v)(hD:IsMap D)(h:∀ x,okI x->∃ v:Int,D.atKey (klT x) (.lit (.int .i64 0))=.lit (.int .i64 v)/\decide (0<v)=S.any (fun y=>decide (Zg7 y=x))) :
  IsMap (D.put (klT (Zg7 y)) (.lit (.int .i64 v)))/\∀ x,okI x->∃ u:Int,(D.put (klT (Zg7 y)) (.lit (.int .i64 v))).atKey (klT x) (.lit (.int .i64 0))=.lit (.int .i64 u)/\decide (0<u)=(S++[y]).any (fun y=>decide (Zg7 y=x)):=by
 refine⟨hD.put _ _,fun x hx=>?_⟩;by_cases e:x=Zg7 y
 ·subst e;refine⟨v,atKey_put_same hD (show WideAt.IsKeyLit (klT (Zg7 y)) from trivial) _ _,?_⟩;simp [hv]
 ·obtain⟨u,h1,h2⟩:=h x hx;refine⟨u,by rw [atKey_put_other (fun e2=>e (Zyr hx hy e2)),h1],?_⟩;have e':¬ Zg7 y=x:=fun h=>e h.symm
  rw [h2,List.any_append];simp [e']
theorem Zl5 {l:List Ini}{k:Nat}{x:Ini}(h:l[k]?=some x):l.take (k+1)=l.take k++[x]:=by
 obtain⟨h1,rfl⟩:=List.getElem?_eq_some_iff.1 h;exact List.take_succ_eq_append_getElem h1
section
set_option maxHeartbeats 4000000
set_option maxRecDepth 100000
variable {w:World} {T:Tst} {Ai Ac:Option Addr} {kv:Value}
theorem Z4i (ci cc:Nat)(hA:T.arch=1\/T.arch=2)(hT:Zcu w T Ai Ac kv):Calls Tryz.prog 65 #[Zbu T (.slice Ai T.init.length ci) (.slice Ac T.code.length cc) kv] w (RB w (.int .i64 (Zgn T.arch T.code.length T.init))):=by
 obtain⟨n,hn⟩:∃ n,T.init.length=n:=⟨_,rfl⟩;have HI:=Zh hT.init;have HFST:=Zh (fun (x:Ini) (h1:x.loc.length<=9223372036854775807) (h2:x.vl.length<=9223372036854775807) (w:World)=>Z40 (w:=w) (Ai:=Ai) (Ac:=Ac) (kv:=kv) ci cc x hA h1 h2);have hil:=hT.ilen;simp only [Zbu] at HFST ⊢;have HN:=Zh hn;rw [hn] at hil HFST ⊢;have hmm:=@run_makeMap Tryz.prog;have HBX:=Zh ((Blk.new w 32 #[.int .i64 T.arch,.string ⟨T.name.toArray⟩,.string ⟨T.cycle.toArray⟩,.slice Ai n ci,.slice Ac T.code.length cc,.int .i64 T.q,.int .i64 T.k,.int .i64 T.t,.int .i64 T.r,.string ⟨T.l.toArray⟩,.int .i64 T.v,kv]).alloc (.map #[] 0));have HB0:=Zh (Zau w (.cells #[.int .i64 T.arch,.string ⟨T.name.toArray⟩,.string ⟨T.cycle.toArray⟩,.slice Ai n ci,.slice Ac T.code.length cc,.int .i64 T.q,.int .i64 T.k,.int .i64 T.t,.int .i64 T.r,.string ⟨T.l.toArray⟩,.int .i64 T.v,kv] 32 (0,0)) (.map #[] 0));have HMS:=Zh (Zic.made (w.alloc (.cells #[.int .i64 T.arch,.string ⟨T.name.toArray⟩,.string ⟨T.cycle.toArray⟩,.slice Ai n ci,.slice Ac T.code.length cc,.int .i64 T.q,.int .i64 T.k,.int .i64 T.t,.int .i64 T.r,.string ⟨T.l.toArray⟩,.int .i64 T.v,kv] 32 (0,0))))
 have hsz0:(w.alloc (.cells #[.int .i64 T.arch,.string ⟨T.name.toArray⟩,.string ⟨T.cycle.toArray⟩,.slice Ai n ci,.slice Ac T.code.length cc,.int .i64 T.q,.int .i64 T.k,.int .i64 T.t,.int .i64 T.r,.string ⟨T.l.toArray⟩,.int .i64 T.v,kv] 32 (0,0))).heap.size=w.heap.size+1:=by simp
 rw [hsz0] at HMS;by_cases hbig:1024<n
 ·have HV:=Zh (Zj5 (a:=T.arch) (n:=T.code.length) (show 1024<T.init.length by rw [HN.o];exact hbig));go_enter Tryz.func65,Tryz.ntmps65
  go_wp2_with fail
  go_ret;exact⟨Zak HV.o.symm,Zad _ _⟩
 ·have HL:=Zh (show T.init.length<=1024 by rw [HN.o];omega);go_enter Tryz.func65,Tryz.ntmps65
  go_wp2_with fail
  generalize hw1:(w.alloc (.cells #[.int .i64 T.arch,.string ⟨T.name.toArray⟩,.string ⟨T.cycle.toArray⟩,.slice Ai n ci,.slice Ac T.code.length cc,.int .i64 T.q,.int .i64 T.k,.int .i64 T.t,.int .i64 T.r,.string ⟨T.l.toArray⟩,.int .i64 T.v,kv] 32 (0,0))).alloc (.map #[] 0)=w1 at HBX HB0 HMS ⊢;have hsz:w.heap.size+1<w1.heap.size:=by rw [<- hw1];simp
  go_loopw [15] (fun i wr=>∃ k cnt:Nat,k<=n/\i=.int .i64 k/\cnt<=k/\(∀ j,j<k->Zq1 T.arch T.code.length T.init j=false)/\Zic wr (w.heap.size+1) cnt (T.init.take k)/\Below (w.heap.size+1) w1 wr) (fun i _=>n - (intOf i).toNat)
  case atStart=>exact⟨0,0,Nat.zero_le _,rfl,Nat.zero_le _,(fun j hj=>absurd hj (Nat.not_lt_zero _)),HMS.o,Below.refl _ _⟩
  case round=>
   obtain⟨k,cnt,hk,rfl,hcnt,hno,hms,hb⟩:=hrel;obtain⟨D,hown,hD,hat⟩:=hms;have HNO:=Zh hno;have HOWN:=Zh hown;have HD:=Zh hD;have HAT:=Zh hat;have HBR:=Zh hb;have hzr:=hb.size;have hzo:w.heap.size+1<wr.heap.size:=ω;have hzo2:w.heap.size<wr.heap.size:=ω;by_cases hlt:k<n
   ·have hlk:k<T.init.length:=by rw [HN.o];exact hlt
    have ex:=List.getElem?_eq_getElem hlk;obtain⟨x,hx⟩:∃ x,T.init[k]=x:=⟨_,rfl⟩;rw [hx] at ex;obtain⟨b,o,rfl,c0,c1,c2,c3,c4,l1,l2,l3,l4⟩:=HI.o.at_ ex;have hbl:b<w.heap.size:=World.block_lt_of_cell? w _ c0;have HBWR:=Zh (HB0.o.trans (HBR.o.mono ω));have d0:=Zer c0 HBWR.o hbl;have d1:=Zer c1 HBWR.o hbl;have d2:=Zer c2 HBWR.o hbl;have d3:=Zer c3 HBWR.o hbl;have d4:=Zer c4 HBWR.o hbl;have hblr:b<wr.heap.size:=ω;have HX:=Zh ex;have HOK:=Zh (show okI (Zg7 x) from⟨l3,l4,l1⟩);have HKW:=Zh (Zqf HOK.o);have HF2:=Zh (HFST.o x l1 l2);have HFST:=HF2;have hkn:(k:Int)<(n:Int):=ω;obtain⟨v,hv1,hv2⟩:=HAT.o (Zg7 x) HOK.o;have HAX:=Zh (And.intro hv1 hv2);have HB1:=Zh (Zau wr (.cells #[.int .i64 x.th,.int .i64 x.rg,.string ⟨x.loc.toArray⟩,.string ⟨x.vl.toArray⟩,.int .i64 x.vn] 94 (0,0)) (.cells #[.int .i64 x.th,.int .i64 x.rg,.string ⟨x.loc.toArray⟩] 25 (0,0)));have HOW2:=Zh (Zhb (Zhb HOWN.o (.cells #[.int .i64 x.th,.int .i64 x.rg,.string ⟨x.loc.toArray⟩,.string ⟨x.vl.toArray⟩,.int .i64 x.vn] 94 (0,0))) (.cells #[.int .i64 x.th,.int .i64 x.rg,.string ⟨x.loc.toArray⟩] 25 (0,0)));have HBR1:=Zh ((HBX.o.below HBR.o ω));obtain⟨k0,k1,k2,k3,k4,k5,k6,k7,k8,k9,k10,k11⟩:=HBR1.o.c12;obtain⟨f,hf⟩:∃ f,Zeg T.arch T.code.length x=f:=⟨_,rfl⟩;have HFB:=Zh hf;by_cases hvp:0<v
    ·have HBAD:=Zh (Zjj (a:=T.arch) (n:=T.code.length) HL.o (by rw [HN.o];exact hlt) (by rw [Zf4 HX.o,<- hv2];simp [hvp]) HNO.o)
     go_wp2_with (at_lookup;refine wpList_lookup_own_int _ rfl _ _ 212 rfl 25 3 .i64 Zga Tryz.underlying212 Tryz.underlying3 (Zdy _) (w.heap.size+1) cnt D rfl HOW2.o _ (klT (Zg7 x)) rfl HKW.o ?_;intro cv hcv hwc;rw [HAX.o.1] at hcv;simp only [DataW.lit.injEq,Lit.int.injEq,true_and] at hcv;subst hcv;clear hwc)
     go_ret;exact⟨Zak HBAD.o.symm,Zab HBWR.o HB1.o⟩
    ·have hvp2:v<=0:=ω;cases f
     ·have HBAD:=Zh (Zjj (a:=T.arch) (n:=T.code.length) HL.o (by rw [HN.o];exact hlt) (by rw [Zf4 HX.o,HFB.o];rfl) HNO.o)
      go_wp2_with (first | (at_lookup;refine wpList_lookup_own_int _ rfl _ _ 212 rfl 25 3 .i64 Zga Tryz.underlying212 Tryz.underlying3 (Zdy _) (w.heap.size+1) cnt D rfl HOW2.o _ (klT (Zg7 x)) rfl HKW.o ?_;intro cv hcv hwc;rw [HAX.o.1] at hcv;simp only [DataW.lit.injEq,Lit.int.injEq,true_and] at hcv;subst hcv;clear hwc) | (go_at_call 112;refine (HFST.o _).mono ?_;rw [HFB.o];rintro e w2 ⟨rfl,hb2⟩;have HB2:=Zh hb2;clear hb2))
      go_ret;exact⟨Zak HBAD.o.symm,Zab HBWR.o (Zab HB1.o HB2.o)⟩
     ·have HGOOD:=Zh (show Zq1 T.arch T.code.length T.init k=false by rw [Zf4 HX.o,HFB.o,<- hv2];simp [hvp]);have HTH:=Zh (Zdm wr (.cells #[.int .i64 x.th,.int .i64 x.rg,.string ⟨x.loc.toArray⟩,.string ⟨x.vl.toArray⟩,.int .i64 x.vn] 94 (0,0)) 25 #[.int .i64 x.th,.int .i64 x.rg,.string ⟨x.loc.toArray⟩]);have HP:=Zh (Zic.put (S:=T.init.take k) (v:=(k:Int)+1) HOK.o ω HD.o HAT.o)
      go_wp2_with (first | (at_lookup;refine wpList_lookup_own_int _ rfl _ _ 212 rfl 25 3 .i64 Zga Tryz.underlying212 Tryz.underlying3 (Zdy _) (w.heap.size+1) cnt D rfl HOW2.o _ (klT (Zg7 x)) rfl HKW.o ?_;intro cv hcv hwc;rw [HAX.o.1] at hcv;simp only [DataW.lit.injEq,Lit.int.injEq,true_and] at hcv;subst hcv;clear hwc) | (go_at_call 112;refine (HFST.o _).mono ?_;rw [HFB.o];rintro e w2 ⟨rfl,hb2⟩;have HB2:=Zh hb2;clear hb2;have HOW3:=Zh (Zlt HOW2.o HB2.o);have hz2:=(Zab HB1.o HB2.o).size;have g0:=(HTH.o.go HB2.o).cell 0;have g1:=(HTH.o.go HB2.o).cell 1;have g2:=(HTH.o.go HB2.o).cell 2) | (at_mapUpdate;refine wpList_mapUpdate_own _ rfl _ _ _ 212 rfl 25 3 Zga Tryz.underlying212 (plainElem Tryz.prog 3) (w.heap.size+1) cnt D rfl HOW3.o (by unfold maxLen;omega) _ _ (klT (Zg7 x)) rfl rfl HKW.o (.lit (.int .i64 ((k:Int)+1))) [] (plainElem_int Tryz.underlying3 (WalkArith.wf_i64 ω)) ?_;intro w1 hown1 hgrow1;have HO1:=Zh hown1;have HG1:=Zh hgrow1;clear hown1 hgrow1))
      go_roundw
      case rel=>exact⟨k+1,cnt+1,ω,by go_num,ω,(fun j hj=>by (rcases Nat.lt_succ_iff_lt_or_eq.1 hj with h | h);exact HNO.o j h;rw [h];exact HGOOD.o),⟨_,HO1.o,HP.o.1,by rw [Zl5 HX.o];exact HP.o.2⟩,(HBR.o.trans ((Zab HB1.o HB2.o).mono ω)).grown HG1.o (by have:=hz2;omega) (fun j hj=>by cases hj;exact Nat.le_refl _)⟩
      case measure=>exact msr
   ·have HV:=Zh (Zu4 (a:=T.arch) (n:=T.code.length) HL.o (fun j hj=>HNO.o j (by have:=HN.o;omega)))
    go_wp2_with fail
    go_ret;exact⟨Zak HV.o.symm,HB0.o.trans (HBR.o.mono ω)⟩
end
end Go.Proofs.YtgjefdaaihgliaaGreatDoor
namespace Go.Proofs.YtgjefdaaihgliaaGreatDoor
open Go.RowKit
section
def Za8 (T:Tst):List Th:=Zl9 T.q T.k T.t T.r T.l T.v T.kids
def Z83 (T:Tst)(w:World)(e:Ending)(w':World):Prop:=∃ u,e=.returned u/\Zsb w w' u (Za8 T)/\Below w.heap.size w w'
theorem Zez (T:Tst):(Za8 T).length<=1024:=by
 unfold Za8 Zl9
 split
 ·rename_i h;exact Nat.le_trans (Zr4 _) (Zp2 h).2.2.2.2
 ·simp
theorem Zro {B:Nat}{w:World}{v:Value}{x:Nm}{r:List Nm}(h:Zc1.Own 9 B w v (x :: r)):∃ g cap,v=.slice (some ⟨g,0,none⟩) (r.length+1) cap/\Zc1.At w (some ⟨g,0,none⟩) (x :: r)/\B<=g/\r.length+1<=cap:=by
 obtain⟨A,cap,rfl,hat,hnew,hc⟩:=h.at_;obtain⟨b,o,e,_⟩:=hat 0 x rfl;subst e;rcases h.2 with ⟨e,_⟩ | ⟨g,cap2,cur,e,h1,_⟩
 ·cases e
 ·simp only [Value.slice.injEq,Option.some.injEq,Addr.mk.injEq,and_true,true_and] at e;obtain⟨⟨rfl,rfl⟩,rfl⟩:=e;exact⟨b,cap,rfl,hat,h1,hc⟩
theorem Zoq {w:World}{g:Nat}{x:Nm}{r:List Nm}(h:Zc1.At w (some ⟨g,0,none⟩) (x :: r)):w.cell? ⟨g,0,none⟩=some (.string ⟨x.toArray⟩):=by
 obtain⟨b,o,e,hc⟩:=h 0 x rfl;cases e
 exact hc 0 _ rfl
theorem Zd4 {w:World}{B B2:Nat}{t:TypeId}{z n:Nat}{v:Value}{cs:List Value}(h:w.ownsRow B t z v n cs)(hB:B2<=B):w.ownsRow B2 t z v n cs:=by
 refine⟨h.1,?_⟩;rcases h.2 with e | ⟨g,cap,cur,e,h1,h2⟩
 ·exact Or.inl e
 ·exact Or.inr ⟨g,cap,cur,e,Nat.le_trans hB h1,h2⟩
theorem Zv4 {w w1:World}{B B2 B3:Nat}{t t2:TypeId}{z n z2 n2:Nat}{v v2:Value}{cs cs2:List Value}(h:w.ownsRow B t z v n cs)(h2:w.ownsRow B2 t2 z2 v2 n2 cs2)(hne:t≠t2)(hg:Z3y w w1 B3 v2):w1.ownsRow B t z v n cs:=by
 refine Zb7 h (fun b hb=>?_);rcases h.2 with ⟨e,_⟩ | ⟨g,cap,cur,e,_,hh,_⟩
 ·subst e;cases hb
 ·subst e;exact m_30
theorem Zzs {w:World}{A:Option Addr}{L:List Th}(h:Zpv w A L){i:Nat}{x:Th}(hx:L[i]?=some x):∃ b o,A=some ⟨b,o,none⟩/\w.cell? ⟨b,o+i*3,none⟩=some (.int .i64 x.1)/\w.cell? ⟨b,o+i*3+1,none⟩=some (.int .i64 x.2.1)/\w.cell? ⟨b,o+i*3+2,none⟩=some (.string ⟨x.2.2.toArray⟩):=by
 obtain⟨b,o,e,h0,h1,h2⟩:=h i x hx;exact⟨b,o,e,h0,h1,h2⟩
theorem Z0s (w:World)(a:Nm):Zc1.At (w.alloc (.cells #[.string ⟨a.toArray⟩] 9 (0,0))) (some ⟨w.heap.size,0,none⟩) [a]:=by
 have hB:=Blk.new w 9 #[.string ⟨a.toArray⟩];intro i x hx;refine⟨w.heap.size,0,rfl,fun j u hj=>?_⟩;have hj0:j=0:=by
  have:=(List.getElem?_eq_some_iff.1 hj).1;simp at this;omega
 subst hj0;simp at hj;subst hj;rw [show 0+i*Zc1.size+0=i from by show 0+i*1+0=i;omega,hB.cell]
 match i,hx with
 | 0,hx=>simp at hx;subst hx;rfl
theorem Z6z (w:World)(a b:Nm):Zc1.At (w.alloc (.cells #[.string ⟨a.toArray⟩,.string ⟨b.toArray⟩] 9 (0,0))) (some ⟨w.heap.size,0,none⟩) [a,b]:=by
 have hB:=Blk.new w 9 #[.string ⟨a.toArray⟩,.string ⟨b.toArray⟩];intro i x hx;refine⟨w.heap.size,0,rfl,fun j u hj=>?_⟩;have hj0:j=0:=by
  have:=(List.getElem?_eq_some_iff.1 hj).1;simp at this;omega
 subst hj0;simp at hj;subst hj;rw [show 0+i*Zc1.size+0=i from by show 0+i*1+0=i;omega,hB.cell]
 match i,hx with
 | 0,hx=>simp at hx;subst hx;rfl
 | 1,hx=>simp at hx;subst hx;rfl
section
set_option maxHeartbeats 4000000
set_option maxRecDepth 100000
variable {w:World} {T:Tst} {Ai Ac:Option Addr} {kv:Value}
theorem Zz7 (ci cc:Nat)(hT:Zcu w T Ai Ac kv):Calls Tryz.prog 67 #[Zbu T (.slice Ai T.init.length ci) (.slice Ac T.code.length cc) kv] w (Z83 T w):=by
 have HB:=Zh (Zad w (.cells #[.int .i64 T.arch,.string ⟨T.name.toArray⟩,.string ⟨T.cycle.toArray⟩,.slice Ai T.init.length ci,.slice Ac T.code.length cc,.int .i64 T.q,.int .i64 T.k,.int .i64 T.t,.int .i64 T.r,.string ⟨T.l.toArray⟩,.int .i64 T.v,kv] 32 (0,0)));have HK:=Zh (Zd7.below hT.kids (Nat.le_refl _) HB.o);have HL:=Zh hT.llen;go_enter Tryz.func67,Tryz.ntmps67
 go_wp2_with (go_at_call 43;refine (Z81 w.heap.size kv (by simp) HK.o HL.o).mono ?_;rintro e w2 ⟨u,rfl,hown,hb2⟩;have HO:=Zh hown;have HB2:=Zh hb2;clear hown hb2)
 go_ret;exact⟨u,rfl,HO.o.old (by simp),Zab HB.o HB2.o⟩
def Z86 (L:List Nm)(w:World)(e:Ending)(w':World):Prop:=∃ A cap,e=.returned (.slice A L.length cap)/\Zc1.At w' A L/\(∀ p,A=some p->w.heap.size<=p.block)/\Below w.heap.size w w'
theorem Zcb {α:Type}{l:List α}{k:Nat}{x:α}(h:l[k]?=some x):l.drop k=x :: l.drop (k+1):=by
 obtain⟨h1,rfl⟩:=List.getElem?_eq_some_iff.1 h;exact List.drop_eq_getElem_cons h1
theorem Zvq (ci cc:Nat)(hraw:(Zel T).length<=1000000)(hT:Zcu w T Ai Ac kv):Calls Tryz.prog 68 #[Zbu T (.slice Ai T.init.length ci) (.slice Ac T.code.length cc) kv] w (Z86 (Zdq (Zel T)) w):=by
 have HI:=Zh hT.init;have HC:=Zh hT.code;have HASK:=Zh (fun (w2:World) (hb:Below w.heap.size w w2)=>Zz7 (w:=w2) (T:=T) (Ai:=Ai) (Ac:=Ac) (kv:=kv) ci cc (hT.below hb));have hil:=hT.ilen;have hcl:=hT.clen;have hrawl:∀ n m,T.init.length=n->T.code.length=m->2*n<=(Zel T).length:=fun n m h1 _=>by
  unfold Zel;rw [List.length_append,<- h1];have:(T.init.flatMap fun x=>[x.loc,x.vl]).length=2*T.init.length:=by
   induction T.init with
   | nil=>rfl
   | cons x r ih=>rw [List.flatMap_cons,List.length_append,ih];simp;omega
  omega
 simp only [Zbu] at HASK ⊢;obtain⟨n,hn⟩:∃ n,T.init.length=n:=⟨_,rfl⟩;obtain⟨m,hm⟩:∃ m,T.code.length=m:=⟨_,rfl⟩;have HN:=Zh hn;have HM:=Zh hm;obtain⟨R,hR⟩:∃ R,Zel T=R:=⟨_,rfl⟩;have HR:=Zh hR;have h2n:=hrawl n m hn hm;rw [hR] at hraw h2n ⊢;have HRL:=Zh hraw;rw [hn,hm] at HASK ⊢;rw [hn] at hil;rw [hm] at hcl;have HBX:=Zh (Blk.new w 32 #[.int .i64 T.arch,.string ⟨T.name.toArray⟩,.string ⟨T.cycle.toArray⟩,.slice Ai n ci,.slice Ac m cc,.int .i64 T.q,.int .i64 T.k,.int .i64 T.t,.int .i64 T.r,.string ⟨T.l.toArray⟩,.int .i64 T.v,kv]);have HB0:=Zh (Zad w (.cells #[.int .i64 T.arch,.string ⟨T.name.toArray⟩,.string ⟨T.cycle.toArray⟩,.slice Ai n ci,.slice Ac m cc,.int .i64 T.q,.int .i64 T.k,.int .i64 T.t,.int .i64 T.r,.string ⟨T.l.toArray⟩,.int .i64 T.v,kv] 32 (0,0)));go_enter Tryz.func68,Tryz.ntmps68
 go_wp2_with fail
 generalize hw1:w.alloc (.cells #[.int .i64 T.arch,.string ⟨T.name.toArray⟩,.string ⟨T.cycle.toArray⟩,.slice Ai n ci,.slice Ac m cc,.int .i64 T.q,.int .i64 T.k,.int .i64 T.t,.int .i64 T.r,.string ⟨T.l.toArray⟩,.int .i64 T.v,kv] 32 (0,0))=w1 at HBX HB0 ⊢;have hsz:w.heap.size<w1.heap.size:=HBX.o.lt;go_loopw [15,3] (fun i vv wr=>∃ (k:Nat) (l:List Nm),k<=n/\i=.int .i64 k/\Zc1.Own 9 w1.heap.size wr vv l/\l++((T.init.drop k).flatMap (fun x=>[x.loc,x.vl])++((T.code.flatMap fun c=>c.map fun x=>x.loc)++(Za8 T).map fun x=>x.2.2))=R/\Below w1.heap.size w1 wr) (fun i _ _=>n - (intOf i).toNat)
 case atStart=>exact⟨0,[],Nat.zero_le _,rfl,Enc.Own.nil _ _ _,by rw [List.nil_append,List.drop_zero];exact HR.o,Below.refl _ _⟩
 case round=>
  obtain⟨k,l,hk,rfl,hv,hl,hb⟩:=hrel;obtain⟨Av,cv,rfl⟩:=hv.shp;have HV:=Zh hv;have HL:=Zh hl;have HBR:=Zh hb;have hzr:=hb.size;have hsw:w.heap.size<wr.heap.size:=ω;have HBW:=Zh (Zab HB0.o HBR.o);by_cases hlt:k<n
  ·have hlk:k<T.init.length:=by rw [HN.o];exact hlt
   have ex:=List.getElem?_eq_getElem hlk;obtain⟨x,hx⟩:∃ x,T.init[k]=x:=⟨_,rfl⟩;rw [hx] at ex;obtain⟨b,o,rfl,c0,c1,c2,c3,c4,l1,l2,l3,l4⟩:=HI.o.at_ ex;have hbl:b<w.heap.size:=World.block_lt_of_cell? w _ c0;have d0:=Zac c0 HBW.o;have d1:=Zac c1 HBW.o;have d2:=Zac c2 HBW.o;have d3:=Zac c3 HBW.o;have d4:=Zac c4 HBW.o;have hblr:b<wr.heap.size:=ω;have hkn:(k:Int)<(n:Int):=ω;have HL2:=Zh (show (l++[x.loc,x.vl])++((T.init.drop (k+1)).flatMap (fun x=>[x.loc,x.vl])++((T.code.flatMap fun c=>c.map fun x=>x.loc)++(Za8 T).map fun x=>x.2.2))=R by rw [<- HL.o,Zcb ex];simp);have HLEN:=Zh (show l.length+2<=1000000 by have:=congrArg List.length HL2.o;have:=HRL.o;simp only [List.length_append,List.length_cons,List.length_nil] at *;omega);have HYS:=Zh (Z6z (wr.alloc (.cells #[.int .i64 x.th,.int .i64 x.rg,.string ⟨x.loc.toArray⟩,.string ⟨x.vl.toArray⟩,.int .i64 x.vn] 94 (0,0))) x.loc x.vl);have HB1:=Zh (Zau wr (.cells #[.int .i64 x.th,.int .i64 x.rg,.string ⟨x.loc.toArray⟩,.string ⟨x.vl.toArray⟩,.int .i64 x.vn] 94 (0,0)) (.cells #[.string ⟨x.loc.toArray⟩,.string ⟨x.vl.toArray⟩] 9 (0,0)))
   go_wp2_with (at_builtin;refine Enc.appL Zod _ rfl (.tmp 19) (.tmp 25) rfl [x.loc,x.vl] w1.heap.size l _ (wr.heap.size+1) 0 2 rfl rfl (by have:=HYS.o;simpa using this) (HV.o.below HB1.o) (by have:=HLEN.o;simp;omega) (by have:=HLEN.o;simp;omega) (by simp;omega) ?_;intro v' w3 hown3 hg3;have HO3:=Zh hown3;have HB3:=Zh hg3.below;clear hown3 hg3)
   go_roundw
   case rel=>exact⟨k+1,_,ω,by go_num,HO3.o,HL2.o,(HBR.o.trans (HB1.o.mono ω)).trans HB3.o⟩
   case measure=>exact msr
  ·have hkn:k=n:=ω;subst hkn;have HL1:=Zh (show l++((T.code.flatMap fun c=>c.map fun x=>x.loc)++(Za8 T).map fun x=>x.2.2)=R by have:=HL.o;rw [List.drop_of_length_le (by have:=HN.o;omega)] at this;simpa using this);have HV0:=Zh HV.o;have HBA:=Zh HBR.o;have k4:=(HBX.o.go HBR.o).cell 4
   go_wp2_with fail
   obtain⟨wa,hwa⟩:∃ wa:World,wa=wr:=⟨_,rfl⟩;subst hwa;go_loopw [31,3] (fun i vv wr=>∃ (k:Nat) (l:List Nm),k<=m/\i=.int .i64 k/\Zc1.Own 9 w1.heap.size wr vv l/\l++(((T.code.drop k).flatMap fun c=>c.map fun x=>x.loc)++(Za8 T).map fun x=>x.2.2)=R/\Below w1.heap.size w1 wr) (fun i _ _=>m - (intOf i).toNat)
   case atStart=>exact⟨0,l,Nat.zero_le _,rfl,HV0.o,by rw [List.drop_zero];exact HL1.o,HBA.o⟩
   case round=>
    obtain⟨k2,l2,hk2,rfl,hv,hl,hb⟩:=hrel;obtain⟨Av2,cv2,rfl⟩:=hv.shp;have HV:=Zh hv;have HL:=Zh hl;have HBR:=Zh hb;have hzr:=hb.size;have hsw:w.heap.size<wr.heap.size:=ω;have HBW:=Zh (Zab HB0.o HBR.o);by_cases hlt:k2<m
    ·have hlk:k2<T.code.length:=by rw [HM.o];exact hlt
     have ex:=List.getElem?_eq_getElem hlk;obtain⟨c,hx⟩:∃ c,T.code[k2]=c:=⟨_,rfl⟩;rw [hx] at ex;obtain⟨b,o,A2,c2,rfl,hc0,hA2,hl1,hl2⟩:=HC.o.at_ ex;have HCL:=Zh (show l2++((c.map fun x=>x.loc)++(((T.code.drop (k2+1)).flatMap fun c=>c.map fun x=>x.loc)++(Za8 T).map fun x=>x.2.2))=R by rw [<- HL.o,Zcb ex];simp);have HA2:=Zh hA2;have hkn:(k2:Int)<(m:Int):=ω;have hc0r:=Zac hc0 HBW.o
     go_wp2_with fail
     obtain⟨wi,hwi⟩:∃ wi:World,wi=wr:=⟨_,rfl⟩;subst hwi;go_loopw [37,3] (fun i vv wr=>∃ (i':Nat) (l:List Nm),i'<=c.length/\i=.int .i64 i'/\Zc1.Own 9 w1.heap.size wr vv l/\l++(((c.drop i').map fun x=>x.loc)++(((T.code.drop (k2+1)).flatMap fun c=>c.map fun x=>x.loc)++(Za8 T).map fun x=>x.2.2))=R/\Below w1.heap.size w1 wr) (fun i _ _=>c.length - (intOf i).toNat)
     case atStart=>exact⟨0,l2,Nat.zero_le _,rfl,HV.o,by rw [List.drop_zero];exact HCL.o,HBR.o⟩
     case round=>
      obtain⟨i,l3,hi,rfl,hv3,hl3,hb3⟩:=hrel;obtain⟨Av3,cv3,rfl⟩:=hv3.shp;have HV:=Zh hv3;have HCL:=Zh hl3;have HBR:=Zh hb3;have hzr:=hb3.size;have hsw:w.heap.size<wr.heap.size:=ω;have HBW:=Zh (Zab HB0.o HBR.o);by_cases hli:i<c.length
      ·have ey:=List.getElem?_eq_getElem hli;obtain⟨x,hx⟩:∃ x,c[i]=x:=⟨_,rfl⟩;rw [hx] at ey;obtain⟨b2,o2,rfl,hCi⟩:=HA2.o.at_ ey;have hbl:=hCi.lt;have hblr:b2<wr.heap.size:=ω;obtain⟨c0,c1,c2',c3,c4,c5,c6,c7,_,_⟩:=hCi.go HBW.o;have hkl:(i:Int)<(c.length:Int):=ω;have HL2:=Zh (show (l3++[x.loc])++(((c.drop (i+1)).map fun x=>x.loc)++(((T.code.drop (k2+1)).flatMap fun c=>c.map fun x=>x.loc)++(Za8 T).map fun x=>x.2.2))=R by rw [<- HCL.o,Zcb ey];simp);have HLEN:=Zh (show l3.length+1<=1000000 by have:=congrArg List.length HL2.o;have:=HRL.o;simp only [List.length_append,List.length_cons,List.length_nil] at *;omega);have HYS:=Zh (Z0s (wr.alloc (.cells #[.int .i64 x.op,.int .i64 x.d,.int .i64 x.a,.int .i64 x.b,.int .i64 x.imm,.string ⟨x.loc.toArray⟩,.string ⟨x.label.toArray⟩,.int .i64 x.fence] 92 (0,0))) x.loc);have HB1:=Zh (Zau wr (.cells #[.int .i64 x.op,.int .i64 x.d,.int .i64 x.a,.int .i64 x.b,.int .i64 x.imm,.string ⟨x.loc.toArray⟩,.string ⟨x.label.toArray⟩,.int .i64 x.fence] 92 (0,0)) (.cells #[.string ⟨x.loc.toArray⟩] 9 (0,0)))
       go_wp2_with (at_builtin;refine Enc.appL Zod _ rfl (.tmp 41) (.tmp 44) rfl [x.loc] w1.heap.size l3 _ (wr.heap.size+1) 0 1 rfl rfl (by have:=HYS.o;simpa using this) (HV.o.below HB1.o) (by have:=HLEN.o;simp;omega) (by have:=HLEN.o;simp;omega) (by simp;omega) ?_;intro v' w3 hown3 hg3;have HO3:=Zh hown3;have HB3:=Zh hg3.below;clear hown3 hg3)
       go_roundw
       case rel=>exact⟨i+1,_,ω,by go_num,HO3.o,HL2.o,(HBR.o.trans (HB1.o.mono ω)).trans HB3.o⟩
       case measure=>exact msr
      ·have HL3:=Zh (show l3++(((T.code.drop (k2+1)).flatMap fun c=>c.map fun x=>x.loc)++(Za8 T).map fun x=>x.2.2)=R by have:=HCL.o;rw [List.drop_of_length_le ω] at this;simpa using this)
       go_wp2_with fail
       go_roundw
       case rel=>exact⟨k2+1,l3,ω,by go_num,HV.o,HL3.o,HBR.o⟩
       case measure=>exact msr
    ·have hkm:k2=m:=ω;subst hkm;have HL1:=Zh (show l2++((Za8 T).map fun x=>x.2.2)=R by have:=HL.o;rw [List.drop_of_length_le (by have:=HM.o;omega)] at this;simpa using this);have HV0:=Zh HV.o;have HBA:=Zh HBR.o;have HBRX:=Zh (HBX.o.go HBR.o);obtain⟨k0,k1,k2,k3,k4,k5,k6,k7,k8,k9,k10,k11⟩:=HBRX.o.c12
     go_wp2_with (go_at_call 67;refine (HASK.o _ HBW.o).mono ?_;rintro e w2 ⟨u,rfl,hown,hb2⟩;obtain⟨Au,cu,rfl⟩:=Zbe hown;have HOU:=Zh hown;have HB2:=Zh hb2;clear hown hb2)
     have HV2:=Zh (HV0.o.below HB2.o);have HB4:=Zh (Zab HBR.o HB2.o);have hq1024:=Zez T;obtain⟨wc,hwc⟩:∃ wc:World,wc=w2:=⟨_,rfl⟩;subst hwc;go_loopw [51,3] (fun i vv wr=>∃ (k:Nat) (l:List Nm),k<=(Za8 T).length/\i=.int .i64 k/\Zc1.Own 9 w1.heap.size wr vv l/\l++((Za8 T).drop k).map (fun x=>x.2.2)=R/\wr.ownsRow w1.heap.size 25 3 (.slice Au (Za8 T).length cu) (Za8 T).length (Za1 (Za8 T))/\Below w1.heap.size w1 wr) (fun i _ _=>(Za8 T).length - (intOf i).toNat)
     case atStart=>exact⟨0,l2,Nat.zero_le _,rfl,HV2.o,by rw [List.drop_zero];exact HL1.o,Zd4 HOU.o ω,HB4.o⟩
     case round=>
      obtain⟨j,l4,hj,rfl,hv,hl,hou,hb⟩:=hrel;obtain⟨Av4,cv4,rfl⟩:=hv.shp;have HV:=Zh hv;have HL:=Zh hl;have HOU:=Zh hou;have HBR:=Zh hb;have hzr:=hb.size;have hsw:w.heap.size<wr.heap.size:=ω;obtain⟨A5,c5,e5,hth⟩:=Zet hou;simp only [Value.slice.injEq,true_and] at e5;obtain⟨rfl,rfl⟩:=e5;have HTH:=Zh hth;by_cases hlj:j<(Za8 T).length
      ·have ey:=List.getElem?_eq_getElem hlj;obtain⟨x,hx⟩:∃ x,(Za8 T)[j]=x:=⟨_,rfl⟩;rw [hx] at ey;obtain⟨b2,o2,rfl,g0,g1,g2⟩:=Zzs HTH.o ey;have hbl:b2<wr.heap.size:=World.block_lt_of_cell? wr _ g0;have hjl:(j:Int)<((Za8 T).length:Int):=ω;have HL2:=Zh (show (l4++[x.2.2])++((Za8 T).drop (j+1)).map (fun x=>x.2.2)=R by rw [<- HL.o,Zcb ey];simp);have HLEN:=Zh (show l4.length+1<=1000000 by have:=congrArg List.length HL2.o;have:=HRL.o;simp only [List.length_append,List.length_cons,List.length_nil] at *;omega);have HYS:=Zh (Z0s (wr.alloc (.cells #[.int .i64 x.1,.int .i64 x.2.1,.string ⟨x.2.2.toArray⟩] 25 (0,0))) x.2.2);have HB1:=Zh (Zau wr (.cells #[.int .i64 x.1,.int .i64 x.2.1,.string ⟨x.2.2.toArray⟩] 25 (0,0)) (.cells #[.string ⟨x.2.2.toArray⟩] 9 (0,0)))
       go_wp2_with (at_builtin;refine Enc.appL Zod _ rfl (.tmp 55) (.tmp 58) rfl [x.2.2] w1.heap.size l4 _ (wr.heap.size+1) 0 1 rfl rfl (by have:=HYS.o;simpa using this) (HV.o.below HB1.o) (by have:=HLEN.o;simp;omega) (by have:=HLEN.o;simp;omega) (by simp;omega) ?_;intro v' w3 hown3 hg3;have HO3:=Zh hown3;have HG3:=Zh hg3;clear hown3 hg3)
       go_roundw
       case rel=>exact⟨j+1,_,ω,by go_num,HO3.o,HL2.o,Zv4 (Zah HOU.o HB1.o) (HV.o.below HB1.o) (by decide) HG3.o,(HBR.o.trans (HB1.o.mono ω)).trans HG3.o.below⟩
       case measure=>exact msr
      ·have HLR:=Zh (show l4=R by have:=HL.o;rw [List.drop_of_length_le ω] at this;simpa using this);have HLEN:=Zh (show l4.length<=1000000 by rw [HLR.o];exact HRL.o);have HU0:=Zh (show Lib.compact (Zfe l4)=Zkz R by rw [HLR.o];rfl);have HLO:=Zh (show Zdq R=Zpx (Zkz R) from rfl);obtain⟨U,hU⟩:∃ U,Zkz R=U:=⟨_,rfl⟩;have HU:Hid (Lib.compact (Zfe l4)=U):=Zh (HU0.o.trans hU);have HUL:=Zh (show U.length<=1000000 by rw [<- hU];exact Nat.le_trans (Zw4 R) HRL.o);rw [hU] at HLO;rcases U with _ | ⟨s,r⟩
       ·go_wp2_with (first | (go_at_call 115;refine (Z3a _ l4 w1.heap.size _ HV.o HLEN.o).mono ?_;rintro e w3 ⟨rfl,hown3,hb3⟩;have HO3:=Zh hown3;have HB3:=Zh hb3;clear hown3 hb3) | (go_at_call 116;refine (Z13 _ (Zfe l4) w1.heap.size _ HO3.o (by rw [(Zdv l4).length_eq];exact HLEN.o)).mono ?_;rintro e w5 ⟨v5,rfl,hown5,hb5⟩;rw [HU.o] at hown5;obtain⟨A6,c6,rfl,hat6,hnew6,_⟩:=hown5.at_;have HAT6:=Zh hat6;have HNEW6:=Zh hnew6;clear hat6 hnew6;have HB5:=Zh hb5;clear hown5 hb5))
        go_ret;rw [HLO.o];exact⟨A6,c6,rfl,HAT6.o,fun p hp=>Nat.le_trans ω (HNEW6.o p hp),Zab HB0.o ((HBR.o.trans HB3.o).trans HB5.o)⟩
       ·have hul:=HUL.o;simp only [List.length_cons] at hul;by_cases hs:s=[]
        ·subst hs
         go_wp2_with (first | (go_at_call 115;refine (Z3a _ l4 w1.heap.size _ HV.o HLEN.o).mono ?_;rintro e w3 ⟨rfl,hown3,hb3⟩;have HO3:=Zh hown3;have HB3:=Zh hb3;clear hown3 hb3) | (go_at_call 116;refine (Z13 _ (Zfe l4) w1.heap.size _ HO3.o (by rw [(Zdv l4).length_eq];exact HLEN.o)).mono ?_;rintro e w5 ⟨v5,rfl,hown5,hb5⟩;rw [HU.o] at hown5;obtain⟨g6,c6,rfl,hat6,hg6,hcap6⟩:=Zro hown5;have HAT6:=Zh hat6;have d6:=Zoq hat6;clear hat6;have HB5:=Zh hb5;clear hown5 hb5))
         all_goals
          go_ret;rw [HLO.o]
         ·rename_i hcap1;have hr0:r=[]:=by cases r with | nil=>rfl | cons _ _=>simp at hcap6;omega
          subst hr0;exact⟨_,_,rfl,Enc.At.nil _ _,(fun p hp=>by cases hp;show w.heap.size<=g6;omega),Zab HB0.o ((HBR.o.trans HB3.o).trans HB5.o)⟩
         ·exact⟨_,_,rfl,HAT6.o.drop 1,(fun p hp=>by cases hp;show w.heap.size<=g6;omega),Zab HB0.o ((HBR.o.trans HB3.o).trans HB5.o)⟩
        ·have hs2:(s == [])=false:=by simpa using hs
         have hs3:s.isEmpty=false:=by simpa using hs
         have HCH:=Zh (show Zpx (s :: r)=s :: r by cases s with | nil=>exact absurd rfl hs | cons _ _=>rfl)
         go_wp2_with (first | (go_at_call 115;refine (Z3a _ l4 w1.heap.size _ HV.o HLEN.o).mono ?_;rintro e w3 ⟨rfl,hown3,hb3⟩;have HO3:=Zh hown3;have HB3:=Zh hb3;clear hown3 hb3) | (go_at_call 116;refine (Z13 _ (Zfe l4) w1.heap.size _ HO3.o (by rw [(Zdv l4).length_eq];exact HLEN.o)).mono ?_;rintro e w5 ⟨v5,rfl,hown5,hb5⟩;rw [HU.o] at hown5;obtain⟨g6,c6,rfl,hat6,hg6,hcap6⟩:=Zro hown5;have HAT6:=Zh hat6;have d6:=Zoq hat6;clear hat6;have HB5:=Zh hb5;clear hown5 hb5))
         go_ret;rw [HLO.o,HCH.o];exact⟨some ⟨g6,0,none⟩,c6,rfl,HAT6.o,(fun p hp=>by cases hp;show w.heap.size<=g6;omega),Zab HB0.o ((HBR.o.trans HB3.o).trans HB5.o)⟩
end
end
def shC (f:Int)(c:UInt8):Bool:=decide (f<=(c.toNat:Int))&&decide ((c.toNat:Int)<=126)&&!decide ((c.toNat:Int)=34)
theorem Zfk {f:Int}{s:ByteArray}{k:Nat}(hk:k<s.size)(h:shC f s[k]=false):s.data.toList.all (shC f)=false:=by
 have hl:s.data.toList.length=s.size:=rfl;rw [List.all_eq_false];exact⟨s.data.toList[k]'ω,List.getElem_mem _,by rw [show s.data.toList[k]'ω=s[k] from rfl,h];simp⟩
theorem Zmf {f:Int}{s:ByteArray}(h:∀ i (hi:i<s.size),shC f s[i]=true):s.data.toList.all (shC f)=true:=by
 have hl:s.data.toList.length=s.size:=rfl;rw [List.all_eq_true];intro x hx;obtain⟨j,hj,rfl⟩:=List.getElem_of_mem hx;exact h j ω
set_option maxHeartbeats 400000 in
theorem Zwm (f:Int)(s:ByteArray)(w:World)(hs:s.size<=9223372036854775807):Calls Tryz.prog 62 #[.string s,.int .u8 f] w fun e w'=>e=.returned (.bool (s.data.toList.all (shC f)))/\w=w':=by
 obtain⟨r,hr⟩:∃ r,s.data.toList.all (shC f)=r:=⟨_,rfl⟩;rw [hr];have HR:=Zh hr;go_enter Tryz.func62,Tryz.ntmps62;go_wp2
 go_loop [5] (fun i=>∃ k:Nat,k<=s.size/\i=.int .i64 k/\∀ j (hj:j<s.size),j<k->shC f s[j]=true) (fun i=>s.size - (intOf i).toNat)
 case atStart=>exact⟨0,Nat.zero_le _,rfl,fun j _ h=>absurd h (Nat.not_lt_zero _)⟩
 case round=>
  obtain⟨k,hk,rfl,hall⟩:=hrel;have H:=Zh hall;by_cases hlt:k<s.size
  ·by_cases b1:(s[k].toNat:Int)<f
   ·have a1:decide ((s[k].toNat:Int)<f)=true:=decide_eq_true b1;exact m_92
   have a1:decide ((s[k].toNat:Int)<f)=false:=decide_eq_false b1;by_cases b2:(126:Int)<(s[k].toNat:Int)
   ·have a2:decide ((126:Int)<(s[k].toNat:Int))=true:=decide_eq_true b2;exact m_92
   have a2:decide ((126:Int)<(s[k].toNat:Int))=false:=decide_eq_false b2;by_cases b3:(s[k].toNat:Int)=34
   ·have a3:((s[k].toNat:Int) == 34)=true:=by simpa using b3
    exact m_92
   have a3:((s[k].toNat:Int) == 34)=false:=by simpa using b3
   have HK:=Zh (show shC f s[k]=true by simp [shC];omega)
   go_wp2_with fail
   go_round
   case rel=>exact⟨k+1,ω,by go_num,fun j hj h=>by
    by_cases e:j<k
    ·exact H.o j hj e
    ·obtain rfl:j=k:=ω
     exact HK.o⟩
   case measure=>exact msr
  ·have HF:=Zh (Zmf (f:=f) (s:=s) (fun i hi=>H.o i hi ω))
   go_wp2_with fail
   go_ret;exact⟨Zaf (by rw [<- HR.o,HF.o]),rfl⟩
def Zg4 (l:List UInt8):Bool:=decide (1<=l.length)&&decide (l.length<=1024)&&l.all (shC 33)
theorem Zl8 {s:ByteArray}(h1:1<=s.size)(h2:s.size<=1024):Zg4 s.data.toList=s.data.toList.all (shC 33):=by
 have hl:s.data.toList.length=s.size:=rfl;simp only [Zg4,hl];rw [decide_eq_true h1,decide_eq_true h2];simp
theorem Zpo {s:ByteArray}(h:s.size<1\/1024<s.size):Zg4 s.data.toList=false:=by
 have hl:s.data.toList.length=s.size:=rfl;simp only [Zg4,hl];rcases h with h | h
 ·rw [decide_eq_false (p:=1<=s.size) ω];rfl
 ·rw [decide_eq_false (p:=s.size<=1024) ω,Bool.and_false];rfl
set_option maxHeartbeats 400000 in
theorem Z3u (s:ByteArray)(w:World)(hs:s.size<=9223372036854775807):Calls Tryz.prog 81 #[.string s] w fun e w'=>e=.returned (.bool (Zg4 s.data.toList))/\w=w':=by
 by_cases h1:s.size<1\/1024<s.size
 ·have HF:=Zh (Zpo h1);rcases h1 with h1 | h1
  all_goals
   go_enter Tryz.func81,Tryz.ntmps81
   go_wp2_with fail
   go_ret;exact⟨Zaf HF.o.symm,rfl⟩
 have h2:1<=s.size/\s.size<=1024:=ω;have HT:=Zh (Zl8 h2.1 h2.2);have h3:=h2.1;have h4:=h2.2;rw [HT.o];obtain⟨r,hr⟩:∃ r,s.data.toList.all (shC 33)=r:=⟨_,rfl⟩;rw [hr];have HR:=Zh hr;go_enter Tryz.func81,Tryz.ntmps81;go_wp2
 go_loop [3] (fun i=>∃ k:Nat,k<=s.size/\i=.int .i64 k/\∀ j (hj:j<s.size),j<k->shC 33 s[j]=true) (fun i=>s.size - (intOf i).toNat)
 case atStart=>exact⟨0,Nat.zero_le _,rfl,fun j _ h=>absurd h (Nat.not_lt_zero _)⟩
 case round=>
  obtain⟨k,hk,rfl,hall⟩:=hrel;have H:=Zh hall;by_cases hlt:k<s.size
  ·by_cases b1:(s[k].toNat:Int)<33
   ·have a1:decide ((s[k].toNat:Int)<33)=true:=decide_eq_true b1;exact m_89
   have a1:decide ((s[k].toNat:Int)<33)=false:=decide_eq_false b1;by_cases b2:(126:Int)<(s[k].toNat:Int)
   ·have a2:decide ((126:Int)<(s[k].toNat:Int))=true:=decide_eq_true b2;exact m_89
   have a2:decide ((126:Int)<(s[k].toNat:Int))=false:=decide_eq_false b2;by_cases b3:(s[k].toNat:Int)=34
   ·have a3:((s[k].toNat:Int) == 34)=true:=by simpa using b3
    exact m_89
   have a3:((s[k].toNat:Int) == 34)=false:=by simpa using b3
   have HK:=Zh (show shC 33 s[k]=true by simp [shC];omega)
   go_wp2_with fail
   go_round
   case rel=>exact⟨k+1,ω,by go_num,fun j hj h=>by
    by_cases e:j<k
    ·exact H.o j hj e
    ·obtain rfl:j=k:=ω
     exact HK.o⟩
   case measure=>exact msr
  ·have HF:=Zh (Zmf (f:=33) (s:=s) (fun i hi=>H.o i hi ω))
   go_wp2_with fail
   go_ret;exact⟨Zaf (by rw [<- HR.o,HF.o]),rfl⟩
def Zhl (l:List UInt8):Bool:=l.isEmpty||(decide (((l.headD 0).toNat:Int)≠32)&&decide (((l.getLastD 0).toNat:Int)≠32))
theorem Zul {s:ByteArray}(h:s.size=0):Zhl s.data.toList=true:=by
 have hl:s.data.toList.length=s.size:=rfl;rw [List.eq_nil_of_length_eq_zero (hl.trans h)];rfl
theorem Z17:∀ (l:List UInt8) (n:Nat) (hn:l.length=n) (h:0<n),Zhl l=(decide (((l[0]'ω).toNat:Int)≠32)&&decide (((l[n - 1]'ω).toNat:Int)≠32))
 | [],n,hn,h=>by simp at hn;omega
 | c :: r,n,hn,h=>by
  have he:(c :: r).getLastD 0=(c :: r)[n - 1]'ω:=by
   rw [List.getLastD_eq_getLast?,List.getLast?_eq_getElem?,List.getElem?_eq_getElem (by simp)];simp only [Option.getD_some,hn]
  simp only [Zhl,he,List.headD_cons,List.isEmpty_cons,Bool.false_or,List.getElem_cons_zero];rfl
theorem Zp5 {s:ByteArray}(h:0<s.size):Zhl s.data.toList=(decide ((s[0].toNat:Int)≠32)&&decide (((s[s.size - 1]'ω).toNat:Int)≠32)):=
 Z17 s.data.toList s.size rfl h
def Ze6 (l:List UInt8):Bool:=decide (l.length<=262144)&&l.all (shC 32)&&Zhl l
set_option maxHeartbeats 400000 in
theorem Z14 (s:ByteArray)(w:World)(hs:s.size<=9223372036854775807):Calls Tryz.prog 82 #[.string s] w fun e w'=>e=.returned (.bool (Ze6 s.data.toList))/\w=w':=by
 have hl:s.data.toList.length=s.size:=rfl;by_cases h1:262144<s.size
 ·have HF:=Zh (show Ze6 s.data.toList=false by simp only [Ze6,hl];rw [decide_eq_false (p:=s.size<=262144) ω];rfl);go_enter Tryz.func82,Tryz.ntmps82
  go_wp2_with fail
  go_ret;exact⟨Zaf HF.o.symm,rfl⟩
 have HT:=Zh (show Ze6 s.data.toList=(s.data.toList.all (shC 32)&&Zhl s.data.toList) by simp only [Ze6,hl];rw [decide_eq_true (p:=s.size<=262144) ω];simp);have h2:s.size<=262144:=ω;rw [HT.o];obtain⟨r,hr⟩:∃ r,(s.data.toList.all (shC 32)&&Zhl s.data.toList)=r:=⟨_,rfl⟩;rw [hr];have HR:=Zh hr;go_enter Tryz.func82,Tryz.ntmps82;go_wp2
 go_loop [3] (fun i=>∃ k:Nat,k<=s.size/\i=.int .i64 k/\∀ j (hj:j<s.size),j<k->shC 32 s[j]=true) (fun i=>s.size - (intOf i).toNat)
 case atStart=>exact⟨0,Nat.zero_le _,rfl,fun j _ h=>absurd h (Nat.not_lt_zero _)⟩
 case round=>
  obtain⟨k,hk,rfl,hall⟩:=hrel;have H:=Zh hall;by_cases hlt:k<s.size
  ·by_cases b1:(s[k].toNat:Int)<32
   ·have a1:decide ((s[k].toNat:Int)<32)=true:=decide_eq_true b1;exact m_87
   have a1:decide ((s[k].toNat:Int)<32)=false:=decide_eq_false b1;by_cases b2:(126:Int)<(s[k].toNat:Int)
   ·have a2:decide ((126:Int)<(s[k].toNat:Int))=true:=decide_eq_true b2;exact m_87
   have a2:decide ((126:Int)<(s[k].toNat:Int))=false:=decide_eq_false b2;by_cases b3:(s[k].toNat:Int)=34
   ·have a3:((s[k].toNat:Int) == 34)=true:=by simpa using b3
    exact m_87
   have a3:((s[k].toNat:Int) == 34)=false:=by simpa using b3
   have HK:=Zh (show shC 32 s[k]=true by simp [shC];omega)
   go_wp2_with fail
   go_round
   case rel=>exact⟨k+1,ω,by go_num,fun j hj h=>by
    by_cases e:j<k
    ·exact H.o j hj e
    ·obtain rfl:j=k:=ω
     exact HK.o⟩
   case measure=>exact msr
  ·have HF:=Zh (Zmf (f:=32) (s:=s) (fun i hi=>H.o i hi ω));by_cases h0:s.size=0
   ·have hz:((s.size:Int) == 0)=true:=by simp [h0]
    have HG:=Zh (Zul h0);exact m_106
   have hz:((s.size:Int) == 0)=false:=beq_eq_false_iff_ne.2 ω;have hp:0<s.size:=ω;have hw:IntKind.i64.wrap ((s.size:Int) - 1)=((s.size - 1:Nat):Int):=by rw [IntWalk.i64_in _ ω];omega
   have hp1:s.size - 1<s.size:=ω;by_cases q0:(s[0].toNat:Int)=32
   ·have b0:((s[0].toNat:Int) != 32)=false:=by simpa using q0
    have HG:=Zh (show Zhl s.data.toList=false by rw [Zp5 hp,decide_eq_false (by simpa using q0)];rfl);exact m_106
   have b0:((s[0].toNat:Int) != 32)=true:=by simpa using q0
   by_cases q1:((s[s.size - 1]'hp1).toNat:Int)=32
   ·have b1:(((s[s.size - 1]'hp1).toNat:Int) != 32)=false:=by simpa using q1
    have HG:=Zh (show Zhl s.data.toList=false by rw [Zp5 hp,decide_eq_false (p:=((s[s.size - 1]'hp1).toNat:Int)≠32) (by simpa using q1),Bool.and_false]);exact m_106
   have b1:(((s[s.size - 1]'hp1).toNat:Int) != 32)=true:=by simpa using q1
   have HG:=Zh (show Zhl s.data.toList=true by rw [Zp5 hp,decide_eq_true (p:=(s[0].toNat:Int)≠32) q0,decide_eq_true (p:=((s[s.size - 1]'hp1).toNat:Int)≠32) q1];rfl);exact m_106
theorem Zuk (p:UInt8->Bool):∀ l:List UInt8,(l.dropWhile p).length<=l.length
 | []=>by simp
 | c :: r=>by
  rw [List.dropWhile_cons]
  split
  ·have:=Zuk p r;simp;omega
  ·simp
theorem Z16 (p:UInt8->Bool)(l:List UInt8)(h:(l.dropWhile p).length=l.length):l.dropWhile p=l:=by
 cases l with
 | nil=>rfl
 | cons c r=>
  rw [List.dropWhile_cons] at h ⊢
  split
  ·rename_i hc;rw [if_pos hc] at h;have:=Zuk p r;simp at h;omega
  ·rfl
theorem Zml (p:UInt8->Bool)(c:UInt8)(r:List UInt8):(c :: r).dropWhile p=c :: r↔p c=false:=by
 rw [List.dropWhile_cons];cases h:p c with
 | false=>simp
 | true=>
  simp only [if_true];refine⟨fun e=>?_,fun e=>by cases e⟩;have:=congrArg List.length e;have:=Zuk p r;simp at *;omega
theorem Zw2 (l:List UInt8):decide (Lib.trimB l 32=l)=Zhl l:=by
 cases hl:l with
 | nil=>rfl
 | cons c r=>
  rw [<- hl];have hne:l≠[]:=by rw [hl];simp
  have hh:l.headD 0=c:=by rw [hl];rfl
  have hlast:l.reverse=l.getLastD 0 :: (l.reverse.tail):=by
   cases hr:l.reverse with
   | nil=>exact absurd (List.reverse_eq_nil_iff.1 hr) hne
   | cons d q=>
    have:l=(d :: q).reverse:=by rw [<- hr,List.reverse_reverse]
    rw [this];simp
  have key:Lib.trimB l 32=l↔((c == 32)=false/\(l.getLastD 0 == 32)=false):=by
   unfold Lib.trimB Lib.trimLeftB Lib.trimRightB
   constructor
   ·intro h;have h1:=Zuk (· == 32) (l.reverse.dropWhile (· == 32)).reverse;have h2:=Zuk (· == 32) l.reverse;have h3:=congrArg List.length h;simp only [List.length_reverse] at h1 h2;have h4:l.reverse.dropWhile (· == 32)=l.reverse:=Z16 _ _ (by rw [List.length_reverse];omega);rw [h4,List.reverse_reverse] at h;refine⟨?_,?_⟩
    ·rw [hl] at h;exact (Zml (· == 32) c r).1 h
    ·rw [hlast] at h4;exact (Zml (· == 32) (l.getLastD 0) l.reverse.tail).1 h4
   ·rintro⟨h1,h2⟩;have h4:l.reverse.dropWhile (· == 32)=l.reverse:=by rw [hlast];exact (Zml (· == 32) (l.getLastD 0) l.reverse.tail).2 h2
    rw [h4,List.reverse_reverse,hl];exact (Zml (· == 32) c r).2 h1
  have hb:∀ d:UInt8,(d == 32)=false↔((d.toNat:Int)≠32):=fun d=>by
   rw [beq_eq_false_iff_ne,ne_eq,ne_eq,<- UInt8.toNat_inj];show ¬ d.toNat=32↔_;omega
  rw [Bool.eq_iff_iff,decide_eq_true_iff,key];unfold Zhl;have he:l.isEmpty=false:=by rw [hl];rfl
  rw [he,hh,hb,hb];simp
def Zbb (T:Tst):Int:=
 if Zef T.arch=false then 5
 else if (Zg4 T.name&&Ze6 T.cycle)=false then 130
 else if Zf7 T.arch T.code≠0 then Zf7 T.arch T.code
 else if Zgn T.arch T.code.length T.init≠0 then Zgn T.arch T.code.length T.init
 else if Zbg T.arch T.q T.k T.t T.r T.l T.v T.kids≠0 then Zbg T.arch T.q T.k T.t T.r T.l T.v T.kids
 else if (Za8 T).any (fun x=>decide ((T.code.length:Int)<=x.1)) then 80
 else if 64<(Zdq (Zel T)).length then 2 else 0
section
theorem Za7.ctrl {w:World}{B g:Nat}{S:Zgk}{r:Rn}{V:Zd8}(h:Za7 w B g S r V)(c:Nat) :
  Za7 ((((w.setCell ⟨g,15,none⟩ (.int .u64 (c:Int))).setCell ⟨g,16,none⟩ (.int .u64 0)).setCell ⟨g,17,none⟩ (.int .u64 0)).setCell ⟨g,18,none⟩ (.int .u64 0)) B g S { r with ctrl:=c } V:=by
 have b1:=h.blk.set_ 15 (.int .u64 (c:Int));have b2:=b1.set_ 16 (.int .u64 0);have b3:=b2.set_ 17 (.int .u64 0);have b4:=b3.set_ 18 (.int .u64 0);have ho:∀ {t:TypeId} {z n:Nat} {v:Value} {cs:List Value},w.ownsRow B t z v n cs->t≠128->((((w.setCell ⟨g,15,none⟩ (.int .u64 (c:Int))).setCell ⟨g,16,none⟩ (.int .u64 0)).setCell ⟨g,17,none⟩ (.int .u64 0)).setCell ⟨g,18,none⟩ (.int .u64 0)).ownsRow B t z v n cs:=
  fun h1 hne=>Zae (Zae (Zae (Zae h1 h.blk hne _ _) b1 hne _ _) b2 hne _ _) b3 hne _ _
 obtain⟨q,hv,hq,hB⟩:=h.regs;have hqg:q≠g:=Za5 hq h.blk (by decide);exact⟨b4,h.hg,⟨q,hv,(((hq.far hqg _).far hqg _).far hqg _).far hqg _,hB⟩,ho h.evs (by decide),ho h.bars (by decide),ho h.addr (by decide),ho h.data (by decide),ho h.hang (by decide),h.a1,h.a2,h.a3⟩
section
set_option maxHeartbeats 4000000
set_option maxRecDepth 100000
theorem Z51 (v:Value)(w:World):Calls Tryz.prog 289 #[v] w (RB w (.bool false)):=by
 go_enter Tryz.func289,Tryz.ntmps289
 go_wp2_with fail
 go_ret;exact⟨rfl,by first | exact Below.refl _ _ | exact Zad _ _⟩
theorem Z5z (v:Value)(w:World):Calls Tryz.prog 290 #[v] w (RB w (.bool false)):=by
 go_enter Tryz.func290,Tryz.ntmps290
 go_wp2_with fail
 go_ret;exact⟨rfl,by first | exact Below.refl _ _ | exact Zad _ _⟩
theorem Z52 (v:Value)(w:World):Calls Tryz.prog 291 #[v] w (RB w (.bool true)):=by
 go_enter Tryz.func291,Tryz.ntmps291
 go_wp2_with fail
 go_ret;exact⟨rfl,by first | exact Below.refl _ _ | exact Zad _ _⟩
theorem Z50 (w:World):Calls Tryz.prog 292 #[.agg #[]] w (RB w (.bool true)):=by
 go_enter Tryz.func292,Tryz.ntmps292
 go_wp2_with fail
 go_ret;exact⟨rfl,by first | exact Below.refl _ _ | exact Zad _ _⟩
theorem Zpb:∀ h:Zeb,∃ (t:TypeId) (v:Value) (f:FuncId) (a:Value),Zai h=.iface t v/\(∀ (n:Nat) (w:World),(method (n+1) t v "alembic/trace.open").run Tryz.prog w=.ok (f,a) w)/\(∀ w,(callFunc f #[a]).run Tryz.prog w=.ok (.enter f #[a]) w)/\∀ w,Calls Tryz.prog f #[a] w (RB w (.bool (Zbz h)))
 | .num n=>⟨_,_,289,.int .i64 n,rfl,fun _ _=>by kernel_rfl,fun w=>enters_of Tryz.func289 κ rfl _ w,fun w=>Z51 _ w⟩
 | .adr s=>⟨_,_,290,.string ⟨s.toArray⟩,rfl,fun _ _=>by kernel_rfl,fun w=>enters_of Tryz.func290 κ rfl _ w,fun w=>Z5z _ w⟩
 | .rd i=>⟨_,_,291,.int .i64 (i:Int),rfl,fun _ _=>by kernel_rfl,fun w=>enters_of Tryz.func291 κ rfl _ w,fun w=>Z52 _ w⟩
 | .non=>⟨_,_,292,.agg #[],rfl,fun _ _=>by kernel_rfl,fun w=>enters_of Tryz.func292 κ rfl _ w,fun w=>Z50 w⟩
end
end
end Go.Proofs.YtgjefdaaihgliaaGreatDoor
