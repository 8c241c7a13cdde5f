/- Layer 13: whether a test's initial state may be: plain, and the program's begun. -/
import Derived.Test.YtoegmdnfbemppaaGreatDoorTf24

namespace Go.Proofs.YtoegmdnfbemppaaGreatDoor
open Go.RowKit
open Go.Maps
abbrev Zd4 (x:Ini):Th:=(x.th,x.rg,x.loc)
def Zpn (a:Int)(n:Nat)(l:List Ini)(k:Nat):Bool:=match l[k]? with
 | some x=>!Zaj a n x||(l.take k).any (fun y=>decide (Zd4 y=Zd4 x))
 | none=>false
def Zfu (a:Int)(n:Nat)(l:List Ini):Int:=if 1024<l.length then 2 else match fst? (Zpn a n l) l.length with
 | some _=>130
 | none=>0
theorem Zf0 {a:Int}{n:Nat}{l:List Ini}(h:1024<l.length):Zfu a n l=2:=by simp [Zfu,h]
theorem Zer {a:Int}{n:Nat}{l:List Ini}{k:Nat}(h:l.length<=1024)(hk:k<l.length)(h1:Zpn a n l k=true)(hn:∀ j,j<k->Zpn a n l j=false):Zfu a n l=130:=by
 unfold Zfu;rw [if_neg (by omega),Zna hk h1 hn]
theorem Zms {a:Int}{n:Nat}{l:List Ini}(h:l.length<=1024)(hn:∀ j,j<l.length->Zpn a n l j=false):Zfu a n l=0:=by
 unfold Zfu;rw [if_neg (by omega),Zjn hn]
theorem Zdo {a:Int}{n:Nat}{l:List Ini}{k:Nat}{x:Ini}(h:l[k]?=some x):Zpn a n l k=(!Zaj a n x||(l.take k).any (fun y=>decide (Zd4 y=Zd4 x))):=by simp [Zpn,h]
theorem Zi7.at_ {w:World}{A:Option Addr}{l:List Ini}(h:Zi7 w A l){i:Nat}{x:Ini}(hx:l[i]?=some x):∃ b o,A=some ⟨b,o,none⟩/\w.cell? ⟨b,o+i*5,none⟩=some (.int .i64 x.th)/\w.cell? ⟨b,o+i*5+1,none⟩=some (.int .i64 x.rg)/\w.cell? ⟨b,o+i*5+2,none⟩=some (.string ⟨x.loc.toArray⟩)/\w.cell? ⟨b,o+i*5+3,none⟩=some (.string ⟨x.vl.toArray⟩)/\
  w.cell? ⟨b,o+i*5+4,none⟩=some (.int .i64 x.vn)/\x.loc.length<=9223372036854775807/\x.vl.length<=9223372036854775807/\(-9223372036854775808<=x.th/\x.th<=9223372036854775807)/\-9223372036854775808<=x.rg/\x.rg<=9223372036854775807:=h i x hx
def okI (x:Th):Prop:=(-9223372036854775808<=x.1/\x.1<=9223372036854775807)/\(-9223372036854775808<=x.2.1/\x.2.1<=9223372036854775807)/\x.2.2.length<=9223372036854775807
theorem Zmj {x:Th}(h:okI x):keyOf Tryz.prog 25 (Zeb x.1 x.2.1 x.2.2)=some (klT x):=
 Zv1 _ _ _ (WalkArith.wf_i64 (by have:=h.1;omega)) (WalkArith.wf_i64 (by have:=h.2.1;omega)) h.2.2
theorem Zy5 {x y:Th}(hx:okI x)(hy:okI y)(h:klT x=klT y):x=y:=by
 have h1:=Zmj hx
 have h2:=Zmj hy
 rw [h] at h1
 have:=Zdg.inj h1 h2
 obtain⟨a,b,c⟩:=x
 obtain⟨a',b',c'⟩:=y
 simp only [Value.agg.injEq,Array.mk.injEq,List.cons.injEq,Value.int.injEq,Value.string.injEq,true_and,and_true,ByteArray.mk.injEq] at this
 obtain⟨rfl,rfl,h3⟩:=this
 first | subst h3 | (simp at h3;subst h3)
 rfl
def Zfj (w:World)(b n:Nat)(S:List Ini):Prop:=∃ D:DataW Unit,w.ownsMap Tryz.prog 25 (plainElem Tryz.prog 3) b n D/\IsMap D/\∀ x,okI x->∃ v:Int,D.atKey (klT x) (.lit (.int .i64 0))=.lit (.int .i64 v)/\decide (0<v)=S.any (fun y=>decide (Zd4 y=x))
theorem Zfj.made (w:World):Zfj (w.alloc (.map #[] 0)) w.heap.size 0 []:=
 ⟨.map [],World.ownsMap_made _ _ _ _,isMap_empty,fun x _=>⟨0,WideAt.atKey_none _ (fun p hp=>by cases hp),by simp⟩⟩
theorem Zfj.put {D:DataW Unit}{S:List Ini}{y:Ini}{v:Int}(hy:okI (Zd4 y))(hv:0<v)(hD:IsMap D)(h:∀ x,okI x->∃ v:Int,D.atKey (klT x) (.lit (.int .i64 0))=.lit (.int .i64 v)/\decide (0<v)=S.any (fun y=>decide (Zd4 y=x))) :
  IsMap (D.put (klT (Zd4 y)) (.lit (.int .i64 v)))/\∀ x,okI x->∃ u:Int,(D.put (klT (Zd4 y)) (.lit (.int .i64 v))).atKey (klT x) (.lit (.int .i64 0))=.lit (.int .i64 u)/\decide (0<u)=(S++[y]).any (fun y=>decide (Zd4 y=x)):=by
 refine⟨hD.put _ _,fun x hx=>?_⟩
 by_cases e:x=Zd4 y
 ·subst e
  refine⟨v,atKey_put_same hD (show WideAt.IsKeyLit (klT (Zd4 y)) from trivial) _ _,?_⟩
  simp [hv]
 ·obtain⟨u,h1,h2⟩:=h x hx
  refine⟨u,by rw [atKey_put_other (fun e2=>e (Zy5 hx hy e2)),h1],?_⟩
  have e':¬ Zd4 y=x:=fun h=>e h.symm
  rw [h2,List.any_append]
  simp [e']
theorem Zii {l:List Ini}{k:Nat}{x:Ini}(h:l[k]?=some x):l.take (k+1)=l.take k++[x]:=by
 obtain⟨h1,rfl⟩:=List.getElem?_eq_some_iff.1 h
 exact List.take_succ_eq_append_getElem h1
section
set_option maxHeartbeats 4000000
set_option maxRecDepth 100000
variable {w:World} {T:Tst} {Ai Ac:Option Addr} {kv:Value}
theorem Zzg (ci cc:Nat)(ha:T.arch=1)(hT:Zb4 w T Ai Ac kv):Calls Tryz.prog 82 #[Zbm T (.slice Ai T.init.length ci) (.slice Ac T.code.length cc) kv] w fun e w'=>e=.returned (.int .i64 (Zfu 1 T.code.length T.init))/\Below w.heap.size w w':=by
 obtain⟨n,hn⟩:∃ n,T.init.length=n:=⟨_,rfl⟩
 have HI:=Zh hT.init
 have HFST:=Zh (fun (x:Ini) (h1:x.loc.length<=9223372036854775807) (h2:x.vl.length<=9223372036854775807) (w:World)=>Zyz (w:=w) (Ai:=Ai) (Ac:=Ac) (kv:=kv) ci cc x ha h1 h2)
 have hil:=hT.ilen
 simp only [Zbm,ha] at HFST ⊢
 have HN:=Zh hn
 rw [hn] at hil HFST ⊢
 have hmm:=@run_makeMap Tryz.prog
 have HBX:=Zh ((Blk.new w 32 #[.int .i64 1,.string ⟨T.name.toArray⟩,.string ⟨T.cycle.toArray⟩,.slice Ai n ci,.slice Ac T.code.length cc,.int .i64 T.q,.int .i64 T.k,.int .i64 T.t,.int .i64 T.r,.string ⟨T.l.toArray⟩,.int .i64 T.v,kv]).alloc (.map #[] 0))
 have HB0:=Zh (Zap w (.cells #[.int .i64 1,.string ⟨T.name.toArray⟩,.string ⟨T.cycle.toArray⟩,.slice Ai n ci,.slice Ac T.code.length cc,.int .i64 T.q,.int .i64 T.k,.int .i64 T.t,.int .i64 T.r,.string ⟨T.l.toArray⟩,.int .i64 T.v,kv] 32 (0,0)) (.map #[] 0))
 have HMS:=Zh (Zfj.made (w.alloc (.cells #[.int .i64 1,.string ⟨T.name.toArray⟩,.string ⟨T.cycle.toArray⟩,.slice Ai n ci,.slice Ac T.code.length cc,.int .i64 T.q,.int .i64 T.k,.int .i64 T.t,.int .i64 T.r,.string ⟨T.l.toArray⟩,.int .i64 T.v,kv] 32 (0,0))))
 have hsz0:(w.alloc (.cells #[.int .i64 1,.string ⟨T.name.toArray⟩,.string ⟨T.cycle.toArray⟩,.slice Ai n ci,.slice Ac T.code.length cc,.int .i64 T.q,.int .i64 T.k,.int .i64 T.t,.int .i64 T.r,.string ⟨T.l.toArray⟩,.int .i64 T.v,kv] 32 (0,0))).heap.size=w.heap.size+1:=by simp
 rw [hsz0] at HMS
 clear hT ha hn hsz0
 by_cases hbig:1024<n
 ·have HV:=Zh (Zf0 (a:=1) (n:=T.code.length) (show 1024<T.init.length by rw [HN.out];exact hbig))
  exact m_119
 ·have HL:=Zh (show T.init.length<=1024 by rw [HN.out];omega)
  go_enter Tryz.func82,Tryz.ntmps82
  go_wp2_with fail
  generalize hw1:(w.alloc (.cells #[.int .i64 1,.string ⟨T.name.toArray⟩,.string ⟨T.cycle.toArray⟩,.slice Ai n ci,.slice Ac T.code.length cc,.int .i64 T.q,.int .i64 T.k,.int .i64 T.t,.int .i64 T.r,.string ⟨T.l.toArray⟩,.int .i64 T.v,kv] 32 (0,0))).alloc (.map #[] 0)=w1 at HBX HB0 HMS ⊢
  have hsz:w.heap.size+1<w1.heap.size:=by rw [<- hw1];simp
  clear hw1
  go_loopw [15] (fun i wr=>∃ k cnt:Nat,k<=n/\i=.int .i64 k/\cnt<=k/\(∀ j,j<k->Zpn 1 T.code.length T.init j=false)/\Zfj wr (w.heap.size+1) cnt (T.init.take k)/\Below (w.heap.size+1) w1 wr) (fun i _=>n - (intOf i).toNat)
  case atStart=>exact⟨0,0,Nat.zero_le _,rfl,Nat.zero_le _,(fun j hj=>absurd hj (Nat.not_lt_zero _)),HMS.out,Below.refl _ _⟩
  case round=>
   obtain⟨k,cnt,hk,rfl,hcnt,hno,hms,hb⟩:=hrel
   obtain⟨D,hown,hD,hat⟩:=hms
   have HNO:=Zh hno
   have HOWN:=Zh hown
   have HD:=Zh hD
   have HAT:=Zh hat
   have HBR:=Zh hb
   have hzr:=hb.size
   have hzo:w.heap.size+1<wr.heap.size:=by omega
   have hzo2:w.heap.size<wr.heap.size:=by omega
   clear hno hown hD hat hb HMS
   by_cases hlt:k<n
   ·have hlk:k<T.init.length:=by rw [HN.out];exact hlt
    have ex:=List.getElem?_eq_getElem hlk
    obtain⟨x,hx⟩:∃ x,T.init[k]=x:=⟨_,rfl⟩
    rw [hx] at ex
    obtain⟨b,o,rfl,c0,c1,c2,c3,c4,l1,l2,l3,l4⟩:=HI.out.at_ ex
    have hbl:b<w.heap.size:=World.block_lt_of_cell? w _ c0
    have HBWR:=Zh (HB0.out.trans (HBR.out.mono (by omega)))
    have d0:=Zcv c0 HBWR.out hbl
    have d1:=Zcv c1 HBWR.out hbl
    have d2:=Zcv c2 HBWR.out hbl
    have d3:=Zcv c3 HBWR.out hbl
    have d4:=Zcv c4 HBWR.out hbl
    have hblr:b<wr.heap.size:=by omega
    have HX:=Zh ex
    have HOK:=Zh (show okI (Zd4 x) from⟨l3,l4,l1⟩)
    have HKW:=Zh (Zmj HOK.out)
    have HF2:=Zh (HFST.out x l1 l2)
    clear ex hx hlk c0 c1 c2 c3 c4 l1 l2 l3 l4 HFST
    have HFST:=HF2
    clear HF2
    have hkn:(k:Int)<(n:Int):=by omega
    obtain⟨v,hv1,hv2⟩:=HAT.out (Zd4 x) HOK.out
    have HAX:=Zh (And.intro hv1 hv2)
    have HB1:=Zh (Zap wr (.cells #[.int .i64 x.th,.int .i64 x.rg,.string ⟨x.loc.toArray⟩,.string ⟨x.vl.toArray⟩,.int .i64 x.vn] 102 (0,0)) (.cells #[.int .i64 x.th,.int .i64 x.rg,.string ⟨x.loc.toArray⟩] 25 (0,0)))
    have HOW2:=Zh (Zed (Zed HOWN.out (.cells #[.int .i64 x.th,.int .i64 x.rg,.string ⟨x.loc.toArray⟩,.string ⟨x.vl.toArray⟩,.int .i64 x.vn] 102 (0,0))) (.cells #[.int .i64 x.th,.int .i64 x.rg,.string ⟨x.loc.toArray⟩] 25 (0,0)))
    have HBR1:=Zh ((HBX.out.below HBR.out (by omega)))
    have k0:=HBR1.out.cell 0
    have k1:=HBR1.out.cell 1
    have k2:=HBR1.out.cell 2
    have k3:=HBR1.out.cell 3
    have k4:=HBR1.out.cell 4
    have k5:=HBR1.out.cell 5
    have k6:=HBR1.out.cell 6
    have k7:=HBR1.out.cell 7
    have k8:=HBR1.out.cell 8
    have k9:=HBR1.out.cell 9
    have k10:=HBR1.out.cell 10
    have k11:=HBR1.out.cell 11
    obtain⟨f,hf⟩:∃ f,Zaj 1 T.code.length x=f:=⟨_,rfl⟩
    have HFB:=Zh hf
    clear hf hv1
    by_cases hvp:0<v
    ·have HBAD:=Zh (Zer (a:=1) (n:=T.code.length) HL.out (by rw [HN.out];exact hlt) (by rw [Zdo HX.out,<- hv2];simp [hvp]) HNO.out)
     exact m_44
    ·have hvp2:v<=0:=by omega
     cases f
     ·have HBAD:=Zh (Zer (a:=1) (n:=T.code.length) HL.out (by rw [HN.out];exact hlt) (by rw [Zdo HX.out,HFB.out];rfl) HNO.out)
      exact m_22
     ·have HGOOD:=Zh (show Zpn 1 T.code.length T.init k=false by rw [Zdo HX.out,HFB.out,<- hv2];simp [hvp])
      exact m_7
   ·have HV:=Zh (Zms (a:=1) (n:=T.code.length) HL.out (fun j hj=>HNO.out j (by have:=HN.out;omega)))
    exact m_133
theorem Zze (ci cc:Nat)(ha:T.arch=2)(hT:Zb4 w T Ai Ac kv):Calls Tryz.prog 82 #[Zbm T (.slice Ai T.init.length ci) (.slice Ac T.code.length cc) kv] w fun e w'=>e=.returned (.int .i64 (Zfu 2 T.code.length T.init))/\Below w.heap.size w w':=by
 obtain⟨n,hn⟩:∃ n,T.init.length=n:=⟨_,rfl⟩
 have HI:=Zh hT.init
 have HFST:=Zh (fun (x:Ini) (h1:x.loc.length<=9223372036854775807) (h2:x.vl.length<=9223372036854775807) (w:World)=>Zxc (w:=w) (Ai:=Ai) (Ac:=Ac) (kv:=kv) ci cc x ha h1 h2)
 have hil:=hT.ilen
 simp only [Zbm,ha] at HFST ⊢
 have HN:=Zh hn
 rw [hn] at hil HFST ⊢
 have hmm:=@run_makeMap Tryz.prog
 have HBX:=Zh ((Blk.new w 32 #[.int .i64 2,.string ⟨T.name.toArray⟩,.string ⟨T.cycle.toArray⟩,.slice Ai n ci,.slice Ac T.code.length cc,.int .i64 T.q,.int .i64 T.k,.int .i64 T.t,.int .i64 T.r,.string ⟨T.l.toArray⟩,.int .i64 T.v,kv]).alloc (.map #[] 0))
 have HB0:=Zh (Zap w (.cells #[.int .i64 2,.string ⟨T.name.toArray⟩,.string ⟨T.cycle.toArray⟩,.slice Ai n ci,.slice Ac T.code.length cc,.int .i64 T.q,.int .i64 T.k,.int .i64 T.t,.int .i64 T.r,.string ⟨T.l.toArray⟩,.int .i64 T.v,kv] 32 (0,0)) (.map #[] 0))
 have HMS:=Zh (Zfj.made (w.alloc (.cells #[.int .i64 2,.string ⟨T.name.toArray⟩,.string ⟨T.cycle.toArray⟩,.slice Ai n ci,.slice Ac T.code.length cc,.int .i64 T.q,.int .i64 T.k,.int .i64 T.t,.int .i64 T.r,.string ⟨T.l.toArray⟩,.int .i64 T.v,kv] 32 (0,0))))
 have hsz0:(w.alloc (.cells #[.int .i64 2,.string ⟨T.name.toArray⟩,.string ⟨T.cycle.toArray⟩,.slice Ai n ci,.slice Ac T.code.length cc,.int .i64 T.q,.int .i64 T.k,.int .i64 T.t,.int .i64 T.r,.string ⟨T.l.toArray⟩,.int .i64 T.v,kv] 32 (0,0))).heap.size=w.heap.size+1:=by simp
 rw [hsz0] at HMS
 clear hT ha hn hsz0
 by_cases hbig:1024<n
 ·have HV:=Zh (Zf0 (a:=2) (n:=T.code.length) (show 1024<T.init.length by rw [HN.out];exact hbig))
  exact m_119
 ·have HL:=Zh (show T.init.length<=1024 by rw [HN.out];omega)
  go_enter Tryz.func82,Tryz.ntmps82
  go_wp2_with fail
  generalize hw1:(w.alloc (.cells #[.int .i64 2,.string ⟨T.name.toArray⟩,.string ⟨T.cycle.toArray⟩,.slice Ai n ci,.slice Ac T.code.length cc,.int .i64 T.q,.int .i64 T.k,.int .i64 T.t,.int .i64 T.r,.string ⟨T.l.toArray⟩,.int .i64 T.v,kv] 32 (0,0))).alloc (.map #[] 0)=w1 at HBX HB0 HMS ⊢
  have hsz:w.heap.size+1<w1.heap.size:=by rw [<- hw1];simp
  clear hw1
  go_loopw [15] (fun i wr=>∃ k cnt:Nat,k<=n/\i=.int .i64 k/\cnt<=k/\(∀ j,j<k->Zpn 2 T.code.length T.init j=false)/\Zfj wr (w.heap.size+1) cnt (T.init.take k)/\Below (w.heap.size+1) w1 wr) (fun i _=>n - (intOf i).toNat)
  case atStart=>exact⟨0,0,Nat.zero_le _,rfl,Nat.zero_le _,(fun j hj=>absurd hj (Nat.not_lt_zero _)),HMS.out,Below.refl _ _⟩
  case round=>
   obtain⟨k,cnt,hk,rfl,hcnt,hno,hms,hb⟩:=hrel
   obtain⟨D,hown,hD,hat⟩:=hms
   have HNO:=Zh hno
   have HOWN:=Zh hown
   have HD:=Zh hD
   have HAT:=Zh hat
   have HBR:=Zh hb
   have hzr:=hb.size
   have hzo:w.heap.size+1<wr.heap.size:=by omega
   have hzo2:w.heap.size<wr.heap.size:=by omega
   clear hno hown hD hat hb HMS
   by_cases hlt:k<n
   ·have hlk:k<T.init.length:=by rw [HN.out];exact hlt
    have ex:=List.getElem?_eq_getElem hlk
    obtain⟨x,hx⟩:∃ x,T.init[k]=x:=⟨_,rfl⟩
    rw [hx] at ex
    obtain⟨b,o,rfl,c0,c1,c2,c3,c4,l1,l2,l3,l4⟩:=HI.out.at_ ex
    have hbl:b<w.heap.size:=World.block_lt_of_cell? w _ c0
    have HBWR:=Zh (HB0.out.trans (HBR.out.mono (by omega)))
    have d0:=Zcv c0 HBWR.out hbl
    have d1:=Zcv c1 HBWR.out hbl
    have d2:=Zcv c2 HBWR.out hbl
    have d3:=Zcv c3 HBWR.out hbl
    have d4:=Zcv c4 HBWR.out hbl
    have hblr:b<wr.heap.size:=by omega
    have HX:=Zh ex
    have HOK:=Zh (show okI (Zd4 x) from⟨l3,l4,l1⟩)
    have HKW:=Zh (Zmj HOK.out)
    have HF2:=Zh (HFST.out x l1 l2)
    clear ex hx hlk c0 c1 c2 c3 c4 l1 l2 l3 l4 HFST
    have HFST:=HF2
    clear HF2
    have hkn:(k:Int)<(n:Int):=by omega
    obtain⟨v,hv1,hv2⟩:=HAT.out (Zd4 x) HOK.out
    have HAX:=Zh (And.intro hv1 hv2)
    have HB1:=Zh (Zap wr (.cells #[.int .i64 x.th,.int .i64 x.rg,.string ⟨x.loc.toArray⟩,.string ⟨x.vl.toArray⟩,.int .i64 x.vn] 102 (0,0)) (.cells #[.int .i64 x.th,.int .i64 x.rg,.string ⟨x.loc.toArray⟩] 25 (0,0)))
    have HOW2:=Zh (Zed (Zed HOWN.out (.cells #[.int .i64 x.th,.int .i64 x.rg,.string ⟨x.loc.toArray⟩,.string ⟨x.vl.toArray⟩,.int .i64 x.vn] 102 (0,0))) (.cells #[.int .i64 x.th,.int .i64 x.rg,.string ⟨x.loc.toArray⟩] 25 (0,0)))
    have HBR1:=Zh ((HBX.out.below HBR.out (by omega)))
    have k0:=HBR1.out.cell 0
    have k1:=HBR1.out.cell 1
    have k2:=HBR1.out.cell 2
    have k3:=HBR1.out.cell 3
    have k4:=HBR1.out.cell 4
    have k5:=HBR1.out.cell 5
    have k6:=HBR1.out.cell 6
    have k7:=HBR1.out.cell 7
    have k8:=HBR1.out.cell 8
    have k9:=HBR1.out.cell 9
    have k10:=HBR1.out.cell 10
    have k11:=HBR1.out.cell 11
    obtain⟨f,hf⟩:∃ f,Zaj 2 T.code.length x=f:=⟨_,rfl⟩
    have HFB:=Zh hf
    clear hf hv1
    by_cases hvp:0<v
    ·have HBAD:=Zh (Zer (a:=2) (n:=T.code.length) HL.out (by rw [HN.out];exact hlt) (by rw [Zdo HX.out,<- hv2];simp [hvp]) HNO.out)
     exact m_44
    ·have hvp2:v<=0:=by omega
     cases f
     ·have HBAD:=Zh (Zer (a:=2) (n:=T.code.length) HL.out (by rw [HN.out];exact hlt) (by rw [Zdo HX.out,HFB.out];rfl) HNO.out)
      exact m_22
     ·have HGOOD:=Zh (show Zpn 2 T.code.length T.init k=false by rw [Zdo HX.out,HFB.out,<- hv2];simp [hvp])
      exact m_7
   ·have HV:=Zh (Zms (a:=2) (n:=T.code.length) HL.out (fun j hj=>HNO.out j (by have:=HN.out;omega)))
    exact m_133
end
end Go.Proofs.YtoegmdnfbemppaaGreatDoor
