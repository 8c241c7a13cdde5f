/- Layer 13: the things that a test asks for, and its locations: the program. -/
import Derived.Test.YtdfmcfppoohckaaGreatDoorTm26

namespace Go.Proofs.YtdfmcfppoohckaaGreatDoor
open Go.RowKit
section
def Za5 (T:Tst):List Th:=Zk4 T.q T.k T.t T.r T.l T.v T.kids
def Z7x (T:Tst)(w:World)(e:Ending)(w':World):Prop:=∃ u,e=.returned u/\Zs3 w w' u (Za5 T)/\Below w.heap.size w w'
theorem Zeb (T:Tst):(Za5 T).length<=1024:=by
 unfold Za5 Zk4
 split
 ·rename_i h;exact Nat.le_trans (Zss _) (Zqi h).2.2.2.2
 ·simp
theorem Zsd {B:Nat}{w:World}{v:Value}{x:Nm}{r:List Nm}(h:Zcy.Own 9 B w v (x :: r)):∃ g cap,v=.slice (some ⟨g,0,none⟩) (r.length+1) cap/\Zcy.At w (some ⟨g,0,none⟩) (x :: r)/\B<=g/\r.length+1<=cap:=by
 obtain⟨A,cap,rfl,hat,hnew,hc⟩:=h.at_;obtain⟨b,o,e,_⟩:=hat 0 x rfl;subst e;rcases h.2 with ⟨e,_⟩ | ⟨g,cap2,cur,e,h1,_⟩
 ·cases e
 ·simp only [Value.slice.injEq,Option.some.injEq,Addr.mk.injEq,and_true,true_and] at e;obtain⟨⟨rfl,rfl⟩,rfl⟩:=e;exact⟨b,cap,rfl,hat,h1,hc⟩
theorem Zo1 {w:World}{g:Nat}{x:Nm}{r:List Nm}(h:Zcy.At w (some ⟨g,0,none⟩) (x :: r)):w.cell? ⟨g,0,none⟩=some (.string ⟨x.toArray⟩):=by
 obtain⟨b,o,e,hc⟩:=h 0 x rfl;cases e
 exact hc 0 _ rfl
theorem Zdx {w:World}{B B2:Nat}{t:TypeId}{z n:Nat}{v:Value}{cs:List Value}(h:w.ownsRow B t z v n cs)(hB:B2<=B):w.ownsRow B2 t z v n cs:=by
 refine⟨h.1,?_⟩;rcases h.2 with e | ⟨g,cap,cur,e,h1,h2⟩
 ·exact Or.inl e
 ·exact Or.inr ⟨g,cap,cur,e,Nat.le_trans hB h1,h2⟩
theorem Zwm {w w1:World}{B B2 B3:Nat}{t t2:TypeId}{z n z2 n2:Nat}{v v2:Value}{cs cs2:List Value}(h:w.ownsRow B t z v n cs)(h2:w.ownsRow B2 t2 z2 v2 n2 cs2)(hne:t≠t2)(hg:Z4c w w1 B3 v2):w1.ownsRow B t z v n cs:=by
 refine Zex h (fun b hb=>?_);rcases h.2 with ⟨e,_⟩ | ⟨g,cap,cur,e,_,hh,_⟩
 ·subst e;cases hb
 ·subst e;exact m_54
theorem Z0f {w:World}{A:Option Addr}{L:List Th}(h:Zqa w A L){i:Nat}{x:Th}(hx:L[i]?=some x):∃ b o,A=some ⟨b,o,none⟩/\w.cell? ⟨b,o+i*3,none⟩=some (.int .i64 x.1)/\w.cell? ⟨b,o+i*3+1,none⟩=some (.int .i64 x.2.1)/\w.cell? ⟨b,o+i*3+2,none⟩=some (.string ⟨x.2.2.toArray⟩):=by
 obtain⟨b,o,e,h0,h1,h2⟩:=h i x hx;exact⟨b,o,e,h0,h1,h2⟩
theorem Z1b (w:World)(a:Nm):Zcy.At (w.alloc (.cells #[.string ⟨a.toArray⟩] 9 (0,0))) (some ⟨w.heap.size,0,none⟩) [a]:=by
 have hB:=Blk.new w 9 #[.string ⟨a.toArray⟩];intro i x hx;refine⟨w.heap.size,0,rfl,fun j u hj=>?_⟩;have hj0:j=0:=by
  have:=(List.getElem?_eq_some_iff.1 hj).1;simp at this;omega
 subst hj0;simp at hj;subst hj;rw [show 0+i*Zcy.size+0=i from by show 0+i*1+0=i;omega,hB.cell]
 match i,hx with
 | 0,hx=>simp at hx;subst hx;rfl
theorem Z6f (w:World)(a b:Nm):Zcy.At (w.alloc (.cells #[.string ⟨a.toArray⟩,.string ⟨b.toArray⟩] 9 (0,0))) (some ⟨w.heap.size,0,none⟩) [a,b]:=by
 have hB:=Blk.new w 9 #[.string ⟨a.toArray⟩,.string ⟨b.toArray⟩];intro i x hx;refine⟨w.heap.size,0,rfl,fun j u hj=>?_⟩;have hj0:j=0:=by
  have:=(List.getElem?_eq_some_iff.1 hj).1;simp at this;omega
 subst hj0;simp at hj;subst hj;rw [show 0+i*Zcy.size+0=i from by show 0+i*1+0=i;omega,hB.cell]
 match i,hx with
 | 0,hx=>simp at hx;subst hx;rfl
 | 1,hx=>simp at hx;subst hx;rfl
section
set_option maxHeartbeats 4000000
set_option maxRecDepth 100000
variable {w:World} {T:Tst} {Ai Ac:Option Addr} {kv:Value}
theorem Z0q (ci cc:Nat)(hT:Zcb w T Ai Ac kv):Calls Tryz.prog 49 #[Zbr T (.slice Ai T.init.length ci) (.slice Ac T.code.length cc) kv] w (Z7x T w):=by
 have HB:=Zh (Zad w (.cells #[.int .i64 T.arch,.string ⟨T.name.toArray⟩,.string ⟨T.cycle.toArray⟩,.slice Ai T.init.length ci,.slice Ac T.code.length cc,.int .i64 T.q,.int .i64 T.k,.int .i64 T.t,.int .i64 T.r,.string ⟨T.l.toArray⟩,.int .i64 T.v,kv] 32 (0,0)));have HK:=Zh (Zec.below hT.kids (Nat.le_refl _) HB.o);have HL:=Zh hT.llen;go_enter Tryz.func49,Tryz.ntmps49
 go_wp2_with (go_at_call 14;refine (Z7v w.heap.size kv (by simp) HK.o HL.o).mono ?_;rintro e w2 ⟨u,rfl,hown,hb2⟩;have HO:=Zh hown;have HB2:=Zh hb2;clear hown hb2)
 go_ret;exact⟨u,rfl,HO.o.old (by simp),Zaa HB.o HB2.o⟩
def Z7z (L:List Nm)(w:World)(e:Ending)(w':World):Prop:=∃ A cap,e=.returned (.slice A L.length cap)/\Zcy.At w' A L/\(∀ p,A=some p->w.heap.size<=p.block)/\Below w.heap.size w w'
theorem Zbp {α:Type}{l:List α}{k:Nat}{x:α}(h:l[k]?=some x):l.drop k=x :: l.drop (k+1):=by
 obtain⟨h1,rfl⟩:=List.getElem?_eq_some_iff.1 h;exact List.drop_eq_getElem_cons h1
theorem Zwb (ci cc:Nat)(hraw:(Zel T).length<=1000000)(hT:Zcb w T Ai Ac kv):Calls Tryz.prog 50 #[Zbr T (.slice Ai T.init.length ci) (.slice Ac T.code.length cc) kv] w (Z7z (Zdp (Zel T)) w):=by
 have HI:=Zh hT.init;have HC:=Zh hT.code;have HASK:=Zh (fun (w2:World) (hb:Below w.heap.size w w2)=>Z0q (w:=w2) (T:=T) (Ai:=Ai) (Ac:=Ac) (kv:=kv) ci cc (hT.below hb));have hil:=hT.ilen;have hcl:=hT.clen;have hrawl:∀ n m,T.init.length=n->T.code.length=m->2*n<=(Zel T).length:=fun n m h1 _=>by
  unfold Zel;rw [List.length_append,<- h1];have:(T.init.flatMap fun x=>[x.loc,x.vl]).length=2*T.init.length:=by
   induction T.init with
   | nil=>rfl
   | cons x r ih=>rw [List.flatMap_cons,List.length_append,ih];simp;omega
  omega
 simp only [Zbr] at HASK ⊢;obtain⟨n,hn⟩:∃ n,T.init.length=n:=⟨_,rfl⟩;obtain⟨m,hm⟩:∃ m,T.code.length=m:=⟨_,rfl⟩;have HN:=Zh hn;have HM:=Zh hm;obtain⟨R,hR⟩:∃ R,Zel T=R:=⟨_,rfl⟩;have HR:=Zh hR;have h2n:=hrawl n m hn hm;rw [hR] at hraw h2n ⊢;have HRL:=Zh hraw;rw [hn,hm] at HASK ⊢;rw [hn] at hil;rw [hm] at hcl;have HBX:=Zh (Blk.new w 32 #[.int .i64 T.arch,.string ⟨T.name.toArray⟩,.string ⟨T.cycle.toArray⟩,.slice Ai n ci,.slice Ac m cc,.int .i64 T.q,.int .i64 T.k,.int .i64 T.t,.int .i64 T.r,.string ⟨T.l.toArray⟩,.int .i64 T.v,kv]);have HB0:=Zh (Zad w (.cells #[.int .i64 T.arch,.string ⟨T.name.toArray⟩,.string ⟨T.cycle.toArray⟩,.slice Ai n ci,.slice Ac m cc,.int .i64 T.q,.int .i64 T.k,.int .i64 T.t,.int .i64 T.r,.string ⟨T.l.toArray⟩,.int .i64 T.v,kv] 32 (0,0)));go_enter Tryz.func50,Tryz.ntmps50
 go_wp2_with fail
 generalize hw1:w.alloc (.cells #[.int .i64 T.arch,.string ⟨T.name.toArray⟩,.string ⟨T.cycle.toArray⟩,.slice Ai n ci,.slice Ac m cc,.int .i64 T.q,.int .i64 T.k,.int .i64 T.t,.int .i64 T.r,.string ⟨T.l.toArray⟩,.int .i64 T.v,kv] 32 (0,0))=w1 at HBX HB0 ⊢;have hsz:w.heap.size<w1.heap.size:=HBX.o.lt;go_loopw [15,3] (fun i vv wr=>∃ (k:Nat) (l:List Nm),k<=n/\i=.int .i64 k/\Zcy.Own 9 w1.heap.size wr vv l/\l++((T.init.drop k).flatMap (fun x=>[x.loc,x.vl])++((T.code.flatMap fun c=>c.map fun x=>x.loc)++(Za5 T).map fun x=>x.2.2))=R/\Below w1.heap.size w1 wr) (fun i _ _=>n - (intOf i).toNat)
 case atStart=>exact⟨0,[],Nat.zero_le _,rfl,Enc.Own.nil _ _ _,by rw [List.nil_append,List.drop_zero];exact HR.o,Below.refl _ _⟩
 case round=>
  obtain⟨k,l,hk,rfl,hv,hl,hb⟩:=hrel;obtain⟨Av,cv,rfl⟩:=hv.shp;have HV:=Zh hv;have HL:=Zh hl;have HBR:=Zh hb;have hzr:=hb.size;have hsw:w.heap.size<wr.heap.size:=ω;have HBW:=Zh (Zaa HB0.o HBR.o);by_cases hlt:k<n
  ·have hlk:k<T.init.length:=by rw [HN.o];exact hlt
   have ex:=List.getElem?_eq_getElem hlk;obtain⟨x,hx⟩:∃ x,T.init[k]=x:=⟨_,rfl⟩;rw [hx] at ex;obtain⟨b,o,rfl,c0,c1,c2,c3,c4,l1,l2,l3,l4⟩:=HI.o.at_ ex;have hbl:b<w.heap.size:=World.block_lt_of_cell? w _ c0;have d0:=Zac c0 HBW.o;have d1:=Zac c1 HBW.o;have d2:=Zac c2 HBW.o;have d3:=Zac c3 HBW.o;have d4:=Zac c4 HBW.o;have hblr:b<wr.heap.size:=ω;have hkn:(k:Int)<(n:Int):=ω;have HL2:=Zh (show (l++[x.loc,x.vl])++((T.init.drop (k+1)).flatMap (fun x=>[x.loc,x.vl])++((T.code.flatMap fun c=>c.map fun x=>x.loc)++(Za5 T).map fun x=>x.2.2))=R by rw [<- HL.o,Zbp ex];simp);have HLEN:=Zh (show l.length+2<=1000000 by have:=congrArg List.length HL2.o;have:=HRL.o;simp only [List.length_append,List.length_cons,List.length_nil] at *;omega);have HYS:=Zh (Z6f (wr.alloc (.cells #[.int .i64 x.th,.int .i64 x.rg,.string ⟨x.loc.toArray⟩,.string ⟨x.vl.toArray⟩,.int .i64 x.vn] 62 (0,0))) x.loc x.vl);have HB1:=Zh (Zao wr (.cells #[.int .i64 x.th,.int .i64 x.rg,.string ⟨x.loc.toArray⟩,.string ⟨x.vl.toArray⟩,.int .i64 x.vn] 62 (0,0)) (.cells #[.string ⟨x.loc.toArray⟩,.string ⟨x.vl.toArray⟩] 9 (0,0)))
   go_wp2_with (at_builtin;refine Enc.appL Zop _ rfl (.tmp 19) (.tmp 25) rfl [x.loc,x.vl] w1.heap.size l _ (wr.heap.size+1) 0 2 rfl rfl (by have:=HYS.o;simpa using this) (HV.o.below HB1.o) (by have:=HLEN.o;simp;omega) (by have:=HLEN.o;simp;omega) (by simp;omega) ?_;intro v' w3 hown3 hg3;have HO3:=Zh hown3;have HB3:=Zh hg3.below;clear hown3 hg3)
   go_roundw
   case rel=>exact⟨k+1,_,ω,by go_num,HO3.o,HL2.o,(HBR.o.trans (HB1.o.mono ω)).trans HB3.o⟩
   case measure=>exact msr
  ·have hkn:k=n:=ω;subst hkn;have HL1:=Zh (show l++((T.code.flatMap fun c=>c.map fun x=>x.loc)++(Za5 T).map fun x=>x.2.2)=R by have:=HL.o;rw [List.drop_of_length_le (by have:=HN.o;omega)] at this;simpa using this);have HV0:=Zh HV.o;have HBA:=Zh HBR.o;have k4:=(HBX.o.go HBR.o).cell 4
   go_wp2_with fail
   obtain⟨wa,hwa⟩:∃ wa:World,wa=wr:=⟨_,rfl⟩;subst hwa;go_loopw [31,3] (fun i vv wr=>∃ (k:Nat) (l:List Nm),k<=m/\i=.int .i64 k/\Zcy.Own 9 w1.heap.size wr vv l/\l++(((T.code.drop k).flatMap fun c=>c.map fun x=>x.loc)++(Za5 T).map fun x=>x.2.2)=R/\Below w1.heap.size w1 wr) (fun i _ _=>m - (intOf i).toNat)
   case atStart=>exact⟨0,l,Nat.zero_le _,rfl,HV0.o,by rw [List.drop_zero];exact HL1.o,HBA.o⟩
   case round=>
    obtain⟨k2,l2,hk2,rfl,hv,hl,hb⟩:=hrel;obtain⟨Av2,cv2,rfl⟩:=hv.shp;have HV:=Zh hv;have HL:=Zh hl;have HBR:=Zh hb;have hzr:=hb.size;have hsw:w.heap.size<wr.heap.size:=ω;have HBW:=Zh (Zaa HB0.o HBR.o);by_cases hlt:k2<m
    ·have hlk:k2<T.code.length:=by rw [HM.o];exact hlt
     have ex:=List.getElem?_eq_getElem hlk;obtain⟨c,hx⟩:∃ c,T.code[k2]=c:=⟨_,rfl⟩;rw [hx] at ex;obtain⟨b,o,A2,c2,rfl,hc0,hA2,hl1,hl2⟩:=HC.o.at_ ex;have HCL:=Zh (show l2++((c.map fun x=>x.loc)++(((T.code.drop (k2+1)).flatMap fun c=>c.map fun x=>x.loc)++(Za5 T).map fun x=>x.2.2))=R by rw [<- HL.o,Zbp ex];simp);have HA2:=Zh hA2;have hkn:(k2:Int)<(m:Int):=ω;have hc0r:=Zac hc0 HBW.o
     go_wp2_with fail
     obtain⟨wi,hwi⟩:∃ wi:World,wi=wr:=⟨_,rfl⟩;subst hwi;go_loopw [37,3] (fun i vv wr=>∃ (i':Nat) (l:List Nm),i'<=c.length/\i=.int .i64 i'/\Zcy.Own 9 w1.heap.size wr vv l/\l++(((c.drop i').map fun x=>x.loc)++(((T.code.drop (k2+1)).flatMap fun c=>c.map fun x=>x.loc)++(Za5 T).map fun x=>x.2.2))=R/\Below w1.heap.size w1 wr) (fun i _ _=>c.length - (intOf i).toNat)
     case atStart=>exact⟨0,l2,Nat.zero_le _,rfl,HV.o,by rw [List.drop_zero];exact HCL.o,HBR.o⟩
     case round=>
      obtain⟨i,l3,hi,rfl,hv3,hl3,hb3⟩:=hrel;obtain⟨Av3,cv3,rfl⟩:=hv3.shp;have HV:=Zh hv3;have HCL:=Zh hl3;have HBR:=Zh hb3;have hzr:=hb3.size;have hsw:w.heap.size<wr.heap.size:=ω;have HBW:=Zh (Zaa HB0.o HBR.o);by_cases hli:i<c.length
      ·have ey:=List.getElem?_eq_getElem hli;obtain⟨x,hx⟩:∃ x,c[i]=x:=⟨_,rfl⟩;rw [hx] at ey;obtain⟨b2,o2,rfl,hCi⟩:=HA2.o.at_ ey;have hbl:=hCi.lt;have hblr:b2<wr.heap.size:=ω;obtain⟨c0,c1,c2',c3,c4,c5,c6,c7,_,_⟩:=hCi.go HBW.o;have hkl:(i:Int)<(c.length:Int):=ω;have HL2:=Zh (show (l3++[x.loc])++(((c.drop (i+1)).map fun x=>x.loc)++(((T.code.drop (k2+1)).flatMap fun c=>c.map fun x=>x.loc)++(Za5 T).map fun x=>x.2.2))=R by rw [<- HCL.o,Zbp ey];simp);have HLEN:=Zh (show l3.length+1<=1000000 by have:=congrArg List.length HL2.o;have:=HRL.o;simp only [List.length_append,List.length_cons,List.length_nil] at *;omega);have HYS:=Zh (Z1b (wr.alloc (.cells #[.int .i64 x.op,.int .i64 x.d,.int .i64 x.a,.int .i64 x.b,.int .i64 x.imm,.string ⟨x.loc.toArray⟩,.string ⟨x.label.toArray⟩,.int .i64 x.fence] 118 (0,0))) x.loc);have HB1:=Zh (Zao wr (.cells #[.int .i64 x.op,.int .i64 x.d,.int .i64 x.a,.int .i64 x.b,.int .i64 x.imm,.string ⟨x.loc.toArray⟩,.string ⟨x.label.toArray⟩,.int .i64 x.fence] 118 (0,0)) (.cells #[.string ⟨x.loc.toArray⟩] 9 (0,0)))
       go_wp2_with (at_builtin;refine Enc.appL Zop _ rfl (.tmp 41) (.tmp 44) rfl [x.loc] w1.heap.size l3 _ (wr.heap.size+1) 0 1 rfl rfl (by have:=HYS.o;simpa using this) (HV.o.below HB1.o) (by have:=HLEN.o;simp;omega) (by have:=HLEN.o;simp;omega) (by simp;omega) ?_;intro v' w3 hown3 hg3;have HO3:=Zh hown3;have HB3:=Zh hg3.below;clear hown3 hg3)
       go_roundw
       case rel=>exact⟨i+1,_,ω,by go_num,HO3.o,HL2.o,(HBR.o.trans (HB1.o.mono ω)).trans HB3.o⟩
       case measure=>exact msr
      ·have HL3:=Zh (show l3++(((T.code.drop (k2+1)).flatMap fun c=>c.map fun x=>x.loc)++(Za5 T).map fun x=>x.2.2)=R by have:=HCL.o;rw [List.drop_of_length_le ω] at this;simpa using this)
       go_wp2_with fail
       go_roundw
       case rel=>exact⟨k2+1,l3,ω,by go_num,HV.o,HL3.o,HBR.o⟩
       case measure=>exact msr
    ·have hkm:k2=m:=ω;subst hkm;have HL1:=Zh (show l2++((Za5 T).map fun x=>x.2.2)=R by have:=HL.o;rw [List.drop_of_length_le (by have:=HM.o;omega)] at this;simpa using this);have HV0:=Zh HV.o;have HBA:=Zh HBR.o;have HBRX:=Zh (HBX.o.go HBR.o);obtain⟨k0,k1,k2,k3,k4,k5,k6,k7,k8,k9,k10,k11⟩:=HBRX.o.c12
     go_wp2_with (go_at_call 49;refine (HASK.o _ HBW.o).mono ?_;rintro e w2 ⟨u,rfl,hown,hb2⟩;obtain⟨Au,cu,rfl⟩:=Zbx hown;have HOU:=Zh hown;have HB2:=Zh hb2;clear hown hb2)
     have HV2:=Zh (HV0.o.below HB2.o);have HB4:=Zh (Zaa HBR.o HB2.o);have hq1024:=Zeb T;obtain⟨wc,hwc⟩:∃ wc:World,wc=w2:=⟨_,rfl⟩;subst hwc;go_loopw [51,3] (fun i vv wr=>∃ (k:Nat) (l:List Nm),k<=(Za5 T).length/\i=.int .i64 k/\Zcy.Own 9 w1.heap.size wr vv l/\l++((Za5 T).drop k).map (fun x=>x.2.2)=R/\wr.ownsRow w1.heap.size 25 3 (.slice Au (Za5 T).length cu) (Za5 T).length (Zay (Za5 T))/\Below w1.heap.size w1 wr) (fun i _ _=>(Za5 T).length - (intOf i).toNat)
     case atStart=>exact⟨0,l2,Nat.zero_le _,rfl,HV2.o,by rw [List.drop_zero];exact HL1.o,Zdx HOU.o ω,HB4.o⟩
     case round=>
      obtain⟨j,l4,hj,rfl,hv,hl,hou,hb⟩:=hrel;obtain⟨Av4,cv4,rfl⟩:=hv.shp;have HV:=Zh hv;have HL:=Zh hl;have HOU:=Zh hou;have HBR:=Zh hb;have hzr:=hb.size;have hsw:w.heap.size<wr.heap.size:=ω;obtain⟨A5,c5,e5,hth⟩:=Zey hou;simp only [Value.slice.injEq,true_and] at e5;obtain⟨rfl,rfl⟩:=e5;have HTH:=Zh hth;by_cases hlj:j<(Za5 T).length
      ·have ey:=List.getElem?_eq_getElem hlj;obtain⟨x,hx⟩:∃ x,(Za5 T)[j]=x:=⟨_,rfl⟩;rw [hx] at ey;obtain⟨b2,o2,rfl,g0,g1,g2⟩:=Z0f HTH.o ey;have hbl:b2<wr.heap.size:=World.block_lt_of_cell? wr _ g0;have hjl:(j:Int)<((Za5 T).length:Int):=ω;have HL2:=Zh (show (l4++[x.2.2])++((Za5 T).drop (j+1)).map (fun x=>x.2.2)=R by rw [<- HL.o,Zbp ey];simp);have HLEN:=Zh (show l4.length+1<=1000000 by have:=congrArg List.length HL2.o;have:=HRL.o;simp only [List.length_append,List.length_cons,List.length_nil] at *;omega);have HYS:=Zh (Z1b (wr.alloc (.cells #[.int .i64 x.1,.int .i64 x.2.1,.string ⟨x.2.2.toArray⟩] 25 (0,0))) x.2.2);have HB1:=Zh (Zao wr (.cells #[.int .i64 x.1,.int .i64 x.2.1,.string ⟨x.2.2.toArray⟩] 25 (0,0)) (.cells #[.string ⟨x.2.2.toArray⟩] 9 (0,0)))
       go_wp2_with (at_builtin;refine Enc.appL Zop _ rfl (.tmp 55) (.tmp 58) rfl [x.2.2] w1.heap.size l4 _ (wr.heap.size+1) 0 1 rfl rfl (by have:=HYS.o;simpa using this) (HV.o.below HB1.o) (by have:=HLEN.o;simp;omega) (by have:=HLEN.o;simp;omega) (by simp;omega) ?_;intro v' w3 hown3 hg3;have HO3:=Zh hown3;have HG3:=Zh hg3;clear hown3 hg3)
       go_roundw
       case rel=>exact⟨j+1,_,ω,by go_num,HO3.o,HL2.o,Zwm (Zav HOU.o HB1.o) (HV.o.below HB1.o) (by decide) HG3.o,(HBR.o.trans (HB1.o.mono ω)).trans HG3.o.below⟩
       case measure=>exact msr
      ·have HLR:=Zh (show l4=R by have:=HL.o;rw [List.drop_of_length_le ω] at this;simpa using this);have HLEN:=Zh (show l4.length<=1000000 by rw [HLR.o];exact HRL.o);have HU0:=Zh (show Lib.compact (Zfj l4)=Zk5 R by rw [HLR.o];rfl);have HLO:=Zh (show Zdp R=Zqd (Zk5 R) from rfl);obtain⟨U,hU⟩:∃ U,Zk5 R=U:=⟨_,rfl⟩;have HU:Hid (Lib.compact (Zfj l4)=U):=Zh (HU0.o.trans hU);have HUL:=Zh (show U.length<=1000000 by rw [<- hU];exact Nat.le_trans (Zxh R) HRL.o);rw [hU] at HLO;rcases U with _ | ⟨s,r⟩
       ·go_wp2_with (first | (go_at_call 99;refine (Z3h _ l4 w1.heap.size _ HV.o HLEN.o).mono ?_;rintro e w3 ⟨rfl,hown3,hb3⟩;have HO3:=Zh hown3;have HB3:=Zh hb3;clear hown3 hb3) | (go_at_call 100;refine (Z2k _ (Zfj l4) w1.heap.size _ HO3.o (by rw [(Zds l4).length_eq];exact HLEN.o)).mono ?_;rintro e w5 ⟨v5,rfl,hown5,hb5⟩;rw [HU.o] at hown5;obtain⟨A6,c6,rfl,hat6,hnew6,_⟩:=hown5.at_;have HAT6:=Zh hat6;have HNEW6:=Zh hnew6;clear hat6 hnew6;have HB5:=Zh hb5;clear hown5 hb5))
        go_ret;rw [HLO.o];exact⟨A6,c6,rfl,HAT6.o,fun p hp=>Nat.le_trans ω (HNEW6.o p hp),Zaa HB0.o ((HBR.o.trans HB3.o).trans HB5.o)⟩
       ·have hul:=HUL.o;simp only [List.length_cons] at hul;by_cases hs:s=[]
        ·subst hs
         go_wp2_with (first | (go_at_call 99;refine (Z3h _ l4 w1.heap.size _ HV.o HLEN.o).mono ?_;rintro e w3 ⟨rfl,hown3,hb3⟩;have HO3:=Zh hown3;have HB3:=Zh hb3;clear hown3 hb3) | (go_at_call 100;refine (Z2k _ (Zfj l4) w1.heap.size _ HO3.o (by rw [(Zds l4).length_eq];exact HLEN.o)).mono ?_;rintro e w5 ⟨v5,rfl,hown5,hb5⟩;rw [HU.o] at hown5;obtain⟨g6,c6,rfl,hat6,hg6,hcap6⟩:=Zsd hown5;have HAT6:=Zh hat6;have d6:=Zo1 hat6;clear hat6;have HB5:=Zh hb5;clear hown5 hb5))
         all_goals
          go_ret;rw [HLO.o]
         ·rename_i hcap1;have hr0:r=[]:=by cases r with | nil=>rfl | cons _ _=>simp at hcap6;omega
          subst hr0;exact⟨_,_,rfl,Enc.At.nil _ _,(fun p hp=>by cases hp;show w.heap.size<=g6;omega),Zaa HB0.o ((HBR.o.trans HB3.o).trans HB5.o)⟩
         ·exact⟨_,_,rfl,HAT6.o.drop 1,(fun p hp=>by cases hp;show w.heap.size<=g6;omega),Zaa HB0.o ((HBR.o.trans HB3.o).trans HB5.o)⟩
        ·have hs2:(s == [])=false:=by simpa using hs
         have hs3:s.isEmpty=false:=by simpa using hs
         have HCH:=Zh (show Zqd (s :: r)=s :: r by cases s with | nil=>exact absurd rfl hs | cons _ _=>rfl)
         go_wp2_with (first | (go_at_call 99;refine (Z3h _ l4 w1.heap.size _ HV.o HLEN.o).mono ?_;rintro e w3 ⟨rfl,hown3,hb3⟩;have HO3:=Zh hown3;have HB3:=Zh hb3;clear hown3 hb3) | (go_at_call 100;refine (Z2k _ (Zfj l4) w1.heap.size _ HO3.o (by rw [(Zds l4).length_eq];exact HLEN.o)).mono ?_;rintro e w5 ⟨v5,rfl,hown5,hb5⟩;rw [HU.o] at hown5;obtain⟨g6,c6,rfl,hat6,hg6,hcap6⟩:=Zsd hown5;have HAT6:=Zh hat6;have d6:=Zo1 hat6;clear hat6;have HB5:=Zh hb5;clear hown5 hb5))
         go_ret;rw [HLO.o,HCH.o];exact⟨some ⟨g6,0,none⟩,c6,rfl,HAT6.o,(fun p hp=>by cases hp;show w.heap.size<=g6;omega),Zaa HB0.o ((HBR.o.trans HB3.o).trans HB5.o)⟩
end
end
def shC (f:Int)(c:UInt8):Bool:=decide (f<=(c.toNat:Int))&&decide ((c.toNat:Int)<=126)&&!decide ((c.toNat:Int)=34)
theorem Zfp {f:Int}{s:ByteArray}{k:Nat}(hk:k<s.size)(h:shC f s[k]=false):s.data.toList.all (shC f)=false:=by
 have hl:s.data.toList.length=s.size:=rfl;rw [List.all_eq_false];exact⟨s.data.toList[k]'ω,List.getElem_mem _,by rw [show s.data.toList[k]'ω=s[k] from rfl,h];simp⟩
theorem Zme {f:Int}{s:ByteArray}(h:∀ i (hi:i<s.size),shC f s[i]=true):s.data.toList.all (shC f)=true:=by
 have hl:s.data.toList.length=s.size:=rfl;rw [List.all_eq_true];intro x hx;obtain⟨j,hj,rfl⟩:=List.getElem_of_mem hx;exact h j ω
set_option maxHeartbeats 400000 in
theorem Zw2 (f:Int)(s:ByteArray)(w:World)(hs:s.size<=9223372036854775807):Calls Tryz.prog 44 #[.string s,.int .u8 f] w fun e w'=>e=.returned (.bool (s.data.toList.all (shC f)))/\w=w':=by
 obtain⟨r,hr⟩:∃ r,s.data.toList.all (shC f)=r:=⟨_,rfl⟩;rw [hr];have HR:=Zh hr;go_enter Tryz.func44,Tryz.ntmps44;go_wp2
 go_loop [5] (fun i=>∃ k:Nat,k<=s.size/\i=.int .i64 k/\∀ j (hj:j<s.size),j<k->shC f s[j]=true) (fun i=>s.size - (intOf i).toNat)
 case atStart=>exact⟨0,Nat.zero_le _,rfl,fun j _ h=>absurd h (Nat.not_lt_zero _)⟩
 case round=>
  obtain⟨k,hk,rfl,hall⟩:=hrel;have H:=Zh hall;by_cases hlt:k<s.size
  ·by_cases b1:(s[k].toNat:Int)<f
   ·have a1:decide ((s[k].toNat:Int)<f)=true:=decide_eq_true b1;exact m_131
   have a1:decide ((s[k].toNat:Int)<f)=false:=decide_eq_false b1;by_cases b2:(126:Int)<(s[k].toNat:Int)
   ·have a2:decide ((126:Int)<(s[k].toNat:Int))=true:=decide_eq_true b2;exact m_131
   have a2:decide ((126:Int)<(s[k].toNat:Int))=false:=decide_eq_false b2;by_cases b3:(s[k].toNat:Int)=34
   ·have a3:((s[k].toNat:Int) == 34)=true:=by simpa using b3
    exact m_131
   have a3:((s[k].toNat:Int) == 34)=false:=by simpa using b3
   have HK:=Zh (show shC f s[k]=true by simp [shC];omega)
   go_wp2_with fail
   go_round
   case rel=>exact⟨k+1,ω,by go_num,fun j hj h=>by
    by_cases e:j<k
    ·exact H.o j hj e
    ·obtain rfl:j=k:=ω;exact HK.o⟩
   case measure=>exact msr
  ·have HF:=Zh (Zme (f:=f) (s:=s) (fun i hi=>H.o i hi ω))
   go_wp2_with fail
   go_ret;exact⟨Zae (by rw [<- HR.o,HF.o]),rfl⟩
def Zg3 (l:List UInt8):Bool:=decide (1<=l.length)&&decide (l.length<=1024)&&l.all (shC 33)
theorem Zl8 {s:ByteArray}(h1:1<=s.size)(h2:s.size<=1024):Zg3 s.data.toList=s.data.toList.all (shC 33):=by
 have hl:s.data.toList.length=s.size:=rfl;simp only [Zg3,hl];rw [decide_eq_true h1,decide_eq_true h2];simp
theorem Zp0 {s:ByteArray}(h:s.size<1\/1024<s.size):Zg3 s.data.toList=false:=by
 have hl:s.data.toList.length=s.size:=rfl;simp only [Zg3,hl];rcases h with h | h
 ·rw [decide_eq_false (p:=1<=s.size) ω];rfl
 ·rw [decide_eq_false (p:=s.size<=1024) ω,Bool.and_false];rfl
set_option maxHeartbeats 400000 in
theorem Z31 (s:ByteArray)(w:World)(hs:s.size<=9223372036854775807):Calls Tryz.prog 65 #[.string s] w fun e w'=>e=.returned (.bool (Zg3 s.data.toList))/\w=w':=by
 by_cases h1:s.size<1\/1024<s.size
 ·have HF:=Zh (Zp0 h1);rcases h1 with h1 | h1
  all_goals
   go_enter Tryz.func65,Tryz.ntmps65
   go_wp2_with fail
   go_ret;exact⟨Zae HF.o.symm,rfl⟩
 have h2:1<=s.size/\s.size<=1024:=ω;have HT:=Zh (Zl8 h2.1 h2.2);have h3:=h2.1;have h4:=h2.2;rw [HT.o];obtain⟨r,hr⟩:∃ r,s.data.toList.all (shC 33)=r:=⟨_,rfl⟩;rw [hr];have HR:=Zh hr;go_enter Tryz.func65,Tryz.ntmps65;go_wp2
 go_loop [3] (fun i=>∃ k:Nat,k<=s.size/\i=.int .i64 k/\∀ j (hj:j<s.size),j<k->shC 33 s[j]=true) (fun i=>s.size - (intOf i).toNat)
 case atStart=>exact⟨0,Nat.zero_le _,rfl,fun j _ h=>absurd h (Nat.not_lt_zero _)⟩
 case round=>
  obtain⟨k,hk,rfl,hall⟩:=hrel;have H:=Zh hall;by_cases hlt:k<s.size
  ·by_cases b1:(s[k].toNat:Int)<33
   ·have a1:decide ((s[k].toNat:Int)<33)=true:=decide_eq_true b1;exact m_129
   have a1:decide ((s[k].toNat:Int)<33)=false:=decide_eq_false b1;by_cases b2:(126:Int)<(s[k].toNat:Int)
   ·have a2:decide ((126:Int)<(s[k].toNat:Int))=true:=decide_eq_true b2;exact m_129
   have a2:decide ((126:Int)<(s[k].toNat:Int))=false:=decide_eq_false b2;by_cases b3:(s[k].toNat:Int)=34
   ·have a3:((s[k].toNat:Int) == 34)=true:=by simpa using b3
    exact m_129
   have a3:((s[k].toNat:Int) == 34)=false:=by simpa using b3
   have HK:=Zh (show shC 33 s[k]=true by simp [shC];omega)
   go_wp2_with fail
   go_round
   case rel=>exact⟨k+1,ω,by go_num,fun j hj h=>by
    by_cases e:j<k
    ·exact H.o j hj e
    ·obtain rfl:j=k:=ω;exact HK.o⟩
   case measure=>exact msr
  ·have HF:=Zh (Zme (f:=33) (s:=s) (fun i hi=>H.o i hi ω))
   go_wp2_with fail
   go_ret;exact⟨Zae (by rw [<- HR.o,HF.o]),rfl⟩
def Zho (l:List UInt8):Bool:=l.isEmpty||(decide (((l.headD 0).toNat:Int)≠32)&&decide (((l.getLastD 0).toNat:Int)≠32))
theorem Zu4 {s:ByteArray}(h:s.size=0):Zho s.data.toList=true:=by
 have hl:s.data.toList.length=s.size:=rfl;rw [List.eq_nil_of_length_eq_zero (hl.trans h)];rfl
theorem Z2n:∀ (l:List UInt8) (n:Nat) (hn:l.length=n) (h:0<n),Zho l=(decide (((l[0]'ω).toNat:Int)≠32)&&decide (((l[n - 1]'ω).toNat:Int)≠32))
 | [],n,hn,h=>by simp at hn;omega
 | c :: r,n,hn,h=>by
  have he:(c :: r).getLastD 0=(c :: r)[n - 1]'ω:=by
   rw [List.getLastD_eq_getLast?,List.getLast?_eq_getElem?,List.getElem?_eq_getElem (by simp)];simp only [Option.getD_some,hn]
  simp only [Zho,he,List.headD_cons,List.isEmpty_cons,Bool.false_or,List.getElem_cons_zero];rfl
theorem Zql {s:ByteArray}(h:0<s.size):Zho s.data.toList=(decide ((s[0].toNat:Int)≠32)&&decide (((s[s.size - 1]'ω).toNat:Int)≠32)):=
 Z2n s.data.toList s.size rfl h
def Zfc (l:List UInt8):Bool:=decide (l.length<=262144)&&l.all (shC 32)&&Zho l
set_option maxHeartbeats 400000 in
theorem Z2l (s:ByteArray)(w:World)(hs:s.size<=9223372036854775807):Calls Tryz.prog 66 #[.string s] w fun e w'=>e=.returned (.bool (Zfc s.data.toList))/\w=w':=by
 have hl:s.data.toList.length=s.size:=rfl;by_cases h1:262144<s.size
 ·have HF:=Zh (show Zfc s.data.toList=false by simp only [Zfc,hl];rw [decide_eq_false (p:=s.size<=262144) ω];rfl);go_enter Tryz.func66,Tryz.ntmps66
  go_wp2_with fail
  go_ret;exact⟨Zae HF.o.symm,rfl⟩
 have HT:=Zh (show Zfc s.data.toList=(s.data.toList.all (shC 32)&&Zho s.data.toList) by simp only [Zfc,hl];rw [decide_eq_true (p:=s.size<=262144) ω];simp);have h2:s.size<=262144:=ω;rw [HT.o];obtain⟨r,hr⟩:∃ r,(s.data.toList.all (shC 32)&&Zho s.data.toList)=r:=⟨_,rfl⟩;rw [hr];have HR:=Zh hr;go_enter Tryz.func66,Tryz.ntmps66;go_wp2
 go_loop [3] (fun i=>∃ k:Nat,k<=s.size/\i=.int .i64 k/\∀ j (hj:j<s.size),j<k->shC 32 s[j]=true) (fun i=>s.size - (intOf i).toNat)
 case atStart=>exact⟨0,Nat.zero_le _,rfl,fun j _ h=>absurd h (Nat.not_lt_zero _)⟩
 case round=>
  obtain⟨k,hk,rfl,hall⟩:=hrel;have H:=Zh hall;by_cases hlt:k<s.size
  ·by_cases b1:(s[k].toNat:Int)<32
   ·have a1:decide ((s[k].toNat:Int)<32)=true:=decide_eq_true b1;exact m_127
   have a1:decide ((s[k].toNat:Int)<32)=false:=decide_eq_false b1;by_cases b2:(126:Int)<(s[k].toNat:Int)
   ·have a2:decide ((126:Int)<(s[k].toNat:Int))=true:=decide_eq_true b2;exact m_127
   have a2:decide ((126:Int)<(s[k].toNat:Int))=false:=decide_eq_false b2;by_cases b3:(s[k].toNat:Int)=34
   ·have a3:((s[k].toNat:Int) == 34)=true:=by simpa using b3
    exact m_127
   have a3:((s[k].toNat:Int) == 34)=false:=by simpa using b3
   have HK:=Zh (show shC 32 s[k]=true by simp [shC];omega)
   go_wp2_with fail
   go_round
   case rel=>exact⟨k+1,ω,by go_num,fun j hj h=>by
    by_cases e:j<k
    ·exact H.o j hj e
    ·obtain rfl:j=k:=ω;exact HK.o⟩
   case measure=>exact msr
  ·have HF:=Zh (Zme (f:=32) (s:=s) (fun i hi=>H.o i hi ω));by_cases h0:s.size=0
   ·have hz:((s.size:Int) == 0)=true:=by simp [h0]
    have HG:=Zh (Zu4 h0);exact m_142
   have hz:((s.size:Int) == 0)=false:=beq_eq_false_iff_ne.2 ω;have hp:0<s.size:=ω;have hw:IntKind.i64.wrap ((s.size:Int) - 1)=((s.size - 1:Nat):Int):=by rw [IntWalk.i64_in _ ω];omega
   have hp1:s.size - 1<s.size:=ω;by_cases q0:(s[0].toNat:Int)=32
   ·have b0:((s[0].toNat:Int) != 32)=false:=by simpa using q0
    have HG:=Zh (show Zho s.data.toList=false by rw [Zql hp,decide_eq_false (by simpa using q0)];rfl);exact m_142
   have b0:((s[0].toNat:Int) != 32)=true:=by simpa using q0
   by_cases q1:((s[s.size - 1]'hp1).toNat:Int)=32
   ·have b1:(((s[s.size - 1]'hp1).toNat:Int) != 32)=false:=by simpa using q1
    have HG:=Zh (show Zho s.data.toList=false by rw [Zql hp,decide_eq_false (p:=((s[s.size - 1]'hp1).toNat:Int)≠32) (by simpa using q1),Bool.and_false]);exact m_142
   have b1:(((s[s.size - 1]'hp1).toNat:Int) != 32)=true:=by simpa using q1
   have HG:=Zh (show Zho s.data.toList=true by rw [Zql hp,decide_eq_true (p:=(s[0].toNat:Int)≠32) q0,decide_eq_true (p:=((s[s.size - 1]'hp1).toNat:Int)≠32) q1];rfl);exact m_142
theorem Zu3 (p:UInt8->Bool):∀ l:List UInt8,(l.dropWhile p).length<=l.length
 | []=>by simp
 | c :: r=>by
  rw [List.dropWhile_cons]
  split
  ·have:=Zu3 p r;simp;omega
  ·simp
theorem Z2m (p:UInt8->Bool)(l:List UInt8)(h:(l.dropWhile p).length=l.length):l.dropWhile p=l:=by
 cases l with
 | nil=>rfl
 | cons c r=>
  rw [List.dropWhile_cons] at h ⊢
  split
  ·rename_i hc;rw [if_pos hc] at h;have:=Zu3 p r;simp at h;omega
  ·rfl
theorem Zmo (p:UInt8->Bool)(c:UInt8)(r:List UInt8):(c :: r).dropWhile p=c :: r↔p c=false:=by
 rw [List.dropWhile_cons];cases h:p c with
 | false=>simp
 | true=>
  simp only [if_true];refine⟨fun e=>?_,fun e=>by cases e⟩;have:=congrArg List.length e;have:=Zu3 p r;simp at *;omega
theorem Zxf (l:List UInt8):decide (Lib.trimB l 32=l)=Zho l:=by
 cases hl:l with
 | nil=>rfl
 | cons c r=>
  rw [<- hl];have hne:l≠[]:=by rw [hl];simp
  have hh:l.headD 0=c:=by rw [hl];rfl
  have hlast:l.reverse=l.getLastD 0 :: (l.reverse.tail):=by
   cases hr:l.reverse with
   | nil=>exact absurd (List.reverse_eq_nil_iff.1 hr) hne
   | cons d q=>
    have:l=(d :: q).reverse:=by rw [<- hr,List.reverse_reverse]
    rw [this];simp
  have key:Lib.trimB l 32=l↔((c == 32)=false/\(l.getLastD 0 == 32)=false):=by
   unfold Lib.trimB Lib.trimLeftB Lib.trimRightB
   constructor
   ·intro h;have h1:=Zu3 (· == 32) (l.reverse.dropWhile (· == 32)).reverse;have h2:=Zu3 (· == 32) l.reverse;have h3:=congrArg List.length h;simp only [List.length_reverse] at h1 h2;have h4:l.reverse.dropWhile (· == 32)=l.reverse:=Z2m _ _ (by rw [List.length_reverse];omega);rw [h4,List.reverse_reverse] at h;refine⟨?_,?_⟩
    ·rw [hl] at h;exact (Zmo (· == 32) c r).1 h
    ·rw [hlast] at h4;exact (Zmo (· == 32) (l.getLastD 0) l.reverse.tail).1 h4
   ·rintro⟨h1,h2⟩;have h4:l.reverse.dropWhile (· == 32)=l.reverse:=by rw [hlast];exact (Zmo (· == 32) (l.getLastD 0) l.reverse.tail).2 h2
    rw [h4,List.reverse_reverse,hl];exact (Zmo (· == 32) c r).2 h1
  have hb:∀ d:UInt8,(d == 32)=false↔((d.toNat:Int)≠32):=fun d=>by
   rw [beq_eq_false_iff_ne,ne_eq,ne_eq,<- UInt8.toNat_inj];show ¬ d.toNat=32↔_;omega
  rw [Bool.eq_iff_iff,decide_eq_true_iff,key];unfold Zho;have he:l.isEmpty=false:=by rw [hl];rfl
  rw [he,hh,hb,hb];simp
def Za6 (T:Tst):Int:=
 if Zd3 T.arch=false then 5
 else if (Zg3 T.name&&Zfc T.cycle)=false then 130
 else if Zfq T.arch T.code≠0 then Zfq T.arch T.code
 else if Zfx T.arch T.code.length T.init≠0 then Zfx T.arch T.code.length T.init
 else if Zbe T.arch T.q T.k T.t T.r T.l T.v T.kids≠0 then Zbe T.arch T.q T.k T.t T.r T.l T.v T.kids
 else if (Za5 T).any (fun x=>decide ((T.code.length:Int)<=x.1)) then 80
 else if 64<(Zdp (Zel T)).length then 2 else 0
def Z71 (T:List Th)(E:Int)(w:World)(e:Ending)(w':World):Prop:=∃ A cap,e=.returned (.tuple #[.slice A T.length cap,.int .i64 E])/\Zt9 w.heap.size w' A cap T/\Below w.heap.size w w'
section
variable {w:World} {q k t r v:Int} {l:List UInt8} {kids:Fr}
set_option maxHeartbeats 2000000 in
set_option maxRecDepth 100000 in
theorem Z7j (hi:Nat)(kv:Value)(hhi:hi<=w.heap.size)(hs:Zec w hi kv kids)(hl:l.length<=9223372036854775807) :
  Calls Tryz.prog 22 #[Zyt q k t r l v kv] w (Z71 (Zk4 q k t r l v kids) (Zbe 2 q k t r l v kids) w):=by
 obtain⟨A,cap,rfl,s'⟩:=hs;have hs2:Zec w hi (.slice A kids.len cap) kids:=⟨A,cap,rfl,s'⟩;have hb1:=Zad w (.cells #[.int .i64 q,.int .i64 k,.int .i64 t,.int .i64 r,.string ⟨l.toArray⟩,.int .i64 v,.slice A kids.len cap] 30 (0,0));have hs3:=hs2.below hhi hb1;have HS:=Zh hs3;have HSU:=Zh (hs3.up (show hi<=(w.alloc (.cells #[.int .i64 q,.int .i64 k,.int .i64 t,.int .i64 r,.string ⟨l.toArray⟩,.int .i64 v,.slice A kids.len cap] 30 (0,0))).heap.size by simp;omega));have HB1:=Zh hb1;have HBN:=Zh (Blk.new w 30 #[.int .i64 q,.int .i64 k,.int .i64 t,.int .i64 r,.string ⟨l.toArray⟩,.int .i64 v,.slice A kids.len cap]);by_cases hck:Zbe 2 q k t r l v kids=0
 ·obtain⟨ho,hk,hall,hv,hnl⟩:=Zqi hck;have HCK:=Zh hck;have hN:=Zwc (k:=k) (t:=t) (r:=r) (l:=l) (v:=v) ho hk;have HTP:=Zh (fun (w2:World) (h3:w.heap.size<=w2.heap.size) (h1:hi<=w2.heap.size) (h2:Zec w2 hi (.slice A kids.len cap) kids)=>hN w2 hi _ none 0 [] w.heap.size h3 h1 h2 (Zt9.nil _ _) (by simp;omega));rw [show Zk4 q k t r l v kids=Zkz (atL k t r l++Za1 kids) [] by unfold Zk4;rw [if_pos hck,Zo0 hv],hck];obtain⟨T,hT⟩:∃ T,Zkz (atL k t r l++Za1 kids) []=T:=⟨_,rfl⟩;rw [hT] at HTP ⊢;go_enter Tryz.func22,Tryz.ntmps22
  go_wp2_with (first
   | (go_at_call 71;refine (Zum 2 q k t r l v _ kids _ hl HSU.o).mono ?_;rw [HCK.o];rintro e w2 ⟨rfl,hb2⟩;have hB:=HBN.o.go hb2;have c1:=hB.cell 1;have c2:=hB.cell 2;have c3:=hB.cell 3;have c4:=hB.cell 4;have c5:=hB.cell 5;have c6:=hB.cell 6;have HB2:=Zh hb2;have hz2:=hb2.size;simp at hz2;have HS2:=Zh (HS.o.below (by simp;omega) hb2);clear hB hb2)
   | (go_at_call 72;refine (HTP.o _ ω ω HS2.o).mono ?_;rintro e w3 ⟨g,cg,rfl,ht,hb3⟩;have HT:=Zh ht;have HB3:=Zh hb3;clear ht hb3))
  go_ret2
  exact⟨g,cg,rfl,HT.o,Zaa HB1.o (Zaa HB2.o HB3.o)⟩
 ·obtain⟨E,hE⟩:∃ E,Zbe 2 q k t r l v kids=E:=⟨_,rfl⟩;rw [show Zk4 q k t r l v kids=[] by unfold Zk4;rw [if_neg hck],hE];rw [hE] at hck;have HCK:=Zh hE;have e1:(E != 0)=true:=by simpa using hck
  go_enter Tryz.func22,Tryz.ntmps22
  go_wp2_with (go_at_call 71;refine (Zum 2 q k t r l v _ kids _ hl HSU.o).mono ?_;rw [HCK.o];rintro e w2 ⟨rfl,hb2⟩)
  go_ret2
  exact⟨none,0,rfl,(Zt9.nil _ _),Zaa HB1.o hb2⟩
end
end Go.Proofs.YtdfmcfppoohckaaGreatDoor
