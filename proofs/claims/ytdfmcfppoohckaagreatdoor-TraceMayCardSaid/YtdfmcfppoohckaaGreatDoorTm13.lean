/- Layer 15: the program's sets: with, or, list. -/
import Derived.Test.YtdfmcfppoohckaaGreatDoorTm11

namespace Go.Proofs.YtdfmcfppoohckaaGreatDoor
open Go.RowKit
section
abbrev Zt7 (a:Nat):Value:=.agg #[.int .u64 (a:Int),.int .u64 0,.int .u64 0,.int .u64 0]
def Zdf (a k:Nat):List Int:=((List.range k).filter fun i=>a.testBit i).map fun (i:Nat)=>(i:Int)
theorem Zdc (a k:Nat):Zdf a (k+1)=if a.testBit k then Zdf a k++[(k:Int)] else Zdf a k:=by
 unfold Zdf;rw [List.range_succ,List.filter_append];cases h:a.testBit k <;> simp [h]
theorem Zj7 (a k:Nat):(Zdf a k).length<=k:=by
 unfold Zdf;rw [List.length_map];exact Nat.le_trans (List.length_filter_le _ _) (by simp)
theorem Zj6 {a:Nat}(h:a<18446744073709551616):∀ k,64<=k->Zdf a k=Zdf a 64:=by
 intro k hk
 induction k with
 | zero=>omega
 | succ k ih=>
  by_cases e:64<=k
  ·rw [Zdc,Nat.testBit_lt_two_pow (Nat.lt_of_lt_of_le (show a<2 ^ 64 by simpa using h) (Nat.pow_le_pow_right ω e))];exact ih e
  ·rw [show k+1=64 by omega]
theorem Zee {w:World}{B B2:Nat}{t:TypeId}{z n:Nat}{v:Value}{cs:List Value}(h:w.ownsRow B t z v n cs)(hB:B2<=B):w.ownsRow B2 t z v n cs:=by
 refine⟨h.1,?_⟩;rcases h.2 with e | ⟨g,cap,cur,e,h1,h2⟩
 ·exact Or.inl e
 ·exact Or.inr ⟨g,cap,cur,e,Nat.le_trans hB h1,h2⟩
section
set_option maxHeartbeats 4000000
set_option maxRecDepth 100000
theorem Z7k (a i:Nat)(w:World)(ha:a<18446744073709551616)(hi:i<64):Calls Tryz.prog 109 #[Zt7 a,.int .i64 (i:Int)] w (RB w (Zt7 (a|||2 ^ i))):=by
 have h1:((i:Int) / 64)=0:=ω;have h2:((i:Int) % 64)=(i:Int):=ω;have hs2:IntKind.u64.wrap ((2:Int) ^ i)=((2 ^ i:Nat):Int):=by have:=Zq8 hi;rwa [Int.one_mul] at this
 have hp:2 ^ i<18446744073709551616:=by
  have:2 ^ i<2 ^ 64:=Nat.pow_lt_pow_right ω hi;simpa using this
 have ho:=Zcf ha hp;have ho2:bits .or .u64 (a:Int) ((2:Int) ^ i)=((a|||2 ^ i:Nat):Int):=by rw [<- ho];simp
 go_enter Tryz.func109,Tryz.ntmps109
 go_wp2_with fail
 refine bodyPost_ret (v:=Zt7 (a|||2 ^ i)) (by simp [results,Tryz.results109,go_sem]) rfl ?_;refine⟨rfl,?_⟩
 repeat (first | exact Below.refl _ _ | with_reducible refine Below.setCell ?_ (by simp <;> omega) _ | with_reducible refine Zab ?_ _)
theorem Z63 (a:Nat)(w:World)(ha:a<18446744073709551616):Calls Tryz.prog 148 #[Zt7 a] w fun e w'=>∃ v,e=.returned v/\Zfd.Own 3 w.heap.size w' v (Zdf a 64)/\Below w.heap.size w w':=by
 have HB0:=Zh (Zad w (.cells #[.int .u64 (a:Int),.int .u64 0,.int .u64 0,.int .u64 0] 72 (0,0)));have HBX:=Zh (Blk.new w 72 #[.int .u64 (a:Int),.int .u64 0,.int .u64 0,.int .u64 0]);have HBIG:=Zh (Zj6 ha 256 ω);go_enter Tryz.func148,Tryz.ntmps148
 go_wp2_with fail
 generalize hw1:w.alloc (.cells #[.int .u64 (a:Int),.int .u64 0,.int .u64 0,.int .u64 0] 72 (0,0))=w1 at HB0 HBX ⊢;have hsz:w.heap.size<w1.heap.size:=HBX.o.lt;clear hw1;go_loopw [5,3] (fun i vv wr=>∃ k:Nat,k<=256/\i=.int .i64 k/\Zfd.Own 3 w1.heap.size wr vv (Zdf a k)/\Below w1.heap.size w1 wr) (fun i _ _=>256 - (intOf i).toNat)
 case atStart=>exact⟨0,Nat.zero_le _,rfl,Enc.Own.nil _ _ _,Below.refl _ _⟩
 case round=>
  obtain⟨k,hk,rfl,hv,hb⟩:=hrel;obtain⟨Av,cv,rfl⟩:=hv.shp;have HV:=Zh hv;have HBR:=Zh hb;have HLL:=Zh (Zj7 a k);have HBK:=Zh (HBX.o.go hb);obtain⟨k0,k1,k2,k3⟩:=HBK.o.c4;have hzr:=hb.size;clear hv hb;by_cases hlt:k<256
  ·have hkl:(k:Int)<256:=ω;by_cases h64:k<64
   ·have h1:((k:Int) / 64)=0:=ω;have h2:((k:Int) % 64)=(k:Int):=ω;have hq:((a:Int) / (2:Int) ^ k)=((a / 2 ^ k:Nat):Int):=by simp
    have hlt2:a / 2 ^ k<18446744073709551616:=Nat.lt_of_le_of_lt (Nat.div_le_self _ _) ha;have hb:=Zj9 hlt2;rw [<- hq] at hb;have hbm:=Zqb a k;cases hbt:a.testBit k with
    | true=>
     have hb1:bits .and .u64 ((a:Int) / (2:Int) ^ k) 1=1:=by rw [hb];rw [hbt] at hbm;simp at hbm;simp [hbm]
     have HS:=Zh (show Zdf a (k+1)=Zdf a k++[(k:Int)] by rw [Zdc,hbt];rfl);clear hq hb hbm hbt
     go_wp2_with (at_builtin;refine Enc.app Zyw _ rfl (.tmp 18) (.tmp 20) rfl (k:Int) w1.heap.size (Zdf a k) _ rfl rfl HV.o (by have:=HLL.o;omega) (by have:=HLL.o;omega) ω ?_;intro v' w3 hown3 hg3;have HO3:=Zh hown3;have HB3:=Zh hg3.below;clear hown3 hg3)
     go_roundw
     case rel=>exact⟨k+1,ω,by go_num,by rw [HS.o];exact HO3.o,HBR.o.trans HB3.o⟩
     case measure=>exact msr
    | false=>
     have hb1:bits .and .u64 ((a:Int) / (2:Int) ^ k) 1=0:=by rw [hb];rw [hbt] at hbm;simp at hbm;simp [hbm]
     have HS:=Zh (show Zdf a (k+1)=Zdf a k by rw [Zdc,hbt];rfl);clear hq hb hbm hbt
     go_wp2_with fail
     go_roundw
     case rel=>exact⟨k+1,ω,by go_num,by rw [HS.o];exact HV.o,HBR.o⟩
     case measure=>exact msr
   ·have HS:=Zh (show Zdf a (k+1)=Zdf a k by rw [Zj6 ha (k+1) ω,Zj6 ha k ω]);have hz:bits .and .u64 0 1=0:=by decide
    have hj:(k:Int) / 64=1\/(k:Int) / 64=2\/(k:Int) / 64=3:=ω;rcases hj with hj | hj | hj
    all_goals
     go_wp2_with fail
     go_roundw
     case rel=>exact⟨k+1,ω,by go_num,by rw [HS.o];exact HV.o,HBR.o⟩
     case measure=>exact msr
  ·have hkn:k=256:=ω;subst hkn
   go_wp2_with fail
   go_ret;refine⟨_,rfl,?_,Zaa HB0.o HBR.o⟩;have:=HV.o;rw [HBIG.o] at this;rw [HBIG.o];exact Zee this ω
def orC (a b k:Nat):Array Value:=#[.int .u64 ((if k=0 then a else (a|||b):Nat):Int),.int .u64 0,.int .u64 0,.int .u64 0]
theorem orP (a b:Nat)(w:World)(ha:a<18446744073709551616)(hb:b<18446744073709551616):Calls Tryz.prog 111 #[Zt7 a,Zt7 b] w (RB w (Zt7 (a|||b))):=by
 have ho:=Zcf ha hb;have hz:bits .or .u64 0 0=0:=by decide
 go_enter Tryz.func111,Tryz.ntmps111
 go_wp2_with fail
 have HA:=Zh (((Blk.new w 72 #[.int .u64 (a:Int),.int .u64 0,.int .u64 0,.int .u64 0]).alloc (.cells #[.int .u64 (b:Int),.int .u64 0,.int .u64 0,.int .u64 0] 72 (0,0))).alloc (.cells #[.int .u64 0,.int .u64 0,.int .u64 0,.int .u64 0] 72 (0,0)));have HB:=Zh ((Blk.new (w.alloc (.cells #[.int .u64 (a:Int),.int .u64 0,.int .u64 0,.int .u64 0] 72 (0,0))) 72 #[.int .u64 (b:Int),.int .u64 0,.int .u64 0,.int .u64 0]).alloc (.cells #[.int .u64 0,.int .u64 0,.int .u64 0,.int .u64 0] 72 (0,0)));have HC:=Zh (Blk.new ((w.alloc (.cells #[.int .u64 (a:Int),.int .u64 0,.int .u64 0,.int .u64 0] 72 (0,0))).alloc (.cells #[.int .u64 (b:Int),.int .u64 0,.int .u64 0,.int .u64 0] 72 (0,0))) 72 #[.int .u64 0,.int .u64 0,.int .u64 0,.int .u64 0]);have HW:=Zh (Zab (Zab (Zad w (.cells #[.int .u64 (a:Int),.int .u64 0,.int .u64 0,.int .u64 0] 72 (0,0))) (.cells #[.int .u64 (b:Int),.int .u64 0,.int .u64 0,.int .u64 0] 72 (0,0))) (.cells #[.int .u64 0,.int .u64 0,.int .u64 0,.int .u64 0] 72 (0,0)));go_loopw [6] (fun i wr=>∃ k:Nat,k<=4/\i=.int .i64 k/\Blk wr w.heap.size 72 (orC a b k)/\Blk wr (w.heap.size+1) 72 #[.int .u64 (b:Int),.int .u64 0,.int .u64 0,.int .u64 0]/\Blk wr (w.heap.size+2) 72 #[.int .u64 0,.int .u64 0,.int .u64 0,.int .u64 0]/\Below w.heap.size w wr) (fun i _=>4 - (intOf i).toNat)
 case atStart=>exact⟨0,ω,rfl,HA.o,by simpa using HB.o,by simpa using HC.o,HW.o⟩
 case round=>
  obtain⟨k,hk,rfl,h1,h2,h3,h4⟩:=hrel;have H1:=Zh h1;have H2:=Zh h2;have H3:=Zh h3;have H4:=Zh h4;by_cases hlt:k<4
  ·have hkl:(k:Int)<4:=ω;have hc:k=0\/k=1\/k=2\/k=3:=ω;rcases hc with rfl | rfl | rfl | rfl
   ·have c1:wr.cell? ⟨w.heap.size,0,none⟩=some (.int .u64 (a:Int)):=H1.o.cell 0;have c2:=H2.o.k0;have f1:=H1.o.frozen 0
    go_wp2_with fail
    go_region
    all_goals
     go_wp2_with fail
     go_roundw
     case rel=>exact⟨1,ω,by go_num,by have:=(H1.o.set_ 0 (.int .u64 ((a|||b:Nat):Int))).drew;simpa [orC] using this,(H2.o.far (by simp) _).drew,(H3.o.far (by simp) _).drew,(H4.o.setCell (by simp) _).drew⟩
     case measure=>simp [intOf]
   ·have c1:wr.cell? ⟨w.heap.size,1,none⟩=some (.int .u64 0):=H1.o.cell 1;have c2:=H2.o.k1;have f1:=H1.o.frozen 1
    go_wp2_with fail
    go_region
    all_goals
     go_wp2_with fail
     go_roundw
     case rel=>exact⟨2,ω,by go_num,by have:=(H1.o.set_ 1 (.int .u64 0)).drew;simpa [orC] using this,(H2.o.far (by simp) _).drew,(H3.o.far (by simp) _).drew,(H4.o.setCell (by simp) _).drew⟩
     case measure=>simp [intOf]
   ·have c1:wr.cell? ⟨w.heap.size,2,none⟩=some (.int .u64 0):=H1.o.cell 2;have c2:=H2.o.k2;have f1:=H1.o.frozen 2
    go_wp2_with fail
    go_region
    all_goals
     go_wp2_with fail
     go_roundw
     case rel=>exact⟨3,ω,by go_num,by have:=(H1.o.set_ 2 (.int .u64 0)).drew;simpa [orC] using this,(H2.o.far (by simp) _).drew,(H3.o.far (by simp) _).drew,(H4.o.setCell (by simp) _).drew⟩
     case measure=>simp [intOf]
   ·have c1:wr.cell? ⟨w.heap.size,3,none⟩=some (.int .u64 0):=H1.o.cell 3;have c2:=H2.o.k3;have f1:=H1.o.frozen 3
    go_wp2_with fail
    go_region
    all_goals
     go_wp2_with fail
     go_roundw
     case rel=>exact⟨4,ω,by go_num,by have:=(H1.o.set_ 3 (.int .u64 0)).drew;simpa [orC] using this,(H2.o.far (by simp) _).drew,(H3.o.far (by simp) _).drew,(H4.o.setCell (by simp) _).drew⟩
     case measure=>simp [intOf]
  ·have hk4:k=4:=ω;subst hk4;obtain⟨c0,c1,c2,c3⟩:=H1.o.c4;obtain⟨d0,d1,d2,d3⟩:=H3.o.c4;have e0:wr.frozen? ⟨w.heap.size+1+1,0,none⟩=false:=H3.o.frozen 0;have e1:wr.frozen? ⟨w.heap.size+1+1,1,none⟩=false:=H3.o.frozen 1;have e2:wr.frozen? ⟨w.heap.size+1+1,2,none⟩=false:=H3.o.frozen 2;have e3:wr.frozen? ⟨w.heap.size+1+1,3,none⟩=false:=H3.o.frozen 3
   go_wp2_with fail
   refine bodyPost_ret (v:=Zt7 (a|||b)) (by simp [results,Tryz.results111,go_sem,d0,d1,d2,d3]) rfl ⟨rfl,?_⟩;exact (((H4.o.setCell (by simp;omega) _).setCell (by simp;omega) _).setCell (by simp;omega) _).setCell (by simp;omega) _
end
end
section
abbrev Zbf:Enc (Int×Int):=⟨2,fun p=>[.int .i64 p.1,.int .i64 p.2],fun _=>rfl,ω,fun _ u h=>by simp at h;rcases h with rfl | rfl <;> rfl⟩
theorem Zmp:Zbf.Elem 129 37 16:=⟨Tryz.underlying37,.agg #[.int .i64 0,.int .i64 0],κ,rfl⟩
def Zbk (a i:Nat)(k:Nat):List (Int×Int):=(Zdf a k).map fun r=>(r,(i:Int))
theorem atI {w:World}{A:Option Addr}{l:List Int}(h:Zfd.At w A l){i:Nat}{x:Int}(hx:l[i]?=some x):∃ b o,A=some ⟨b,o,none⟩/\w.cell? ⟨b,o+i,none⟩=some (.int .i64 x):=by
 obtain⟨b,o,e,hc⟩:=h i x hx;refine⟨b,o,e,?_⟩;have:=hc 0 _ rfl
 rwa [show o+i*Zfd.size+0=o+i by show o+i*1+0=o+i;omega] at this
theorem Zi7 (w:World)(p:Int×Int):Zbf.At (w.alloc (.cells #[.int .i64 p.1,.int .i64 p.2] 129 (0,0))) (some ⟨w.heap.size,0,none⟩) [p]:=by
 have hB:=Blk.new w 129 #[.int .i64 p.1,.int .i64 p.2];intro i x hx;refine⟨w.heap.size,0,rfl,fun j u hj=>?_⟩
 match i,hx with
 | 0,hx=>
  simp at hx;subst hx;rw [show 0+0*Zbf.size+j=j by omega,hB.cell];rw [<- hj];simp
theorem Zaj {w w1:World}{B B2 B3:Nat}{t t2:TypeId}{z n z2 n2:Nat}{v v2 v3:Value}{cs cs2:List Value}(h:w.ownsRow B t z v n cs)(h2:w.ownsRow B2 t2 z2 v2 n2 cs2)(hne:t≠t2)(hg:Zbm w w1 B3 v2 v3):w1.ownsRow B t z v n cs:=by
 refine Zex h (fun b hb=>?_);rcases h.2 with ⟨e,_⟩ | ⟨g,cap,cur,e,_,hh,_⟩
 ·subst e;cases hb
 ·subst e;exact m_54
section
set_option maxHeartbeats 4000000
set_option maxRecDepth 100000
theorem Zwo (v:Value)(l:List (Int×Int))(a i B:Nat)(w:World)(ha:a<18446744073709551616)(hl:l.length<=1000000)(hB:B<=w.heap.size)(h:Zbf.Own 129 B w v l) :
  Calls Tryz.prog 108 #[v,Zt7 a,.int .i64 (i:Int)] w fun e w'=>∃ v',e=.returned v'/\Zbf.Own 129 B w' v' (l++Zbk a i 64)/\Zbm w w' B v v':=by
 obtain⟨Av,cv,rfl⟩:=h.shp;have HV:=Zh h;clear h;go_enter Tryz.func108,Tryz.ntmps108
 go_wp2_with (go_at_call 148;refine (Z63 a _ ha).mono ?_;rintro e w2 ⟨u,rfl,hown,hb⟩;obtain⟨Au,cu,rfl⟩:=hown.shp;have HU:=Zh hown;have HB2:=Zh hb;clear hown hb)
 have HB4:=Zh (Zaa (Zad w (.cells #[.int .u64 (a:Int),.int .u64 0,.int .u64 0,.int .u64 0] 72 (0,0))) HB2.o);have hlu:=Zj7 a 64;have HV2:=Zh (HV.o.below HB4.o);have HG2:=Zh (Zbm.of_below (v:=.slice Av l.length cv) HB4.o hB);have HU2:=Zh (Zee HU.o (show B<=_ by simp;omega));obtain⟨L,hL⟩:∃ L,Zdf a 64=L:=⟨_,rfl⟩;have HP:=Zh (show Zbk a i 64=L.map fun r=>(r,(i:Int)) by unfold Zbk;rw [hL]);rw [hL] at HU2 hlu ⊢;obtain⟨vz,hvz⟩:∃ vz,Value.slice Av l.length cv=vz:=⟨_,rfl⟩;rw [hvz] at HV2 HG2;clear HU HB2 HB4 HV hL;go_loopw [12,0] (fun ii vv wr=>∃ (k:Nat) (v':Value),k<=L.length/\ii=.int .i64 k/\vv=v'/\Zbf.Own 129 B wr v' (l++(L.take k).map fun r=>(r,(i:Int)))/\Zfd.Own 3 B wr (.slice Au L.length cu) L/\Zbm w wr B vz v') (fun ii _ _=>L.length - (intOf ii).toNat)
 case atStart=>exact⟨0,vz,Nat.zero_le _,rfl,hvz,by simpa using HV2.o,HU2.o,HG2.o⟩
 case round=>
  obtain⟨k,v',hk,rfl,rfl,hv,hu,hg⟩:=hrel;obtain⟨q,hq⟩:∃ q,(l++(L.take k).map fun r=>(r,(i:Int)))=q:=⟨_,rfl⟩;have HQ:=Zh hq;rw [hq] at hv;have hql:q.length<=1000064:=by rw [<- hq];simp;omega
  clear hq;obtain⟨A3,c3,rfl⟩:=hv.shp;have HV:=Zh hv;have HU:=Zh hu;have HG:=Zh hg;have hzr:=hg.below.size;clear hv hu hg HV2 HG2 HU2;by_cases hlt:k<L.length
  ·have ex:=List.getElem?_eq_getElem hlt;obtain⟨x,hx⟩:∃ x,L[k]=x:=⟨_,rfl⟩;rw [hx] at ex;obtain⟨A5,c5,e5,h5,_,_⟩:=HU.o.at_;simp only [Value.slice.injEq,true_and] at e5;obtain⟨rfl,rfl⟩:=e5;obtain⟨b,o,rfl,c0⟩:=atI h5 ex;have hkl:(k:Int)<(L.length:Int):=ω;have HS:=Zh (show q++[(x,(i:Int))]=l++(L.take (k+1)).map fun r=>(r,(i:Int)) by
    obtain⟨h1,h2⟩:=List.getElem?_eq_some_iff.1 ex;rw [<- HQ.o,List.take_succ_eq_append_getElem h1,h2];simp)
   have HPA:=Zh (Zi7 wr (x,(i:Int)));have HB1:=Zh (Zad wr (.cells #[.int .i64 x,.int .i64 (i:Int)] 129 (0,0)));clear hx ex h5
   go_wp2_with (at_builtin;refine Enc.appW Zmp _ rfl (.tmp 16) (.tmp 20) rfl [(x,(i:Int))] B q _ wr.heap.size 0 1 rfl rfl HPA.o (HV.o.below HB1.o) (by simp;omega) (by simp;omega) (by simp;omega) ?_;intro v' w3 hown3 hg3;have HO3:=Zh hown3;have HG3:=Zh hg3;clear hown3 hg3)
   go_roundw
   case rel=>exact⟨k+1,_,ω,by go_num,rfl,by rw [<- HS.o];exact HO3.o,Zaj (Zav HU.o HB1.o) (HV.o.below HB1.o) (by decide) HG3.o,HG.o.trans ((Zbm.of_below HB1.o ω).trans HG3.o)⟩
   case measure=>exact msr
  ·go_wp2_with fail
   go_ret;refine⟨_,rfl,?_,by rw [hvz];exact HG.o⟩;rw [HP.o];have:=HQ.o;rw [List.take_of_length_le ω] at this;rw [this];exact HV.o
end
end
end Go.Proofs.YtdfmcfppoohckaaGreatDoor
namespace Go.Proofs.YtdfmcfppoohckaaGreatDoor
open Go.RowKit
open Go.Sort (Holds putRow mapBlock putCells grow onCells)
theorem Zte (l:List Nm):Zcy.flat l=l.map encStr:=by
 induction l with
 | nil=>rfl
 | cons x r ih=>rw [Enc.flat_cons,ih];rfl
theorem Z02 {B g n cap:Nat}{w:World}{l:List Nm}(h:Zcy.Own 9 B w (.slice (some ⟨g,0,none⟩) n cap) l)(hn:n=l.length):Holds encStr w g 0 l.toArray/\∃ cur,w.heap[g]?=some (.cells cur 9 (0,0))/\l.length<=cap/\cap<=maxLen/\cur.size=cap/\B<=g/\cur.toList.take l.length=l.map encStr:=by
 subst hn;have h':=h;rcases h.2 with ⟨e,h0⟩ | ⟨g',cap',cur,e,h1,h2,h3,h4,h5,h6⟩
 ·simp at e
 ·simp only [Value.slice.injEq,Option.some.injEq,Addr.mk.injEq,and_true,true_and] at e;obtain⟨rfl,rfl⟩:=e;have h6':cur.toList.take l.length=l.map encStr:=by
   rw [<- Zte,<- h6];congr 1;show l.length=l.length*1;omega
  refine⟨fun j hj=>⟨?_,(show Blk w g 9 cur from h2).frozen _⟩,cur,h2,h3,h4,by rw [h5];show cap*1=cap;omega,h1,h6'⟩;simp only [List.size_toArray] at hj;rw [Nat.zero_add,h'.cellAt j (by show j<l.length*1;omega),Zte,List.getElem?_map,List.getElem?_eq_getElem hj,getElem!_pos l.toArray j (by simpa using hj)];simp
theorem Zh2 (d:List Nm)(cur:Array Value)(h:d.length<=cur.size):(putCells encStr 0 d.toArray cur).toList.take d.length=d.map encStr:=by
 apply List.ext_getElem?;intro i;rw [List.getElem?_take];by_cases hi:i<d.length
 ·rw [if_pos hi,List.getElem?_map,List.getElem?_eq_getElem hi];exact m_116
 ·rw [if_neg hi,List.getElem?_map,List.getElem?_eq_none ω];rfl
theorem Zsh {w:World}{g q:Nat}{cur:Array Value}{os:Array Obj}{d:Array Nm}(h:w.heap[g]?=some (.cells cur 9 (0,0))):(grow (putRow encStr (Sort.ahead w q) g 0 d) os).heap[g]?=some (.cells (putCells encStr 0 d cur) 9 (0,0)):=by
 have hlt:=(Array.getElem?_eq_some_iff.1 h).1;have h2:(putRow encStr (Sort.ahead w q) g 0 d).heap[g]?=some (.cells (putCells encStr 0 d cur) 9 (0,0)):=by
  simp only [putRow,mapBlock,Array.getElem?_modify];rw [if_pos trivial];show (w.heap[g]?).map _=_;rw [h];rfl
 rw [Sort.heap_grow_old _ _ (by simp [putRow,mapBlock,Sort.ahead];exact hlt)];exact h2
theorem Zpp {w:World}{g q B:Nat}{os:Array Obj}{d:Array Nm}(hB:B<=g)(hg:g<w.heap.size):Below B w (grow (putRow encStr (Sort.ahead w q) g 0 d) os):=
 ⟨rfl,rfl,rfl,by show w.heap.size<=((w.heap.modify g _)++os).size;simp,fun i hi=>by
  rw [Sort.heap_grow_old _ _ (by simp [putRow,mapBlock,Sort.ahead];omega)];simp only [putRow,mapBlock,Array.getElem?_modify];rw [if_neg ω];rfl⟩
theorem Zsi (d:Array Nm)(cur:Array Value):(putCells encStr 0 d cur).size=cur.size:=by simp [putCells]
theorem Z3h (v:Value)(l:List Nm)(B:Nat)(w:World)(h:Zcy.Own 9 B w v l)(hl:l.length<=1000000):Calls Tryz.prog 99 #[v] w fun e w'=>e=.returned (.tuple #[])/\Zcy.Own 9 B w' v (Zfj l)/\Below B w w':=by
 have hsl:(Zfj l).length=l.length:=(Zds l).length_eq;obtain⟨A,cap,rfl⟩:=h.shp;rcases h.2 with ⟨e,h0⟩ | ⟨g,cap',cur0,e,_⟩
 ·have hl0:l=[]:=List.length_eq_zero_iff.1 h0;subst hl0;refine (Tryz.slices_Sort_string_none A cap w).mono fun e w' ⟨h1,h2⟩=>⟨h1,?_,?_⟩
  ·subst h2;have:Zfj ([]:List Nm)=[]:=List.length_eq_zero_iff.1 hsl;rw [this];exact h
  ·rw [h2];exact Below.refl _ _
 ·simp only [Value.slice.injEq,true_and] at e;obtain⟨rfl,rfl⟩:=e;obtain⟨hH,cur,hg,h3,h4,h5,h6,h7⟩:=Z02 h rfl;have hlt:=(Array.getElem?_eq_some_iff.1 hg).1;refine (Tryz.slices_Sort_string g 0 cap l w hH hlt ω).mono fun e w' ⟨h1,n,os,h2⟩=>⟨h1,?_,?_⟩
  ·subst h2;show World.ownsRow _ B 9 1 _ (Zfj l).length (Zcy.flat (Zfj l));refine⟨by rw [Enc.flat_len],Or.inr ⟨g,cap,_,by rw [hsl],h6,Zsh hg,by rw [hsl];exact h3,h4,by rw [Zsi,h5];omega,?_⟩⟩;rw [Nat.mul_one,Zte];exact Zh2 (Zfj l) cur (by rw [hsl];omega)
  ·subst h2;exact Zpp h6 hlt
theorem Zon (l:List Nm):(Lib.compact l).length<=l.length:=by
 have:=Ziu l.toArray l.length;exact this
theorem Z2k (v:Value)(l:List Nm)(B:Nat)(w:World)(h:Zcy.Own 9 B w v l)(hl:l.length<=1000000):Calls Tryz.prog 100 #[v] w fun e w'=>∃ v',e=.returned v'/\Zcy.Own 9 B w' v' (Lib.compact l)/\Below B w w':=by
 have hcl:=Zon l;obtain⟨A,cap,rfl⟩:=h.shp;rcases h.2 with ⟨e,h0⟩ | ⟨g,cap',cur0,e,_⟩
 ·have hl0:l=[]:=List.length_eq_zero_iff.1 h0;subst hl0;refine (Tryz.slices_Compact_string_empty A cap w).mono fun e w' ⟨h1,h2⟩=>⟨_,h1,?_,?_⟩
  ·subst h2;exact h
  ·rw [h2];exact Below.refl _ _
 ·simp only [Value.slice.injEq,true_and] at e;obtain⟨rfl,rfl⟩:=e;obtain⟨hH,cur,hg,h3,h4,h5,h6,h7⟩:=Z02 h rfl;have hlt:=(Array.getElem?_eq_some_iff.1 hg).1;refine (Tryz.slices_Compact_string g 0 cap l w hH ω h3).mono fun e w' ⟨h1,q,h2⟩=>⟨_,h1,?_,?_⟩
  ·have h2':w'=grow (putRow encStr (Sort.ahead w q) g 0 (Lib.compact l++List.replicate (l.length - (Lib.compact l).length) []).toArray) #[]:=by rw [h2];simp
   subst h2';show World.ownsRow _ B 9 1 _ (Lib.compact l).length (Zcy.flat (Lib.compact l));refine⟨by rw [Enc.flat_len],Or.inr ⟨g,cap,_,rfl,h6,Zsh hg,ω,h4,by rw [Zsi,h5];omega,?_⟩⟩;rw [Nat.mul_one,Zte];have hp:=Zh2 (Lib.compact l++List.replicate (l.length - (Lib.compact l).length) []) cur (by simp;omega);have:=congrArg (List.take (Lib.compact l).length) hp;rw [List.take_take,List.map_append,List.take_append_of_le_length (by simp)] at this;rw [Nat.min_eq_left (by simp)] at this;rw [this,List.take_of_length_le (by simp)]
  ·have h2':w'=grow (putRow encStr (Sort.ahead w q) g 0 (Lib.compact l++List.replicate (l.length - (Lib.compact l).length) []).toArray) #[]:=by rw [h2];simp
   rw [h2'];exact Zpp h6 hlt
end Go.Proofs.YtdfmcfppoohckaaGreatDoor
namespace Go.Proofs.YtdfmcfppoohckaaGreatDoor
open Go.RowKit
section
def Zh3 (s:Nm):List Nm->Bool->List Nm
 | [],d=>if d then [] else [s]
 | y :: r,d=>(if d then [] else if ltN s y then [s] else [])++y :: Zh3 s r (d||ltN s y)
theorem Zl2 (s:Nm):∀ l,Zh3 s l true=l
 | []=>rfl
 | y :: r=>by simp [Zh3,Zl2 s r]
theorem Zl1 (s:Nm):∀ l,Zh3 s l false=Zo5 s l
 | []=>rfl
 | y :: r=>by
  unfold Zh3 Zo5;cases h:ltN s y with
  | true=>simp [Zl2]
  | false=>simp [Zl1 s r]
def Zlh (B:Nat)(w:World)(A:Option Addr)(cap:Nat)(l:List Nm):Prop:=B<=w.heap.size/\Zcy.Own 9 B w (.slice A l.length cap) l
theorem Zlh.below {B:Nat}{w w':World}{A:Option Addr}{cap:Nat}{l:List Nm}(h:Zlh B w A cap l)(hb:Below w.heap.size w w'):Zlh B w' A cap l:=⟨Nat.le_trans h.1 hb.size,h.2.below hb⟩
theorem Zlh.at {B:Nat}{w:World}{A:Option Addr}{cap:Nat}{l:List Nm}(h:Zlh B w A cap l):Zcy.At w A l:=by
 obtain⟨A',cap',e,hat,_⟩:=h.2.at_;cases e
 exact hat
theorem Zlh.nil {B:Nat}{w:World}(h:B<=w.heap.size):Zlh B w none 0 []:=⟨h,Enc.Own.nil _ _ _⟩
theorem Zlh.of {B B2:Nat}{w:World}{A:Option Addr}{cap n:Nat}{l:List Nm}(h:Zcy.Own 9 B w (.slice A n cap) l)(hn:n=l.length)(hB:B2<=B)(hw:B<=w.heap.size):Zlh B2 w A cap l:=by
 subst hn;refine⟨Nat.le_trans hB hw,h.1,?_⟩;rcases h.2 with e | ⟨g,cap,cur,e,h1,h2⟩
 ·exact Or.inl e
 ·exact Or.inr ⟨g,cap,cur,e,Nat.le_trans hB h1,h2⟩
def Z1o (B:Nat)(l:List Nm)(w:World)(e:Ending)(w':World):Prop:=∃ A cap,e=.returned (.slice A l.length cap)/\Zlh B w' A cap l/\Below w.heap.size w w'
theorem Z1o.mk {B:Nat}{l l2:List Nm}{w w':World}{e:Ending}{A:Option Addr}{cap:Nat}(h:l2=l)(he:e=.returned (.slice A l2.length cap))(hat:Zlh B w' A cap l2)(hb:Below w.heap.size w w'):Z1o B l w e w':=by
 subst h;exact⟨A,cap,he,hat,hb⟩
theorem Znm (w:World)(a:Nm):Zcy.At (w.alloc (.cells #[.string ⟨a.toArray⟩] 9 (0,0))) (some ⟨w.heap.size,0,none⟩) [a]:=by
 have hB:=Blk.new w 9 #[.string ⟨a.toArray⟩];intro i x hx;refine⟨w.heap.size,0,rfl,fun j u hj=>?_⟩;have hj0:j=0:=by
  have:=(List.getElem?_eq_some_iff.1 hj).1;simp at this;omega
 subst hj0;simp at hj;subst hj;rw [show 0+i*Zcy.size+0=i from by show 0+i*1+0=i;omega,hB.cell]
 match i,hx with
 | 0,hx=>simp at hx;subst hx;rfl
theorem Z4p {w:World}{A:Option Addr}{l:List Nm}(h:Zcy.At w A l){i:Nat}{x:Nm}(hx:l[i]?=some x):∃ b o,A=some ⟨b,o,none⟩/\w.cell? ⟨b,o+i,none⟩=some (.string ⟨x.toArray⟩):=by
 obtain⟨b,o,e,hc⟩:=h i x hx;refine⟨b,o,e,?_⟩;have:=hc 0 _ rfl
 rwa [show o+i*Zcy.size+0=o+i by show o+i*1+0=o+i;omega] at this
section
set_option maxHeartbeats 4000000
set_option maxRecDepth 100000
theorem Zsf {B:Nat}(A:Option Addr)(cap:Nat)(l:List Nm)(s:Nm)(w:World)(hl:l.length<=1000000)(h:Zlh B w A cap l) :
  Calls Tryz.prog 117 #[.slice A l.length cap,.string ⟨s.toArray⟩] w (Z1o B (Zk1 l s) w):=by
 have HOW:=Zh h;have HA:=Zh h.at;by_cases hs:s=[]
 ·subst hs;have HE:=Zh (show l=Zk1 l [] by simp [Zk1]);go_enter Tryz.func117,Tryz.ntmps117
  go_wp2_with fail
  go_ret;exact Z1o.mk HE.o rfl HOW.o (Below.refl _ _)
 ·have hs2:(s == [])=false:=by simpa using hs
  have hs3:s.isEmpty=false:=by simpa using hs
  go_enter Tryz.func117,Tryz.ntmps117
  go_wp2_with fail
  go_loopw [7,5,6] (fun i vv dd wr=>∃ (k:Nat) (o:List Nm) (d:Bool),k<=l.length/\i=.int .i64 k/\dd=.bool d/\(∀ j x,j<k->l[j]?=some x->x≠s)/\o.length<=k+d.toNat/\Zcy.Own 9 w.heap.size wr vv o/\o++Zh3 s (l.drop k) d=Zo5 s l/\Below w.heap.size w wr) (fun i _ _ _=>l.length - (intOf i).toNat)
  case atStart=>exact⟨0,[],false,Nat.zero_le _,rfl,rfl,(fun j x hj=>absurd hj (Nat.not_lt_zero _)),by simp,Enc.Own.nil _ _ _,by rw [List.nil_append,List.drop_zero,Zl1],Below.refl _ _⟩
  case round=>
   obtain⟨k,o,d,hk,rfl,rfl,hno,hol,hv,he,hb⟩:=hrel;obtain⟨Av,cv,rfl⟩:=hv.shp;have HNO:=Zh hno;have HOL:=Zh hol;have HV:=Zh hv;have HE:=Zh he;have HBR:=Zh hb;have hzr:=hb.size;by_cases hlt:k<l.length
   ·have ex:=List.getElem?_eq_getElem hlt;obtain⟨y,hx⟩:∃ y,l[k]=y:=⟨_,rfl⟩;rw [hx] at ex;obtain⟨b,o2,rfl,c0⟩:=Z4p HA.o ex;have hbl:b<w.heap.size:=World.block_lt_of_cell? w _ c0;have c0r:=Zac c0 HBR.o;have HX:=Zh ex;have hkl:(k:Int)<(l.length:Int):=ω;have hdr:l.drop k=y :: l.drop (k+1):=by
     obtain⟨h1,h2⟩:=List.getElem?_eq_some_iff.1 ex;rw [<- h2];exact List.drop_eq_getElem_cons h1
    have HDR:=Zh hdr;by_cases hys:y=s
    ·subst hys;have HI:=Zh (show l=Zk1 l y by unfold Zk1;rw [if_pos (Or.inr (List.mem_of_getElem? HX.o))])
     go_wp2_with fail
     go_ret;exact Z1o.mk HI.o rfl (HOW.o.below HBR.o) HBR.o
    ·have hys2:(y == s)=false:=by simpa using hys
     have HNX:=Zh (fun (j:Nat) (x:Nm) (hj:j<k+1) (hx:l[j]?=some x)=>(by
      rcases Nat.lt_succ_iff_lt_or_eq.1 hj with h | h
      ·exact HNO.o j x h hx
      ·rw [h,HX.o] at hx;cases hx;exact hys:x≠s))
     have HY1:=Zh (Znm wr y);have HS1:=Zh (Znm wr s);cases d with
     | true=>
      have HEN:=Zh (show (o++[y])++Zh3 s (l.drop (k+1)) true=Zo5 s l by rw [<- HE.o,HDR.o];simp [Zh3])
      go_wp2_with (at_builtin;refine Enc.appL Zop _ rfl (.tmp 38) (.tmp 43) rfl [y] w.heap.size o _ wr.heap.size 0 1 rfl rfl HY1.o (HV.o.below (Zad _ _)) (by have:=HOL.o;simp at *;omega) (by have:=HOL.o;simp at *;omega) (by simp;omega) ?_;intro v' w3 hown3 hg3;have HO3:=Zh hown3;have HB3:=Zh hg3.below;clear hown3 hg3)
      go_roundw
      case rel=>exact⟨k+1,o++[y],true,ω,by go_num,rfl,HNX.o,by have:=HOL.o;simp at *;omega,HO3.o,HEN.o,(Zab HBR.o _).trans HB3.o⟩
      case measure=>exact msr
     | false=>
      cases hlt2:ltN s y with
      | false=>
       have hless:Op.bytesLess s y=false:=by rw [Zc8,hlt2]
       have HEN:=Zh (show (o++[y])++Zh3 s (l.drop (k+1)) false=Zo5 s l by rw [<- HE.o,HDR.o];simp [Zh3,hlt2])
       go_wp2_with (at_builtin;refine Enc.appL Zop _ rfl (.tmp 38) (.tmp 43) rfl [y] w.heap.size o _ wr.heap.size 0 1 rfl rfl HY1.o (HV.o.below (Zad _ _)) (by have:=HOL.o;simp at *;omega) (by have:=HOL.o;simp at *;omega) (by simp;omega) ?_;intro v' w3 hown3 hg3;have HO3:=Zh hown3;have HB3:=Zh hg3.below;clear hown3 hg3)
       go_roundw
       case rel=>exact⟨k+1,o++[y],false,ω,by go_num,rfl,HNX.o,by have:=HOL.o;simp at *;omega,HO3.o,HEN.o,(Zab HBR.o _).trans HB3.o⟩
       case measure=>exact msr
      | true=>
       have hless:Op.bytesLess s y=true:=by rw [Zc8,hlt2]
       have HEN:=Zh (show ((o++[s])++[y])++Zh3 s (l.drop (k+1)) true=Zo5 s l by rw [<- HE.o,HDR.o];simp [Zh3,hlt2]);obtain⟨o3,ho3⟩:∃ o3,o++[s]=o3:=⟨_,rfl⟩;have HO3E:=Zh ho3;have HOL3:=Zh (show o3.length<=k+1 by rw [<- ho3];have:=HOL.o;simp at *;omega);rw [ho3] at HEN
       go_wp2_with (first
        | (at_builtin;refine Enc.appL Zop _ rfl (.tmp 34) (.tmp 36) rfl [s] w.heap.size o _ wr.heap.size 0 1 rfl rfl HS1.o (HV.o.below (Zad _ _)) (by have:=HOL.o;simp at *;omega) (by have:=HOL.o;simp at *;omega) (by simp;omega) ?_;intro v' w3 hown3 hg3;rw [HO3E.o] at hown3;obtain⟨Aw,cw,rfl⟩:=hown3.shp;have HO3:=Zh hown3;have HB3:=Zh hg3.below;have c3r:=Zcx (Zal c0r (.cells #[.string ⟨s.toArray⟩] 9 (0,0))) hg3.below hbl;have hz_w3:w.heap.size<=w3.heap.size:=(by have hq:=hg3.below.size;simp at hq;omega);clear hown3 hg3)
        | (at_builtin;refine Enc.appL Zop _ rfl (.tmp 38) (.tmp 43) rfl [y] w.heap.size o3 _ w3.heap.size 0 1 rfl rfl (Znm w3 y) (HO3.o.below (Zad _ _)) (by have:=HOL3.o;simp at *;omega) (by have:=HOL3.o;simp at *;omega) (by simp;omega) ?_;intro v' w4 hown3 hg3;have HO4:=Zh hown3;have HB4:=Zh hg3.below;clear hown3 hg3))
       go_roundw
       case rel=>exact⟨k+1,o3++[y],true,ω,by go_num,rfl,HNX.o,by have:=HOL3.o;simp at *;omega,HO4.o,HEN.o,((Zab HBR.o _).trans HB3.o).trans ((Zad _ _).mono ω |>.trans HB4.o)⟩
       case measure=>exact msr
   ·have hkn:k=l.length:=ω;have hni:s∉l:=fun hm=>by
     obtain⟨j,hj⟩:=List.getElem?_of_mem hm;exact HNO.o j s (by have:=(List.getElem?_eq_some_iff.1 hj).1;omega) hj rfl
    have HIN:=Zh (show Zk1 l s=Zo5 s l by unfold Zk1;rw [if_neg (by simp [hs,hni])]);have HS1:=Zh (Znm wr s);cases d with
    | true=>
     have HR:=Zh (show o=Zk1 l s by rw [HIN.o,<- HE.o,List.drop_of_length_le ω];simp [Zh3])
     go_wp2_with fail
     go_ret;exact Z1o.mk HR.o rfl (Zlh.of HV.o rfl HOW.o.1 HBR.o.size) HBR.o
    | false=>
     have HR:=Zh (show o++[s]=Zk1 l s by rw [HIN.o,<- HE.o,List.drop_of_length_le ω];simp [Zh3])
     go_wp2_with (at_builtin;refine Enc.appL Zop _ rfl (.tmp 47) (.tmp 49) rfl [s] w.heap.size o _ wr.heap.size 0 1 rfl rfl HS1.o (HV.o.below (Zad _ _)) (by have:=HOL.o;simp at *;omega) (by have:=HOL.o;simp at *;omega) (by simp;omega) ?_;intro v' w3 hown3 hg3;obtain⟨Aw,cw,rfl⟩:=hown3.shp;have HO3:=Zh hown3;have HB3:=Zh hg3.below;have hz_w3:w.heap.size<=w3.heap.size:=(by have hq:=hg3.below.size;simp at hq;omega);clear hown3 hg3)
     go_ret;exact Z1o.mk HR.o (by rw [List.length_append];rfl) (Zlh.of HO3.o rfl HOW.o.1 hz_w3) ((Zab HBR.o _).trans HB3.o)
end
end
end Go.Proofs.YtdfmcfppoohckaaGreatDoor
