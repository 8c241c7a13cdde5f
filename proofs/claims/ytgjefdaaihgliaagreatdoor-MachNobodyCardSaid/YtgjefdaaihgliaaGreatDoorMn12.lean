/- Layer 15: the program's sets: with, or, list. -/
import Derived.Test.YtgjefdaaihgliaaGreatDoorMn10

namespace Go.Proofs.YtgjefdaaihgliaaGreatDoor
open Go.RowKit
section
abbrev Ztl (a:Nat):Value:=.agg #[.int .u64 (a:Int),.int .u64 0,.int .u64 0,.int .u64 0]
def Zdd (a k:Nat):List Int:=((List.range k).filter fun i=>a.testBit i).map fun (i:Nat)=>(i:Int)
theorem Zdb (a k:Nat):Zdd a (k+1)=if a.testBit k then Zdd a k++[(k:Int)] else Zdd a k:=by
 unfold Zdd;rw [List.range_succ,List.filter_append];cases h:a.testBit k <;> simp [h]
theorem Zju (a k:Nat):(Zdd a k).length<=k:=by
 unfold Zdd;rw [List.length_map];exact Nat.le_trans (List.length_filter_le _ _) (by simp)
theorem Zjt {a:Nat}(h:a<18446744073709551616):∀ k,64<=k->Zdd a k=Zdd a 64:=by
 intro k hk
 induction k with
 | zero=>omega
 | succ k ih=>
  by_cases e:64<=k
  ·rw [Zdb,Nat.testBit_lt_two_pow (Nat.lt_of_lt_of_le (show a<2 ^ 64 by simpa using h) (Nat.pow_le_pow_right ω e))];exact ih e
  ·rw [show k+1=64 by omega]
theorem Zfb {w:World}{B B2:Nat}{t:TypeId}{z n:Nat}{v:Value}{cs:List Value}(h:w.ownsRow B t z v n cs)(hB:B2<=B):w.ownsRow B2 t z v n cs:=by
 refine⟨h.1,?_⟩;rcases h.2 with e | ⟨g,cap,cur,e,h1,h2⟩
 ·exact Or.inl e
 ·exact Or.inr ⟨g,cap,cur,e,Nat.le_trans hB h1,h2⟩
section
set_option maxHeartbeats 4000000
set_option maxRecDepth 100000
theorem Z8o (a i:Nat)(w:World)(ha:a<18446744073709551616)(hi:i<64):Calls Tryz.prog 124 #[Ztl a,.int .i64 (i:Int)] w (RB w (Ztl (a|||2 ^ i))):=by
 have h1:((i:Int) / 64)=0:=ω;have h2:((i:Int) % 64)=(i:Int):=ω;have hs2:IntKind.u64.wrap ((2:Int) ^ i)=((2 ^ i:Nat):Int):=by have:=Zwl hi;rwa [Int.one_mul] at this
 have hp:2 ^ i<18446744073709551616:=by
  have:2 ^ i<2 ^ 64:=Nat.pow_lt_pow_right ω hi;simpa using this
 have ho:=Zcw ha hp;have ho2:bits .or .u64 (a:Int) ((2:Int) ^ i)=((a|||2 ^ i:Nat):Int):=by rw [<- ho];simp
 go_enter Tryz.func124,Tryz.ntmps124
 go_wp2_with fail
 refine bodyPost_ret (v:=Ztl (a|||2 ^ i)) (by simp [results,Tryz.results124,go_sem]) rfl ?_;refine⟨rfl,?_⟩
 repeat (first | exact Below.refl _ _ | with_reducible refine Below.setCell ?_ (by simp <;> omega) _ | with_reducible refine Zaa ?_ _)
theorem Z7x (a:Nat)(w:World)(ha:a<18446744073709551616):Calls Tryz.prog 181 #[Ztl a] w fun e w'=>∃ v,e=.returned v/\Zde.Own 3 w.heap.size w' v (Zdd a 64)/\Below w.heap.size w w':=by
 have HB0:=Zh (Zad w (.cells #[.int .u64 (a:Int),.int .u64 0,.int .u64 0,.int .u64 0] 126 (0,0)));have HBX:=Zh (Blk.new w 126 #[.int .u64 (a:Int),.int .u64 0,.int .u64 0,.int .u64 0]);have HBIG:=Zh (Zjt ha 256 ω);go_enter Tryz.func181,Tryz.ntmps181
 go_wp2_with fail
 generalize hw1:w.alloc (.cells #[.int .u64 (a:Int),.int .u64 0,.int .u64 0,.int .u64 0] 126 (0,0))=w1 at HB0 HBX ⊢;have hsz:w.heap.size<w1.heap.size:=HBX.o.lt;clear hw1;go_loopw [5,3] (fun i vv wr=>∃ k:Nat,k<=256/\i=.int .i64 k/\Zde.Own 3 w1.heap.size wr vv (Zdd a k)/\Below w1.heap.size w1 wr) (fun i _ _=>256 - (intOf i).toNat)
 case atStart=>exact⟨0,Nat.zero_le _,rfl,Enc.Own.nil _ _ _,Below.refl _ _⟩
 case round=>
  obtain⟨k,hk,rfl,hv,hb⟩:=hrel;obtain⟨Av,cv,rfl⟩:=hv.shp;have HV:=Zh hv;have HBR:=Zh hb;have HLL:=Zh (Zju a k);have HBK:=Zh (HBX.o.go hb);obtain⟨k0,k1,k2,k3⟩:=HBK.o.c4;have hzr:=hb.size;clear hv hb;by_cases hlt:k<256
  ·have hkl:(k:Int)<256:=ω;by_cases h64:k<64
   ·have h1:((k:Int) / 64)=0:=ω;have h2:((k:Int) % 64)=(k:Int):=ω;have hq:((a:Int) / (2:Int) ^ k)=((a / 2 ^ k:Nat):Int):=by simp
    have hlt2:a / 2 ^ k<18446744073709551616:=Nat.lt_of_le_of_lt (Nat.div_le_self _ _) ha;have hb:=Zn7 hlt2;rw [<- hq] at hb;have hbm:=Ztw a k;cases hbt:a.testBit k with
    | true=>
     have hb1:bits .and .u64 ((a:Int) / (2:Int) ^ k) 1=1:=by rw [hb];rw [hbt] at hbm;simp at hbm;simp [hbm]
     have HS:=Zh (show Zdd a (k+1)=Zdd a k++[(k:Int)] by rw [Zdb,hbt];rfl);clear hq hb hbm hbt
     go_wp2_with (at_builtin;refine Enc.app Zmm _ rfl (.tmp 18) (.tmp 20) rfl (k:Int) w1.heap.size (Zdd a k) _ rfl rfl HV.o (by have:=HLL.o;omega) (by have:=HLL.o;omega) ω ?_;intro v' w3 hown3 hg3;have HO3:=Zh hown3;have HB3:=Zh hg3.below;clear hown3 hg3)
     go_roundw
     case rel=>exact⟨k+1,ω,by go_num,by rw [HS.o];exact HO3.o,HBR.o.trans HB3.o⟩
     case measure=>exact msr
    | false=>
     have hb1:bits .and .u64 ((a:Int) / (2:Int) ^ k) 1=0:=by rw [hb];rw [hbt] at hbm;simp at hbm;simp [hbm]
     have HS:=Zh (show Zdd a (k+1)=Zdd a k by rw [Zdb,hbt];rfl);clear hq hb hbm hbt
     go_wp2_with fail
     go_roundw
     case rel=>exact⟨k+1,ω,by go_num,by rw [HS.o];exact HV.o,HBR.o⟩
     case measure=>exact msr
   ·have HS:=Zh (show Zdd a (k+1)=Zdd a k by rw [Zjt ha (k+1) ω,Zjt ha k ω]);have hz:bits .and .u64 0 1=0:=by decide
    have hj:(k:Int) / 64=1\/(k:Int) / 64=2\/(k:Int) / 64=3:=ω;rcases hj with hj | hj | hj
    all_goals
     go_wp2_with fail
     go_roundw
     case rel=>exact⟨k+1,ω,by go_num,by rw [HS.o];exact HV.o,HBR.o⟩
     case measure=>exact msr
  ·have hkn:k=256:=ω;subst hkn
   go_wp2_with fail
   go_ret;refine⟨_,rfl,?_,Zab HB0.o HBR.o⟩;have:=HV.o;rw [HBIG.o] at this;rw [HBIG.o];exact Zfb this ω
def orC (a b k:Nat):Array Value:=#[.int .u64 ((if k=0 then a else (a|||b):Nat):Int),.int .u64 0,.int .u64 0,.int .u64 0]
theorem orP (a b:Nat)(w:World)(ha:a<18446744073709551616)(hb:b<18446744073709551616):Calls Tryz.prog 126 #[Ztl a,Ztl b] w (RB w (Ztl (a|||b))):=by
 have ho:=Zcw ha hb;have hz:bits .or .u64 0 0=0:=by decide
 go_enter Tryz.func126,Tryz.ntmps126
 go_wp2_with fail
 have HA:=Zh (((Blk.new w 126 #[.int .u64 (a:Int),.int .u64 0,.int .u64 0,.int .u64 0]).alloc (.cells #[.int .u64 (b:Int),.int .u64 0,.int .u64 0,.int .u64 0] 126 (0,0))).alloc (.cells #[.int .u64 0,.int .u64 0,.int .u64 0,.int .u64 0] 126 (0,0)));have HB:=Zh ((Blk.new (w.alloc (.cells #[.int .u64 (a:Int),.int .u64 0,.int .u64 0,.int .u64 0] 126 (0,0))) 126 #[.int .u64 (b:Int),.int .u64 0,.int .u64 0,.int .u64 0]).alloc (.cells #[.int .u64 0,.int .u64 0,.int .u64 0,.int .u64 0] 126 (0,0)));have HC:=Zh (Blk.new ((w.alloc (.cells #[.int .u64 (a:Int),.int .u64 0,.int .u64 0,.int .u64 0] 126 (0,0))).alloc (.cells #[.int .u64 (b:Int),.int .u64 0,.int .u64 0,.int .u64 0] 126 (0,0))) 126 #[.int .u64 0,.int .u64 0,.int .u64 0,.int .u64 0]);have HW:=Zh (Zaa (Zaa (Zad w (.cells #[.int .u64 (a:Int),.int .u64 0,.int .u64 0,.int .u64 0] 126 (0,0))) (.cells #[.int .u64 (b:Int),.int .u64 0,.int .u64 0,.int .u64 0] 126 (0,0))) (.cells #[.int .u64 0,.int .u64 0,.int .u64 0,.int .u64 0] 126 (0,0)));go_loopw [6] (fun i wr=>∃ k:Nat,k<=4/\i=.int .i64 k/\Blk wr w.heap.size 126 (orC a b k)/\Blk wr (w.heap.size+1) 126 #[.int .u64 (b:Int),.int .u64 0,.int .u64 0,.int .u64 0]/\Blk wr (w.heap.size+2) 126 #[.int .u64 0,.int .u64 0,.int .u64 0,.int .u64 0]/\Below w.heap.size w wr) (fun i _=>4 - (intOf i).toNat)
 case atStart=>exact⟨0,ω,rfl,HA.o,by simpa using HB.o,by simpa using HC.o,HW.o⟩
 case round=>
  obtain⟨k,hk,rfl,h1,h2,h3,h4⟩:=hrel;have H1:=Zh h1;have H2:=Zh h2;have H3:=Zh h3;have H4:=Zh h4;by_cases hlt:k<4
  ·have hkl:(k:Int)<4:=ω;have hc:k=0\/k=1\/k=2\/k=3:=ω;rcases hc with rfl | rfl | rfl | rfl
   ·have c1:wr.cell? ⟨w.heap.size,0,none⟩=some (.int .u64 (a:Int)):=H1.o.cell 0;have c2:=H2.o.k0;have f1:=H1.o.frozen 0
    go_wp2_with fail
    go_region
    all_goals
     go_wp2_with fail
     go_roundw
     case rel=>exact⟨1,ω,by go_num,by have:=(H1.o.set_ 0 (.int .u64 ((a|||b:Nat):Int))).drew;simpa [orC] using this,(H2.o.far (by simp) _).drew,(H3.o.far (by simp) _).drew,(H4.o.setCell (by simp) _).drew⟩
     case measure=>simp [intOf]
   ·have c1:wr.cell? ⟨w.heap.size,1,none⟩=some (.int .u64 0):=H1.o.cell 1;have c2:=H2.o.k1;have f1:=H1.o.frozen 1
    go_wp2_with fail
    go_region
    all_goals
     go_wp2_with fail
     go_roundw
     case rel=>exact⟨2,ω,by go_num,by have:=(H1.o.set_ 1 (.int .u64 0)).drew;simpa [orC] using this,(H2.o.far (by simp) _).drew,(H3.o.far (by simp) _).drew,(H4.o.setCell (by simp) _).drew⟩
     case measure=>simp [intOf]
   ·have c1:wr.cell? ⟨w.heap.size,2,none⟩=some (.int .u64 0):=H1.o.cell 2;have c2:=H2.o.k2;have f1:=H1.o.frozen 2
    go_wp2_with fail
    go_region
    all_goals
     go_wp2_with fail
     go_roundw
     case rel=>exact⟨3,ω,by go_num,by have:=(H1.o.set_ 2 (.int .u64 0)).drew;simpa [orC] using this,(H2.o.far (by simp) _).drew,(H3.o.far (by simp) _).drew,(H4.o.setCell (by simp) _).drew⟩
     case measure=>simp [intOf]
   ·have c1:wr.cell? ⟨w.heap.size,3,none⟩=some (.int .u64 0):=H1.o.cell 3;have c2:=H2.o.k3;have f1:=H1.o.frozen 3
    go_wp2_with fail
    go_region
    all_goals
     go_wp2_with fail
     go_roundw
     case rel=>exact⟨4,ω,by go_num,by have:=(H1.o.set_ 3 (.int .u64 0)).drew;simpa [orC] using this,(H2.o.far (by simp) _).drew,(H3.o.far (by simp) _).drew,(H4.o.setCell (by simp) _).drew⟩
     case measure=>simp [intOf]
  ·have hk4:k=4:=ω;subst hk4;obtain⟨c0,c1,c2,c3⟩:=H1.o.c4;obtain⟨d0,d1,d2,d3⟩:=H3.o.c4;have e0:wr.frozen? ⟨w.heap.size+1+1,0,none⟩=false:=H3.o.frozen 0;have e1:wr.frozen? ⟨w.heap.size+1+1,1,none⟩=false:=H3.o.frozen 1;have e2:wr.frozen? ⟨w.heap.size+1+1,2,none⟩=false:=H3.o.frozen 2;have e3:wr.frozen? ⟨w.heap.size+1+1,3,none⟩=false:=H3.o.frozen 3
   go_wp2_with fail
   refine bodyPost_ret (v:=Ztl (a|||b)) (by simp [results,Tryz.results126,go_sem,d0,d1,d2,d3]) rfl ⟨rfl,?_⟩;exact (((H4.o.setCell (by simp;omega) _).setCell (by simp;omega) _).setCell (by simp;omega) _).setCell (by simp;omega) _
end
end
section
abbrev Zbj:Enc (Int×Int):=⟨2,fun p=>[.int .i64 p.1,.int .i64 p.2],fun _=>rfl,ω,fun _ u h=>by simp at h;rcases h with rfl | rfl <;> rfl⟩
theorem Zp6:Zbj.Elem 175 84 16:=⟨Tryz.underlying84,.agg #[.int .i64 0,.int .i64 0],κ,rfl⟩
def Zbm (a i:Nat)(k:Nat):List (Int×Int):=(Zdd a k).map fun r=>(r,(i:Int))
theorem atI {w:World}{A:Option Addr}{l:List Int}(h:Zde.At w A l){i:Nat}{x:Int}(hx:l[i]?=some x):∃ b o,A=some ⟨b,o,none⟩/\w.cell? ⟨b,o+i,none⟩=some (.int .i64 x):=by
 obtain⟨b,o,e,hc⟩:=h i x hx;refine⟨b,o,e,?_⟩;have:=hc 0 _ rfl
 rwa [show o+i*Zde.size+0=o+i by show o+i*1+0=o+i;omega] at this
theorem Zni (w:World)(p:Int×Int):Zbj.At (w.alloc (.cells #[.int .i64 p.1,.int .i64 p.2] 175 (0,0))) (some ⟨w.heap.size,0,none⟩) [p]:=by
 have hB:=Blk.new w 175 #[.int .i64 p.1,.int .i64 p.2];intro i x hx;refine⟨w.heap.size,0,rfl,fun j u hj=>?_⟩
 match i,hx with
 | 0,hx=>
  simp at hx;subst hx;rw [show 0+0*Zbj.size+j=j by omega,hB.cell];rw [<- hj];simp
theorem Zaj {w w1:World}{B B2 B3:Nat}{t t2:TypeId}{z n z2 n2:Nat}{v v2 v3:Value}{cs cs2:List Value}(h:w.ownsRow B t z v n cs)(h2:w.ownsRow B2 t2 z2 v2 n2 cs2)(hne:t≠t2)(hg:Zbh w w1 B3 v2 v3):w1.ownsRow B t z v n cs:=by
 refine Zb7 h (fun b hb=>?_);rcases h.2 with ⟨e,_⟩ | ⟨g,cap,cur,e,_,hh,_⟩
 ·subst e;cases hb
 ·subst e;exact m_30
section
set_option maxHeartbeats 4000000
set_option maxRecDepth 100000
theorem Zv8 (v:Value)(l:List (Int×Int))(a i B:Nat)(w:World)(ha:a<18446744073709551616)(hl:l.length<=1000000)(hB:B<=w.heap.size)(h:Zbj.Own 175 B w v l) :
  Calls Tryz.prog 123 #[v,Ztl a,.int .i64 (i:Int)] w fun e w'=>∃ v',e=.returned v'/\Zbj.Own 175 B w' v' (l++Zbm a i 64)/\Zbh w w' B v v':=by
 obtain⟨Av,cv,rfl⟩:=h.shp;have HV:=Zh h;go_enter Tryz.func123,Tryz.ntmps123
 go_wp2_with (go_at_call 181;refine (Z7x a _ ha).mono ?_;rintro e w2 ⟨u,rfl,hown,hb⟩;obtain⟨Au,cu,rfl⟩:=hown.shp;have HU:=Zh hown;have HB2:=Zh hb;clear hown hb)
 have HB4:=Zh (Zab (Zad w (.cells #[.int .u64 (a:Int),.int .u64 0,.int .u64 0,.int .u64 0] 126 (0,0))) HB2.o);have hlu:=Zju a 64;have HV2:=Zh (HV.o.below HB4.o);have HG2:=Zh (Zbh.of_below (v:=.slice Av l.length cv) HB4.o hB);have HU2:=Zh (Zfb HU.o (show B<=_ by simp;omega));obtain⟨L,hL⟩:∃ L,Zdd a 64=L:=⟨_,rfl⟩;have HP:=Zh (show Zbm a i 64=L.map fun r=>(r,(i:Int)) by unfold Zbm;rw [hL]);rw [hL] at HU2 hlu ⊢;obtain⟨vz,hvz⟩:∃ vz,Value.slice Av l.length cv=vz:=⟨_,rfl⟩;rw [hvz] at HV2 HG2;go_loopw [12,0] (fun ii vv wr=>∃ (k:Nat) (v':Value),k<=L.length/\ii=.int .i64 k/\vv=v'/\Zbj.Own 175 B wr v' (l++(L.take k).map fun r=>(r,(i:Int)))/\Zde.Own 3 B wr (.slice Au L.length cu) L/\Zbh w wr B vz v') (fun ii _ _=>L.length - (intOf ii).toNat)
 case atStart=>exact⟨0,vz,Nat.zero_le _,rfl,hvz,by simpa using HV2.o,HU2.o,HG2.o⟩
 case round=>
  obtain⟨k,v',hk,rfl,rfl,hv,hu,hg⟩:=hrel;obtain⟨q,hq⟩:∃ q,(l++(L.take k).map fun r=>(r,(i:Int)))=q:=⟨_,rfl⟩;have HQ:=Zh hq;rw [hq] at hv;have hql:q.length<=1000064:=by rw [<- hq];simp;omega
  obtain⟨A3,c3,rfl⟩:=hv.shp;have HV:=Zh hv;have HU:=Zh hu;have HG:=Zh hg;have hzr:=hg.below.size;clear hv hu hg HV2 HG2 HU2;by_cases hlt:k<L.length
  ·have ex:=List.getElem?_eq_getElem hlt;obtain⟨x,hx⟩:∃ x,L[k]=x:=⟨_,rfl⟩;rw [hx] at ex;obtain⟨A5,c5,e5,h5,_,_⟩:=HU.o.at_;simp only [Value.slice.injEq,true_and] at e5;obtain⟨rfl,rfl⟩:=e5;obtain⟨b,o,rfl,c0⟩:=atI h5 ex
   have HS:=Zh (show q++[(x,(i:Int))]=l++(L.take (k+1)).map fun r=>(r,(i:Int)) by
    obtain⟨h1,h2⟩:=List.getElem?_eq_some_iff.1 ex
    rw [<- HQ.o,List.take_succ_eq_append_getElem h1,h2];simp)
   have HPA:=Zh (Zni wr (x,(i:Int)));have HB1:=Zh (Zad wr (.cells #[.int .i64 x,.int .i64 (i:Int)] 175 (0,0)))
   go_wp2_with (at_builtin;refine Enc.appW Zp6 _ rfl (.tmp 16) (.tmp 20) rfl [(x,(i:Int))] B q _ wr.heap.size 0 1 rfl rfl HPA.o (HV.o.below HB1.o) (by simp;omega) (by simp;omega) (by simp;omega) ?_;intro v' w3 hown3 hg3;have HO3:=Zh hown3;have HG3:=Zh hg3;clear hown3 hg3)
   go_roundw
   case rel=>exact⟨k+1,_,ω,by go_num,rfl,by rw [<- HS.o];exact HO3.o,Zaj (Zah HU.o HB1.o) (HV.o.below HB1.o) (by decide) HG3.o,HG.o.trans ((Zbh.of_below HB1.o ω).trans HG3.o)⟩
   case measure=>exact msr
  ·go_wp2_with fail
   go_ret;refine⟨_,rfl,?_,by rw [hvz];exact HG.o⟩;rw [HP.o];have:=HQ.o;rw [List.take_of_length_le ω] at this;rw [this];exact HV.o
end
end
end Go.Proofs.YtgjefdaaihgliaaGreatDoor
namespace Go.Proofs.YtgjefdaaihgliaaGreatDoor
open Go.RowKit
open Go.Lib (compactUpTo keeps)
theorem Zi8:∀ f:Fr,f.all=f.size
 | .nil=>rfl
 | .cons _ _ _ _ _ kids rest=>by simp only [Fr.all,Fr.size,Zi8 kids,Zi8 rest];omega
theorem Zz9 {k t r:Int}{l:List UInt8}{v:Int}{n:Nat}(h:Zf2 2 k t r l v n=true):∀ x∈atL k t r l,Zf1 x:=by
 intro x hx;unfold atL at hx
 split at hx
 ·rename_i h2;exact m_82
 ·simp at hx
theorem Zjr:∀ f:Fr,okF 2 f->∀ x∈Za4 f,Zf1 x
 | .nil,_,x,hx=>by simp [Za4] at hx
 | .cons k t r l v kids rest,h,x,hx=>by
  simp only [Za4,List.mem_append] at hx;rcases hx with (hx | hx) | hx
  ·exact Zz9 h.1 x hx
  ·exact Zjr kids h.2.1 x hx
  ·exact Zjr rest h.2.2 x hx
theorem Zp2 {q k t r:Int}{l:List UInt8}{v:Int}{kids:Fr}(h:Zbg 2 q k t r l v kids=0):Zf2 2 k t r l v kids.len=true/\okF 2 kids/\1+kids.all<=1000000/\(∀ x∈atL k t r l++Za4 kids,Zf1 x)/\(atL k t r l++Za4 kids).length<=1024:=by
 obtain⟨_,_,_,h1,h2,h3⟩:=Zj0 h;have ha:=Zi8 kids;have hn:=Zda kids;have h4:(atL k t r l).length<=1:=by unfold atL;split <;> simp
 refine⟨h1,h2,ω,fun x hx=>?_,by simp;omega⟩;rcases List.mem_append.1 hx with hx | hx
 ·exact Zz9 h1 x hx
 ·exact Zjr kids h2 x hx
theorem Zj1 {α:Type}[Inhabited α][DecidableEq α](d:Array α):∀ m,m<=d.size->∀ x∈Lib.compactUpTo d m,x∈d.toList:=by
 intro m
 induction m with
 | zero=>intro _ x hx;simp [Lib.compactUpTo] at hx
 | succ m ih=>
  intro hm x hx;rw [Lib.compactUpTo_succ] at hx;rcases List.mem_append.1 hx with hx | hx
  ·exact ih ω x hx
  ·split at hx
   ·simp only [List.mem_singleton] at hx;subst hx;rw [getElem!_pos d m ω];simp
   ·simp at hx
theorem Zih {α:Type}[Inhabited α][DecidableEq α](d:Array α):∀ m,(Lib.compactUpTo d m).length<=m:=by
 intro m
 induction m with
 | zero=>simp [Lib.compactUpTo]
 | succ m ih=>
  rw [Lib.compactUpTo_succ,List.length_append]
  split <;> simp <;> omega
theorem Zr4 (L:List Th):(Zpn L).length<=L.length:=by
 have:=Zih (Zfr L).toArray (Zfr L).toArray.size;simpa [Zpn,Zkk] using this
theorem Zr6 (L:List Th):∀ x∈Zpn L,x∈L:=fun x hx=>(Zgx L).mem_iff.1 (by simpa using Zj1 (Zfr L).toArray _ (Nat.le_refl _) x hx)
def Zl9 (q k t r:Int)(l:List UInt8)(v:Int)(kids:Fr):List Th:=if Zbg 2 q k t r l v kids=0 then Zpn (atL k t r l++Za4 kids) else []
def Z87 (T:List Th)(E:Int)(w:World)(e:Ending)(w':World):Prop:=∃ u,e=.returned (.tuple #[u,.int .i64 E])/\Zsb w w' u T/\Below w.heap.size w w'
theorem Zsb.old {w0 w w':World}{v:Value}{T:List Th}(h:Zsb w w' v T)(hw:w0.heap.size<=w.heap.size):Zsb w0 w' v T:=by
 obtain⟨h1,h2⟩:=h;refine⟨h1,?_⟩;rcases h2 with h2 | ⟨g,cap,cur,rfl,h3,h4,h5⟩
 ·exact .inl h2
 ·exact .inr ⟨g,cap,cur,rfl,ω,h4,h5⟩
section
variable {w:World} {q k t r v:Int} {l:List UInt8} {kids:Fr}
set_option maxHeartbeats 2000000 in
set_option maxRecDepth 100000 in
theorem Z81 (hi:Nat)(kv:Value)(hhi:hi<=w.heap.size)(hs:Zd7 w hi kv kids)(hl:l.length<=9223372036854775807) :
  Calls Tryz.prog 43 #[Zx5 q k t r l v kv] w (Z87 (Zl9 q k t r l v kids) (Zbg 2 q k t r l v kids) w):=by
 obtain⟨A,cap,rfl,s'⟩:=hs;have hs2:Zd7 w hi (.slice A kids.len cap) kids:=⟨A,cap,rfl,s'⟩;have hb1:=Zad w (.cells #[.int .i64 q,.int .i64 k,.int .i64 t,.int .i64 r,.string ⟨l.toArray⟩,.int .i64 v,.slice A kids.len cap] 30 (0,0));have hs3:=hs2.below hhi hb1;have HS:=Zh hs3;have HSU:=Zh (hs3.up (show hi<=(w.alloc (.cells #[.int .i64 q,.int .i64 k,.int .i64 t,.int .i64 r,.string ⟨l.toArray⟩,.int .i64 v,.slice A kids.len cap] 30 (0,0))).heap.size by simp;omega));have HB1:=Zh hb1;have HBN:=Zh (Blk.new w 30 #[.int .i64 q,.int .i64 k,.int .i64 t,.int .i64 r,.string ⟨l.toArray⟩,.int .i64 v,.slice A kids.len cap]);by_cases hck:Zbg 2 q k t r l v kids=0
 ·obtain⟨ho,hk,hall,hv,hnl⟩:=Zp2 hck;have HCK:=Zh hck;have HTP:=Zh (fun (w2:World) (h1:hi<=w2.heap.size) (h2:Zd7 w2 hi (.slice A kids.len cap) kids)=>Z3r (w:=w2) (v:=v) hi _ h1 h2 hl hall hv);rw [show Zl9 q k t r l v kids=Zpn (atL k t r l++Za4 kids) by unfold Zl9;rw [if_pos hck],hck];obtain⟨L,hL⟩:∃ L,atL k t r l++Za4 kids=L:=⟨_,rfl⟩;rw [hL] at hnl HTP ⊢;have hul:=Zr4 L;go_enter Tryz.func43,Tryz.ntmps43
  go_wp2_with (first
   | (go_at_call 66;refine (Zt0 2 q k t r l v _ kids _ hl HSU.o).mono ?_;rw [HCK.o];rintro e w2 ⟨rfl,hb2⟩;have hB:=HBN.o.go hb2;have c1:=hB.cell 1;have c2:=hB.cell 2;have c3:=hB.cell 3;have c4:=hB.cell 4;have c5:=hB.cell 5;have c6:=hB.cell 6;have HB2:=Zh hb2;have hz2:=hb2.size;simp at hz2;have HS2:=Zh (HS.o.below (by simp;omega) hb2);clear hB hb2)
   | (go_at_call 71;refine (HTP.o _ ω HS2.o).mono ?_;rintro e w3 ⟨g,cg,rfl,hg,ht,hb3⟩;have HT:=Zh ht;have HG:=Zh hg;have HB3:=Zh hb3;have hz3:=hb3.size;clear ht hb3 hg)
   | (go_at_call 70;refine (Z4q g cg (Zpn L) ω HG.o HT.o).mono ?_;rintro e w4 ⟨v4,rfl,ho4,hb4⟩))
  go_ret2
  exact⟨v4,rfl,ho4.old ω,((HB1.o.trans (HB2.o.mono (by simp))).trans (HB3.o.mono ω)).trans (hb4.mono ω)⟩
 ·obtain⟨E,hE⟩:∃ E,Zbg 2 q k t r l v kids=E:=⟨_,rfl⟩;rw [show Zl9 q k t r l v kids=[] by unfold Zl9;rw [if_neg hck],hE];rw [hE] at hck;have HCK:=Zh hE;have e1:(E != 0)=true:=by simpa using hck
  go_enter Tryz.func43,Tryz.ntmps43
  go_wp2_with (go_at_call 66;refine (Zt0 2 q k t r l v _ kids _ hl HSU.o).mono ?_;rw [HCK.o];rintro e w2 ⟨rfl,hb2⟩)
  go_ret2
  exact⟨_,rfl,World.ownsRow_nil _ _ _ _,HB1.o.trans (hb2.mono (by simp))⟩
end
theorem Zle {x y:Th}(hx:Zf1 x)(hy:Zf1 y):Zh9 x y=decide (Zbw x y<0):=by
 have px:=Zfg ⟨x,hx⟩;have py:=Zfg ⟨y,hy⟩;simp only at px py;unfold Zh9 Zbw;have e0:=Zja ([]:List UInt8);by_cases h1:x.1=-1 <;> by_cases h2:y.1=-1
 ·have e1:x.1=y.1:=ω;have e2:x.2.1=y.2.1:=ω;simp [h1,h2,e2]
 ·simp [h1,h2]
 ·simp [h1,h2]
 ·by_cases h3:x.1=y.1
  ·by_cases h4:x.2.1=y.2.1
   ·have e3:x.2.2=[]:=by rcases px with p | p;exact absurd p.1 h1;exact p.2.2.2.2
    have e4:y.2.2=[]:=by rcases py with p | p;exact absurd p.1 h2;exact p.2.2.2.2
    simp [h2,h3,h4,e3,e4,e0]
   ·simp [h2,h3,h4];omega
  ·simp [h1,h2,h3];omega
theorem Zr0 {x:Th}(hx:Zf1 x):¬ Zbw x x<0:=by
 have:=Zgc.irrefl ⟨x,hx⟩;simpa [ltT] using this
theorem Zr2 {x y z:Th}(hx:Zf1 x)(hy:Zf1 y)(hz:Zf1 z)(h:Zbw x y<0)(k:Zbw y z<0):Zbw x z<0:=by
 have:=Zgc.trans ⟨x,hx⟩ ⟨y,hy⟩ ⟨z,hz⟩ (by simpa [ltT] using h) (by simpa [ltT] using k);simpa [ltT] using this
theorem Zwp {x y z:Th}(hx:Zf1 x)(hy:Zf1 y)(hz:Zf1 z)(h:¬ Zbw x y<0)(k:¬ Zbw y z<0):¬ Zbw x z<0:=by
 have:=Zgc.ntrans ⟨x,hx⟩ ⟨y,hy⟩ ⟨z,hz⟩ (by simpa [ltT] using h) (by simpa [ltT] using k);simpa [ltT] using this
theorem Zr1 {x y:Th}(hx:Zf1 x)(hy:Zf1 y)(h:¬ Zbw x y<0)(k:¬ Zbw y x<0):x=y:=by
 have:=Zoz ⟨x,hx⟩ ⟨y,hy⟩ (by simpa [ltT] using h) (by simpa [ltT] using k);exact congrArg Subtype.val this
theorem Z3d {x y:Th}(hx:Zf1 x)(hy:Zf1 y)(h:Zbw x y<0):¬ Zbw y x<0:=fun k=>Zr0 hx (Zr2 hx hy hx h k)
theorem Znl (x:Th):∀ (l:List Th) (z:Th),z∈Zkh x l↔z=x\/z∈l
 | [],z=>by simp [Zkh]
 | y :: r,z=>by
  unfold Zkh
  split
  ·simp
  ·simp only [List.mem_cons,Znl x r]
   constructor
   ·rintro (h | h | h)
    ·exact .inr (.inl h)
    ·exact .inl h
    ·exact .inr (.inr h)
   ·rintro (h | h | h)
    ·exact .inr (.inl h)
    ·exact .inl h
    ·exact .inr (.inr h)
theorem Zrg (x:Th)(l:List Th)(z:Th):z∈Zou x l↔z=x\/z∈l:=by
 unfold Zou
 split
 ·rename_i h
  constructor
  ·exact .inr
  ·rintro (rfl | k)
   ·exact h
   ·exact k
 ·exact Znl x l z
theorem Zmp:∀ (L acc:List Th) (z:Th),z∈Zkt L acc↔z∈acc\/z∈L
 | [],acc,z=>by simp [Zkt]
 | x :: L,acc,z=>by
  have:=Zmp L (Zou x acc) z;simp only [Zkt,List.foldl_cons] at this ⊢;rw [this,Zrg,List.mem_cons]
  constructor
  ·rintro ((h | h) | h)
   ·exact .inr (.inl h)
   ·exact .inl h
   ·exact .inr (.inr h)
  ·rintro (h | h | h)
   ·exact .inl (.inr h)
   ·exact .inl (.inl h)
   ·exact .inr h
def Str (T:List Th):Prop:=T.Pairwise fun x y=>Zbw x y<0
theorem Zrr {x:Th}(hx:Zf1 x):∀ {l:List Th},(∀ y∈l,Zf1 y)->x∉l->Str l->Str (Zkh x l)
 | [],_,_,_=>by simp [Zkh,Str]
 | y :: r,hv,hn,hs=>by
  have hy:=hv y (by simp);have hsr:=List.pairwise_cons.1 hs;unfold Zkh
  split
  ·rename_i hb;rw [Zle hx hy,decide_eq_true_iff] at hb;refine List.pairwise_cons.2 ⟨fun z hz=>?_,hs⟩;rcases List.mem_cons.1 hz with rfl | hz
   ·exact hb
   ·exact Zr2 hx hy (hv z (by simp [hz])) hb (hsr.1 z hz)
  ·rename_i hb;rw [Zle hx hy,decide_eq_true_iff] at hb;refine List.pairwise_cons.2 ⟨fun z hz=>?_,Zrr hx (fun z hz=>hv z (by simp [hz])) (fun h=>hn (by simp [h])) hsr.2⟩;rcases (Znl x r z).1 hz with rfl | hz
   ·exact Decidable.byContradiction fun h=>hn (by simp [Zr1 hx hy hb h])
   ·exact hsr.1 z hz
theorem Zyo {x:Th}(hx:Zf1 x){l:List Th}(hv:∀ y∈l,Zf1 y)(hs:Str l):Str (Zou x l):=by
 unfold Zou
 split
 ·exact hs
 ·rename_i h;exact Zrr hx hv h hs
theorem Zrb:∀ (L acc:List Th),(∀ x∈L,Zf1 x)->(∀ x∈acc,Zf1 x)->Str acc->Str (Zkt L acc)
 | [],_,_,_,h=>h
 | x :: L,acc,hL,ha,hs=>by
  have hx:=hL x (by simp)
  exact Zrb L (Zou x acc) (fun y hy=>hL y (by simp [hy])) (fun y hy=>by
   rcases (Zrg x acc y).1 hy with rfl | hy
   ·exact hx
   ·exact ha y hy) (Zyo hx ha hs)
theorem Zl1:∀ {a b:List Th},(∀ x∈a,Zf1 x)->Str a->Str b->(∀ x,x∈a↔x∈b)->a=b
 | [],[],_,_,_,_=>rfl
 | [],y :: b,_,_,_,h=>absurd ((h y).2 (by simp)) (by simp)
 | x :: a,[],_,_,_,h=>absurd ((h x).1 (by simp)) (by simp)
 | x :: a,y :: b,hv,ha,hb,h=>by
  have ha':=List.pairwise_cons.1 ha;have hb':=List.pairwise_cons.1 hb;have hxv:=hv x (by simp);have hyv:=hv y ((h y).2 (by simp));have hxy:x=y:=by
   rcases List.mem_cons.1 ((h x).1 (by simp)) with e | e
   ·exact e
   rcases List.mem_cons.1 ((h y).2 (by simp)) with e' | e'
   ·exact e'.symm
   exact absurd (ha'.1 y e') (Z3d hyv hxv (hb'.1 x e))
  subst hxy
  congr 1
  refine Zl1 (fun z hz=>hv z (by simp [hz])) ha'.2 hb'.2 fun z=>?_
  constructor
  ·intro hz;rcases List.mem_cons.1 ((h z).1 (by simp [hz])) with e | e
   ·subst e;exact absurd (ha'.1 _ hz) (Zr0 hxv)
   ·exact e
  ·intro hz;rcases List.mem_cons.1 ((h z).2 (by simp [hz])) with e | e
   ·subst e;exact absurd (hb'.1 _ hz) (Zr0 hxv)
   ·exact e
theorem Zs6 {L:List Th}(hv:∀ x∈L,Zf1 x):(Zfr L).Pairwise fun x y=>¬ Zbw y x<0:=by
 rw [<- Zr8 L hv,List.pairwise_map]
 have:=List.pairwise_mergeSort (le:=fun x y:VTh=>!ltT y x) (fun a b c h k=>by
  simp only [Bool.not_eq_true'] at h k ⊢;exact Zgc.ntrans c b a k h) (fun a b=>by
  cases h:ltT b a with
  | false=>simp
  | true=>
   cases k:ltT a b with
   | false=>simp
   | true=>have:=Zgc.irrefl a;rw [Zgc.trans a b a k h] at this;cases this) (toV L hv)
 refine this.imp fun {x y} h=>?_
 simpa [ltT,Zzx] using h
theorem Zzu {L:List Th}(hv:∀ x∈L,Zf1 x):Str (Zpn L):=by
 have hp:=Zs6 hv;have hvs:∀ x∈Zfr L,Zf1 x:=fun x hx=>hv x ((Zgx L).mem_iff.1 hx)
 obtain⟨S,hS⟩:∃ S,Zfr L=S:=⟨_,rfl⟩;unfold Zpn;rw [hS] at hp hvs ⊢;rw [List.pairwise_iff_getElem] at hp;have hget:∀ i,(h:i<S.length)->S.toArray[i]! = S[i]:=fun i h=>by rw [getElem!_pos S.toArray i (by simpa using h)];simp
 unfold compactUpTo Str;rw [List.pairwise_map];have hr:((List.range S.toArray.size).filter (keeps S.toArray)).Pairwise (·<·):=List.Pairwise.filter _ List.pairwise_lt_range;refine List.Pairwise.imp_of_mem (fun {i j} hi hj hij=>?_) hr;simp only [List.mem_filter,List.mem_range,List.size_toArray] at hi hj;have hk:=hj.2;unfold keeps at hk;rw [decide_eq_true_iff] at hk;have hk':=hk.resolve_left ω;rw [hget i hi.1,hget j hj.1];rw [hget j hj.1,hget (j - 1) ω] at hk';have vi:=hvs S[i] (List.getElem_mem hi.1);have vj:=hvs S[j] (List.getElem_mem hj.1);have vm:=hvs S[j - 1] (List.getElem_mem ω);have h1:¬ Zbw S[j] S[j - 1]<0:=hp (j - 1) j ω hj.1 ω;have h2:¬ Zbw S[j - 1] S[i]<0:=by
  by_cases e:i=j - 1
  ·subst e;exact Zr0 vm
  ·exact hp i (j - 1) hi.1 ω ω
 refine Decidable.byContradiction fun h3=>?_
 have h4:¬ Zbw S[j - 1] S[j]<0:=Zwp vm vi vj h2 h3;exact hk' (Zr1 vj vm h1 h4)
theorem Zp0 (d:Array Th):∀ m,m<=d.size->∀ i,i<m->d[i]!∈compactUpTo d m:=by
 intro m
 induction m with
 | zero=>intro _ i hi;omega
 | succ m ih=>
  exact m_35
theorem Zzt (L:List Th)(x:Th):x∈Zpn L↔x∈L:=by
 refine⟨Zr6 L x,fun h=>?_⟩;obtain⟨i,hi,rfl⟩:=List.mem_iff_getElem.1 ((Zgx L).mem_iff.2 h);have:=Zp0 (Zfr L).toArray (Zfr L).toArray.size (Nat.le_refl _) i (by simpa using hi);rw [getElem!_pos (Zfr L).toArray i (by simpa using hi)] at this;simpa [Zpn] using this
theorem Zop {L:List Th}(hv:∀ x∈L,Zf1 x):Zkt L []=Zpn L:=by
 refine Zl1 (fun x hx=>?_) (Zrb L [] hv (fun _ h=>by simp at h) List.Pairwise.nil) (Zzu hv) fun x=>?_
 ·rcases (Zmp L [] x).1 hx with h | h
  ·simp at h
  ·exact hv x h
 ·rw [Zmp,Zzt];simp
end Go.Proofs.YtgjefdaaihgliaaGreatDoor
namespace Go.Proofs.YtgjefdaaihgliaaGreatDoor
open Go.RowKit
open Go.Lib (compactUpTo keeps)
abbrev Nm:=List UInt8
def ltN (a b:Nm):Bool:=decide (Lib.compareBytes a b<0)
theorem Zhr (a b:Nm):Op.bytesLess a b=ltN a b:=Zmv a b
theorem Z5g (a b:Nm):decide (a<b)=ltN a b:=by rw [<- Zhr,bytesLess_eq]
theorem Zg8 (a:Nm):ltN a a=false:=by simp [ltN,Zja]
theorem Zoy {a b c:Nm}(h:ltN a b=true)(k:ltN b c=true):ltN a c=true:=by
 simp only [ltN,decide_eq_true_eq] at *;exact Zig a b c h k
theorem Zlj {a b c:Nm}(h:ltN a b=false)(k:ltN b c=false):ltN a c=false:=by
 simp only [ltN,decide_eq_false_iff_not] at *;exact Zg6 a b c h k
theorem Z0q {a b:Nm}(h:ltN a b=false)(k:ltN b a=false):a=b:=by
 simp only [ltN,decide_eq_false_iff_not] at *;exact Zpy a b h k
theorem Zm0 {a b:Nm}(h:ltN a b=true):ltN b a=false:=by
 cases k:ltN b a with
 | false=>rfl
 | true=>have:=Zoy h k;rw [Zg8] at this;cases this
theorem Z2m (a:Nm):ltN a []=false:=by
 cases a <;> simp [ltN,Lib.compareBytes]
def Zi3 (l:List Nm):Prop:=l.Pairwise fun x y=>ltN x y=true
theorem Zhc:∀ {a b:List Nm},Zi3 a->Zi3 b->(∀ x,x∈a↔x∈b)->a=b
 | [],[],_,_,_=>rfl
 | [],y :: b,_,_,h=>absurd ((h y).2 (by simp)) (by simp)
 | x :: a,[],_,_,h=>absurd ((h x).1 (by simp)) (by simp)
 | x :: a,y :: b,ha,hb,h=>by
  have ha':=List.pairwise_cons.1 ha;have hb':=List.pairwise_cons.1 hb;have hxy:x=y:=by
   rcases List.mem_cons.1 ((h x).1 (by simp)) with e | e
   ·exact e
   rcases List.mem_cons.1 ((h y).2 (by simp)) with e' | e'
   ·exact e'.symm
   have h1:=Zm0 (ha'.1 y e');rw [hb'.1 x e] at h1;cases h1
  subst hxy
  congr 1
  refine Zhc ha'.2 hb'.2 fun z=>?_
  constructor
  ·intro hz;rcases List.mem_cons.1 ((h z).1 (by simp [hz])) with e | e
   ·subst e;have:=ha'.1 _ hz;rw [Zg8] at this;cases this
   ·exact e
  ·intro hz;rcases List.mem_cons.1 ((h z).2 (by simp [hz])) with e | e
   ·subst e;have:=hb'.1 _ hz;rw [Zg8] at this;cases this
   ·exact e
def Zfe (L:List Nm):List Nm:=L.mergeSort fun x y=>decide (x<=y)
theorem Zdv (L:List Nm):(Zfe L).Perm L:=List.mergeSort_perm _ _
theorem leN (x y:Nm):decide (x<=y)=!ltN y x:=by
 rw [<- Z5g,Bool.eq_iff_iff];simp
theorem Zs5 (L:List Nm):(Zfe L).Pairwise fun x y=>ltN y x=false:=by
 have:=List.pairwise_mergeSort (le:=fun x y:Nm=>decide (x<=y)) (fun a b c h k=>by
  rw [leN] at *;simp only [Bool.not_eq_true'] at *;exact Zlj k h) (fun a b=>by
  rw [leN,leN];cases h:ltN b a with
  | false=>simp
  | true=>simp [Zm0 h]) L
 refine this.imp fun {x y} h=>?_
 rw [leN] at h;simpa using h
theorem Zob (d:Array Nm):∀ m,m<=d.size->∀ i,i<m->d[i]!∈compactUpTo d m:=by
 intro m
 induction m with
 | zero=>intro _ i hi;omega
 | succ m ih=>
  exact m_35
def Zkz (L:List Nm):List Nm:=Lib.compact (Zfe L)
theorem Zpr (L:List Nm):Zi3 (Zkz L):=by
 have hp:=Zs5 L;unfold Zkz;obtain⟨S,hS⟩:∃ S,Zfe L=S:=⟨_,rfl⟩;rw [hS] at hp ⊢;rw [List.pairwise_iff_getElem] at hp;have hget:∀ i,(h:i<S.length)->S.toArray[i]! = S[i]:=fun i h=>by rw [getElem!_pos S.toArray i (by simpa using h)];simp
 unfold Lib.compact compactUpTo Zi3;rw [List.pairwise_map];have hr:((List.range S.length).filter (keeps S.toArray)).Pairwise (·<·):=List.Pairwise.filter _ List.pairwise_lt_range;refine List.Pairwise.imp_of_mem (fun {i j} hi hj hij=>?_) hr;simp only [List.mem_filter,List.mem_range] at hi hj;have hk:=hj.2;unfold keeps at hk;rw [decide_eq_true_iff] at hk;have hk':=hk.resolve_left ω;rw [hget i hi.1,hget j hj.1];rw [hget j hj.1,hget (j - 1) ω] at hk';have h1:ltN S[j] S[j - 1]=false:=hp (j - 1) j ω hj.1 ω;have h2:ltN S[j - 1] S[i]=false:=by
  by_cases e:i=j - 1
  ·subst e;exact Zg8 _
  ·exact hp i (j - 1) hi.1 ω ω
 refine Decidable.byContradiction fun h3=>?_
 have h4:ltN S[j - 1] S[j]=false:=Zlj h2 (by simpa using h3);exact hk' (Z0q h1 h4)
theorem Zw5 (L:List Nm)(x:Nm):x∈Zkz L↔x∈L:=by
 unfold Zkz Lib.compact;refine⟨fun h=>(Zdv L).mem_iff.1 (by simpa using Zj1 _ _ (by simp) x h),fun h=>?_⟩;obtain⟨i,hi,rfl⟩:=List.mem_iff_getElem.1 ((Zdv L).mem_iff.2 h);have:=Zob (Zfe L).toArray (Zfe L).length (by simp) i hi
 rwa [getElem!_pos (Zfe L).toArray i (by simpa using hi)] at this
theorem Zw4 (L:List Nm):(Zkz L).length<=L.length:=by
 have:=Zih (Zfe L).toArray (Zfe L).length;unfold Zkz Lib.compact;have hl:=(Zdv L).length_eq;omega
def Zpx (L:List Nm):List Nm:=match L with
 | [] :: r=>r
 | l=>l
def Zdq (L:List Nm):List Nm:=Zpx (Zkz L)
theorem Zt9 {L:List Nm}(h:Zi3 L):Zi3 (Zpx L):=by
 unfold Zpx
 split
 ·exact (List.pairwise_cons.1 h).2
 ·exact h
theorem Zt8 {L:List Nm}(h:Zi3 L)(x:Nm):x∈Zpx L↔x∈L/\x≠[]:=by
 unfold Zpx
 split
 ·rename_i r;have hh:=List.pairwise_cons.1 h
  constructor
  ·intro hx;refine⟨by simp [hx],fun e=>?_⟩;subst e;have:=hh.1 _ hx;rw [Zg8] at this;cases this
  ·rintro⟨hx,hne⟩;rcases List.mem_cons.1 hx with e | e
   ·exact absurd e hne
   ·exact e
 ·rename_i hne;refine⟨fun hx=>⟨hx,fun e=>?_⟩,fun hx=>hx.1⟩;subst e;cases L with
  | nil=>simp at hx
  | cons y r=>
   have hh:=List.pairwise_cons.1 h;rcases List.mem_cons.1 hx with e | e
   ·subst e;exact hne r rfl
   ·have:=hh.1 _ e;rw [Z2m] at this;cases this
theorem Zgb (L:List Nm):Zi3 (Zdq L):=Zt9 (Zpr L)
theorem Ze9 (L:List Nm)(x:Nm):x∈Zdq L↔x∈L/\x≠[]:=by
 unfold Zdq;rw [Zt8 (Zpr L),Zw5]
def Zot (s:Nm):List Nm->List Nm
 | []=>[s]
 | y :: r=>if ltN s y then s :: y :: r else y :: Zot s r
def Zkw (l:List Nm)(s:Nm):List Nm:=if s=[]\/s∈l then l else Zot s l
theorem Zmq (s:Nm):∀ (l:List Nm) (x:Nm),x∈Zot s l↔x=s\/x∈l
 | [],x=>by simp [Zot]
 | y :: r,x=>by
  unfold Zot
  split
  ·simp
  ·simp only [List.mem_cons,Zmq s r]
   constructor <;> (intro h;rcases h with h | h | h <;> simp [h])
theorem Zrf (s:Nm):∀ {l:List Nm},s∉l->Zi3 l->Zi3 (Zot s l)
 | [],_,_=>by simp [Zot,Zi3]
 | y :: r,hn,h=>by
  have hh:=List.pairwise_cons.1 h;unfold Zot
  split
  ·rename_i hs;refine List.pairwise_cons.2 ⟨fun z hz=>?_,h⟩;rcases List.mem_cons.1 hz with e | e
   ·subst e;exact hs
   ·exact Zoy hs (hh.1 z e)
  ·rename_i hs;have hs':ltN s y=false:=by simpa using hs
   have hys:ltN y s=true:=by
    cases k:ltN y s with
    | true=>rfl
    | false=>exact absurd (Z0q hs' k) (fun e=>hn (by simp [e]))
   refine List.pairwise_cons.2 ⟨fun z hz=>?_,Zrf s (fun e=>hn (by simp [e])) hh.2⟩;rcases (Zmq s r z).1 hz with e | e
   ·subst e;exact hys
   ·exact hh.1 z e
theorem Zyl (l:List Nm)(s x:Nm):x∈Zkw l s↔(x=s/\s≠[])\/x∈l:=by
 unfold Zkw
 split
 ·rename_i h;refine⟨Or.inr,fun hx=>?_⟩;rcases hx with ⟨rfl,hne⟩ | hx
  ·rcases h with h | h
   ·exact absurd h hne
   ·exact h
  ·exact hx
 ·rename_i h;rw [Zmq];have:s≠[]:=fun e=>h (Or.inl e)
  simp [this]
theorem Zym {l:List Nm}(h:Zi3 l)(s:Nm):Zi3 (Zkw l s):=by
 unfold Zkw
 split
 ·exact h
 ·rename_i hn;exact Zrf s (fun e=>hn (Or.inr e)) h
theorem Zom:∀ (L:List Nm) {l:List Nm},Zi3 l->Zi3 (L.foldl Zkw l)
 | [],_,h=>h
 | s :: L,_,h=>Zom L (Zym h s)
theorem Zol:∀ (L l:List Nm) (x:Nm),x∈L.foldl Zkw l↔(x∈L/\x≠[])\/x∈l
 | [],l,x=>by simp
 | s :: L,l,x=>by
  rw [List.foldl_cons,Zol L,Zyl]
  constructor
  ·rintro (⟨h1,h2⟩ | ⟨rfl,h2⟩ | h)
   ·exact Or.inl ⟨by simp [h1],h2⟩
   ·exact Or.inl ⟨by simp,h2⟩
   ·exact Or.inr h
  ·rintro (⟨h1,h2⟩ | h)
   ·rcases List.mem_cons.1 h1 with e | e
    ·subst e;exact Or.inr (Or.inl ⟨rfl,h2⟩)
    ·exact Or.inl ⟨e,h2⟩
   ·exact Or.inr (Or.inr h)
theorem Zsr (L:List Nm):L.foldl Zkw []=Zdq L:=
 Zhc (Zom L List.Pairwise.nil) (Zgb L) fun x=>by rw [Zol,Ze9];simp
def Zel (T:Tst):List Nm:=(T.init.flatMap fun x=>[x.loc,x.vl])++((T.code.flatMap fun c=>c.map fun x=>x.loc)++(Zl9 T.q T.k T.t T.r T.l T.v T.kids).map fun x=>x.2.2)
end Go.Proofs.YtgjefdaaihgliaaGreatDoor
namespace Go.Proofs.YtgjefdaaihgliaaGreatDoor
open Go.RowKit
open Go.Sort (Holds putRow mapBlock putCells grow onCells)
theorem Zsp (l:List Nm):Zc1.flat l=l.map encStr:=by
 induction l with
 | nil=>rfl
 | cons x r ih=>rw [Enc.flat_cons,ih];rfl
theorem Z0k {B g n cap:Nat}{w:World}{l:List Nm}(h:Zc1.Own 9 B w (.slice (some ⟨g,0,none⟩) n cap) l)(hn:n=l.length):Holds encStr w g 0 l.toArray/\∃ cur,w.heap[g]?=some (.cells cur 9 (0,0))/\l.length<=cap/\cap<=maxLen/\cur.size=cap/\B<=g/\cur.toList.take l.length=l.map encStr:=by
 subst hn;have h':=h;rcases h.2 with ⟨e,h0⟩ | ⟨g',cap',cur,e,h1,h2,h3,h4,h5,h6⟩
 ·simp at e
 ·simp only [Value.slice.injEq,Option.some.injEq,Addr.mk.injEq,and_true,true_and] at e;obtain⟨rfl,rfl⟩:=e;have h6':cur.toList.take l.length=l.map encStr:=by
   rw [<- Zsp,<- h6];congr 1;show l.length=l.length*1;omega
  refine⟨fun j hj=>⟨?_,(show Blk w g 9 cur from h2).frozen _⟩,cur,h2,h3,h4,by rw [h5];show cap*1=cap;omega,h1,h6'⟩;simp only [List.size_toArray] at hj;rw [Nat.zero_add,h'.cellAt j (by show j<l.length*1;omega),Zsp,List.getElem?_map,List.getElem?_eq_getElem hj,getElem!_pos l.toArray j (by simpa using hj)];simp
theorem Zhx (d:List Nm)(cur:Array Value)(h:d.length<=cur.size):(putCells encStr 0 d.toArray cur).toList.take d.length=d.map encStr:=by
 apply List.ext_getElem?;intro i;rw [List.getElem?_take];by_cases hi:i<d.length
 ·rw [if_pos hi,List.getElem?_map,List.getElem?_eq_getElem hi];exact m_76
 ·rw [if_neg hi,List.getElem?_map,List.getElem?_eq_none ω];rfl
theorem Zrs {w:World}{g q:Nat}{cur:Array Value}{os:Array Obj}{d:Array Nm}(h:w.heap[g]?=some (.cells cur 9 (0,0))):(grow (putRow encStr (Sort.ahead w q) g 0 d) os).heap[g]?=some (.cells (putCells encStr 0 d cur) 9 (0,0)):=by
 have hlt:=(Array.getElem?_eq_some_iff.1 h).1;have h2:(putRow encStr (Sort.ahead w q) g 0 d).heap[g]?=some (.cells (putCells encStr 0 d cur) 9 (0,0)):=by
  simp only [putRow,mapBlock,Array.getElem?_modify];rw [if_pos trivial];show (w.heap[g]?).map _=_;rw [h];rfl
 rw [Sort.heap_grow_old _ _ (by simp [putRow,mapBlock,Sort.ahead];exact hlt)];exact h2
theorem Zpf {w:World}{g q B:Nat}{os:Array Obj}{d:Array Nm}(hB:B<=g)(hg:g<w.heap.size):Below B w (grow (putRow encStr (Sort.ahead w q) g 0 d) os):=
 ⟨rfl,rfl,rfl,by show w.heap.size<=((w.heap.modify g _)++os).size;simp,fun i hi=>by
  rw [Sort.heap_grow_old _ _ (by simp [putRow,mapBlock,Sort.ahead];omega)];simp only [putRow,mapBlock,Array.getElem?_modify]
  rw [if_neg ω];rfl⟩
theorem Zrt (d:Array Nm)(cur:Array Value):(putCells encStr 0 d cur).size=cur.size:=by simp [putCells]
theorem Z3a (v:Value)(l:List Nm)(B:Nat)(w:World)(h:Zc1.Own 9 B w v l)(hl:l.length<=1000000):Calls Tryz.prog 115 #[v] w fun e w'=>e=.returned (.tuple #[])/\Zc1.Own 9 B w' v (Zfe l)/\Below B w w':=by
 have hsl:(Zfe l).length=l.length:=(Zdv l).length_eq;obtain⟨A,cap,rfl⟩:=h.shp;rcases h.2 with ⟨e,h0⟩ | ⟨g,cap',cur0,e,_⟩
 ·have hl0:l=[]:=List.length_eq_zero_iff.1 h0;subst hl0;refine (Tryz.slices_Sort_string_none A cap w).mono fun e w' ⟨h1,h2⟩=>⟨h1,?_,?_⟩
  ·subst h2;have:Zfe ([]:List Nm)=[]:=List.length_eq_zero_iff.1 hsl;rw [this];exact h
  ·rw [h2];exact Below.refl _ _
 ·simp only [Value.slice.injEq,true_and] at e;obtain⟨rfl,rfl⟩:=e;obtain⟨hH,cur,hg,h3,h4,h5,h6,h7⟩:=Z0k h rfl;have hlt:=(Array.getElem?_eq_some_iff.1 hg).1;refine (Tryz.slices_Sort_string g 0 cap l w hH hlt ω).mono fun e w' ⟨h1,n,os,h2⟩=>⟨h1,?_,?_⟩
  ·subst h2;show World.ownsRow _ B 9 1 _ (Zfe l).length (Zc1.flat (Zfe l));refine⟨by rw [Enc.flat_len],Or.inr ⟨g,cap,_,by rw [hsl],h6,Zrs hg,by rw [hsl];exact h3,h4,by rw [Zrt,h5];omega,?_⟩⟩;rw [Nat.mul_one,Zsp];exact Zhx (Zfe l) cur (by rw [hsl];omega)
  ·subst h2;exact Zpf h6 hlt
theorem Zoc (l:List Nm):(Lib.compact l).length<=l.length:=by
 have:=Zih l.toArray l.length;exact this
theorem Z13 (v:Value)(l:List Nm)(B:Nat)(w:World)(h:Zc1.Own 9 B w v l)(hl:l.length<=1000000):Calls Tryz.prog 116 #[v] w fun e w'=>∃ v',e=.returned v'/\Zc1.Own 9 B w' v' (Lib.compact l)/\Below B w w':=by
 have hcl:=Zoc l;obtain⟨A,cap,rfl⟩:=h.shp;rcases h.2 with ⟨e,h0⟩ | ⟨g,cap',cur0,e,_⟩
 ·have hl0:l=[]:=List.length_eq_zero_iff.1 h0;subst hl0;refine (Tryz.slices_Compact_string_empty A cap w).mono fun e w' ⟨h1,h2⟩=>⟨_,h1,?_,?_⟩
  ·subst h2;exact h
  ·rw [h2];exact Below.refl _ _
 ·simp only [Value.slice.injEq,true_and] at e;obtain⟨rfl,rfl⟩:=e;obtain⟨hH,cur,hg,h3,h4,h5,h6,h7⟩:=Z0k h rfl;have hlt:=(Array.getElem?_eq_some_iff.1 hg).1;refine (Tryz.slices_Compact_string g 0 cap l w hH ω h3).mono fun e w' ⟨h1,q,h2⟩=>⟨_,h1,?_,?_⟩
  ·have h2':w'=grow (putRow encStr (Sort.ahead w q) g 0 (Lib.compact l++List.replicate (l.length - (Lib.compact l).length) []).toArray) #[]:=by rw [h2];simp
   subst h2';show World.ownsRow _ B 9 1 _ (Lib.compact l).length (Zc1.flat (Lib.compact l));refine⟨by rw [Enc.flat_len],Or.inr ⟨g,cap,_,rfl,h6,Zrs hg,ω,h4,by rw [Zrt,h5];omega,?_⟩⟩;rw [Nat.mul_one,Zsp];have hp:=Zhx (Lib.compact l++List.replicate (l.length - (Lib.compact l).length) []) cur (by simp;omega);have:=congrArg (List.take (Lib.compact l).length) hp;rw [List.take_take,List.map_append,List.take_append_of_le_length (by simp)] at this;rw [Nat.min_eq_left (by simp)] at this;rw [this,List.take_of_length_le (by simp)]
  ·have h2':w'=grow (putRow encStr (Sort.ahead w q) g 0 (Lib.compact l++List.replicate (l.length - (Lib.compact l).length) []).toArray) #[]:=by rw [h2];simp
   rw [h2'];exact Zpf h6 hlt
end Go.Proofs.YtgjefdaaihgliaaGreatDoor
namespace Go.Proofs.YtgjefdaaihgliaaGreatDoor
open Go.RowKit
section
def Zhy (s:Nm):List Nm->Bool->List Nm
 | [],d=>if d then [] else [s]
 | y :: r,d=>(if d then [] else if ltN s y then [s] else [])++y :: Zhy s r (d||ltN s y)
theorem Zlx (s:Nm):∀ l,Zhy s l true=l
 | []=>rfl
 | y :: r=>by simp [Zhy,Zlx s r]
theorem Zlw (s:Nm):∀ l,Zhy s l false=Zot s l
 | []=>rfl
 | y :: r=>by
  unfold Zhy Zot;cases h:ltN s y with
  | true=>simp [Zlx]
  | false=>simp [Zlw s r]
def Zlc (B:Nat)(w:World)(A:Option Addr)(cap:Nat)(l:List Nm):Prop:=B<=w.heap.size/\Zc1.Own 9 B w (.slice A l.length cap) l
theorem Zlc.below {B:Nat}{w w':World}{A:Option Addr}{cap:Nat}{l:List Nm}(h:Zlc B w A cap l)(hb:Below w.heap.size w w'):Zlc B w' A cap l:=⟨Nat.le_trans h.1 hb.size,h.2.below hb⟩
theorem Zlc.at {B:Nat}{w:World}{A:Option Addr}{cap:Nat}{l:List Nm}(h:Zlc B w A cap l):Zc1.At w A l:=by
 obtain⟨A',cap',e,hat,_⟩:=h.2.at_;cases e
 exact hat
theorem Zlc.nil {B:Nat}{w:World}(h:B<=w.heap.size):Zlc B w none 0 []:=⟨h,Enc.Own.nil _ _ _⟩
theorem Zlc.of {B B2:Nat}{w:World}{A:Option Addr}{cap n:Nat}{l:List Nm}(h:Zc1.Own 9 B w (.slice A n cap) l)(hn:n=l.length)(hB:B2<=B)(hw:B<=w.heap.size):Zlc B2 w A cap l:=by
 subst hn;refine⟨Nat.le_trans hB hw,h.1,?_⟩;rcases h.2 with e | ⟨g,cap,cur,e,h1,h2⟩
 ·exact Or.inl e
 ·exact Or.inr ⟨g,cap,cur,e,Nat.le_trans hB h1,h2⟩
def Z08 (B:Nat)(l:List Nm)(w:World)(e:Ending)(w':World):Prop:=∃ A cap,e=.returned (.slice A l.length cap)/\Zlc B w' A cap l/\Below w.heap.size w w'
theorem Z08.mk {B:Nat}{l l2:List Nm}{w w':World}{e:Ending}{A:Option Addr}{cap:Nat}(h:l2=l)(he:e=.returned (.slice A l2.length cap))(hat:Zlc B w' A cap l2)(hb:Below w.heap.size w w'):Z08 B l w e w':=by
 subst h;exact⟨A,cap,he,hat,hb⟩
theorem Zng (w:World)(a:Nm):Zc1.At (w.alloc (.cells #[.string ⟨a.toArray⟩] 9 (0,0))) (some ⟨w.heap.size,0,none⟩) [a]:=by
 have hB:=Blk.new w 9 #[.string ⟨a.toArray⟩];intro i x hx;refine⟨w.heap.size,0,rfl,fun j u hj=>?_⟩;have hj0:j=0:=by
  have:=(List.getElem?_eq_some_iff.1 hj).1;simp at this;omega
 subst hj0;simp at hj;subst hj;rw [show 0+i*Zc1.size+0=i from by show 0+i*1+0=i;omega,hB.cell]
 match i,hx with
 | 0,hx=>simp at hx;subst hx;rfl
theorem Z4m {w:World}{A:Option Addr}{l:List Nm}(h:Zc1.At w A l){i:Nat}{x:Nm}(hx:l[i]?=some x):∃ b o,A=some ⟨b,o,none⟩/\w.cell? ⟨b,o+i,none⟩=some (.string ⟨x.toArray⟩):=by
 obtain⟨b,o,e,hc⟩:=h i x hx;refine⟨b,o,e,?_⟩;have:=hc 0 _ rfl
 rwa [show o+i*Zc1.size+0=o+i by show o+i*1+0=o+i;omega] at this
section
set_option maxHeartbeats 4000000
set_option maxRecDepth 100000
theorem Zrq {B:Nat}(A:Option Addr)(cap:Nat)(l:List Nm)(s:Nm)(w:World)(hl:l.length<=1000000)(h:Zlc B w A cap l) :
  Calls Tryz.prog 132 #[.slice A l.length cap,.string ⟨s.toArray⟩] w (Z08 B (Zkw l s) w):=by
 have HOW:=Zh h;have HA:=Zh h.at;by_cases hs:s=[]
 ·subst hs;have HE:=Zh (show l=Zkw l [] by simp [Zkw]);go_enter Tryz.func132,Tryz.ntmps132
  go_wp2_with fail
  go_ret;exact Z08.mk HE.o rfl HOW.o (Below.refl _ _)
 ·have hs2:(s == [])=false:=by simpa using hs
  have hs3:s.isEmpty=false:=by simpa using hs
  go_enter Tryz.func132,Tryz.ntmps132
  go_wp2_with fail
  go_loopw [7,5,6] (fun i vv dd wr=>∃ (k:Nat) (o:List Nm) (d:Bool),k<=l.length/\i=.int .i64 k/\dd=.bool d/\(∀ j x,j<k->l[j]?=some x->x≠s)/\o.length<=k+d.toNat/\Zc1.Own 9 w.heap.size wr vv o/\o++Zhy s (l.drop k) d=Zot s l/\Below w.heap.size w wr) (fun i _ _ _=>l.length - (intOf i).toNat)
  case atStart=>exact⟨0,[],false,Nat.zero_le _,rfl,rfl,(fun j x hj=>absurd hj (Nat.not_lt_zero _)),by simp,Enc.Own.nil _ _ _,by rw [List.nil_append,List.drop_zero,Zlw],Below.refl _ _⟩
  case round=>
   obtain⟨k,o,d,hk,rfl,rfl,hno,hol,hv,he,hb⟩:=hrel;obtain⟨Av,cv,rfl⟩:=hv.shp;have HNO:=Zh hno;have HOL:=Zh hol;have HV:=Zh hv;have HE:=Zh he;have HBR:=Zh hb;have hzr:=hb.size;by_cases hlt:k<l.length
   ·have ex:=List.getElem?_eq_getElem hlt;obtain⟨y,hx⟩:∃ y,l[k]=y:=⟨_,rfl⟩;rw [hx] at ex;obtain⟨b,o2,rfl,c0⟩:=Z4m HA.o ex;have hbl:b<w.heap.size:=World.block_lt_of_cell? w _ c0;have c0r:=Zac c0 HBR.o;have HX:=Zh ex;have hkl:(k:Int)<(l.length:Int):=ω;have hdr:l.drop k=y :: l.drop (k+1):=by
     obtain⟨h1,h2⟩:=List.getElem?_eq_some_iff.1 ex;rw [<- h2];exact List.drop_eq_getElem_cons h1
    have HDR:=Zh hdr;by_cases hys:y=s
    ·subst hys;have HI:=Zh (show l=Zkw l y by unfold Zkw;rw [if_pos (Or.inr (List.mem_of_getElem? HX.o))])
     go_wp2_with fail
     go_ret;exact Z08.mk HI.o rfl (HOW.o.below HBR.o) HBR.o
    ·have hys2:(y == s)=false:=by simpa using hys
     have HNX:=Zh (fun (j:Nat) (x:Nm) (hj:j<k+1) (hx:l[j]?=some x)=>(by
      rcases Nat.lt_succ_iff_lt_or_eq.1 hj with h | h
      ·exact HNO.o j x h hx
      ·rw [h,HX.o] at hx;cases hx;exact hys:x≠s))
     have HY1:=Zh (Zng wr y);have HS1:=Zh (Zng wr s);cases d with
     | true=>
      have HEN:=Zh (show (o++[y])++Zhy s (l.drop (k+1)) true=Zot s l by rw [<- HE.o,HDR.o];simp [Zhy])
      go_wp2_with (at_builtin;refine Enc.appL Zod _ rfl (.tmp 38) (.tmp 43) rfl [y] w.heap.size o _ wr.heap.size 0 1 rfl rfl HY1.o (HV.o.below (Zad _ _)) (by have:=HOL.o;simp at *;omega) (by have:=HOL.o;simp at *;omega) (by simp;omega) ?_;intro v' w3 hown3 hg3;have HO3:=Zh hown3;have HB3:=Zh hg3.below;clear hown3 hg3)
      go_roundw
      case rel=>exact⟨k+1,o++[y],true,ω,by go_num,rfl,HNX.o,by have:=HOL.o;simp at *;omega,HO3.o,HEN.o,(Zaa HBR.o _).trans HB3.o⟩
      case measure=>exact msr
     | false=>
      cases hlt2:ltN s y with
      | false=>
       have hless:Op.bytesLess s y=false:=by rw [Zhr,hlt2]
       have HEN:=Zh (show (o++[y])++Zhy s (l.drop (k+1)) false=Zot s l by rw [<- HE.o,HDR.o];simp [Zhy,hlt2])
       go_wp2_with (at_builtin;refine Enc.appL Zod _ rfl (.tmp 38) (.tmp 43) rfl [y] w.heap.size o _ wr.heap.size 0 1 rfl rfl HY1.o (HV.o.below (Zad _ _)) (by have:=HOL.o;simp at *;omega) (by have:=HOL.o;simp at *;omega) (by simp;omega) ?_;intro v' w3 hown3 hg3;have HO3:=Zh hown3;have HB3:=Zh hg3.below;clear hown3 hg3)
       go_roundw
       case rel=>exact⟨k+1,o++[y],false,ω,by go_num,rfl,HNX.o,by have:=HOL.o;simp at *;omega,HO3.o,HEN.o,(Zaa HBR.o _).trans HB3.o⟩
       case measure=>exact msr
      | true=>
       have hless:Op.bytesLess s y=true:=by rw [Zhr,hlt2]
       have HEN:=Zh (show ((o++[s])++[y])++Zhy s (l.drop (k+1)) true=Zot s l by rw [<- HE.o,HDR.o];simp [Zhy,hlt2]);obtain⟨o3,ho3⟩:∃ o3,o++[s]=o3:=⟨_,rfl⟩;have HO3E:=Zh ho3;have HOL3:=Zh (show o3.length<=k+1 by rw [<- ho3];have:=HOL.o;simp at *;omega);rw [ho3] at HEN
       go_wp2_with (first
        | (at_builtin;refine Enc.appL Zod _ rfl (.tmp 34) (.tmp 36) rfl [s] w.heap.size o _ wr.heap.size 0 1 rfl rfl HS1.o (HV.o.below (Zad _ _)) (by have:=HOL.o;simp at *;omega) (by have:=HOL.o;simp at *;omega) (by simp;omega) ?_;intro v' w3 hown3 hg3;rw [HO3E.o] at hown3;obtain⟨Aw,cw,rfl⟩:=hown3.shp;have HO3:=Zh hown3;have HB3:=Zh hg3.below;have c3r:=Zer (Zao c0r (.cells #[.string ⟨s.toArray⟩] 9 (0,0))) hg3.below hbl;have hz_w3:w.heap.size<=w3.heap.size:=(by have hq:=hg3.below.size;simp at hq;omega);clear hown3 hg3)
        | (at_builtin;refine Enc.appL Zod _ rfl (.tmp 38) (.tmp 43) rfl [y] w.heap.size o3 _ w3.heap.size 0 1 rfl rfl (Zng w3 y) (HO3.o.below (Zad _ _)) (by have:=HOL3.o;simp at *;omega) (by have:=HOL3.o;simp at *;omega) (by simp;omega) ?_;intro v' w4 hown3 hg3;have HO4:=Zh hown3;have HB4:=Zh hg3.below;clear hown3 hg3))
       go_roundw
       case rel=>exact⟨k+1,o3++[y],true,ω,by go_num,rfl,HNX.o,by have:=HOL3.o;simp at *;omega,HO4.o,HEN.o,((Zaa HBR.o _).trans HB3.o).trans ((Zad _ _).mono ω |>.trans HB4.o)⟩
       case measure=>exact msr
   ·have hkn:k=l.length:=ω;have hni:s∉l:=fun hm=>by
     obtain⟨j,hj⟩:=List.getElem?_of_mem hm;exact HNO.o j s (by have:=(List.getElem?_eq_some_iff.1 hj).1;omega) hj rfl
    have HIN:=Zh (show Zkw l s=Zot s l by unfold Zkw;rw [if_neg (by simp [hs,hni])]);have HS1:=Zh (Zng wr s);cases d with
    | true=>
     have HR:=Zh (show o=Zkw l s by rw [HIN.o,<- HE.o,List.drop_of_length_le ω];simp [Zhy])
     go_wp2_with fail
     go_ret;exact Z08.mk HR.o rfl (Zlc.of HV.o rfl HOW.o.1 HBR.o.size) HBR.o
    | false=>
     have HR:=Zh (show o++[s]=Zkw l s by rw [HIN.o,<- HE.o,List.drop_of_length_le ω];simp [Zhy])
     go_wp2_with (at_builtin;refine Enc.appL Zod _ rfl (.tmp 47) (.tmp 49) rfl [s] w.heap.size o _ wr.heap.size 0 1 rfl rfl HS1.o (HV.o.below (Zad _ _)) (by have:=HOL.o;simp at *;omega) (by have:=HOL.o;simp at *;omega) (by simp;omega) ?_;intro v' w3 hown3 hg3;obtain⟨Aw,cw,rfl⟩:=hown3.shp;have HO3:=Zh hown3;have HB3:=Zh hg3.below;have hz_w3:w.heap.size<=w3.heap.size:=(by have hq:=hg3.below.size;simp at hq;omega);clear hown3 hg3)
     go_ret;exact Z08.mk HR.o (by rw [List.length_append];rfl) (Zlc.of HO3.o rfl HOW.o.1 hz_w3) ((Zaa HBR.o _).trans HB3.o)
end
end
end Go.Proofs.YtgjefdaaihgliaaGreatDoor
namespace Go.Proofs
open Go.Shelf
def Tryz.sortPr_ren:Go.Shelf.Ren:=⟨fun | 6=>78 | 15=>129 | 14=>128 | 28=>190 | 29=>165 | 20=>182 | 21=>183 | 22=>184 | 23=>185 | 24=>186 | 25=>187 | 26=>188 | 27=>189 | 46=>232 | 47=>233 | 48=>234 | 49=>235 | 50=>236 | 57=>262 | n=>n,fun | 22=>84 | 24=>175 | 25=>177 | 3=>3 | 39=>112 | 0=>0 | 53=>254 | 55=>124 | 4=>4 | 46=>271 | 45=>270 | 50=>68 | 5=>5 | 9=>9 | 66=>295 | 70=>299 | 76=>316 | 77=>317 | n=>n,fun | n=>n⟩
theorem Tryz.sortPr:Go.Proofs.SlLaysF0.n6 Tryz.prog Tryz.sortPr_ren:={
 mixed:=by kernel_rfl
 f6:=⟨Tryz.f78.name,by decide,Tryz.func78.trans (congrArg some (by kernel_rfl))⟩
 f14:=⟨Tryz.f128.name,by decide,Tryz.func128.trans (congrArg some (by kernel_rfl))⟩
 f15:=Tryz.func129.trans (congrArg some (by kernel_rfl))
 f20:=⟨Tryz.f182.name,by decide,Tryz.func182.trans (congrArg some (by kernel_rfl))⟩
 f21:=⟨Tryz.f183.name,by decide,Tryz.func183.trans (congrArg some (by kernel_rfl))⟩
 f22:=⟨Tryz.f184.name,by decide,Tryz.func184.trans (congrArg some (by kernel_rfl))⟩
 f23:=⟨Tryz.f185.name,by decide,Tryz.func185.trans (congrArg some (by kernel_rfl))⟩
 f24:=⟨Tryz.f186.name,by decide,Tryz.func186.trans (congrArg some (by kernel_rfl))⟩
 f25:=⟨Tryz.f187.name,by decide,Tryz.func187.trans (congrArg some (by kernel_rfl))⟩
 f26:=⟨Tryz.f188.name,by decide,Tryz.func188.trans (congrArg some (by kernel_rfl))⟩
 f27:=⟨Tryz.f189.name,by decide,Tryz.func189.trans (congrArg some (by kernel_rfl))⟩
 f28:=Tryz.func190.trans (congrArg some (by kernel_rfl))
 f29:=Tryz.func165.trans (congrArg some (by kernel_rfl))
 f46:=⟨Tryz.f232.name,by decide,Tryz.func232.trans (congrArg some (by kernel_rfl))⟩
 f47:=Tryz.func233.trans (congrArg some (by kernel_rfl))
 f48:=Tryz.func234.trans (congrArg some (by kernel_rfl))
 f49:=⟨Tryz.f235.name,by decide,Tryz.func235.trans (congrArg some (by kernel_rfl))⟩
 f50:=⟨Tryz.f236.name,by decide,Tryz.func236.trans (congrArg some (by kernel_rfl))⟩
 f57:=⟨Tryz.f262.name,by decide,Tryz.func262.trans (congrArg some (by kernel_rfl))⟩
 t0:=Tryz.underlying0
 a0:=Tryz.isAgg0
 z0:=Tryz.sizeOf0
 v0:=Tryz.zeroValue0
 t3:=Tryz.underlying3
 a3:=Tryz.isAgg3
 z3:=Tryz.sizeOf3
 v3:=Tryz.zeroValue3
 t4:=Tryz.underlying4
 a4:=Tryz.isAgg4
 z4:=Tryz.sizeOf4
 v4:=Tryz.zeroValue4
 t5:=Tryz.underlying5
 a5:=Tryz.isAgg5
 z5:=Tryz.sizeOf5
 v5:=Tryz.zeroValue5
 t9:=Tryz.underlying9
 a9:=Tryz.isAgg9
 z9:=Tryz.sizeOf9
 v9:=Tryz.zeroValue9
 t22:=Tryz.underlying84
 a22:=Tryz.isAgg84
 z22:=Tryz.sizeOf84
 v22:=Tryz.zeroValue84
 t25:=Tryz.underlying177
 a25:=Tryz.isAgg177
 z25:=Tryz.sizeOf177
 v25:=Tryz.zeroValue177
 t39:=Tryz.underlying112
 a39:=Tryz.isAgg112
 z39:=Tryz.sizeOf112
 v39:=Tryz.zeroValue112
 t45:=Tryz.underlying270
 a45:=Tryz.isAgg270
 z45:=Tryz.sizeOf270
 v45:=Tryz.zeroValue270
 t46:=Tryz.underlying271
 a46:=Tryz.isAgg271
 z46:=Tryz.sizeOf271
 v46:=Tryz.zeroValue271
 t50:=Tryz.underlying68
 a50:=Tryz.isAgg68
 z50:=Tryz.sizeOf68
 v50:=Tryz.zeroValue68
 t53:=Tryz.underlying254
 a53:=Tryz.isAgg254
 z53:=Tryz.sizeOf254
 v53:=Tryz.zeroValue254
 t55:=Tryz.underlying124
 a55:=Tryz.isAgg124
 z55:=Tryz.sizeOf124
 v55:=Tryz.zeroValue124
 t66:=Tryz.underlying295
 a66:=Tryz.isAgg295
 z66:=Tryz.sizeOf295
 v66:=Tryz.zeroValue295
 t70:=Tryz.underlying299
 a70:=Tryz.isAgg299
 z70:=Tryz.sizeOf299
 v70:=Tryz.zeroValue299
 t76:=Tryz.underlying316
 a76:=Tryz.isAgg316
 z76:=Tryz.sizeOf316
 v76:=Tryz.zeroValue316
 t77:=Tryz.underlying317
 a77:=Tryz.isAgg317
 z77:=Tryz.sizeOf317
 v77:=Tryz.zeroValue317 }
def Tryz.searchS_ren:Go.Shelf.Ren:=⟨fun | 26=>19 | 33=>37 | 34=>38 | 38=>58 | n=>n,fun | 24=>34 | 9=>9 | 3=>3 | 4=>4 | 40=>112 | 0=>0 | n=>n,fun | n=>n⟩
theorem Tryz.searchS:Go.Proofs.Lays2.n26 Tryz.prog Tryz.searchS_ren:={
 mixed:=by kernel_rfl
 f26:=Tryz.func19.trans (congrArg some (by kernel_rfl))
 f33:=Tryz.func37.trans (congrArg some (by kernel_rfl))
 f34:=Tryz.func38.trans (congrArg some (by kernel_rfl))
 f38:=Tryz.func58.trans (congrArg some (by kernel_rfl))
 t0:=Tryz.underlying0
 a0:=Tryz.isAgg0
 z0:=Tryz.sizeOf0
 v0:=Tryz.zeroValue0
 t3:=Tryz.underlying3
 a3:=Tryz.isAgg3
 z3:=Tryz.sizeOf3
 v3:=Tryz.zeroValue3
 t4:=Tryz.underlying4
 a4:=Tryz.isAgg4
 z4:=Tryz.sizeOf4
 v4:=Tryz.zeroValue4
 t9:=Tryz.underlying9
 a9:=Tryz.isAgg9
 z9:=Tryz.sizeOf9
 v9:=Tryz.zeroValue9
 t24:=Tryz.underlying34
 a24:=Tryz.isAgg34
 z24:=Tryz.sizeOf34
 v24:=Tryz.zeroValue34
 t40:=Tryz.underlying112
 a40:=Tryz.isAgg112
 z40:=Tryz.sizeOf112
 v40:=Tryz.zeroValue112 }
end Go.Proofs
namespace Go.Proofs.YtgjefdaaihgliaaGreatDoor
open Go.RowKit
def Z88 (T:List Th)(E:Int)(w:World)(e:Ending)(w':World):Prop:=∃ A cap,e=.returned (.tuple #[.slice A T.length cap,.int .i64 E])/\Zto w.heap.size w' A cap T/\Below w.heap.size w w'
section
variable {w:World} {q k t r v:Int} {l:List UInt8} {kids:Fr}
set_option maxHeartbeats 2000000 in
set_option maxRecDepth 100000 in
theorem Z8l (hi:Nat)(kv:Value)(hhi:hi<=w.heap.size)(hs:Zd7 w hi kv kids)(hl:l.length<=9223372036854775807) :
  Calls Tryz.prog 51 #[Zx5 q k t r l v kv] w (Z88 (Zl9 q k t r l v kids) (Zbg 2 q k t r l v kids) w):=by
 obtain⟨A,cap,rfl,s'⟩:=hs;have hs2:Zd7 w hi (.slice A kids.len cap) kids:=⟨A,cap,rfl,s'⟩;have hb1:=Zad w (.cells #[.int .i64 q,.int .i64 k,.int .i64 t,.int .i64 r,.string ⟨l.toArray⟩,.int .i64 v,.slice A kids.len cap] 30 (0,0));have hs3:=hs2.below hhi hb1;have HS:=Zh hs3;have HSU:=Zh (hs3.up (show hi<=(w.alloc (.cells #[.int .i64 q,.int .i64 k,.int .i64 t,.int .i64 r,.string ⟨l.toArray⟩,.int .i64 v,.slice A kids.len cap] 30 (0,0))).heap.size by simp;omega));have HB1:=Zh hb1;have HBN:=Zh (Blk.new w 30 #[.int .i64 q,.int .i64 k,.int .i64 t,.int .i64 r,.string ⟨l.toArray⟩,.int .i64 v,.slice A kids.len cap]);by_cases hck:Zbg 2 q k t r l v kids=0
 ·obtain⟨ho,hk,hall,hv,hnl⟩:=Zp2 hck;have HCK:=Zh hck;have hN:=Zvu (k:=k) (t:=t) (r:=r) (l:=l) (v:=v) ho hk;have HTP:=Zh (fun (w2:World) (h3:w.heap.size<=w2.heap.size) (h1:hi<=w2.heap.size) (h2:Zd7 w2 hi (.slice A kids.len cap) kids)=>hN w2 hi _ none 0 [] w.heap.size h3 h1 h2 (Zto.nil _ _) (by simp;omega));rw [show Zl9 q k t r l v kids=Zkt (atL k t r l++Za4 kids) [] by unfold Zl9;rw [if_pos hck,Zop hv],hck];obtain⟨T,hT⟩:∃ T,Zkt (atL k t r l++Za4 kids) []=T:=⟨_,rfl⟩;rw [hT] at HTP ⊢;go_enter Tryz.func51,Tryz.ntmps51
  go_wp2_with (first
   | (go_at_call 87;refine (Zt1 2 q k t r l v _ kids _ hl HSU.o).mono ?_;rw [HCK.o];rintro e w2 ⟨rfl,hb2⟩;have hB:=HBN.o.go hb2;have c1:=hB.cell 1;have c2:=hB.cell 2;have c3:=hB.cell 3;have c4:=hB.cell 4;have c5:=hB.cell 5;have c6:=hB.cell 6;have HB2:=Zh hb2;have hz2:=hb2.size;simp at hz2;have HS2:=Zh (HS.o.below (by simp;omega) hb2);clear hB hb2)
   | (go_at_call 88;refine (HTP.o _ ω ω HS2.o).mono ?_;rintro e w3 ⟨g,cg,rfl,ht,hb3⟩;have HT:=Zh ht;have HB3:=Zh hb3;clear ht hb3))
  go_ret2
  exact⟨g,cg,rfl,HT.o,Zab HB1.o (Zab HB2.o HB3.o)⟩
 ·obtain⟨E,hE⟩:∃ E,Zbg 2 q k t r l v kids=E:=⟨_,rfl⟩;rw [show Zl9 q k t r l v kids=[] by unfold Zl9;rw [if_neg hck],hE];rw [hE] at hck;have HCK:=Zh hE;go_enter Tryz.func51,Tryz.ntmps51
  go_wp2_with (go_at_call 87;refine (Zt1 2 q k t r l v _ kids _ hl HSU.o).mono ?_;rw [HCK.o];rintro e w2 ⟨rfl,hb2⟩)
  go_ret2
  exact⟨none,0,rfl,(Zto.nil _ _),Zab HB1.o hb2⟩
end
end Go.Proofs.YtgjefdaaihgliaaGreatDoor
namespace Go.Proofs.YtgjefdaaihgliaaGreatDoor
open Go.RowKit
open Go.ChangeShapes Go.WideShapes Go.ChangeAt
section
variable {H:Type} {enc:TypeId×Value->H} {w:World} {base:Nat} {spare:Nat->Bool} {held:Bool}
theorem Zco {P:Program}:∀ {ts:List TypeId} {ds:List (DataW H)} {j:Nat} {t:TypeId} {d:DataW H},ts[j]?=some t->ds[j]?=some d->∀ n∈d.weights P t,n∈DataW.weightsEach P ts ds
 | t :: ts,d :: ds,0,_,_,h1,h2,n,hn=>by
  simp at h1 h2;subst h1 h2;rw [DataW.weightsEach];exact List.mem_append_left _ hn
 | t :: ts,d :: ds,j+1,_,_,h1,h2,n,hn=>by
  rw [DataW.weightsEach];exact List.mem_append_right _ (Zco (j:=j) (by simpa using h1) (by simpa using h2) n hn)
theorem Zdk {P:Program}{e:TypeId}:∀ {ds:List (DataW H)} {d:DataW H},d∈ds->∀ n∈d.weights P e,n∈DataW.weightsAll P e ds
 | x :: ds,d,hd,n,hn=>by
  rw [DataW.weightsAll];rcases List.mem_cons.1 hd with rfl | hd
  ·exact List.mem_append_left _ hn
  ·exact List.mem_append_right _ (Zdk hd n hn)
theorem Zhi {a:Addr}{u:Value}(h:w.cell? (a.add 0)=some u):a=⟨a.block,a.off,none⟩:=by
 obtain⟨b,o,s⟩:=a;cases s with
 | none=>rfl
 | some s=>
  exfalso;have e:(⟨b,o,some s⟩:Addr).add 0=⟨b,o,some s⟩:=rfl;rw [e] at h;unfold World.cell? at h
  split at h <;> simp at h
theorem Zi7 (b o j:Nat):(⟨b,o,none⟩:Addr).add j=⟨b,o+j,none⟩:=by
 unfold Addr.add
 split
 ·rename_i h;subst h;rfl
 ·rfl
theorem Zhj {a:Addr}{n:Nat}{cs:List Value}(h:w.cells? base a n=some cs)(i:Nat)(hi:i<n):w.cell? (a.add i)=cs[i]?:=by
 unfold World.cells? at h
 split at h
 ·obtain⟨b,hb,hf⟩:=Lib.mapM_at h i i (by simp [hi]);rw [hb];exact hf
 ·cases h
theorem cTh:Tryz.prog.cellsOf 25=3:=by kernel_rfl
theorem cNd:Tryz.prog.cellsOf 28=6:=by kernel_rfl
theorem cIn:Tryz.prog.cellsOf 3=1:=by kernel_rfl
theorem cSt:Tryz.prog.cellsOf 9=1:=by kernel_rfl
theorem cSl:Tryz.prog.cellsOf 26=1:=by kernel_rfl
set_option maxHeartbeats 2000000 in
set_option maxRecDepth 100000 in
theorem Zio {fuel:Nat}{cs:List Value}{x:DataW H×List MemPlace}(h:DataW.trod enc Tryz.prog w base spare held fuel 28 cs=some x)(hw:∀ n∈x.1.weights Tryz.prog 28,n<=reachBytes) :
  ∃ (k t r v:Int) (l:List UInt8) (kv:Value) (n:Nat) (y:DataW H×List MemPlace),cs=[.int .i64 k,.int .i64 t,.int .i64 r,.string ⟨l.toArray⟩,.int .i64 v,kv]/\l.length<=9223372036854775807/\n<fuel/\
   DataW.trod enc Tryz.prog w base spare held n 26 [kv]=some y/\∀ m∈y.1.weights Tryz.prog 26,m<=reachBytes:=by
 obtain⟨xs,n,rfl,rfl,hl,hlen,hf⟩:=DataW.trod_struct Tryz.underlying28 h;rw [cNd] at hl
 match cs,hl with
 | [c0,c1,c2,c3,c4,c5],_=>
  match xs,hlen with
  | [x0,x1,x2,x3],_=>
   have f0:=hf 0 _ rfl;have f1:=hf 1 _ rfl;have f2:=hf 2 _ rfl;have f3:=hf 3 _ rfl;simp only [List.getElem_toArray,List.getElem_cons_zero,List.getElem_cons_succ,cIn,cTh,cSl,List.drop_zero,List.drop_succ_cons,List.take_succ_cons,List.take_zero,List.getElem?_cons_zero,List.getElem?_cons_succ] at f0 f1 f2 f3;obtain⟨n0,e0,_,_⟩:=DataW.trod_int Tryz.underlying3 f0;obtain⟨n2,e2,_,_⟩:=DataW.trod_int Tryz.underlying3 f2;obtain⟨ys,m,rfl,rfl,hl',hlen',hg⟩:=DataW.trod_struct Tryz.underlying25 f1
   match ys,hlen' with
   | [y0,y1,y2],_=>
    have g0:=hg 0 _ rfl;have g1:=hg 1 _ rfl;have g2:=hg 2 _ rfl;simp only [List.getElem_toArray,List.getElem_cons_zero,List.getElem_cons_succ,cIn,cSt,List.drop_zero,List.drop_succ_cons,List.take_succ_cons,List.take_zero,List.getElem?_cons_zero,List.getElem?_cons_succ] at g0 g1 g2;obtain⟨m0,d0,_,_⟩:=DataW.trod_int Tryz.underlying3 g0;obtain⟨m1,d1,_,_⟩:=DataW.trod_int Tryz.underlying3 g1;obtain⟨m2,d2,_,w2⟩:=DataW.trod_string Tryz.underlying9 g2;simp only [List.cons.injEq,and_true] at e0 e2 d0 d1 d2;subst e0 e2 d0 d1 d2;unfold maxLen at w2;refine⟨n0,m0,m1,n2,m2.data.toList,c5,m+1,x3,by simp,w2,ω,f3,fun q hq=>hw q ?_⟩;dsimp only [List.map_cons,List.map_nil];rw [DataW.weights,Tryz.underlying28];exact Zco (j:=3) rfl rfl q hq
theorem Zn5 (a:Addr):a.add 0=a:=rfl
theorem bNd:Tryz.prog.bytesOf 28=72:=by kernel_rfl
def Z8s (w:World)(b o:Nat):Prop:=∃ (k t r v:Int) (l:List UInt8) (kv:Value) (f:Fr),w.cell? ⟨b,o,none⟩=some (.int .i64 k)/\w.cell? ⟨b,o+1,none⟩=some (.int .i64 t)/\w.cell? ⟨b,o+2,none⟩=some (.int .i64 r)/\w.cell? ⟨b,o+3,none⟩=some (.string ⟨l.toArray⟩)/\
 w.cell? ⟨b,o+4,none⟩=some (.int .i64 v)/\w.cell? ⟨b,o+5,none⟩=some kv/\l.length<=9223372036854775807/\Zd7 w w.heap.size kv f
theorem Zwj {b o len:Nat}(h:∀ i,i<len->Z8s w b (o+i*6)):∀ d,d<=len->∃ f:Fr,f.len=d/\Zc3 w w.heap.size b (o+(len - d)*6) f
 | 0,_=>⟨.nil,rfl,trivial⟩
 | d+1,hd=>by
  obtain⟨rest,hr,hrow⟩:=Zwj h d ω;obtain⟨k,t,r,v,l,kv,f,c0,c1,c2,c3,c4,c5,hl,A,cap,rfl,s1,s2,s3⟩:=h (len - (d+1)) ω;refine⟨.cons k t r l v f rest,by simp [Fr.len,hr],c0,c1,c2,c3,c4,hl,⟨A,cap,c5,s1,s2,s3⟩,?_⟩;rw [show o+(len - (d+1))*6+6=o+(len - d)*6 by omega];exact hrow
set_option maxHeartbeats 2000000 in
set_option maxRecDepth 100000 in
theorem Zvz:∀ (N fuel:Nat),fuel<N->∀ (c:Value) (x:DataW H×List MemPlace),DataW.trod enc Tryz.prog w base spare held fuel 26 [c]=some x->(∀ n∈x.1.weights Tryz.prog 26,n<=reachBytes)->∃ f:Fr,Zd7 w w.heap.size c f
 | 0,_,h,_,_,_,_=>by omega
 | N+1,fuel,hN,c,x,h,hw=>by
  rcases DataW.trod_slice Tryz.underlying26 h with ⟨hc,_⟩ | ⟨a,len,cap,elems,rest,n,rfl,hc,rfl,hb,hl,hm,hlen,hel,_,_⟩
  ·simp only [List.cons.injEq,and_true] at hc;subst hc;exact⟨.nil,Zd7.nil _ _ _ _ ω⟩
  ·simp only [List.cons.injEq,and_true] at hc;subst hc;dsimp only at hw;rw [DataW.weights,Tryz.underlying26] at hw;dsimp only at hw;have hwt:len*72<=140737488351232:=by
    have:=hw _ List.mem_cons_self;rw [bNd] at this;simp only [List.length_map,hlen,reachBytes] at this;omega
   unfold maxLen at hm;rw [cNd] at hel;have hA:0<len->a=⟨a.block,a.off,none⟩:=by
    intro hp;have h1:=hel 0 hp;rw [List.getElem?_eq_getElem ω] at h1;obtain⟨cs',h2,h3⟩:=Option.bind_eq_some_iff.1 h1;obtain⟨k,t,r,v,l,kv,m,y,rfl,_⟩:=Zio h3 (fun q hq=>hw q (List.mem_cons_of_mem _ (List.mem_append_left _ (Zdk (List.mem_map.2 ⟨_,List.getElem_mem ω,rfl⟩) q hq))));have g0:=Zhj h2 0 ω;rw [Nat.zero_mul,Zn5] at g0;exact Zhi g0
   have hnd:∀ i,i<len->a=⟨a.block,a.off,none⟩/\Z8s w a.block (a.off+i*6):=by
    intro i hi;have h1:=hel i hi;rw [List.getElem?_eq_getElem ω] at h1;obtain⟨cs',h2,h3⟩:=Option.bind_eq_some_iff.1 h1;obtain⟨k,t,r,v,l,kv,m,y,rfl,hl',hmn,hy,hwy⟩:=Zio h3 (fun q hq=>hw q (List.mem_cons_of_mem _ (List.mem_append_left _ (Zdk (List.mem_map.2 ⟨_,List.getElem_mem ω,rfl⟩) q hq))));obtain⟨f,hf⟩:=Zvz N m ω kv y hy hwy;have hc0:=Zhj h2;have ha:=hA ω;refine⟨ha,k,t,r,v,l,kv,f,?_,?_,?_,?_,?_,?_,hl',hf⟩
    all_goals
     rw [ha] at hc0;simp only [Zi7] at hc0
    ·exact hc0 0 ω
    ·exact hc0 1 ω
    ·exact hc0 2 ω
    ·exact hc0 3 ω
    ·exact hc0 4 ω
    ·exact hc0 5 ω
   obtain⟨f,hf,hrow⟩:=Zwj (fun i hi=>(hnd i hi).2) len (Nat.le_refl _);refine⟨f,some a,cap,by rw [hf],ω,⟨by rw [hf];exact hwt,ω⟩,fun hp=>?_⟩;obtain⟨ha,k,t,r,v,l,kv,f',c0,_⟩:=hnd 0 ω;refine⟨a.block,a.off,by rw [<- ha],World.block_lt_of_cell? w ⟨a.block,a.off+0*6,none⟩ c0,?_⟩;simpa using hrow
end
theorem Zmw {α:Type}{P:Nat->α->Prop}:∀ n,(∀ i,i<n->∃ z,P i z)->∃ l:List α,l.length=n/\∀ i z,l[i]?=some z->P i z
 | 0,_=>⟨[],rfl,fun i z h=>by simp at h⟩
 | n+1,h=>by
  obtain⟨l,hl,hp⟩:=Zmw n (fun i hi=>h i ω);obtain⟨z,hz⟩:=h n ω;refine⟨l++[z],by simp [hl],fun i u hu=>?_⟩;by_cases hi:i<n
  ·rw [List.getElem?_append_left ω] at hu;exact hp i u hu
  ·have hlt:=(List.getElem?_eq_some_iff.1 hu).1;simp [hl] at hlt;obtain rfl:i=n:=ω;rw [List.getElem?_append_right ω,hl,Nat.sub_self] at hu;simp only [List.getElem?_cons_zero,Option.some.injEq] at hu;subst hu;exact hz
section
variable {H:Type} {enc:TypeId×Value->H} {P:Program} {w:World} {base:Nat} {spare:Nat->Bool} {held:Bool}
theorem Zqj {t e:TypeId}{fuel:Nat}{c:Value}{x:DataW H×List MemPlace}(nc bytes:Nat)(ht:P.underlying t=some (.slice e))(hnc:P.cellsOf e=nc)(hbb:P.bytesOf e=bytes)
  (h:DataW.trod enc P w base spare held fuel t [c]=some x) (hw:∀ n∈x.1.weights P t,n<=reachBytes) :
  c=.slice none 0 0\/∃ (a:Addr) (len cap n:Nat),c=.slice (some a) len cap/\len<=cap/\cap<=9223372036854775807/\len*bytes<=140737488351232/\
   ∀ i,i<len->∃ cs y,w.cells? base (a.add (i*nc)) nc=some cs/\DataW.trod enc P w base spare held n e cs=some y/\∀ m∈y.1.weights P e,m<=reachBytes:=by
 rcases DataW.trod_slice ht h with ⟨hc,_⟩ | ⟨a,len,cap,elems,rest,n,_,hc,rfl,hb,hl,hm,hlen,hel,_,_⟩
 ·simp only [List.cons.injEq,and_true] at hc;exact .inl hc
 ·simp only [List.cons.injEq,and_true] at hc;subst hc;dsimp only at hw;rw [DataW.weights,ht] at hw;dsimp only at hw;refine .inr ⟨a,len,cap,n,rfl,hl,by unfold maxLen at hm;exact hm,?_,fun i hi=>?_⟩
  ·have:=hw _ List.mem_cons_self;rw [hbb] at this;simp only [List.length_map,hlen,reachBytes] at this;refine Nat.le_trans ?_ (Nat.le_trans this (by decide))
   first | exact Nat.le_refl _ | exact Nat.mul_le_mul_right _ ω
  ·have h1:=hel i hi;rw [List.getElem?_eq_getElem ω,hnc] at h1;obtain⟨cs',h2,h3⟩:=Option.bind_eq_some_iff.1 h1;exact⟨cs',_,h2,h3,fun q hq=>hw q (List.mem_cons_of_mem _ (List.mem_append_left _ (Zdk (List.mem_map.2 ⟨_,List.getElem_mem ω,rfl⟩) q hq)))⟩
end
section
variable {H:Type} {enc:TypeId×Value->H} {w:World} {base:Nat} {spare:Nat->Bool} {held:Bool}
theorem Z82 {n:Int}(h:(Lit.int .i64 n).wf=true):-9223372036854775808<=n/\n<=9223372036854775807:=by
 simp [Lit.wf,IntKind.min,IntKind.max,IntKind.signed,IntKind.bits] at h;omega
theorem cIs:Tryz.prog.cellsOf 92=8:=by kernel_rfl
theorem cIt:Tryz.prog.cellsOf 94=5:=by kernel_rfl
theorem cVl:Tryz.prog.cellsOf 71=2:=by kernel_rfl
theorem cTs:Tryz.prog.cellsOf 32=12:=by kernel_rfl
theorem cCd:Tryz.prog.cellsOf 30=7:=by kernel_rfl
theorem cS1:Tryz.prog.cellsOf 22=1:=by kernel_rfl
theorem cS2:Tryz.prog.cellsOf 23=1:=by kernel_rfl
theorem cS3:Tryz.prog.cellsOf 66=1:=by kernel_rfl
theorem bIs:Tryz.prog.bytesOf 92=80:=by kernel_rfl
theorem bIt:Tryz.prog.bytesOf 94=56:=by kernel_rfl
theorem bS3:Tryz.prog.bytesOf 66=24:=by kernel_rfl
set_option maxHeartbeats 2000000
set_option maxRecDepth 100000
theorem Zu6 {fuel:Nat}{cs:List Value}{x:DataW H×List MemPlace}(h:DataW.trod enc Tryz.prog w base spare held fuel 92 cs=some x) :
  ∃ t:Ins,cs=[.int .i64 t.op,.int .i64 t.d,.int .i64 t.a,.int .i64 t.b,.int .i64 t.imm,.string ⟨t.loc.toArray⟩,.string ⟨t.label.toArray⟩,.int .i64 t.fence]/\t.loc.length<=9223372036854775807/\t.label.length<=9223372036854775807:=by
 obtain⟨ys,m,rfl,rfl,hl',hlen',hg⟩:=DataW.trod_struct Tryz.underlying92 h;rw [cIs] at hl'
 match cs,hl' with
 | [c0,c1,c2,c3,c4,c5,c6,c7],_=>
  match ys,hlen' with
  | [y0,y1,y2,y3,y4,y5,y6,y7],_=>
   have g0:=hg 0 _ rfl;have g1:=hg 1 _ rfl;have g2:=hg 2 _ rfl;have g3:=hg 3 _ rfl;have g4:=hg 4 _ rfl;have g5:=hg 5 _ rfl;have g6:=hg 6 _ rfl;have g7:=hg 7 _ rfl;simp only [List.getElem_toArray,List.getElem_cons_zero,List.getElem_cons_succ,cIn,cSt,List.drop_zero,List.drop_succ_cons,List.take_succ_cons,List.take_zero,List.getElem?_cons_zero,List.getElem?_cons_succ] at g0 g1 g2 g3 g4 g5 g6 g7;obtain⟨m0,d0,_,_⟩:=DataW.trod_int Tryz.underlying3 g0;obtain⟨m1,d1,_,_⟩:=DataW.trod_int Tryz.underlying3 g1;obtain⟨m2,d2,_,_⟩:=DataW.trod_int Tryz.underlying3 g2;obtain⟨m3,d3,_,_⟩:=DataW.trod_int Tryz.underlying3 g3;obtain⟨m4,d4,_,_⟩:=DataW.trod_int Tryz.underlying3 g4;obtain⟨m5,d5,_,w5⟩:=DataW.trod_string Tryz.underlying9 g5;obtain⟨m6,d6,_,w6⟩:=DataW.trod_string Tryz.underlying9 g6;obtain⟨m7,d7,_,_⟩:=DataW.trod_int Tryz.underlying3 g7;simp only [List.cons.injEq,and_true] at d0 d1 d2 d3 d4 d5 d6 d7;subst d0 d1 d2 d3 d4 d5 d6 d7;unfold maxLen at w5 w6;exact⟨⟨m0,m1,m2,m3,m4,m5.data.toList,m6.data.toList,m7⟩,by simp,w5,w6⟩
theorem Zw6 {fuel:Nat}{cs:List Value}{x:DataW H×List MemPlace}(h:DataW.trod enc Tryz.prog w base spare held fuel 71 cs=some x) :
  ∃ (l:List UInt8) (n:Int),cs=[.string ⟨l.toArray⟩,.int .i64 n]/\l.length<=9223372036854775807:=by
 obtain⟨ys,m,rfl,rfl,hl',hlen',hg⟩:=DataW.trod_struct Tryz.underlying71 h;rw [cVl] at hl'
 match cs,hl' with
 | [c0,c1],_=>
  match ys,hlen' with
  | [y0,y1],_=>
   have g0:=hg 0 _ rfl;have g1:=hg 1 _ rfl;simp only [List.getElem_toArray,List.getElem_cons_zero,List.getElem_cons_succ,cIn,cSt,List.drop_zero,List.drop_succ_cons,List.take_succ_cons,List.take_zero,List.getElem?_cons_zero,List.getElem?_cons_succ] at g0 g1;obtain⟨m0,d0,_,w0⟩:=DataW.trod_string Tryz.underlying9 g0;obtain⟨m1,d1,_,_⟩:=DataW.trod_int Tryz.underlying3 g1;simp only [List.cons.injEq,and_true] at d0 d1;subst d0 d1;unfold maxLen at w0;exact⟨m0.data.toList,m1,by simp,w0⟩
theorem Zu5 {fuel:Nat}{cs:List Value}{x:DataW H×List MemPlace}(h:DataW.trod enc Tryz.prog w base spare held fuel 94 cs=some x) :
  ∃ t:Ini,cs=[.int .i64 t.th,.int .i64 t.rg,.string ⟨t.loc.toArray⟩,.string ⟨t.vl.toArray⟩,.int .i64 t.vn]/\t.loc.length<=9223372036854775807/\t.vl.length<=9223372036854775807/\(-9223372036854775808<=t.th/\t.th<=9223372036854775807)/\-9223372036854775808<=t.rg/\t.rg<=9223372036854775807:=by
 obtain⟨ys,m,rfl,rfl,hl',hlen',hg⟩:=DataW.trod_struct Tryz.underlying94 h;rw [cIt] at hl'
 match cs,hl' with
 | [c0,c1,c2,c3,c4],_=>
  match ys,hlen' with
  | [y0,y1,y2,y3],_=>
   have g0:=hg 0 _ rfl;have g1:=hg 1 _ rfl;have g2:=hg 2 _ rfl;have g3:=hg 3 _ rfl;simp only [List.getElem_toArray,List.getElem_cons_zero,List.getElem_cons_succ,cIn,cSt,cVl,List.drop_zero,List.drop_succ_cons,List.take_succ_cons,List.take_zero,List.getElem?_cons_zero,List.getElem?_cons_succ] at g0 g1 g2 g3;obtain⟨m0,d0,_,w0⟩:=DataW.trod_int Tryz.underlying3 g0;obtain⟨m1,d1,_,w1⟩:=DataW.trod_int Tryz.underlying3 g1;obtain⟨m2,d2,_,w2⟩:=DataW.trod_string Tryz.underlying9 g2;obtain⟨l3,n3,d3,w3⟩:=Zw6 g3;simp only [List.cons.injEq,and_true] at d0 d1 d2 d3;obtain⟨d3,d4⟩:=d3;subst d0 d1 d2 d3 d4;unfold maxLen at w2;exact⟨⟨m0,m1,m2.data.toList,l3,n3⟩,by simp,w2,w3,Z82 w0,Z82 w1⟩
theorem Zzb {fuel:Nat}{c:Value}{x:DataW H×List MemPlace}(h:DataW.trod enc Tryz.prog w base spare held fuel 66 [c]=some x)(hw:∀ n∈x.1.weights Tryz.prog 66,n<=reachBytes) :
  ∃ (A:Option Addr) (cap:Nat) (st:List Ins),c=.slice A st.length cap/\Zcj w A st/\st.length<=cap/\st.length<=9223372036854775806:=by
 rcases Zqj 8 80 Tryz.underlying66 cIs bIs h hw with rfl | ⟨a,len,cap,n,rfl,h1,h2,h3,h4⟩
 ·exact⟨none,0,[],rfl,fun i v h=>by simp at h,by simp,by simp⟩
 ·have h5:∀ i,i<len->∃ t:Ins,a=⟨a.block,a.off,none⟩/\(∀ j,j<8->w.cell? ((a.add (i*8)).add j)=([.int .i64 t.op,.int .i64 t.d,.int .i64 t.a,.int .i64 t.b,.int .i64 t.imm,.string ⟨t.loc.toArray⟩,.string ⟨t.label.toArray⟩,.int .i64 t.fence]:List Value)[j]?)/\t.loc.length<=9223372036854775807/\t.label.length<=9223372036854775807:=by
   have h6:∀ i,i<len->∃ t:Ins,(∀ j,j<8->w.cell? ((a.add (i*8)).add j)=([.int .i64 t.op,.int .i64 t.d,.int .i64 t.a,.int .i64 t.b,.int .i64 t.imm,.string ⟨t.loc.toArray⟩,.string ⟨t.label.toArray⟩,.int .i64 t.fence]:List Value)[j]?)/\t.loc.length<=9223372036854775807/\t.label.length<=9223372036854775807:=by
    intro i hi;obtain⟨cs,y,h7,h8,_⟩:=h4 i hi;obtain⟨t,rfl,ht⟩:=Zu6 h8;exact⟨t,fun j hj=>Zhj h7 j hj,ht⟩
   intro i hi;obtain⟨t,hz⟩:=h6 i hi;obtain⟨t0,hz0,_⟩:=h6 0 ω;have h0:=hz0 0 ω;rw [Nat.zero_mul] at h0;exact⟨t,Zhi h0,hz⟩
  obtain⟨st,hl,hp⟩:=Zmw len h5;subst hl;refine⟨some a,cap,st,rfl,fun i v hv=>?_,h1,ω⟩;obtain⟨ha,hc,hb1,hb2⟩:=hp i v hv;refine⟨a.block,a.off,by rw [<- ha],?_⟩;rw [ha] at hc;simp only [Zi7] at hc;exact⟨hc 0 ω,hc 1 ω,hc 2 ω,hc 3 ω,hc 4 ω,hc 5 ω,hc 6 ω,hc 7 ω,hb1,hb2⟩
theorem Zv0 {fuel:Nat}{c:Value}{x:DataW H×List MemPlace}(h:DataW.trod enc Tryz.prog w base spare held fuel 22 [c]=some x)(hw:∀ n∈x.1.weights Tryz.prog 22,n<=reachBytes) :
  ∃ (A:Option Addr) (cap:Nat) (st:List Ini),c=.slice A st.length cap/\Zi2 w A st/\st.length<=9223372036854775806:=by
 rcases Zqj 5 56 Tryz.underlying22 cIt bIt h hw with rfl | ⟨a,len,cap,n,rfl,h1,h2,h3,h4⟩
 ·exact⟨none,0,[],rfl,fun i v h=>by simp at h,by simp⟩
 ·have h5:∀ i,i<len->∃ t:Ini,a=⟨a.block,a.off,none⟩/\(∀ j,j<5->w.cell? ((a.add (i*5)).add j)=([.int .i64 t.th,.int .i64 t.rg,.string ⟨t.loc.toArray⟩,.string ⟨t.vl.toArray⟩,.int .i64 t.vn]:List Value)[j]?)/\t.loc.length<=9223372036854775807/\t.vl.length<=9223372036854775807/\(-9223372036854775808<=t.th/\t.th<=9223372036854775807)/\-9223372036854775808<=t.rg/\t.rg<=9223372036854775807:=by
   have h6:∀ i,i<len->∃ t:Ini,(∀ j,j<5->w.cell? ((a.add (i*5)).add j)=([.int .i64 t.th,.int .i64 t.rg,.string ⟨t.loc.toArray⟩,.string ⟨t.vl.toArray⟩,.int .i64 t.vn]:List Value)[j]?)/\t.loc.length<=9223372036854775807/\t.vl.length<=9223372036854775807/\(-9223372036854775808<=t.th/\t.th<=9223372036854775807)/\-9223372036854775808<=t.rg/\t.rg<=9223372036854775807:=by
    intro i hi;obtain⟨cs,y,h7,h8,_⟩:=h4 i hi;obtain⟨t,rfl,ht⟩:=Zu5 h8;exact⟨t,fun j hj=>Zhj h7 j hj,ht⟩
   intro i hi;obtain⟨t,hz⟩:=h6 i hi;obtain⟨t0,hz0,_⟩:=h6 0 ω;have h0:=hz0 0 ω;rw [Nat.zero_mul] at h0;exact⟨t,Zhi h0,hz⟩
  obtain⟨st,hl,hp⟩:=Zmw len h5;subst hl;refine⟨some a,cap,st,rfl,fun i v hv=>?_,ω⟩;obtain⟨ha,hc,hb⟩:=hp i v hv;refine⟨a.block,a.off,by rw [<- ha],?_⟩;rw [ha] at hc;simp only [Zi7] at hc;exact⟨hc 0 ω,hc 1 ω,hc 2 ω,hc 3 ω,hc 4 ω,hb⟩
theorem Zvy {fuel:Nat}{c:Value}{x:DataW H×List MemPlace}(h:DataW.trod enc Tryz.prog w base spare held fuel 23 [c]=some x)(hw:∀ n∈x.1.weights Tryz.prog 23,n<=reachBytes) :
  ∃ (A:Option Addr) (cap:Nat) (sts:List (List Ins)),c=.slice A sts.length cap/\Zis w A sts/\sts.length<=9223372036854775806:=by
 rcases Zqj 1 24 Tryz.underlying23 cS3 bS3 h hw with e | ⟨a,len,cap,n,e,h1,h2,h3,h4⟩
 ·exact⟨none,0,[],e,fun i v h=>by simp at h,by simp⟩
 ·have h5:∀ i,i<len->∃ st:List Ins,a=⟨a.block,a.off,none⟩/\∃ A2 c2,w.cell? (a.add i)=some (.slice A2 st.length c2)/\Zcj w A2 st/\st.length<=9223372036854775806/\st.length<=c2:=by
   have h6:∀ i,i<len->∃ (st:List Ins) (A2:Option Addr) (c2:Nat),w.cell? (a.add i)=some (.slice A2 st.length c2)/\Zcj w A2 st/\st.length<=9223372036854775806/\st.length<=c2:=by
    intro i hi;obtain⟨cs,y,h7,h8,h9⟩:=h4 i hi;have hc:=Zhj h7 0 ω;rw [Zn5,Nat.mul_one] at hc;have hcs:∃ u,cs=[u]:=by
     rcases DataW.trod_slice Tryz.underlying66 h8 with ⟨e,_⟩ | ⟨_,_,_,_,_,_,_,e,_⟩
     ·exact⟨_,e⟩
     ·exact⟨_,e⟩
    obtain⟨u,rfl⟩:=hcs;obtain⟨A2,c2,st,rfl,hi2,hk,hb⟩:=Zzb h8 h9;exact⟨st,A2,c2,hc,hi2,hb,hk⟩
   intro i hi;obtain⟨st,A2,c2,hz⟩:=h6 i hi;obtain⟨st0,A20,c20,hz0,_⟩:=h6 0 ω;exact⟨st,Zhi hz0,A2,c2,hz⟩
  obtain⟨sts,hl,hp⟩:=Zmw len h5;subst hl;rw [e];refine⟨some a,cap,sts,rfl,fun i v hv=>?_,ω⟩;obtain⟨ha,A2,c2,hc,hi2,hb⟩:=hp i v hv;refine⟨a.block,a.off,A2,c2,by rw [<- ha],?_,hi2,hb⟩;rw [ha,Zi7] at hc;exact hc
theorem Zse {fuel:Nat}{cs:List Value}{x:DataW H×List MemPlace}(h:DataW.trod enc Tryz.prog w base spare held fuel 30 cs=some x)(hw:∀ n∈x.1.weights Tryz.prog 30,n<=reachBytes) :
  ∃ (q k t r v':Int) (l:List UInt8) (kv:Value) (f:Fr),cs=[.int .i64 q,.int .i64 k,.int .i64 t,.int .i64 r,.string ⟨l.toArray⟩,.int .i64 v',kv]/\l.length<=9223372036854775807/\Zd7 w w.heap.size kv f:=by
 obtain⟨xs,n,rfl,hx,hl,hlen,hg⟩:=DataW.trod_struct Tryz.underlying30 h;rw [cCd] at hl
 match cs,hl with
 | [c0,c1,c2,c3,c4,c5,c6],_=>
  match xs,hlen with
  | [x0,x1],_=>
   have f0:=hg 0 _ rfl;have f1:=hg 1 _ rfl;simp only [List.getElem_toArray,List.getElem_cons_zero,List.getElem_cons_succ,cIn,cNd,Value.cells,List.drop_zero,List.drop_succ_cons,List.take_succ_cons,List.take_zero,List.getElem?_cons_zero,List.getElem?_cons_succ] at f0 f1;obtain⟨n0,e0,_,_⟩:=DataW.trod_int Tryz.underlying3 f0;subst hx
   obtain⟨k,t,r,v,l,kv,m,y,e1,hl',hmn,hy,hwy⟩:=Zio f1 (fun q hq=>hw q (by
    dsimp only [List.map_cons,List.map_nil];rw [DataW.weights,Tryz.underlying30]
    exact Zco (j:=1) rfl rfl q hq))
   obtain⟨f,hf'⟩:=Zvz (m+1) m ω kv y hy hwy;simp only [List.cons.injEq,and_true] at e0 e1;obtain⟨rfl,rfl,rfl,rfl,rfl,rfl⟩:=e1;subst e0;exact⟨n0,k,t,r,v,l,_,f,rfl,hl',hf'⟩
theorem Zv1 {r:Reach}{b0:Nat}{v:Value}{d:DataW H}{p:List MemPlace}(hv:Value.okWide Tryz.prog w r b0 32 v)(h:DataW.Trod enc Tryz.prog w base spare held 32 v d p)(hw:∀ n∈d.weights Tryz.prog 32,n<=reachBytes) :
  ∃ (T:Tst) (Ai Ac:Option Addr) (ci cc:Nat) (kv:Value),v=Zbu T (.slice Ai T.init.length ci) (.slice Ac T.code.length cc) kv/\Zcu w T Ai Ac kv:=by
 obtain⟨cs,rfl,hsz⟩:=okWide_struct Tryz.underlying32 hv;obtain⟨l⟩:=cs;obtain⟨fuel,hf⟩:=h
 match l,hsz.trans cTs with
 | [c0,c1,c2,c3,c4,c5,c6,c7,c8,c9,c10,c11],_=>
  obtain⟨xs,n,rfl,hx,hl,hlen,hg⟩:=DataW.trod_struct Tryz.underlying32 hf
  match xs,hlen with
  | [x0,x1,x2,x3,x4,x5],_=>
   have f0:=hg 0 _ rfl;have f1:=hg 1 _ rfl;have f2:=hg 2 _ rfl;have f3:=hg 3 _ rfl;have f4:=hg 4 _ rfl;have f5:=hg 5 _ rfl;simp only [List.getElem_toArray,List.getElem_cons_zero,List.getElem_cons_succ,cIn,cSt,cS1,cS2,cCd,Value.cells,List.drop_zero,List.drop_succ_cons,List.take_succ_cons,List.take_zero,List.getElem?_cons_zero,List.getElem?_cons_succ] at f0 f1 f2 f3 f4 f5;simp only [List.map_cons,List.map_nil,Prod.mk.injEq] at hx;obtain⟨rfl,_⟩:=hx
   have hwj:∀ (j:Nat) (t:TypeId) (y:DataW H×List MemPlace),[3,9,9,22,23,30][j]?=some t->[x0.1,x1.1,x2.1,x3.1,x4.1,x5.1][j]?=some y.1->∀ n∈y.1.weights Tryz.prog t,n<=reachBytes:=fun j t y h1 h2 n hn=>hw n (by
    rw [DataW.weights,Tryz.underlying32]
    exact Zco (j:=j) h1 h2 n hn)
   obtain⟨m0,d0,_,_⟩:=DataW.trod_int Tryz.underlying3 f0;obtain⟨m1,d1,_,w1⟩:=DataW.trod_string Tryz.underlying9 f1;obtain⟨m2,d2,_,w2⟩:=DataW.trod_string Tryz.underlying9 f2;obtain⟨A3,cp3,l3,rfl,i3,b3⟩:=Zv0 f3 (hwj 3 _ x3 rfl rfl);obtain⟨A4,cp4,l4,rfl,i4,b4⟩:=Zvy f4 (hwj 4 _ x4 rfl rfl);obtain⟨q,k,t,r,v',l,kv,f,e5,hl5,hs5⟩:=Zse f5 (hwj 5 _ x5 rfl rfl);simp only [List.cons.injEq,and_true] at d0 d1 d2 e5;obtain⟨rfl,rfl,rfl,rfl,rfl,rfl,rfl⟩:=e5;subst d0 d1 d2;unfold maxLen at w1 w2;exact⟨⟨m0,m1.data.toList,m2.data.toList,l3,l4,q,k,t,r,l,v',f⟩,A3,A4,cp3,cp4,_,by simp [Zbu],i3,i4,hs5,b3,b4,w1,w2,hl5⟩
end
end Go.Proofs.YtgjefdaaihgliaaGreatDoor
