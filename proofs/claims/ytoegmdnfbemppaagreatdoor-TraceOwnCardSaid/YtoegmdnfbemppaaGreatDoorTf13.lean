/- Layer 15: the program's sets: with, or, list. -/
import Derived.Test.YtoegmdnfbemppaaGreatDoorTf11

namespace Go.Proofs.YtoegmdnfbemppaaGreatDoor
open Go.RowKit
section
abbrev Zta (a:Nat):Value:=.agg #[.int .u64 (a:Int),.int .u64 0,.int .u64 0,.int .u64 0]
def Zdd (a k:Nat):List Int:=((List.range k).filter fun i=>a.testBit i).map fun (i:Nat)=>(i:Int)
theorem Zc9 (a k:Nat):Zdd a (k+1)=if a.testBit k then Zdd a k++[(k:Int)] else Zdd a k:=by
 unfold Zdd
 rw [List.range_succ,List.filter_append]
 cases h:a.testBit k <;> simp [h]
theorem Zjt (a k:Nat):(Zdd a k).length<=k:=by
 unfold Zdd
 rw [List.length_map]
 exact Nat.le_trans (List.length_filter_le _ _) (by simp)
theorem Zjy {a:Nat}(h:a<18446744073709551616):∀ k,64<=k->Zdd a k=Zdd a 64:=by
 intro k hk
 induction k with
 | zero=>omega
 | succ k ih=>
  by_cases e:64<=k
  ·rw [Zc9,Nat.testBit_lt_two_pow (Nat.lt_of_lt_of_le (show a<2 ^ 64 by simpa using h) (Nat.pow_le_pow_right (by omega) e))]
   exact ih e
  ·rw [show k+1=64 by omega]
theorem Zd9 {w:World}{B B2:Nat}{t:TypeId}{z n:Nat}{v:Value}{cs:List Value}(h:w.ownsRow B t z v n cs)(hB:B2<=B):w.ownsRow B2 t z v n cs:=by
 refine⟨h.1,?_⟩
 rcases h.2 with e | ⟨g,cap,cur,e,h1,h2⟩
 ·exact Or.inl e
 ·exact Or.inr ⟨g,cap,cur,e,Nat.le_trans hB h1,h2⟩
section
set_option maxHeartbeats 4000000
set_option maxRecDepth 100000
theorem Z6a (a i:Nat)(w:World)(ha:a<18446744073709551616)(hi:i<64):Calls Tryz.prog 160 #[Zta a,.int .i64 (i:Int)] w fun e w'=>e=.returned (Zta (a|||2 ^ i))/\Below w.heap.size w w':=by
 have h1:((i:Int) / 64)=0:=by omega
 have h2:((i:Int) % 64)=(i:Int):=by omega
 have hs2:IntKind.u64.wrap ((2:Int) ^ i)=((2 ^ i:Nat):Int):=by have:=Zqm hi;rwa [Int.one_mul] at this
 have hp:2 ^ i<18446744073709551616:=by
  have:2 ^ i<2 ^ 64:=Nat.pow_lt_pow_right (by omega) hi
  simpa using this
 have ho:=Zcg ha hp
 have ho2:bits .or .u64 (a:Int) ((2:Int) ^ i)=((a|||2 ^ i:Nat):Int):=by rw [<- ho];simp
 go_enter Tryz.func160,Tryz.ntmps160
 go_wp2_with fail
 refine bodyPost_ret (v:=Zta (a|||2 ^ i)) (by simp [results,Tryz.results160,go_sem]) rfl ?_
 refine⟨rfl,?_⟩
 repeat (first | exact Below.refl _ _ | with_reducible refine Below.setCell ?_ (by simp <;> omega) _ | with_reducible refine Zab ?_ _)
theorem Z56 (a:Nat)(w:World)(ha:a<18446744073709551616):Calls Tryz.prog 231 #[Zta a] w fun e w'=>∃ v,e=.returned v/\Zey.Own 3 w.heap.size w' v (Zdd a 64)/\Below w.heap.size w w':=by
 have HB0:=Zh (Zad w (.cells #[.int .u64 (a:Int),.int .u64 0,.int .u64 0,.int .u64 0] 112 (0,0)))
 have HBX:=Zh (Blk.new w 112 #[.int .u64 (a:Int),.int .u64 0,.int .u64 0,.int .u64 0])
 have HBIG:=Zh (Zjy ha 256 (by omega))
 go_enter Tryz.func231,Tryz.ntmps231
 go_wp2_with fail
 generalize hw1:w.alloc (.cells #[.int .u64 (a:Int),.int .u64 0,.int .u64 0,.int .u64 0] 112 (0,0))=w1 at HB0 HBX ⊢
 have hsz:w.heap.size<w1.heap.size:=HBX.out.lt
 clear hw1
 go_loopw [5,3] (fun i vv wr=>∃ k:Nat,k<=256/\i=.int .i64 k/\Zey.Own 3 w1.heap.size wr vv (Zdd a k)/\Below w1.heap.size w1 wr) (fun i _ _=>256 - (intOf i).toNat)
 case atStart=>exact⟨0,Nat.zero_le _,rfl,Enc.Own.nil _ _ _,Below.refl _ _⟩
 case round=>
  obtain⟨k,hk,rfl,hv,hb⟩:=hrel
  obtain⟨Av,cv,rfl⟩:=hv.shp
  have HV:=Zh hv
  have HBR:=Zh hb
  have HLL:=Zh (Zjt a k)
  have HBK:=Zh (HBX.out.go hb)
  have k0:=HBK.out.cell 0
  have k1:=HBK.out.cell 1
  have k2:=HBK.out.cell 2
  have k3:=HBK.out.cell 3
  have hzr:=hb.size
  clear hv hb
  by_cases hlt:k<256
  ·have hkl:(k:Int)<256:=by omega
   by_cases h64:k<64
   ·have h1:((k:Int) / 64)=0:=by omega
    have h2:((k:Int) % 64)=(k:Int):=by omega
    have hq:((a:Int) / (2:Int) ^ k)=((a / 2 ^ k:Nat):Int):=by simp
    have hlt2:a / 2 ^ k<18446744073709551616:=Nat.lt_of_le_of_lt (Nat.div_le_self _ _) ha
    have hb:=Zod hlt2
    rw [<- hq] at hb
    have hbm:=Zvt a k
    cases hbt:a.testBit k with
    | true=>
     have hb1:bits .and .u64 ((a:Int) / (2:Int) ^ k) 1=1:=by rw [hb];rw [hbt] at hbm;simp at hbm;simp [hbm]
     have HS:=Zh (show Zdd a (k+1)=Zdd a k++[(k:Int)] by rw [Zc9,hbt];rfl)
     clear hq hb hbm hbt
     go_wp2_with (at_builtin;refine Enc.app Zw3 _ rfl (.tmp 18) (.tmp 20) rfl (k:Int) w1.heap.size (Zdd a k) _ rfl rfl HV.out (by have:=HLL.out;omega) (by have:=HLL.out;omega) (by omega) ?_;intro v' w3 hown3 hg3;have HO3:=Zh hown3;have HB3:=Zh hg3.below;clear hown3 hg3)
     go_roundw
     case rel=>exact⟨k+1,by omega,by go_num,by rw [HS.out];exact HO3.out,HBR.out.trans HB3.out⟩
     case measure=>simp [intOf];omega
    | false=>
     have hb1:bits .and .u64 ((a:Int) / (2:Int) ^ k) 1=0:=by rw [hb];rw [hbt] at hbm;simp at hbm;simp [hbm]
     have HS:=Zh (show Zdd a (k+1)=Zdd a k by rw [Zc9,hbt];rfl)
     clear hq hb hbm hbt
     go_wp2_with fail
     go_roundw
     case rel=>exact⟨k+1,by omega,by go_num,by rw [HS.out];exact HV.out,HBR.out⟩
     case measure=>simp [intOf];omega
   ·have HS:=Zh (show Zdd a (k+1)=Zdd a k by rw [Zjy ha (k+1) (by omega),Zjy ha k (by omega)])
    have hz:bits .and .u64 0 1=0:=by decide
    have hj:(k:Int) / 64=1\/(k:Int) / 64=2\/(k:Int) / 64=3:=by omega
    rcases hj with hj | hj | hj
    all_goals
     go_wp2_with fail
     go_roundw
     case rel=>exact⟨k+1,by omega,by go_num,by rw [HS.out];exact HV.out,HBR.out⟩
     case measure=>simp [intOf];omega
  ·have hkn:k=256:=by omega
   subst hkn
   go_wp2_with fail
   go_ret
   refine⟨_,rfl,?_,Zaa HB0.out HBR.out⟩
   have:=HV.out
   rw [HBIG.out] at this
   rw [HBIG.out]
   exact Zd9 this (by omega)
def orC (a b k:Nat):Array Value:=#[.int .u64 ((if k=0 then a else (a|||b):Nat):Int),.int .u64 0,.int .u64 0,.int .u64 0]
theorem orP (a b:Nat)(w:World)(ha:a<18446744073709551616)(hb:b<18446744073709551616):Calls Tryz.prog 162 #[Zta a,Zta b] w fun e w'=>e=.returned (Zta (a|||b))/\Below w.heap.size w w':=by
 have ho:=Zcg ha hb
 have hz:bits .or .u64 0 0=0:=by decide
 go_enter Tryz.func162,Tryz.ntmps162
 go_wp2_with fail
 have HA:=Zh (((Blk.new w 112 #[.int .u64 (a:Int),.int .u64 0,.int .u64 0,.int .u64 0]).alloc (.cells #[.int .u64 (b:Int),.int .u64 0,.int .u64 0,.int .u64 0] 112 (0,0))).alloc (.cells #[.int .u64 0,.int .u64 0,.int .u64 0,.int .u64 0] 112 (0,0)))
 have HB:=Zh ((Blk.new (w.alloc (.cells #[.int .u64 (a:Int),.int .u64 0,.int .u64 0,.int .u64 0] 112 (0,0))) 112 #[.int .u64 (b:Int),.int .u64 0,.int .u64 0,.int .u64 0]).alloc (.cells #[.int .u64 0,.int .u64 0,.int .u64 0,.int .u64 0] 112 (0,0)))
 have HC:=Zh (Blk.new ((w.alloc (.cells #[.int .u64 (a:Int),.int .u64 0,.int .u64 0,.int .u64 0] 112 (0,0))).alloc (.cells #[.int .u64 (b:Int),.int .u64 0,.int .u64 0,.int .u64 0] 112 (0,0))) 112 #[.int .u64 0,.int .u64 0,.int .u64 0,.int .u64 0])
 have HW:=Zh (Zab (Zab (Zad w (.cells #[.int .u64 (a:Int),.int .u64 0,.int .u64 0,.int .u64 0] 112 (0,0))) (.cells #[.int .u64 (b:Int),.int .u64 0,.int .u64 0,.int .u64 0] 112 (0,0))) (.cells #[.int .u64 0,.int .u64 0,.int .u64 0,.int .u64 0] 112 (0,0)))
 go_loopw [6] (fun i wr=>∃ k:Nat,k<=4/\i=.int .i64 k/\Blk wr w.heap.size 112 (orC a b k)/\Blk wr (w.heap.size+1) 112 #[.int .u64 (b:Int),.int .u64 0,.int .u64 0,.int .u64 0]/\Blk wr (w.heap.size+2) 112 #[.int .u64 0,.int .u64 0,.int .u64 0,.int .u64 0]/\Below w.heap.size w wr) (fun i _=>4 - (intOf i).toNat)
 case atStart=>exact⟨0,by omega,rfl,HA.out,by simpa using HB.out,by simpa using HC.out,HW.out⟩
 case round=>
  obtain⟨k,hk,rfl,h1,h2,h3,h4⟩:=hrel
  have H1:=Zh h1
  have H2:=Zh h2
  have H3:=Zh h3
  have H4:=Zh h4
  clear h1 h2 h3 h4 HA HB HC HW
  by_cases hlt:k<4
  ·have hkl:(k:Int)<4:=by omega
   have hc:k=0\/k=1\/k=2\/k=3:=by omega
   rcases hc with rfl | rfl | rfl | rfl
   ·have c1:wr.cell? ⟨w.heap.size,0,none⟩=some (.int .u64 (a:Int)):=H1.out.cell 0
    have c2:=H2.out.cl 0
    have f1:=H1.out.frozen 0
    go_wp2_with fail
    go_region
    all_goals
     go_wp2_with fail
     go_roundw
     case rel=>exact⟨1,by omega,by go_num,by have:=(H1.out.set_ 0 (.int .u64 ((a|||b:Nat):Int))).drew;simpa [orC] using this,(H2.out.far (by simp) _).drew,(H3.out.far (by simp) _).drew,(H4.out.setCell (by simp) _).drew⟩
     case measure=>simp [intOf]
   ·have c1:wr.cell? ⟨w.heap.size,1,none⟩=some (.int .u64 0):=H1.out.cell 1
    have c2:=H2.out.cl 1
    have f1:=H1.out.frozen 1
    go_wp2_with fail
    go_region
    all_goals
     go_wp2_with fail
     go_roundw
     case rel=>exact⟨2,by omega,by go_num,by have:=(H1.out.set_ 1 (.int .u64 0)).drew;simpa [orC] using this,(H2.out.far (by simp) _).drew,(H3.out.far (by simp) _).drew,(H4.out.setCell (by simp) _).drew⟩
     case measure=>simp [intOf]
   ·have c1:wr.cell? ⟨w.heap.size,2,none⟩=some (.int .u64 0):=H1.out.cell 2
    have c2:=H2.out.cl 2
    have f1:=H1.out.frozen 2
    go_wp2_with fail
    go_region
    all_goals
     go_wp2_with fail
     go_roundw
     case rel=>exact⟨3,by omega,by go_num,by have:=(H1.out.set_ 2 (.int .u64 0)).drew;simpa [orC] using this,(H2.out.far (by simp) _).drew,(H3.out.far (by simp) _).drew,(H4.out.setCell (by simp) _).drew⟩
     case measure=>simp [intOf]
   ·have c1:wr.cell? ⟨w.heap.size,3,none⟩=some (.int .u64 0):=H1.out.cell 3
    have c2:=H2.out.cl 3
    have f1:=H1.out.frozen 3
    go_wp2_with fail
    go_region
    all_goals
     go_wp2_with fail
     go_roundw
     case rel=>exact⟨4,by omega,by go_num,by have:=(H1.out.set_ 3 (.int .u64 0)).drew;simpa [orC] using this,(H2.out.far (by simp) _).drew,(H3.out.far (by simp) _).drew,(H4.out.setCell (by simp) _).drew⟩
     case measure=>simp [intOf]
  ·have hk4:k=4:=by omega
   subst hk4
   have c0:wr.cell? ⟨w.heap.size,0,none⟩=some (.int .u64 ((a|||b:Nat):Int)):=H1.out.cell 0
   have c1:wr.cell? ⟨w.heap.size,1,none⟩=some (.int .u64 0):=H1.out.cell 1
   have c2:wr.cell? ⟨w.heap.size,2,none⟩=some (.int .u64 0):=H1.out.cell 2
   have c3:wr.cell? ⟨w.heap.size,3,none⟩=some (.int .u64 0):=H1.out.cell 3
   have d0:wr.cell? ⟨w.heap.size+1+1,0,none⟩=some (.int .u64 0):=H3.out.cell 0
   have d1:wr.cell? ⟨w.heap.size+1+1,1,none⟩=some (.int .u64 0):=H3.out.cell 1
   have d2:wr.cell? ⟨w.heap.size+1+1,2,none⟩=some (.int .u64 0):=H3.out.cell 2
   have d3:wr.cell? ⟨w.heap.size+1+1,3,none⟩=some (.int .u64 0):=H3.out.cell 3
   have e0:wr.frozen? ⟨w.heap.size+1+1,0,none⟩=false:=H3.out.frozen 0
   have e1:wr.frozen? ⟨w.heap.size+1+1,1,none⟩=false:=H3.out.frozen 1
   have e2:wr.frozen? ⟨w.heap.size+1+1,2,none⟩=false:=H3.out.frozen 2
   have e3:wr.frozen? ⟨w.heap.size+1+1,3,none⟩=false:=H3.out.frozen 3
   go_wp2_with fail
   refine bodyPost_ret (v:=Zta (a|||b)) (by simp [results,Tryz.results162,go_sem,d0,d1,d2,d3]) rfl ⟨rfl,?_⟩
   exact (((H4.out.setCell (by simp;omega) _).setCell (by simp;omega) _).setCell (by simp;omega) _).setCell (by simp;omega) _
end
end
section
abbrev Zbg:Enc (Int×Int):=⟨2,fun p=>[.int .i64 p.1,.int .i64 p.2],fun _=>rfl,by omega,fun _ u h=>by simp at h;rcases h with rfl | rfl <;> rfl⟩
theorem Zor:Zbg.Elem 52 37 16:=⟨Tryz.underlying37,.agg #[.int .i64 0,.int .i64 0],by kernel_rfl,rfl⟩
def Zbl (a i:Nat)(k:Nat):List (Int×Int):=(Zdd a k).map fun r=>(r,(i:Int))
theorem atI {w:World}{A:Option Addr}{l:List Int}(h:Zey.At w A l){i:Nat}{x:Int}(hx:l[i]?=some x):∃ b o,A=some ⟨b,o,none⟩/\w.cell? ⟨b,o+i,none⟩=some (.int .i64 x):=by
 obtain⟨b,o,e,hc⟩:=h i x hx
 refine⟨b,o,e,?_⟩
 have:=hc 0 _ rfl
 rwa [show o+i*Zey.size+0=o+i by show o+i*1+0=o+i;omega] at this
theorem Zj5 (w:World)(p:Int×Int):Zbg.At (w.alloc (.cells #[.int .i64 p.1,.int .i64 p.2] 52 (0,0))) (some ⟨w.heap.size,0,none⟩) [p]:=by
 have hB:=Blk.new w 52 #[.int .i64 p.1,.int .i64 p.2]
 intro i x hx
 refine⟨w.heap.size,0,rfl,fun j u hj=>?_⟩
 match i,hx with
 | 0,hx=>
  simp at hx;subst hx
  rw [show 0+0*Zbg.size+j=j by omega,hB.cell]
  rw [<- hj];simp
theorem Zai {w w1:World}{B B2 B3:Nat}{t t2:TypeId}{z n z2 n2:Nat}{v v2 v3:Value}{cs cs2:List Value}(h:w.ownsRow B t z v n cs)(h2:w.ownsRow B2 t2 z2 v2 n2 cs2)(hne:t≠t2)(hg:Zbn w w1 B3 v2 v3):w1.ownsRow B t z v n cs:=by
 refine Zep h (fun b hb=>?_)
 rcases h.2 with ⟨e,_⟩ | ⟨g,cap,cur,e,_,hh,_⟩
 ·subst e;cases hb
 ·subst e
  exact m_53
section
set_option maxHeartbeats 4000000
set_option maxRecDepth 100000
theorem Zwd (v:Value)(l:List (Int×Int))(a i B:Nat)(w:World)(ha:a<18446744073709551616)(hl:l.length<=1000000)(hB:B<=w.heap.size)(h:Zbg.Own 52 B w v l) :
  Calls Tryz.prog 159 #[v,Zta a,.int .i64 (i:Int)] w fun e w'=>∃ v',e=.returned v'/\Zbg.Own 52 B w' v' (l++Zbl a i 64)/\Zbn w w' B v v':=by
 obtain⟨Av,cv,rfl⟩:=h.shp
 have HV:=Zh h
 clear h
 go_enter Tryz.func159,Tryz.ntmps159
 go_wp2_with (go_at_call 231;refine (Z56 a _ ha).mono ?_;rintro e w2 ⟨u,rfl,hown,hb⟩;obtain⟨Au,cu,rfl⟩:=hown.shp;have HU:=Zh hown;have HB2:=Zh hb;clear hown hb)
 have HB4:=Zh (Zaa (Zad w (.cells #[.int .u64 (a:Int),.int .u64 0,.int .u64 0,.int .u64 0] 112 (0,0))) HB2.out)
 have hlu:=Zjt a 64
 have HV2:=Zh (HV.out.below HB4.out)
 have HG2:=Zh (Zbn.of_below (v:=.slice Av l.length cv) HB4.out hB)
 have HU2:=Zh (Zd9 HU.out (show B<=_ by simp;omega))
 obtain⟨L,hL⟩:∃ L,Zdd a 64=L:=⟨_,rfl⟩
 have HP:=Zh (show Zbl a i 64=L.map fun r=>(r,(i:Int)) by unfold Zbl;rw [hL])
 rw [hL] at HU2 hlu ⊢
 obtain⟨vz,hvz⟩:∃ vz,Value.slice Av l.length cv=vz:=⟨_,rfl⟩
 rw [hvz] at HV2 HG2
 clear HU HB2 HB4 HV hL
 go_loopw [12,0] (fun ii vv wr=>∃ (k:Nat) (v':Value),k<=L.length/\ii=.int .i64 k/\vv=v'/\Zbg.Own 52 B wr v' (l++(L.take k).map fun r=>(r,(i:Int)))/\Zey.Own 3 B wr (.slice Au L.length cu) L/\Zbn w wr B vz v') (fun ii _ _=>L.length - (intOf ii).toNat)
 case atStart=>exact⟨0,vz,Nat.zero_le _,rfl,hvz,by simpa using HV2.out,HU2.out,HG2.out⟩
 case round=>
  obtain⟨k,v',hk,rfl,rfl,hv,hu,hg⟩:=hrel
  obtain⟨q,hq⟩:∃ q,(l++(L.take k).map fun r=>(r,(i:Int)))=q:=⟨_,rfl⟩
  have HQ:=Zh hq
  rw [hq] at hv
  have hql:q.length<=1000064:=by rw [<- hq];simp;omega
  clear hq
  obtain⟨A3,c3,rfl⟩:=hv.shp
  have HV:=Zh hv
  have HU:=Zh hu
  have HG:=Zh hg
  have hzr:=hg.below.size
  clear hv hu hg HV2 HG2 HU2
  by_cases hlt:k<L.length
  ·have ex:=List.getElem?_eq_getElem hlt
   obtain⟨x,hx⟩:∃ x,L[k]=x:=⟨_,rfl⟩
   rw [hx] at ex
   obtain⟨A5,c5,e5,h5,_,_⟩:=HU.out.at_
   simp only [Value.slice.injEq,true_and] at e5
   obtain⟨rfl,rfl⟩:=e5
   obtain⟨b,o,rfl,c0⟩:=atI h5 ex
   have hkl:(k:Int)<(L.length:Int):=by omega
   have HS:=Zh (show q++[(x,(i:Int))]=l++(L.take (k+1)).map fun r=>(r,(i:Int)) by
    obtain⟨h1,h2⟩:=List.getElem?_eq_some_iff.1 ex
    rw [<- HQ.out,List.take_succ_eq_append_getElem h1,h2];simp)
   have HPA:=Zh (Zj5 wr (x,(i:Int)))
   have HB1:=Zh (Zad wr (.cells #[.int .i64 x,.int .i64 (i:Int)] 52 (0,0)))
   clear hx ex h5
   go_wp2_with (at_builtin;refine Enc.appW Zor _ rfl (.tmp 16) (.tmp 20) rfl [(x,(i:Int))] B q _ wr.heap.size 0 1 rfl rfl HPA.out (HV.out.below HB1.out) (by simp;omega) (by simp;omega) (by simp;omega) ?_;intro v' w3 hown3 hg3;have HO3:=Zh hown3;have HG3:=Zh hg3;clear hown3 hg3)
   go_roundw
   case rel=>exact⟨k+1,_,by omega,by go_num,rfl,by rw [<- HS.out];exact HO3.out,Zai (Zau HU.out HB1.out) (HV.out.below HB1.out) (by decide) HG3.out,HG.out.trans ((Zbn.of_below HB1.out (by omega)).trans HG3.out)⟩
   case measure=>simp [intOf];omega
  ·go_wp2_with fail
   go_ret
   refine⟨_,rfl,?_,by rw [hvz];exact HG.out⟩
   rw [HP.out]
   have:=HQ.out
   rw [List.take_of_length_le (by omega)] at this
   rw [this]
   exact HV.out
end
end
end Go.Proofs.YtoegmdnfbemppaaGreatDoor
namespace Go.Proofs.YtoegmdnfbemppaaGreatDoor
open Go.RowKit
open Go.Sort (Holds putRow mapBlock putCells grow onCells)
theorem Zsh (l:List Nm):Zcx.flat l=l.map encStr:=by
 induction l with
 | nil=>rfl
 | cons x r ih=>rw [Enc.flat_cons,ih];rfl
theorem Zz3 {B g n cap:Nat}{w:World}{l:List Nm}(h:Zcx.Own 9 B w (.slice (some ⟨g,0,none⟩) n cap) l)(hn:n=l.length):Holds encStr w g 0 l.toArray/\∃ cur,w.heap[g]?=some (.cells cur 9 (0,0))/\l.length<=cap/\cap<=maxLen/\cur.size=cap/\B<=g/\cur.toList.take l.length=l.map encStr:=by
 subst hn
 have h':=h
 rcases h.2 with ⟨e,h0⟩ | ⟨g',cap',cur,e,h1,h2,h3,h4,h5,h6⟩
 ·simp at e
 ·simp only [Value.slice.injEq,Option.some.injEq,Addr.mk.injEq,and_true,true_and] at e
  obtain⟨rfl,rfl⟩:=e
  have h6':cur.toList.take l.length=l.map encStr:=by
   rw [<- Zsh,<- h6];congr 1
   show l.length=l.length*1;omega
  refine⟨fun j hj=>⟨?_,(show Blk w g 9 cur from h2).frozen _⟩,cur,h2,h3,h4,by rw [h5];show cap*1=cap;omega,h1,h6'⟩
  simp only [List.size_toArray] at hj
  rw [Nat.zero_add,h'.cellAt j (by show j<l.length*1;omega),Zsh,List.getElem?_map,List.getElem?_eq_getElem hj,getElem!_pos l.toArray j (by simpa using hj)]
  simp
theorem Zhs (d:List Nm)(cur:Array Value)(h:d.length<=cur.size):(putCells encStr 0 d.toArray cur).toList.take d.length=d.map encStr:=by
 apply List.ext_getElem?
 intro i
 rw [List.getElem?_take]
 by_cases hi:i<d.length
 ·rw [if_pos hi,List.getElem?_map,List.getElem?_eq_getElem hi]
  exact m_118
 ·rw [if_neg hi,List.getElem?_map,List.getElem?_eq_none (by omega)]
  rfl
theorem Zrg {w:World}{g q:Nat}{cur:Array Value}{os:Array Obj}{d:Array Nm}(h:w.heap[g]?=some (.cells cur 9 (0,0))):(grow (putRow encStr (Sort.ahead w q) g 0 d) os).heap[g]?=some (.cells (putCells encStr 0 d cur) 9 (0,0)):=by
 have hlt:=(Array.getElem?_eq_some_iff.1 h).1
 have h2:(putRow encStr (Sort.ahead w q) g 0 d).heap[g]?=some (.cells (putCells encStr 0 d cur) 9 (0,0)):=by
  simp only [putRow,mapBlock,Array.getElem?_modify]
  rw [if_pos trivial]
  show (w.heap[g]?).map _=_
  rw [h];rfl
 rw [Sort.heap_grow_old _ _ (by simp [putRow,mapBlock,Sort.ahead];exact hlt)]
 exact h2
theorem Zpj {w:World}{g q B:Nat}{os:Array Obj}{d:Array Nm}(hB:B<=g)(hg:g<w.heap.size):Below B w (grow (putRow encStr (Sort.ahead w q) g 0 d) os):=
 ⟨rfl,rfl,rfl,by show w.heap.size<=((w.heap.modify g _)++os).size;simp,fun i hi=>by
  rw [Sort.heap_grow_old _ _ (by simp [putRow,mapBlock,Sort.ahead];omega)]
  simp only [putRow,mapBlock,Array.getElem?_modify]
  rw [if_neg (by omega)];rfl⟩
theorem Zrn (d:Array Nm)(cur:Array Value):(putCells encStr 0 d cur).size=cur.size:=by simp [putCells]
theorem Z1c (v:Value)(l:List Nm)(B:Nat)(w:World)(h:Zcx.Own 9 B w v l)(hl:l.length<=1000000):Calls Tryz.prog 150 #[v] w fun e w'=>e=.returned (.tuple #[])/\Zcx.Own 9 B w' v (Ze5 l)/\Below B w w':=by
 have hsl:(Ze5 l).length=l.length:=(Zdm l).length_eq
 obtain⟨A,cap,rfl⟩:=h.shp
 rcases h.2 with ⟨e,h0⟩ | ⟨g,cap',cur0,e,_⟩
 ·have hl0:l=[]:=List.length_eq_zero_iff.1 h0
  subst hl0
  refine (Tryz.slices_Sort_string_none A cap w).mono fun e w' ⟨h1,h2⟩=>⟨h1,?_,?_⟩
  ·subst h2;have:Ze5 ([]:List Nm)=[]:=List.length_eq_zero_iff.1 hsl
   rw [this];exact h
  ·rw [h2];exact Below.refl _ _
 ·simp only [Value.slice.injEq,true_and] at e
  obtain⟨rfl,rfl⟩:=e
  obtain⟨hH,cur,hg,h3,h4,h5,h6,h7⟩:=Zz3 h rfl
  have hlt:=(Array.getElem?_eq_some_iff.1 hg).1
  refine (Tryz.slices_Sort_string g 0 cap l w hH hlt (by omega)).mono fun e w' ⟨h1,n,os,h2⟩=>⟨h1,?_,?_⟩
  ·subst h2
   show World.ownsRow _ B 9 1 _ (Ze5 l).length (Zcx.flat (Ze5 l))
   refine⟨by rw [Enc.flat_len],Or.inr ⟨g,cap,_,by rw [hsl],h6,Zrg hg,by rw [hsl];exact h3,h4,by rw [Zrn,h5];omega,?_⟩⟩
   rw [Nat.mul_one,Zsh]
   exact Zhs (Ze5 l) cur (by rw [hsl];omega)
  ·subst h2;exact Zpj h6 hlt
theorem Zpg (l:List Nm):(Lib.compact l).length<=l.length:=by
 have:=Zif l.toArray l.length
 exact this
theorem Z14 (v:Value)(l:List Nm)(B:Nat)(w:World)(h:Zcx.Own 9 B w v l)(hl:l.length<=1000000):Calls Tryz.prog 151 #[v] w fun e w'=>∃ v',e=.returned v'/\Zcx.Own 9 B w' v' (Lib.compact l)/\Below B w w':=by
 have hcl:=Zpg l
 obtain⟨A,cap,rfl⟩:=h.shp
 rcases h.2 with ⟨e,h0⟩ | ⟨g,cap',cur0,e,_⟩
 ·have hl0:l=[]:=List.length_eq_zero_iff.1 h0
  subst hl0
  refine (Tryz.slices_Compact_string_empty A cap w).mono fun e w' ⟨h1,h2⟩=>⟨_,h1,?_,?_⟩
  ·subst h2;exact h
  ·rw [h2];exact Below.refl _ _
 ·simp only [Value.slice.injEq,true_and] at e
  obtain⟨rfl,rfl⟩:=e
  obtain⟨hH,cur,hg,h3,h4,h5,h6,h7⟩:=Zz3 h rfl
  have hlt:=(Array.getElem?_eq_some_iff.1 hg).1
  refine (Tryz.slices_Compact_string g 0 cap l w hH (by omega) h3).mono fun e w' ⟨h1,q,h2⟩=>⟨_,h1,?_,?_⟩
  ·have h2':w'=grow (putRow encStr (Sort.ahead w q) g 0 (Lib.compact l++List.replicate (l.length - (Lib.compact l).length) []).toArray) #[]:=by rw [h2];simp
   subst h2'
   show World.ownsRow _ B 9 1 _ (Lib.compact l).length (Zcx.flat (Lib.compact l))
   refine⟨by rw [Enc.flat_len],Or.inr ⟨g,cap,_,rfl,h6,Zrg hg,by omega,h4,by rw [Zrn,h5];omega,?_⟩⟩
   rw [Nat.mul_one,Zsh]
   have hp:=Zhs (Lib.compact l++List.replicate (l.length - (Lib.compact l).length) []) cur (by simp;omega)
   have:=congrArg (List.take (Lib.compact l).length) hp
   rw [List.take_take,List.map_append,List.take_append_of_le_length (by simp)] at this
   rw [Nat.min_eq_left (by simp)] at this
   rw [this,List.take_of_length_le (by simp)]
  ·have h2':w'=grow (putRow encStr (Sort.ahead w q) g 0 (Lib.compact l++List.replicate (l.length - (Lib.compact l).length) []).toArray) #[]:=by rw [h2];simp
   rw [h2'];exact Zpj h6 hlt
end Go.Proofs.YtoegmdnfbemppaaGreatDoor
namespace Go.Proofs.YtoegmdnfbemppaaGreatDoor
open Go.RowKit
section
def Zha (s:Nm):List Nm->Bool->List Nm
 | [],d=>if d then [] else [s]
 | y :: r,d=>(if d then [] else if ltN s y then [s] else [])++y :: Zha s r (d||ltN s y)
theorem Zln (s:Nm):∀ l,Zha s l true=l
 | []=>rfl
 | y :: r=>by simp [Zha,Zln s r]
theorem Zly (s:Nm):∀ l,Zha s l false=Zos s l
 | []=>rfl
 | y :: r=>by
  unfold Zha Zos
  cases h:ltN s y with
  | true=>simp [Zln]
  | false=>simp [Zly s r]
def Zlj (B:Nat)(w:World)(A:Option Addr)(cap:Nat)(l:List Nm):Prop:=B<=w.heap.size/\Zcx.Own 9 B w (.slice A l.length cap) l
theorem Zlj.below {B:Nat}{w w':World}{A:Option Addr}{cap:Nat}{l:List Nm}(h:Zlj B w A cap l)(hb:Below w.heap.size w w'):Zlj B w' A cap l:=⟨Nat.le_trans h.1 hb.size,h.2.below hb⟩
theorem Zlj.at {B:Nat}{w:World}{A:Option Addr}{cap:Nat}{l:List Nm}(h:Zlj B w A cap l):Zcx.At w A l:=by
 obtain⟨A',cap',e,hat,_⟩:=h.2.at_
 cases e
 exact hat
theorem Zlj.nil {B:Nat}{w:World}(h:B<=w.heap.size):Zlj B w none 0 []:=⟨h,Enc.Own.nil _ _ _⟩
theorem Zlj.of {B B2:Nat}{w:World}{A:Option Addr}{cap n:Nat}{l:List Nm}(h:Zcx.Own 9 B w (.slice A n cap) l)(hn:n=l.length)(hB:B2<=B)(hw:B<=w.heap.size):Zlj B2 w A cap l:=by
 subst hn
 refine⟨Nat.le_trans hB hw,h.1,?_⟩
 rcases h.2 with e | ⟨g,cap,cur,e,h1,h2⟩
 ·exact Or.inl e
 ·exact Or.inr ⟨g,cap,cur,e,Nat.le_trans hB h1,h2⟩
def Z00 (B:Nat)(l:List Nm)(w:World)(e:Ending)(w':World):Prop:=∃ A cap,e=.returned (.slice A l.length cap)/\Zlj B w' A cap l/\Below w.heap.size w w'
theorem Z00.mk {B:Nat}{l l2:List Nm}{w w':World}{e:Ending}{A:Option Addr}{cap:Nat}(h:l2=l)(he:e=.returned (.slice A l2.length cap))(hat:Zlj B w' A cap l2)(hb:Below w.heap.size w w'):Z00 B l w e w':=by
 subst h;exact⟨A,cap,he,hat,hb⟩
theorem Zmm (w:World)(a:Nm):Zcx.At (w.alloc (.cells #[.string ⟨a.toArray⟩] 9 (0,0))) (some ⟨w.heap.size,0,none⟩) [a]:=by
 have hB:=Blk.new w 9 #[.string ⟨a.toArray⟩]
 intro i x hx
 refine⟨w.heap.size,0,rfl,fun j u hj=>?_⟩
 have hj0:j=0:=by
  have:=(List.getElem?_eq_some_iff.1 hj).1
  simp at this;omega
 subst hj0
 simp at hj
 subst hj
 rw [show 0+i*Zcx.size+0=i from by show 0+i*1+0=i;omega,hB.cell]
 match i,hx with
 | 0,hx=>simp at hx;subst hx;rfl
theorem Z3w {w:World}{A:Option Addr}{l:List Nm}(h:Zcx.At w A l){i:Nat}{x:Nm}(hx:l[i]?=some x):∃ b o,A=some ⟨b,o,none⟩/\w.cell? ⟨b,o+i,none⟩=some (.string ⟨x.toArray⟩):=by
 obtain⟨b,o,e,hc⟩:=h i x hx
 refine⟨b,o,e,?_⟩
 have:=hc 0 _ rfl
 rwa [show o+i*Zcx.size+0=o+i by show o+i*1+0=o+i;omega] at this
section
set_option maxHeartbeats 4000000
set_option maxRecDepth 100000
theorem Zq0 {B:Nat}(A:Option Addr)(cap:Nat)(l:List Nm)(s:Nm)(w:World)(hl:l.length<=1000000)(h:Zlj B w A cap l) :
  Calls Tryz.prog 107 #[.slice A l.length cap,.string ⟨s.toArray⟩] w (Z00 B (Zkt l s) w):=by
 have HOW:=Zh h
 have HA:=Zh h.at
 clear h
 by_cases hs:s=[]
 ·subst hs
  have HE:=Zh (show l=Zkt l [] by simp [Zkt])
  go_enter Tryz.func107,Tryz.ntmps107
  go_wp2_with fail
  go_ret
  exact Z00.mk HE.out rfl HOW.out (Below.refl _ _)
 ·have hs2:(s == [])=false:=by simpa using hs
  have hs3:s.isEmpty=false:=by simpa using hs
  go_enter Tryz.func107,Tryz.ntmps107
  go_wp2_with fail
  go_loopw [7,5,6] (fun i vv dd wr=>∃ (k:Nat) (o:List Nm) (d:Bool),k<=l.length/\i=.int .i64 k/\dd=.bool d/\(∀ j x,j<k->l[j]?=some x->x≠s)/\o.length<=k+d.toNat/\Zcx.Own 9 w.heap.size wr vv o/\o++Zha s (l.drop k) d=Zos s l/\Below w.heap.size w wr) (fun i _ _ _=>l.length - (intOf i).toNat)
  case atStart=>exact⟨0,[],false,Nat.zero_le _,rfl,rfl,(fun j x hj=>absurd hj (Nat.not_lt_zero _)),by simp,Enc.Own.nil _ _ _,by rw [List.nil_append,List.drop_zero,Zly],Below.refl _ _⟩
  case round=>
   obtain⟨k,o,d,hk,rfl,rfl,hno,hol,hv,he,hb⟩:=hrel
   obtain⟨Av,cv,rfl⟩:=hv.shp
   have HNO:=Zh hno
   have HOL:=Zh hol
   have HV:=Zh hv
   have HE:=Zh he
   have HBR:=Zh hb
   have hzr:=hb.size
   clear hno hol hv he hb
   by_cases hlt:k<l.length
   ·have ex:=List.getElem?_eq_getElem hlt
    obtain⟨y,hx⟩:∃ y,l[k]=y:=⟨_,rfl⟩
    rw [hx] at ex
    obtain⟨b,o2,rfl,c0⟩:=Z3w HA.out ex
    have hbl:b<w.heap.size:=World.block_lt_of_cell? w _ c0
    have c0r:=Zac c0 HBR.out
    have HX:=Zh ex
    have hkl:(k:Int)<(l.length:Int):=by omega
    have hdr:l.drop k=y :: l.drop (k+1):=by
     obtain⟨h1,h2⟩:=List.getElem?_eq_some_iff.1 ex
     rw [<- h2];exact List.drop_eq_getElem_cons h1
    have HDR:=Zh hdr
    clear hx ex c0 hdr
    by_cases hys:y=s
    ·subst hys
     have HI:=Zh (show l=Zkt l y by unfold Zkt;rw [if_pos (Or.inr (List.mem_of_getElem? HX.out))])
     go_wp2_with fail
     go_ret
     exact Z00.mk HI.out rfl (HOW.out.below HBR.out) HBR.out
    ·have hys2:(y == s)=false:=by simpa using hys
     have HNX:=Zh (fun (j:Nat) (x:Nm) (hj:j<k+1) (hx:l[j]?=some x)=>(by
      rcases Nat.lt_succ_iff_lt_or_eq.1 hj with h | h
      ·exact HNO.out j x h hx
      ·rw [h,HX.out] at hx;cases hx;exact hys:x≠s))
     have HY1:=Zh (Zmm wr y)
     have HS1:=Zh (Zmm wr s)
     clear hys
     cases d with
     | true=>
      have HEN:=Zh (show (o++[y])++Zha s (l.drop (k+1)) true=Zos s l by rw [<- HE.out,HDR.out];simp [Zha])
      go_wp2_with (at_builtin;refine Enc.appL Zoy _ rfl (.tmp 38) (.tmp 43) rfl [y] w.heap.size o _ wr.heap.size 0 1 rfl rfl HY1.out (HV.out.below (Zad _ _)) (by have:=HOL.out;simp at *;omega) (by have:=HOL.out;simp at *;omega) (by simp;omega) ?_;intro v' w3 hown3 hg3;have HO3:=Zh hown3;have HB3:=Zh hg3.below;clear hown3 hg3)
      go_roundw
      case rel=>exact⟨k+1,o++[y],true,by omega,by go_num,rfl,HNX.out,by have:=HOL.out;simp at *;omega,HO3.out,HEN.out,(Zab HBR.out _).trans HB3.out⟩
      case measure=>simp [intOf];omega
     | false=>
      cases hlt2:ltN s y with
      | false=>
       have hless:Op.bytesLess s y=false:=by rw [Zgh,hlt2]
       have HEN:=Zh (show (o++[y])++Zha s (l.drop (k+1)) false=Zos s l by rw [<- HE.out,HDR.out];simp [Zha,hlt2])
       clear hlt2
       go_wp2_with (at_builtin;refine Enc.appL Zoy _ rfl (.tmp 38) (.tmp 43) rfl [y] w.heap.size o _ wr.heap.size 0 1 rfl rfl HY1.out (HV.out.below (Zad _ _)) (by have:=HOL.out;simp at *;omega) (by have:=HOL.out;simp at *;omega) (by simp;omega) ?_;intro v' w3 hown3 hg3;have HO3:=Zh hown3;have HB3:=Zh hg3.below;clear hown3 hg3)
       go_roundw
       case rel=>exact⟨k+1,o++[y],false,by omega,by go_num,rfl,HNX.out,by have:=HOL.out;simp at *;omega,HO3.out,HEN.out,(Zab HBR.out _).trans HB3.out⟩
       case measure=>simp [intOf];omega
      | true=>
       have hless:Op.bytesLess s y=true:=by rw [Zgh,hlt2]
       have HEN:=Zh (show ((o++[s])++[y])++Zha s (l.drop (k+1)) true=Zos s l by rw [<- HE.out,HDR.out];simp [Zha,hlt2])
       clear hlt2
       obtain⟨o3,ho3⟩:∃ o3,o++[s]=o3:=⟨_,rfl⟩
       have HO3E:=Zh ho3
       have HOL3:=Zh (show o3.length<=k+1 by rw [<- ho3];have:=HOL.out;simp at *;omega)
       rw [ho3] at HEN
       clear ho3
       go_wp2_with (first
        | (at_builtin;refine Enc.appL Zoy _ rfl (.tmp 34) (.tmp 36) rfl [s] w.heap.size o _ wr.heap.size 0 1 rfl rfl HS1.out (HV.out.below (Zad _ _)) (by have:=HOL.out;simp at *;omega) (by have:=HOL.out;simp at *;omega) (by simp;omega) ?_;intro v' w3 hown3 hg3;rw [HO3E.out] at hown3;obtain⟨Aw,cw,rfl⟩:=hown3.shp;have HO3:=Zh hown3;have HB3:=Zh hg3.below;have c3r:=Zcv (Zal c0r (.cells #[.string ⟨s.toArray⟩] 9 (0,0))) hg3.below hbl;have hz_w3:w.heap.size<=w3.heap.size:=(by have hq:=hg3.below.size;simp at hq;omega);clear hown3 hg3)
        | (at_builtin;refine Enc.appL Zoy _ rfl (.tmp 38) (.tmp 43) rfl [y] w.heap.size o3 _ w3.heap.size 0 1 rfl rfl (Zmm w3 y) (HO3.out.below (Zad _ _)) (by have:=HOL3.out;simp at *;omega) (by have:=HOL3.out;simp at *;omega) (by simp;omega) ?_;intro v' w4 hown3 hg3;have HO4:=Zh hown3;have HB4:=Zh hg3.below;clear hown3 hg3))
       go_roundw
       case rel=>exact⟨k+1,o3++[y],true,by omega,by go_num,rfl,HNX.out,by have:=HOL3.out;simp at *;omega,HO4.out,HEN.out,((Zab HBR.out _).trans HB3.out).trans ((Zad _ _).mono (by omega) |>.trans HB4.out)⟩
       case measure=>simp [intOf];omega
   ·have hkn:k=l.length:=by omega
    have hni:s∉l:=fun hm=>by
     obtain⟨j,hj⟩:=List.getElem?_of_mem hm
     exact HNO.out j s (by have:=(List.getElem?_eq_some_iff.1 hj).1;omega) hj rfl
    have HIN:=Zh (show Zkt l s=Zos s l by unfold Zkt;rw [if_neg (by simp [hs,hni])])
    have HS1:=Zh (Zmm wr s)
    cases d with
    | true=>
     have HR:=Zh (show o=Zkt l s by rw [HIN.out,<- HE.out,List.drop_of_length_le (by omega)];simp [Zha])
     go_wp2_with fail
     go_ret
     exact Z00.mk HR.out rfl (Zlj.of HV.out rfl HOW.out.1 HBR.out.size) HBR.out
    | false=>
     have HR:=Zh (show o++[s]=Zkt l s by rw [HIN.out,<- HE.out,List.drop_of_length_le (by omega)];simp [Zha])
     go_wp2_with (at_builtin;refine Enc.appL Zoy _ rfl (.tmp 47) (.tmp 49) rfl [s] w.heap.size o _ wr.heap.size 0 1 rfl rfl HS1.out (HV.out.below (Zad _ _)) (by have:=HOL.out;simp at *;omega) (by have:=HOL.out;simp at *;omega) (by simp;omega) ?_;intro v' w3 hown3 hg3;obtain⟨Aw,cw,rfl⟩:=hown3.shp;have HO3:=Zh hown3;have HB3:=Zh hg3.below;have hz_w3:w.heap.size<=w3.heap.size:=(by have hq:=hg3.below.size;simp at hq;omega);clear hown3 hg3)
     go_ret
     exact Z00.mk HR.out (by rw [List.length_append];rfl) (Zlj.of HO3.out rfl HOW.out.1 hz_w3) ((Zab HBR.out _).trans HB3.out)
end
end
end Go.Proofs.YtoegmdnfbemppaaGreatDoor
