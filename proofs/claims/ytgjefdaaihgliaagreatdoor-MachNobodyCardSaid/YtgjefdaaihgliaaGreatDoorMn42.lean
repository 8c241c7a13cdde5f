/- Layer 21: a machine at a test's beginning: the program's New. -/
import Derived.Test.YtgjefdaaihgliaaGreatDoorMn40
import Derived.Test.YtgjefdaaihgliaaGreatDoorMn41

namespace Go.Proofs.YtgjefdaaihgliaaGreatDoor
open Go.RowKit
section
abbrev Zz3 (tr:List (Option Addr×Nat×Nat×Int)):Prop:=tr.Pairwise (fun x y=>x.1≠y.1)
theorem Zqz {w:World}{B q:Nat}{v:Value}{tr:List (Option Addr×Nat×Nat×Int)}{tds:List BTd}{x:Option Addr×Nat×Nat×Int}(h:Zz3 tr)(ht:Zdp w B v tr tds)(hx:x.1=some ⟨q,0,none⟩)(hq:w.heap.size<=q):Zz3 (tr++[x]):=by
 refine List.pairwise_append.2 ⟨h,List.pairwise_singleton _ _,fun y hy z hz=>?_⟩;simp only [List.mem_singleton] at hz;subst hz;obtain⟨i,hi,rfl⟩:=List.getElem_of_mem hy;have hl:i<tds.length:=by rw [<- ht.len];exact hi
 obtain⟨b,cap,h1,h2⟩:=ht.td i _ (List.getElem?_eq_getElem hl);rw [List.getElem?_eq_getElem hi] at h1;simp only [Option.some.injEq] at h1;rw [h1,hx];have:=h2.blk.2.1;intro e;simp only [Option.some.injEq,Addr.mk.injEq,and_true] at e;omega
theorem Zdp.setReg {w:World}{B b cap k:Nat}{v:Value}{tr:List (Option Addr×Nat×Nat×Int)}{tds:List BTd}{t:BTd}(h:Zdp w B v tr tds)(ha:Zz3 tr)(hk:tds[k]?=some t)(he:tr[k]?=some (some ⟨b,0,none⟩,t.vs.length,cap,t.at_))(r:Nat)(x:List UInt8×Int) :
  Zdp ((w.setCell ⟨b,r*2,none⟩ (.string ⟨x.1.toArray⟩)).setCell ⟨b,r*2+1,none⟩ (.int .i64 x.2)) B v tr (tds.set k { t with vs:=t.vs.set r x }):=by
 obtain⟨b',cap',h1,hr⟩:=h.td k t hk;rw [he] at h1;simp only [Option.some.injEq,Prod.mk.injEq,Addr.mk.injEq,and_true,true_and] at h1;obtain⟨rfl,rfl⟩:=h1;obtain⟨_,_,_,_,cur,hcur⟩:=hr.blk;have hcur1:Blk (w.setCell ⟨b,r*2,none⟩ (.string ⟨x.1.toArray⟩)) b 71 _:=hcur.set_ _ _;refine⟨Zae (Zae h.own hcur (by decide) _ _) hcur1 (by decide) _ _,by rw [List.length_set];exact h.len,fun j s hj=>?_⟩;by_cases e:j=k
 ·subst e;rw [List.getElem?_set_self (List.getElem?_eq_some_iff.1 hk).1] at hj;cases hj
  refine⟨b,cap,by rw [he];simp,?_⟩;have:=hr.set r x;show Zd2.Own 71 B _ (.slice (some ⟨b,0,none⟩) (t.vs.set r x).length cap) (t.vs.set r x);rw [List.length_set];exact this
 ·rw [List.getElem?_set_ne (Ne.symm e)] at hj;obtain⟨q,cq,h1,h2⟩:=h.td j s hj;refine⟨q,cq,h1,?_⟩;have hne:q≠b:=by
   intro eq;subst eq;have hj1:=List.getElem?_eq_some_iff.1 h1;have hk1:=List.getElem?_eq_some_iff.1 he;obtain⟨hjl,hje⟩:=hj1;obtain⟨hkl,hke⟩:=hk1;rcases Nat.lt_or_gt_of_ne e with e | e
   ·exact List.pairwise_iff_getElem.1 ha j k hjl hkl e (by rw [hje,hke])
   ·exact List.pairwise_iff_getElem.1 ha k j hkl hjl e (by rw [hje,hke])
  exact Zgu (Zgu h2 (p:=⟨b,r*2,none⟩) (Ne.symm hne) _) (p:=⟨b,r*2+1,none⟩) (Ne.symm hne) _
theorem Zb3.setReg {w:World}{B g b cap k:Nat}{m:BMc}{V:MMv}{t:BTd}(h:Zb3 w B g m V)(ha:Zz3 V.tr)(hk:m.tds[k]?=some t)(he:V.tr[k]?=some (some ⟨b,0,none⟩,t.vs.length,cap,t.at_))(r:Nat)(x:List UInt8×Int) :
  Zb3 ((w.setCell ⟨b,r*2,none⟩ (.string ⟨x.1.toArray⟩)).setCell ⟨b,r*2+1,none⟩ (.int .i64 x.2)) B g { m with tds:=m.tds.set k { t with vs:=t.vs.set r x } } V:=by
 obtain⟨b',cap',h1,hr⟩:=h.thr.td k t hk;rw [he] at h1;simp only [Option.some.injEq,Prod.mk.injEq,Addr.mk.injEq,and_true,true_and] at h1;obtain⟨rfl,rfl⟩:=h1;obtain⟨_,_,_,_,cur,hcur⟩:=hr.blk;exact h.turn (F:=fun q=>q=b) (fun q hq=>⟨_,cur,hq ▸ hcur,by simp⟩) (Chg.set (F:=fun q=>q=b) (p:=⟨b,r*2+1,none⟩) (Chg.set (F:=fun q=>q=b) (p:=⟨b,r*2,none⟩) Chg.refl rfl _) rfl _) (h.thr.setReg ha hk he r x)
theorem Zb3.drew {w:World}{B g:Nat}{m:BMc}{V:MMv}(h:Zb3 w B g m V):Zb3 w.drew B g m V:=h.below (Below.refl _ _).drew
section
set_option maxHeartbeats 8000000
set_option maxRecDepth 100000
def Z4a (T:Tst)(w:World)(e:Ending)(w':World):Prop:=∃ g V,e=.returned (.tuple #[.pointer (some ⟨g,0,none⟩),.int .i64 0])/\Zb3 w' w.heap.size g (Zby T) V/\Below w.heap.size w w'
theorem Z5v (T:Tst)(Ai Ac:Option Addr)(ci cc:Nat)(kv:Value)(w:World)(hT:Zcu w T Ai Ac kv)(a:Tr)(ha:Zcs T=.ok a) :
  Calls Tryz.prog 10 #[Zbu T (.slice Ai T.init.length ci) (.slice Ac T.code.length cc) kv] w (Z4a T w):=by
 obtain⟨A0,l0,q0,rfl⟩:∃ A n c,kv=.slice A n c:=by obtain⟨A,cap,e,_⟩:=hT.kids;exact⟨A,_,cap,e⟩
 simp only [Zbu];have hB0:=Zad w (.cells #[.int .i64 T.arch,.string ⟨T.name.toArray⟩,.string ⟨T.cycle.toArray⟩,.slice Ai T.init.length ci,.slice Ac T.code.length cc,.int .i64 T.q,.int .i64 T.k,.int .i64 T.t,.int .i64 T.r,.string ⟨T.l.toArray⟩,.int .i64 T.v,.slice A0 l0 q0] 32 (0,0));have HTB:=Zh (Blk.new w 32 #[.int .i64 T.arch,.string ⟨T.name.toArray⟩,.string ⟨T.cycle.toArray⟩,.slice Ai T.init.length ci,.slice Ac T.code.length cc,.int .i64 T.q,.int .i64 T.k,.int .i64 T.t,.int .i64 T.r,.string ⟨T.l.toArray⟩,.int .i64 T.v,.slice A0 l0 q0]);have HT:=Zh (hT.below hB0);have HOf:=Zh (ofP T Ai Ac ci cc (.slice A0 l0 q0) (w.alloc (.cells #[.int .i64 T.arch,.string ⟨T.name.toArray⟩,.string ⟨T.cycle.toArray⟩,.slice Ai T.init.length ci,.slice Ac T.code.length cc,.int .i64 T.q,.int .i64 T.k,.int .i64 T.t,.int .i64 T.r,.string ⟨T.l.toArray⟩,.int .i64 T.v,.slice A0 l0 q0] 32 (0,0))) (hT.below hB0));have hE:=(Zir ha);have HB0:=Zh hB0;have HA:=Zh ha;have hz0:(w.alloc (.cells #[.int .i64 T.arch,.string ⟨T.name.toArray⟩,.string ⟨T.cycle.toArray⟩,.slice Ai T.init.length ci,.slice Ac T.code.length cc,.int .i64 T.q,.int .i64 T.k,.int .i64 T.t,.int .i64 T.r,.string ⟨T.l.toArray⟩,.int .i64 T.v,.slice A0 l0 q0] 32 (0,0))).heap.size=w.heap.size+1:=by simp
 simp only [Zbu] at HOf;have HT0:=Zh hT;clear hT hB0 ha;go_enter Tryz.func10,Tryz.ntmps10
 go_wp2_with (go_at_call 24;refine HOf.o.mono ?_;rintro e w1 ⟨h1,hb1⟩;rw [HA.o] at h1;obtain⟨O,V,rfl,hO⟩:=h1;refine Hid.o ?_)
 refine Zh ?_;obtain⟨vlo,vini,vev,vbr,vad,vda,vct,vth,ven⟩:=V;obtain⟨A1,n1,c1,rfl⟩:∃ A n c,vlo=.slice A n c:=Zav hO.lo;obtain⟨A2,n2,c2,rfl⟩:∃ A n c,vini=.slice A n c:=by obtain⟨q,e,_⟩:=hO.ini;exact⟨_,_,_,e⟩
 obtain⟨A3,n3,c3,rfl⟩:∃ A n c,vev=.slice A n c:=Zav hO.ev;obtain⟨A4,n4,c4,rfl⟩:∃ A n c,vbr=.slice A n c:=Zav hO.br;obtain⟨A5,n5,c5,rfl⟩:∃ A n c,vad=.slice A n c:=Zav hO.ad;obtain⟨A6,n6,c6,rfl⟩:∃ A n c,vda=.slice A n c:=Zav hO.da;obtain⟨A7,n7,c7,rfl⟩:∃ A n c,vct=.slice A n c:=Zav hO.ct;obtain⟨A8,n8,c8,rfl⟩:∃ A n c,vth=.slice A n c:=Zav hO.th;obtain⟨A9,n9,c9,rfl⟩:∃ A n c,ven=.slice A n c:=by obtain⟨q,e,_⟩:=hO.en;exact⟨_,_,_,e⟩
 have hbw1:=Zab HB0.o hb1;have hz1:=hb1.size;obtain⟨cs,hcs⟩:∃ cs:Array Value,cs=#[.slice A1 n1 c1,.slice A2 n2 c2,.slice A3 n3 c3,.slice A4 n4 c4,.slice A5 n5 c5,.slice A6 n6 c6,.slice A7 n7 c7,.slice A8 n8 c8,.slice A9 n9 c9]:=⟨_,rfl⟩;have HW1:=Zh hbw1;have HTB1:=Zh (HTB.o.go hb1);have HT1:=Zh (HT.o.below hb1);have HLo:=Zh (show Zc1.Own 9 w.heap.size w1 (.slice A1 n1 c1) (Zaq T) from Za3 hO.lo ω);have HIn:=Zh (show Zde.Own 3 w.heap.size w1 (.slice A2 n2 c2) (Ze3 (Zaq T) T.init) from Za3 (Zgw hO.ini (by show (Ze3 (Zaq T) T.init).length<=1000000;rw [Zf8];exact Nat.le_trans (Za0 hE).2.1 (by decide))) ω);have HTh:=Zh (show Zuo.Own 25 w.heap.size w1 (.slice A8 n8 c8) (Za8 T) from Za3 (Zix (Za8 T) ▸ hO.th) ω);have HTr:=Zh (Blk.new w1 87 #[.slice A1 n1 c1,.slice A2 n2 c2,.slice A3 n3 c3,.slice A4 n4 c4,.slice A5 n5 c5,.slice A6 n6 c6,.slice A7 n7 c7,.slice A8 n8 c8,.slice A9 n9 c9]);have tb0:=HTB1.o.cl 0;have tb3:=HTB1.o.cl 3;have tb4:=HTB1.o.cl 4;have tbz:=HTB1.o.lt;obtain⟨A',c',eI,hatI,_⟩:=Enc.Own.at_ HIn.o;simp only [Value.slice.injEq] at eI;obtain⟨e1,e2,e3⟩:=eI;subst e1;subst e3;have HBq:=Zh (Zad w1 (.cells #[.slice A1 n1 c1,.slice A2 n2 c2,.slice A3 n3 c3,.slice A4 n4 c4,.slice A5 n5 c5,.slice A6 n6 c6,.slice A7 n7 c7,.slice A8 n8 c8,.slice A9 n9 c9] 87 (0,0)));have s0:=HTr.o.cl 0;have s1:=HTr.o.cl 1;have s7:=HTr.o.cl 7;have tq0:=Zac tb0 HBq.o
 have hl1:(Ze3 (Zaq T) T.init).length<=1000000:=by rw [Zf8];exact Nat.le_trans (Za0 hE).2.1 (by decide)
 have HLo:=Zh (Zah HLo.o HBq.o);have HTh:=Zh (Zah HTh.o HBq.o);have HTBq:=Zh (HTB1.o.go HBq.o);have HWq:=Zh (Zab HW1.o HBq.o);have HCl:=Zh (fun (W:World) (hW:Below (w1.alloc (.cells #[.slice A1 n1 c1,.slice A2 n2 c2,.slice A3 n3 c3,.slice A4 n4 c4,.slice A5 n5 c5,.slice A6 n6 c6,.slice A7 n7 c7,.slice A8 n8 c8,.slice A9 n9 c9] 87 (0,0))).heap.size (w1.alloc (.cells #[.slice A1 n1 c1,.slice A2 n2 c2,.slice A3 n3 c3,.slice A4 n4 c4,.slice A5 n5 c5,.slice A6 n6 c6,.slice A7 n7 c7,.slice A8 n8 c8,.slice A9 n9 c9] 87 (0,0))) W)=>show Calls Tryz.prog 18 #[.slice A2 n2 c2] W (Zn1 (Ze3 (Zaq T) T.init) W) by rw [e2];exact Zua A2 c2 (Ze3 (Zaq T) T.init) W ((hatI.below HBq.o).below hW) hl1);clear hO hb1 hbw1 hatI;have hra:=Zho (Za0 hE).2.2.1;have hks:=(Zca (Za0 hE).2.2.2.1);have HKs:=Zh hks;have hkl:=hks.1;have HOI:=Zh (fun (x:Ini) (hx:x∈T.init)=>Zkc hE hx);clear hks hE HW1 HTB1 HTr HIn HOf HT HTB tb0 tb3 tb4 hcs cs HA HB0 e2
 go_wp2_with fail
 generalize w1.alloc _=Wq at *;have hzq:=HWq.o.size;refine wz (fun y:World=>y.cell? ⟨w.heap.size,0,none⟩=some (.int .i64 T.arch)/\y.cell? ⟨w1.heap.size,0,none⟩=some (.slice A1 n1 c1)/\y.cell? ⟨w1.heap.size,7,none⟩=some (.slice A8 n8 c8)/\y.cell? ⟨w1.heap.size,1,none⟩=some (.slice A2 n2 c2)) [1,3,5,7,8] ⟨tq0,s0,s7,s1⟩ (fun hHeld=>?_);refine wq 0 ?_;refine wq 2 ?_;refine wq 4 ?_;refine wq 6 ?_;refine wt 1 (by assumption) ?_;refine wt 3 (by assumption) ?_;refine wt 5 (by assumption) ?_;refine wt 7 (by assumption) ?_;refine Zan (i:=8) κ rfl (fun K hK=>?_);go_simp;refine (HCl.o _ (by repeat (first | exact Below.refl _ _ | refine Zag ?_ _ | refine Below.drew ?_ | refine Zaa ?_ _))).mono ?_;rintro e w3 ⟨vM,rfl,hown,hb3⟩;obtain⟨Am,nm,cmm,rfl⟩:=Zav hown;have hb3:Below Wq.heap.size Wq w3:=Zas hb3;refine hK.out _ _ ⟨Zac tq0 hb3,Zac s0 hb3,Zac s7 hb3,Zac s1 hb3⟩ ?_;clear hK K hHeld;refine pu ?_;refine wl 9 ?_;have hzb:=hb3.size;have HBm:=Zh (Zab hb3 (Zad w3 (.cells #[.bool true,.int .i64 T.arch,.slice none 0 0,.slice A1 n1 c1,.slice A8 n8 c8,.slice none 0 0,.slice Am nm cmm] 39 (0,0))))
 have HM0:=Zh (show Zb3 (w3.alloc (.cells #[.bool true,.int .i64 T.arch,.slice none 0 0,.slice A1 n1 c1,.slice A8 n8 c8,.slice none 0 0,.slice Am nm cmm] 39 (0,0))) w.heap.size w3.heap.size (mkM T 0 0) ⟨.slice none 0 0,.slice A1 n1 c1,.slice A8 n8 c8,.slice none 0 0,.slice Am nm cmm,[],[]⟩ from
  ⟨Blk.new w3 _ _,ω,Enc.Own.nil _ _ _,fun k c hc=>by simp [mkM] at hc,Zah HLo.o HBm.o,Zah HTh.o HBm.o,Zah (Za3 hown (show w.heap.size<=Wq.drew.heap.size from hzq)) (Zad w3 _),Zdp.nil,by simp [mkM]⟩)
 have HW2:=Zh (Zab HWq.o HBm.o);have HTB2:=Zh (HTBq.o.go HBm.o);have tb0:=HTB2.o.cl 0;have tb4:=HTB2.o.cl 4;clear HLo HTh HTBq HWq HCl hown hb3 HBm tq0 s0 s1 s7 HBq hl1;rcases hra with ⟨h1,h2⟩ | ⟨h1,h2⟩
 ·have g1:(T.arch == 2)=false:=by rw [h1];rfl
  obtain⟨nr,hnr⟩:∃ nr:Nat,nr=15:=⟨_,rfl⟩;have HNr:=Zh (show Zdn (isR T)=nr by rw [h2,hnr];rfl);have h15:(15:Int)=(nr:Int):=by rw [hnr];rfl
  exact m_1
 ·have g1:(T.arch == 2)=true:=by rw [h1];rfl
  obtain⟨nr,hnr⟩:∃ nr:Nat,nr=32:=⟨_,rfl⟩;have HNr:=Zh (show Zdn (isR T)=nr by rw [h2,hnr];rfl);have h15:(32:Int)=(nr:Int):=by rw [hnr];rfl
  exact m_1
end
end
end Go.Proofs.YtgjefdaaihgliaaGreatDoor
