/- Layer 21: the document's machine in memory; what it tells of itself. -/
import Derived.Test.YtgjefdaaihgliaaGreatDoorMn41

namespace Go.Proofs.YtgjefdaaihgliaaGreatDoor
open Go.RowKit
section
structure RmV where
 Ai:Option Addr
 Ac:Option Addr
 ci:Nat
 cc:Nat
 kv:Value
 lv:Value
 pv:Value
 mv:Value
 tv:Value
 tr:List (Option Addr×Nat×Nat×Int)
abbrev rmC (T:Tst)(V:RmV):Array Value:=#[.int .i64 T.arch,.string ⟨T.name.toArray⟩,.string ⟨T.cycle.toArray⟩,.slice V.Ai T.init.length V.ci,.slice V.Ac T.code.length V.cc,.int .i64 T.q,.int .i64 T.k,.int .i64 T.t,.int .i64 T.r,.string ⟨T.l.toArray⟩,.int .i64 T.v,V.kv,V.lv,V.pv,V.mv,V.tv]
def rmV (T:Tst)(V:RmV):Value:=.agg (rmC T V)
structure Zz6 (w:World) (B:Nat) (T:Tst) (m:BMc) (V:RmV):Prop where
 tst:Zcu w T V.Ai V.Ac V.kv
 code:m.code=T.code
 arch:m.arch=T.arch
 locs:∃ A cap,V.lv=.slice A m.locs.length cap/\Zc1.At w A m.locs
 thr:Zdp w B V.pv V.tr m.tds
 mem:Zde.Own 3 B w V.mv m.mem
 ths:∃ A cap,V.tv=.slice A m.ths.length cap/\Zuo.At w A m.ths
theorem Zz6.below {w w':World}{B:Nat}{T:Tst}{m:BMc}{V:RmV}(h:Zz6 w B T m V)(hb:Below w.heap.size w w'):Zz6 w' B T m V:=
 ⟨h.tst.below hb,h.code,h.arch,by obtain⟨A,c,e,k⟩:=h.locs;exact⟨A,c,e,k.below hb⟩,h.thr.below hb,Zah h.mem hb,by obtain⟨A,c,e,k⟩:=h.ths;exact⟨A,c,e,k.below hb⟩⟩
section
set_option maxHeartbeats 4000000
set_option maxRecDepth 100000
variable {w:World} {B:Nat} {T:Tst} {m:BMc} {V:RmV}
theorem Z9i (A:Option Addr)(cap:Nat)(l:List Nm)(s:Nm)(w:World)(h:Zc1.At w A l)(hs:s∈l)(hl:l.length<=1000000) :
  Calls Tryz.prog 93 #[.slice A l.length cap,.string ⟨s.toArray⟩] w fun e w'=>e=.returned (.int .i64 ((l.idxOf s:Nat):Int))/\w'=w:=by
 have H:=Zh h;have hm:=List.idxOf_lt_length_iff.2 hs;obtain⟨m,hme⟩:∃ m,l.idxOf s=m:=⟨_,rfl⟩;have hms:l[m]?=some s:=by rw [<- hme,List.getElem?_eq_getElem hm,List.getElem_idxOf]
 have hno:∀ j x,j<m->l[j]?=some x->x≠s:=fun j x hj hx e=>by
  rw [<- hme] at hj;have hn:=List.not_of_lt_findIdx hj;obtain⟨h1,h2⟩:=List.getElem?_eq_some_iff.1 hx;rw [h2,e] at hn;simp at hn
 rw [hme] at hm ⊢;have HM:=Zh hms;have HN:=Zh hno;clear h hme hms hno hs;go_enter Tryz.func93,Tryz.ntmps93
 go_wp2_with fail
 go_loopw [5] (fun i wr=>∃ k:Nat,k<=m/\i=.int .i64 k/\wr=w) (fun i _=>l.length - (intOf i).toNat)
 case atStart=>exact⟨0,ω,rfl,rfl⟩
 case round=>
  obtain⟨k,hk,rfl,rfl⟩:=hrel;have hkl:k<l.length:=ω;have hx:=List.getElem?_eq_getElem hkl;obtain⟨x,hxe⟩:∃ x,l[k]=x:=⟨_,rfl⟩;rw [hxe] at hx;obtain⟨b,o,rfl,hc⟩:=H.o k x hx;have c0:wr.cell? ⟨b,o+k,none⟩=some (.string ⟨x.toArray⟩):=by
   have:=hc 0 _ rfl;simpa using this
  have hi1:(0:Int)<=(k:Int):=ω;have hi2:(k:Int)<(l.length:Int):=ω;clear hc hxe;by_cases hkm:k=m
  ·subst hkm;have e:x=s:=by have:=HM.o;rw [hx] at this;cases this;rfl
   subst e;clear hx
   go_wp2_with fail
   go_ret;exact⟨rfl,rfl⟩
  ·have g1:(x == s)=false:=by
    have:=HN.o k x ω hx;simpa using this
   clear hx
   go_wp2_with fail
   go_roundw
   case rel=>exact⟨k+1,ω,by go_num,trivial⟩
   case measure=>simp [intOf];omega
theorem Z5p (h:Zz6 w B T m V)(hn2:m.tds.length<=256)(hcl:m.code.length=m.tds.length) :
  Calls Tryz.prog 30 #[rmV T V] w (Zz5 (Zj9 m) w):=by
 obtain⟨Ak,lk,qk,ekv⟩:∃ A n c,V.kv=.slice A n c:=by obtain⟨A,cap,e,_⟩:=h.tst.kids;exact⟨A,_,cap,e⟩
 obtain⟨Al,cl,elv,hlo⟩:=h.locs;obtain⟨At,ct,etv,hth⟩:=h.ths;obtain⟨Ap,cp,epv,hpt,_⟩:=Enc.Own.at_ h.thr.own;obtain⟨Am,cm,emv,hmt,_⟩:=Enc.Own.at_ h.mem;rw [h.thr.len] at epv;unfold rmV rmC;rw [ekv,elv,etv,epv,emv];have HB:=Zh h;obtain⟨n,hne⟩:∃ n,m.tds.length=n:=⟨_,rfl⟩;have HL:Hid (Zj9 m=Zin m n):=Zh (by rw [<- hne];rfl);have HNE:=Zh hne;rw [hne] at hn2 hcl epv ⊢;have HEt:=Zh epv;have hct:T.code.length=n:=by rw [<- h.code];exact hcl
 rw [hct];have HCL:=Zh hcl;have HWA:=Zh (Zad w (.cells #[.int .i64 T.arch,.string ⟨T.name.toArray⟩,.string ⟨T.cycle.toArray⟩,.slice V.Ai T.init.length V.ci,.slice V.Ac n V.cc,.int .i64 T.q,.int .i64 T.k,.int .i64 T.t,.int .i64 T.r,.string ⟨T.l.toArray⟩,.int .i64 T.v,.slice Ak lk qk,.slice Al m.locs.length cl,.slice Ap n cp,.slice Am m.mem.length cm,.slice At m.ths.length ct] 54 (0,0)));have HR:=Zh (Blk.new w 54 #[.int .i64 T.arch,.string ⟨T.name.toArray⟩,.string ⟨T.cycle.toArray⟩,.slice V.Ai T.init.length V.ci,.slice V.Ac n V.cc,.int .i64 T.q,.int .i64 T.k,.int .i64 T.t,.int .i64 T.r,.string ⟨T.l.toArray⟩,.int .i64 T.v,.slice Ak lk qk,.slice Al m.locs.length cl,.slice Ap n cp,.slice Am m.mem.length cm,.slice At m.ths.length ct]);have k4:=HR.o.cl 4;have k13:=HR.o.cl 13;clear h hne ekv elv etv emv epv hlo hth hpt hmt hcl hct HR;go_enter Tryz.func30,Tryz.ntmps30
 go_wp2_with fail
 generalize w.alloc _=W at *;go_loopw [4,3] (fun i out wr=>∃ (k:Nat) (v:Value),out=v/\k<=n/\i=.int .i64 k/\Zsg.Own 42 W.heap.size wr v (Zin m k)/\Below W.heap.size W wr) (fun i _ _=>n - (intOf i).toNat)
 case atStart=>exact⟨0,_,rfl,Nat.zero_le _,rfl,Enc.Own.nil _ _ _,Below.refl _ _⟩
 case round=>
  obtain⟨k,v,rfl,hk,rfl,hown,hbw⟩:=hrel;have hz:=hbw.size;have k4:=Zac k4 hbw;have k13:=Zac k13 hbw;have HO:=Zh hown;have HW:=Zh (Zab HWA.o hbw);have HWk:=Zh hbw;have z1:(0:Int)<=(k:Int):=ω;by_cases hkn:k<n
  ·have hx:=List.getElem?_eq_getElem (show k<m.tds.length by rw [HNE.o];exact hkn);have hc:=List.getElem?_eq_getElem (show k<m.code.length by rw [HCL.o];exact hkn);obtain⟨t,hte⟩:∃ t,m.tds[k]'(by rw [HNE.o];exact hkn)=t:=⟨_,rfl⟩;obtain⟨c,hce⟩:∃ c,m.code[k]'(by rw [HCL.o];exact hkn)=c:=⟨_,rfl⟩;rw [hte] at hx;rw [hce] at hc;have hB2:=HB.o.below HW.o;obtain⟨pb,cp2,b,cap,epv,p0,p1,_,_⟩:=hB2.thr.get hx;rw [HEt.o] at epv;simp only [Value.slice.injEq] at epv;obtain⟨e1,e2,e3⟩:=epv;clear e2;subst e1;subst e3;obtain⟨cb,co,Ax,cx,eAc,d0,_⟩:=hB2.tst.code k c (by rw [<- HB.o.code];exact hc);rw [eAc] at k4;have HS:=Zh (show Zin m (k+1)=Zin m k++(if t.at_<c.length then [(1,(k:Int))] else []) from Zo6 hc hx);have hml:=Zgs m k;obtain⟨Av,nv,cv,rfl⟩:=Zav hown;obtain⟨vs,at_,q⟩:=t;simp only at p0 p1 HS;have z2:(k:Int)<(n:Int):=ω;clear hx hc hte hce hown hbw p0 eAc hB2;cases hlt:decide (at_<(c.length:Int)) with
   | true=>
    have HS2:=Zh (show Zin m (k+1)=Zin m k++[(1,(k:Int))] by rw [HS.o,if_pos (of_decide_eq_true hlt)])
    go_wp2_with fail
    go_quiet (fail)
    go_wp2_with (at_builtin;refine Enc.appW Zx8 _ rfl (.tmp 26) (.tmp 29) rfl [((1:Int),(k:Int))] W.heap.size (Zin m k) (.slice Av nv cv) _ 0 1 rfl rfl (Zht Zsg _ _ ((1:Int),(k:Int))) (Zah HO.o (by repeat (first | exact Below.refl _ _ | refine Zag ?_ _ | refine Below.drew ?_ | refine Zaa ?_ _))) (by simp;omega) (by simp;omega) (by simp;omega) ?_;intro v3 w3 hown3 hg3;have HO3:=Zh hown3;have HB3:=Zh (Below.trans (a:=W) (Below.trans (HWk.o) (Below.mono (by repeat (first | exact Below.refl _ _ | refine Zag ?_ _ | refine Below.drew ?_ | refine Zaa ?_ _)) hz)) hg3.below);clear hown3 hg3)
    exact m_88
   | false=>
    have HS2:=Zh (show Zin m (k+1)=Zin m k by rw [HS.o,if_neg (of_decide_eq_false hlt),List.append_nil])
    go_wp2_with fail
    go_quiet (fail)
    go_wp2_with fail
    go_roundw
    case rel=>exact⟨k+1,_,rfl,ω,by go_num,by rw [HS2.o];exact Zah HO.o (by repeat (first | exact Below.refl _ _ | refine Zag ?_ _ | refine Below.drew ?_ | refine Zaa ?_ _)),HWk.o.trans (Below.mono (by repeat (first | exact Below.refl _ _ | refine Zag ?_ _ | refine Below.drew ?_ | refine Zaa ?_ _)) hz)⟩
    case measure=>simp [intOf];omega
  ·have hkn2:k=n:=ω;have HE:=Zh (show Zj9 m=Zin m k by rw [HL.o,hkn2]);exact m_78
theorem Z3e (h:Zz6 w B T m V)(hs:SOM m)(hz:∀ t∈m.tds,∀ v∈t.vs,v.1≠[]->v.2=0){Al Ap Am:Option Addr}{cl cp cm:Nat}(elv:V.lv=.slice Al m.locs.length cl)(epv:V.pv=.slice Ap m.tds.length cp)(emv:V.mv=.slice Am m.mem.length cm)(x:Th)(hx:x∈m.ths) :
  Calls Tryz.prog 55 #[.slice Al m.locs.length cl,.slice Ap m.tds.length cp,.slice Am m.mem.length cm,.agg #[.int .i64 x.1,.int .i64 x.2.1,.string ⟨x.2.2.toArray⟩]] w fun e w'=>e=.returned (.int .i64 (Zg3 m x))/\Below w.heap.size w w':=by
 obtain⟨th,rg,loc⟩:=x;obtain⟨N,hN⟩:∃ N,Zg3 m (th,rg,loc)=N:=⟨_,rfl⟩;rw [hN];simp only;have HTx:=Zh (Blk.new w 25 #[.int .i64 th,.int .i64 rg,.string ⟨loc.toArray⟩]);have HBx:=Zh (Zad w (.cells #[.int .i64 th,.int .i64 rg,.string ⟨loc.toArray⟩] 25 (0,0)));by_cases hth:th<0
 ·obtain⟨hlo,hix⟩:=hs.mem _ hx hth;obtain rfl:th=-1:=hs.th1 _ hx hth;simp only at hlo hix;obtain⟨A',c',e',hlat⟩:=h.locs;rw [elv] at e';simp only [Value.slice.injEq,true_and] at e';obtain⟨rfl,rfl⟩:=e';have HLc:=Zh (fun (W:World) (hW:Below w.heap.size w W)=>Z9i Al cl m.locs loc W (hlat.below hW) hlo hs.ll);obtain⟨ix,hixe⟩:∃ ix,m.locs.idxOf loc=ix:=⟨_,rfl⟩;rw [hixe] at hix HLc;have hm0:=List.getElem?_eq_getElem hix;obtain⟨mv,hmv⟩:∃ mv,m.mem[ix]=mv:=⟨_,rfl⟩;rw [hmv] at hm0;obtain⟨mb,mc,em,hmb⟩:=Zcx h.mem hm0;rw [emv] at em;simp only [Value.slice.injEq,true_and] at em;obtain⟨rfl,rfl⟩:=em;obtain rfl:mv=N:=by
   rw [<- hN];unfold Zg3;rw [if_pos hth];simp only;rw [hixe,hm0];rfl
  have m0:=hmb 0 _ rfl;simp only [Nat.mul_one,Nat.add_zero] at m0;have m0:=Zac m0 HBx.o;have x0:=HTx.o.cl 0;have x2:=HTx.o.cl 2;have y1:(0:Int)<=(ix:Int):=ω;have y2:(ix:Int)<(m.mem.length:Int):=ω;clear hlo hix hixe hm0 hmv hmb hx hN hlat hth h hs hz elv epv emv;go_enter Tryz.func55,Tryz.ntmps55
  go_wp2_with (go_at_call 93;refine (HLc.o _ HBx.o).mono ?_;rintro e w9 ⟨rfl,rfl⟩)
  go_ret;exact⟨rfl,HBx.o⟩
 ·obtain⟨kk,r,t,hk1,hr1,ht,hrl⟩:=hs.reg _ hx (by simp only;omega);simp only at hk1 hr1;subst hk1;subst hr1;obtain⟨pb,cp',b,cap,ep,p0,_,hreg,_⟩:=h.thr.get ht;rw [epv] at ep;simp only [Value.slice.injEq,true_and] at ep;obtain⟨rfl,rfl⟩:=ep;have hv:=List.getElem?_eq_getElem hrl;obtain⟨v0,hv0⟩:∃ v0,t.vs[r]=v0:=⟨_,rfl⟩;rw [hv0] at hv;obtain⟨r0,r1,_,_⟩:=hreg.at_ hv;have hvz:=hz t (List.mem_of_getElem? ht) v0 (List.mem_of_getElem? hv);obtain⟨L,mv⟩:=v0;obtain rfl:mv=N:=by
   rw [<- hN];unfold Zg3;rw [if_neg hth];simp only [Int.toNat_natCast];rw [ht];simp only [hv];rfl
  have p0:=Zac p0 HBx.o;have r0:=Zac r0 HBx.o;have r1:=Zac r1 HBx.o;have x0:=HTx.o.cl 0;have x1:=HTx.o.cl 1;have hkl:=(List.getElem?_eq_some_iff.1 ht).1;have y1:(0:Int)<=(kk:Int):=ω;have y2:(kk:Int)<(m.tds.length:Int):=ω;have y3:(0:Int)<=(r:Int):=ω;have y4:(r:Int)<(t.vs.length:Int):=ω;have g1:((kk:Int) == -1)=false:=beq_eq_false_iff_ne.2 ω;have HX:=Zh hvz;clear ht hrl hv hv0 hreg hkl hN hth h hs hz elv epv emv hx hvz;go_enter Tryz.func55,Tryz.ntmps55
  go_wp2_with fail
  generalize w.alloc _=W at *;have HR0:=Zh (fun (W':World) (h:W'.heap.size=W.heap.size)=>Blk.new W' 71 #[.string ⟨L.toArray⟩,.int .i64 mv]);refine wz (fun y:World=>y.cell? ⟨w.heap.size,0,none⟩=some (.int .i64 (kk:Int))/\y.cell? ⟨pb,kk*2,none⟩=some (.slice (some ⟨b,0,none⟩) t.vs.length cap)/\y.cell? ⟨w.heap.size,1,none⟩=some (.int .i64 (r:Int))/\y.cell? ⟨b,r*2,none⟩=some (.string ⟨L.toArray⟩)/\y.cell? ⟨b,r*2+1,none⟩=some (.int .i64 mv)) [2,5,7,9,10] ⟨x0,p0,x1,r0,r1⟩ (fun hHeld=>?_);refine wq 0 ?_;refine wq 1 ?_;refine wq 6 ?_;refine wt 2 (by assumption) ?_;refine wq 3 ?_;refine wq 4 ?_;refine wt 5 (by assumption) ?_;refine wt 7 (by assumption) ?_;refine wq 8 ?_;refine wt 9 (by assumption) ?_;refine Zan (i:=10) κ rfl (fun K hK=>?_);go_simp;refine hK.out _ _ ⟨Zao x0 _,Zao p0 _,Zao x1 _,Zao r0 _,Zao r1 _⟩ ?_;clear hK K;refine pu ?_;refine wl 11 ?_;clear hHeld;by_cases hL:L=[]
  ·subst hL;exact m_57
  ·have hmv0:mv=0:=HX.o hL;subst hmv0;have g2:(L == [])=false:=beq_eq_false_iff_ne.2 hL;exact m_57
theorem Z6g (h:Zz6 w B T m V)(hs:SOM m)(hz:∀ t∈m.tds,∀ v∈t.vs,v.1≠[]->v.2=0) :
  Calls Tryz.prog 32 #[rmV T V] w (Zn1 (Zdj m) w):=by
 obtain⟨Ak,lk,qk,ekv⟩:∃ A n c,V.kv=.slice A n c:=by obtain⟨A,cap,e,_⟩:=h.tst.kids;exact⟨A,_,cap,e⟩
 obtain⟨Al,cl,elv,hlo⟩:=h.locs;obtain⟨At,ct,etv,hth⟩:=h.ths;obtain⟨Ap,cp,epv,hpt,_⟩:=Enc.Own.at_ h.thr.own;obtain⟨Am,cm,emv,hmt,_⟩:=Enc.Own.at_ h.mem;rw [h.thr.len] at epv;unfold rmV rmC;rw [ekv,elv,etv,epv,emv];have HB:=Zh h;have HSt:=Zh (fun (W:World) (hW:Below w.heap.size w W) (x:Th) (hx:x∈m.ths)=>Z3e (h.below hW) hs hz elv epv emv x hx);obtain⟨n,hne⟩:∃ n,m.ths.length=n:=⟨_,rfl⟩;have hlen:=hs.len;have HL:Hid (Zdj m=sts m n):=Zh (by rw [<- hne];unfold Zdj sts;rw [List.take_length]);have HNE:=Zh hne;rw [hne] at hlen etv ⊢;have HTh:=Zh hth;have HWA:=Zh (Zad w (.cells #[.int .i64 T.arch,.string ⟨T.name.toArray⟩,.string ⟨T.cycle.toArray⟩,.slice V.Ai T.init.length V.ci,.slice V.Ac T.code.length V.cc,.int .i64 T.q,.int .i64 T.k,.int .i64 T.t,.int .i64 T.r,.string ⟨T.l.toArray⟩,.int .i64 T.v,.slice Ak lk qk,.slice Al m.locs.length cl,.slice Ap m.tds.length cp,.slice Am m.mem.length cm,.slice At n ct] 54 (0,0)));have HR:=Zh (Blk.new w 54 #[.int .i64 T.arch,.string ⟨T.name.toArray⟩,.string ⟨T.cycle.toArray⟩,.slice V.Ai T.init.length V.ci,.slice V.Ac T.code.length V.cc,.int .i64 T.q,.int .i64 T.k,.int .i64 T.t,.int .i64 T.r,.string ⟨T.l.toArray⟩,.int .i64 T.v,.slice Ak lk qk,.slice Al m.locs.length cl,.slice Ap m.tds.length cp,.slice Am m.mem.length cm,.slice At n ct]);have k12:=HR.o.cl 12;have k13:=HR.o.cl 13;have k14:=HR.o.cl 14;have k15:=HR.o.cl 15
 clear h hs hz hne ekv elv etv emv epv hlo hth hpt hmt HR;go_enter Tryz.func32,Tryz.ntmps32
 go_wp2_with fail
 generalize w.alloc _=W at *;go_loopw [4,3] (fun i out wr=>∃ (k:Nat) (v:Value),out=v/\k<=n/\i=.int .i64 k/\Zde.Own 3 W.heap.size wr v (sts m k)/\Below W.heap.size W wr) (fun i _ _=>n - (intOf i).toNat)
 case atStart=>exact⟨0,_,rfl,Nat.zero_le _,rfl,Enc.Own.nil _ _ _,Below.refl _ _⟩
 case round=>
  obtain⟨k,v,rfl,hk,rfl,hown,hbw⟩:=hrel;have hz:=hbw.size;have k12:=Zac k12 hbw;have k13:=Zac k13 hbw;have k14:=Zac k14 hbw;have k15:=Zac k15 hbw;have HO:=Zh hown;have HW:=Zh (Zab HWA.o hbw);have HWk:=Zh hbw;have z1:(0:Int)<=(k:Int):=ω;by_cases hkn:k<n
  ·have hkm:k<m.ths.length:=by rw [HNE.o];exact hkn
   have hx:=List.getElem?_eq_getElem hkm;obtain⟨x,hxe⟩:∃ x,m.ths[k]=x:=⟨_,rfl⟩;rw [hxe] at hx;have hmem:=List.mem_of_getElem? hx;obtain⟨tb,tz9,eTh,ht0⟩:=(HTh.o.below HW.o) k x hx;rw [eTh] at k15;obtain⟨N,hN⟩:∃ N,Zg3 m x=N:=⟨_,rfl⟩
   have HS:=Zh (show sts m (k+1)=sts m k++[N] from by
    unfold sts
    rw [List.take_succ_eq_append_getElem hkm,List.map_append,hxe,<- hN];rfl)
   have hsl:(sts m k).length<=k:=by unfold sts;rw [List.length_map,List.length_take];omega
   have HSx:=Zh (fun (W':World) (hW:Below wr.heap.size wr W')=>HSt.o W' (Zab HW.o hW) x hmem);rw [hN] at HSx;obtain⟨Av,nv,cv,rfl⟩:=Zav hown;obtain⟨th,rg,loc⟩:=x;have t0:wr.cell? ⟨tb,tz9+k*3,none⟩=some (.int .i64 th):=ht0 0 _ rfl;have t1:wr.cell? ⟨tb,tz9+k*3+1,none⟩=some (.int .i64 rg):=ht0 1 _ rfl;have t2:wr.cell? ⟨tb,tz9+k*3+2,none⟩=some (.string ⟨loc.toArray⟩):=ht0 2 _ rfl;have z2:(k:Int)<(n:Int):=ω;clear hx hxe ht0 hown hbw hmem hN eTh HSt HTh
   go_wp2_with fail
   refine wz (fun y:World=>y.cell? ⟨w.heap.size,12,none⟩=some (.slice Al m.locs.length cl)/\y.cell? ⟨w.heap.size,13,none⟩=some (.slice Ap m.tds.length cp)/\y.cell? ⟨w.heap.size,14,none⟩=some (.slice Am m.mem.length cm)/\y.cell? ⟨w.heap.size,15,none⟩=some (.slice (some ⟨tb,tz9,none⟩) n ct)/\y.cell? ⟨tb,tz9+k*3,none⟩=some (.int .i64 th)/\y.cell? ⟨tb,tz9+k*3+1,none⟩=some (.int .i64 rg)/\y.cell? ⟨tb,tz9+k*3+2,none⟩=some (.string ⟨loc.toArray⟩)) [2,4,6,8,10,11] ⟨k12,k13,k14,k15,t0,t1,t2⟩ (fun hHeld=>?_);refine wq 0 ?_;refine wq 1 ?_;refine wq 3 ?_;refine wq 5 ?_;refine wq 7 ?_;refine wq 9 ?_;refine wt 2 (by assumption) ?_;refine wt 4 (by assumption) ?_;refine wt 6 (by assumption) ?_;refine wt 8 (by assumption) ?_;refine wt 10 (by assumption) ?_;refine wt 11 (by assumption) ?_;refine wl 12 ?_;clear hHeld
   go_wp2_with (first | (go_at_call 55;refine (HSx.o _ (by repeat (first | exact Below.refl _ _ | refine Zag ?_ _ | refine Below.drew ?_ | refine Zaa ?_ _))).mono ?_;rintro e w9 ⟨rfl,hb9⟩;have HO9:=Zh (Zah (Zah HO.o (show Below wr.heap.size wr _ from by repeat (first | exact Below.refl _ _ | refine Zag ?_ _ | refine Below.drew ?_ | refine Zaa ?_ _))) hb9);have HW9:=Zh (Below.trans (a:=W) (Below.trans (HWk.o) (Below.mono (show Below wr.heap.size wr _ from by repeat (first | exact Below.refl _ _ | refine Zag ?_ _ | refine Below.drew ?_ | refine Zaa ?_ _)) hz)) (Below.mono hb9 hz));have hz9:=HW9.o.size;clear hb9) | (at_builtin;refine Enc.appW Zmm _ rfl (.tmp 12) (.tmp 25) rfl [N] W.heap.size (sts m k) (.slice Av nv cv) _ 0 1 rfl rfl (Zht Zde _ _ N) (Zah HO9.o (by repeat (first | exact Below.refl _ _ | refine Zag ?_ _ | refine Below.drew ?_ | refine Zaa ?_ _))) (by simp;omega) (by simp;omega) (by simp;omega) ?_;intro v3 w3 hown3 hg3;have HO3:=Zh hown3;have HB3:=Zh (Below.trans (a:=W) (Below.trans (HW9.o) (Below.mono (show Below w9.heap.size w9 _ from by repeat (first | exact Below.refl _ _ | refine Zag ?_ _ | refine Below.drew ?_ | refine Zaa ?_ _)) hz9)) hg3.below);clear hown3 hg3))
   exact m_90
  ·have hkn2:k=n:=ω;have HE:=Zh (show Zdj m=sts m k by rw [HL.o,hkn2]);exact m_78
end
end
end Go.Proofs.YtgjefdaaihgliaaGreatDoor
