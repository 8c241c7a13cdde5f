/- Layer 15: the program's paired, of pairs that may be. -/
import Derived.Test.YtdfmcfppoohckaaGreatDoorTm44

namespace Go.Proofs.YtdfmcfppoohckaaGreatDoor
open Go.RowKit
section
set_option maxHeartbeats 4000000
set_option maxRecDepth 100000
theorem Zq0 (L:Ze2)(V:Ze5)(w:World)(h:Zc1 w L V)(G:Zc5 L)(q:Bool)(A:Option Addr)(cp:Nat)(ps:List (Int×Int))(hps:Zbf.At w A ps)(hn:ps.length<=1000000)(hd:∀ p∈ps,Zhi L.a.evs q p)(ho:∀ (i:Nat) x y,ps[i]?=some x->ps[i+1]?=some y->Zjo x y) :
  Calls Tryz.prog 33 #[Zd4 V,.slice A ps.length cp,.bool q] w fun e w'=>e=.returned (.bool true)/\Below w.heap.size w w':=by
 obtain⟨⟨Al,nl,cl⟩,⟨Ai,ni,ci⟩,⟨Ae,ne,ce⟩,⟨Ab,nb,cb⟩,⟨Aa,na,ca⟩,⟨Ad,nd,cd⟩,⟨Ac,nc,cc⟩,⟨At,nt,ct⟩,⟨Ax,nx,cx⟩⟩:=V;simp only [Zd4,Sl.v];have HT:=Zh h;have HP:=Zh hps;have HD:=Zh hd;have HO:=Zh ho;have hn3:=Zh (show ne=L.a.evs.length from h.nev);have hne:ne<=64:=by rw [hn3.o];exact G.nev
 have HB0:=Zh (Zad w (.cells #[.slice Al nl cl,.slice Ai ni ci,.slice Ae ne ce,.slice Ab nb cb,.slice Aa na ca,.slice Ad nd cd,.slice Ac nc cc,.slice At nt ct,.slice Ax nx cx] 41 (0,0)));have HTB:=Zh (Blk.new w 41 #[.slice Al nl cl,.slice Ai ni ci,.slice Ae ne ce,.slice Ab nb cb,.slice Aa na ca,.slice Ad nd cd,.slice Ac nc cc,.slice At nt ct,.slice Ax nx cx]);clear h hps hd ho G;obtain⟨n,HN⟩:∃ n,Hid (ps.length=n):=⟨_,Zh rfl⟩;rw [HN.o] at hn ⊢;go_enter Tryz.func33,Tryz.ntmps33
 go_wp2_with fail
 go_loopw [15] (fun v wr=>∃ i:Nat,i<=n/\v=.int .i64 i/\Below w.heap.size w wr/\Blk wr w.heap.size 41 #[.slice Al nl cl,.slice Ai ni ci,.slice Ae ne ce,.slice Ab nb cb,.slice Aa na ca,.slice Ad nd cd,.slice Ac nc cc,.slice At nt ct,.slice Ax nx cx]) (fun v _=>n - (intOf v).toNat)
 case atStart=>exact⟨0,Nat.zero_le _,rfl,HB0.o,HTB.o⟩
 case round=>
  obtain⟨i,hi,rfl,hb,ht⟩:=hrel;have HB:=Zh hb;have HK:=Zh ht;have hii:(0:Int)<=(i:Int):=ω;have hgw:=ht.lt;clear hb ht HB0 HTB;by_cases hlt:i<n
  ·have hij:(i:Int)<(n:Int):=ω;obtain⟨x,hx⟩:∃ x,ps[i]?=some x:=⟨_,List.getElem?_eq_getElem (by rw [HN.o];omega)⟩;obtain⟨pb,po,eA,c0,c1⟩:=Zg2 (HP.o.below HB.o) hx;subst eA;obtain⟨⟨a,c,ex,ey,rfl,hac,hxe,hye,hdr,hth,hwr⟩⟩:=HD.o x (List.mem_of_getElem? hx);have hal:=(List.getElem?_eq_some_iff.1 hxe).1;have hcl:=(List.getElem?_eq_some_iff.1 hye).1;rw [<- hn3.o] at hal hcl;obtain⟨eb,eo,eA,x0,x1,x2,x3,x4,x5⟩:=Zc6 (HT.o.ev.below HB.o) hxe;simp only at eA;subst eA;obtain⟨eb2,eo2,eA,y0,y1,y2,y3,y4,y5⟩:=Zc6 (HT.o.ev.below HB.o) hye;simp only [Option.some.injEq,Addr.mk.injEq,and_true] at eA;obtain⟨rfl,rfl⟩:=eA;have HAH:=Zh (fun j x' (h:ps[j]?=some x') (hj:j+1=i)=>HO.o j x' _ h (by rw [hj];exact hx));obtain⟨t,xp,xd,xl,xv,xr⟩:=ex;obtain⟨yt,yp,yd,yl,yv,yr⟩:=ey;simp only at x0 x2 y0 y2 hdr hth hwr;subst hth hdr;have m0:=Zal x0 (.cells #[.int .i64 (a:Int),.int .i64 (c:Int)] 129 (0,0));have m2:=Zal x2 (.cells #[.int .i64 (a:Int),.int .i64 (c:Int)] 129 (0,0));have n0:=Zal y0 (.cells #[.int .i64 (a:Int),.int .i64 (c:Int)] 129 (0,0));have n2:=Zal y2 (.cells #[.int .i64 (a:Int),.int .i64 (c:Int)] 129 (0,0));have HKA:=Zh (HK.o.alloc (.cells #[.int .i64 (a:Int),.int .i64 (c:Int)] 129 (0,0)));have HBA:=Zh (Zab HB.o (.cells #[.int .i64 (a:Int),.int .i64 (c:Int)] 129 (0,0)));have HQ:=Zh (Blk.new wr 129 #[.int .i64 (a:Int),.int .i64 (c:Int)]);have ha0:(0:Int)<=(a:Int):=ω
   have hc0:(0:Int)<=(c:Int):=ω;have hae:(a:Int)<(ne:Int):=ω;have hce:(c:Int)<(ne:Int):=ω;have q1:decide ((a:Int)<0)=false:=decide_eq_false ω;have q2n:decide (c<=a)=false:=decide_eq_false ω;have q3n:decide (ne<=c)=false:=decide_eq_false ω;have q2:decide ((c:Int)<=(a:Int))=false:=decide_eq_false ω;have q3:decide ((ne:Int)<=(c:Int))=false:=decide_eq_false ω;have hor:q=false\/(q=true/\yd=2):=by cases q <;> simp_all
   clear hwr hx hxe hye x0 x1 x2 x3 x4 x5 y0 y1 y2 y3 y4 y5 hac hal hcl
   go_wp2_with fail
   generalize wr.alloc _=w9 at *;have s2:w9.cell? ⟨w.heap.size,2,none⟩=some (.slice (some ⟨eb,eo,none⟩) ne ce):=HKA.o.cell 2;have z0:=HQ.o.cm 0;have z1:=HQ.o.cm 1;clear c0 c1;rcases hor with rfl | ⟨rfl,rfl⟩ <;>
   (go_quiet (fail)
    clear q1 q2 q2n q3 q3n ha0 hc0 hae hce s2 m0 m2 n0 n2
    go_wp2_with fail
    by_cases h0:i=0
    ·have hd1:decide (0<i)=false:=decide_eq_false ω;have hd2:decide ((0:Int)<(i:Int))=false:=decide_eq_false ω
     go_quiet (fail)
     go_wp2_with fail
     go_roundw
     case rel=>exact⟨i+1,ω,by go_num,Zam HBA.o _,HKA.o⟩
     case measure=>simp [intOf];omega
    ·obtain⟨j,hji⟩:∃ j,i=j+1:=⟨i - 1,ω⟩;obtain⟨y,hy⟩:∃ x,ps[j]?=some x:=⟨_,List.getElem?_eq_getElem (by rw [HN.o];omega)⟩;have hah:=HAH.o j y hy hji.symm;obtain⟨pb3,po3,eA,e0,e1⟩:=Zg2 (HP.o.below HBA.o) hy;simp only [Option.some.injEq,Addr.mk.injEq,and_true] at eA;obtain⟨rfl,rfl⟩:=eA;obtain⟨d0,d1⟩:=y;simp only at e0 e1;have hd1:decide (0<i)=true:=decide_eq_true ω;have hd2:decide ((0:Int)<(i:Int))=true:=decide_eq_true ω;have hjm:(i:Int) - 1=(j:Int):=ω;have hj0:(0:Int)<=(j:Int):=ω;have hjl:(j:Int)<(n:Int):=ω;have hwj:IntKind.i64.wrap (j:Int)=(j:Int):=by unfold IntKind.wrap;simp [IntKind.bits,IntKind.signed];omega
     unfold Zjo at hah;simp only at hah;have q4:decide ((a:Int)<d0)=false:=decide_eq_false ω;have HNL:Hid ((d0 == (a:Int))=false\/(d0=(a:Int)/\decide ((c:Int)<=d1)=false)):=Zh (by rcases hah with h | h;exact Or.inl (by simp;omega);exact Or.inr ⟨h.1,decide_eq_false ω⟩);clear hji hy hah h0;rcases HNL.o with hnl2 | ⟨rfl,hnl2⟩ <;>
     (go_quiet (fail)
      go_wp2_with fail
      go_roundw
      case rel=>exact⟨i+1,ω,by go_num,Zam HBA.o _,HKA.o⟩
      case measure=>simp [intOf];omega))
  exact m_141
end
section
set_option maxHeartbeats 4000000
set_option maxRecDepth 100000
theorem Zw6 (B:Nat)(S:RrS)(hS:Zeo S)(_hrisc:S.C.risc=decide (S.T.arch=2))(r:Rn)(V:RrV)(nr k:Nat)(_hI:Inv S.C nr k r)(_hnr:nr<=32)(_hfl:r.full=false)(pl:Nat)(d a b:Nat)(_hd:d<nr)(xa xb:Rg)(hxa:r.regs[a]?=some xa)(hxb:r.regs[b]?=some xb)(imm:Int)(loc label:List UInt8)(fence:Int)(w:World)(hR:Za7 w B S r V)(hadr:∀ s,xa.h=.adr s->s∈S.C.locs)(o:Option Rn)(at_:Int)(hat:atK S.C xa.h=at_)
  (HWo:∀ V w,Za7 w B S r V->Calls Tryz.prog 123 #[rrV S r false V,.int .i64 (pl:Int),.int .i64 at_,Za2 S.C.ahead xb,.int .u64 ((xa.on<<<S.C.ahead:Nat):Int)] w (Zbn B S o w)):Calls Tryz.prog 76 #[rrV S r false V,.int .i64 (pl:Int),.agg #[.int .i64 7,.int .i64 (d:Int),.int .i64 (a:Int),.int .i64 (b:Int),.int .i64 imm,.string ⟨loc.toArray⟩,.string ⟨label.toArray⟩,.int .i64 fence]] w (Zbn B S o w):=by
 have HW:=Zh HWo;have HAT:=Zh hat;clear HWo hat;have HR:=Zh hR;have hal:=(List.getElem?_eq_some_iff.1 hxa).1;have hbl:=(List.getElem?_eq_some_iff.1 hxb).1;obtain⟨c,hc⟩:∃ c,c=rrC S r false V:=⟨_,rfl⟩;rw [show rrV S r false V=.agg c by rw [hc]];have HC:=Zh hc;clear hc;go_enter Tryz.func76,Tryz.ntmps76;apply wp_seq_k;intro K hK;have HK:=Zh hK;clear hK
 go_wp2_with fail
 refine Zhf (P:=fun X=>K _ X) w _ _ _ _ _ _ ?_;intro W b0 b1 b2 hz hbW;refine HK.o _ _ ?_;clear HK K;rw [HC.o] at b0;have HU:Hid (Zbz w W B w.heap.size (w.heap.size+1+1) S r false V):=Zh ⟨HR.o.below hbW,Zba.of_below hbW HR.o.hB,HR.o.hB,b0,⟨_,b2,rfl⟩,Nat.le_refl _,ω,ω⟩;have HE:=Zh b1;have hzW:w.heap.size<W.heap.size:=ω;clear b0 b1 b2 hbW hz HC;obtain⟨q0,cp,hvr,hat⟩:=HU.o.ref.rgAt (show 0<r.regs.length by omega);have k13:W.cell? ⟨w.heap.size,13,none⟩=some (.slice (some ⟨q0,0,none⟩) r.regs.length cp):=by rw [<- hvr];exact HU.o.blk.cell 13
 have e0:=HE.o.k0;have e1:=HE.o.k1;have e2:=HE.o.k2;have e3:=HE.o.k3;have e4:=HE.o.k4;have e5:=HE.o.k5;have c3:W.cell? ⟨q0,a*4+3,none⟩=some (.int .u64 ((xa.on<<<S.C.ahead:Nat):Int)):=by
  obtain⟨p,o,e,hc⟩:=hat a xa hxa;simp only [Option.some.injEq,Addr.mk.injEq,and_true] at e;obtain⟨rfl,rfl⟩:=e;have:=hc 3 _ rfl
  rwa [Nat.zero_add] at this
 have HSS:=Zh (show ∀ y,Below W.heap.size W y->(fun y:World=>Zbz w y B w.heap.size (w.heap.size+1+1) S r false V/\(Zdj S.C.ahead).At y (some ⟨q0,0,none⟩) r.regs/\y.cell? ⟨w.heap.size,13,none⟩=some (.slice (some ⟨q0,0,none⟩) r.regs.length cp)/\y.cell? ⟨w.heap.size+1,0,none⟩=some (.int .i64 7)/\y.cell? ⟨w.heap.size+1,1,none⟩=some (.int .i64 (d:Int))/\y.cell? ⟨w.heap.size+1,2,none⟩=some (.int .i64 (a:Int))/\y.cell? ⟨w.heap.size+1,3,none⟩=some (.int .i64 (b:Int))/\y.cell? ⟨w.heap.size+1,4,none⟩=some (.int .i64 imm)/\y.cell? ⟨w.heap.size+1,5,none⟩=some (.string ⟨loc.toArray⟩)/\y.cell? ⟨q0,a*4+3,none⟩=some (.int .u64 ((xa.on<<<S.C.ahead:Nat):Int))) y from fun y hb=>⟨HU.o.below hb,hat.below hb,Zac k13 hb,Zac e0 hb,Zac e1 hb,Zac e2 hb,Zac e3 hb,Zac e4 hb,Zac e5 hb,Zac c3 hb⟩);have hi1:(0:Int)<=(a:Int):=ω;have hi2:(a:Int)<(r.regs.length:Int):=ω;have hi3:(0:Int)<=(b:Int):=ω;have hi4:(b:Int)<(r.regs.length:Int):=ω;clear hat hvr HR hR
 go_wp2_with fail
 refine wz (fun y:World=>Zbz w y B w.heap.size (w.heap.size+1+1) S r false V/\(Zdj S.C.ahead).At y (some ⟨q0,0,none⟩) r.regs/\y.cell? ⟨w.heap.size,13,none⟩=some (.slice (some ⟨q0,0,none⟩) r.regs.length cp)/\y.cell? ⟨w.heap.size+1,0,none⟩=some (.int .i64 7)/\y.cell? ⟨w.heap.size+1,1,none⟩=some (.int .i64 (d:Int))/\y.cell? ⟨w.heap.size+1,2,none⟩=some (.int .i64 (a:Int))/\y.cell? ⟨w.heap.size+1,3,none⟩=some (.int .i64 (b:Int))/\y.cell? ⟨w.heap.size+1,4,none⟩=some (.int .i64 imm)/\y.cell? ⟨w.heap.size+1,5,none⟩=some (.string ⟨loc.toArray⟩)/\y.cell? ⟨q0,a*4+3,none⟩=some (.int .u64 ((xa.on<<<S.C.ahead:Nat):Int))) [0,2,4,5,7,9,10,11,13,15,16,17,18] (HSS.o _ (Below.refl _ _).drew) (fun hHeld=>?_);refine wq 1 ?_;refine wq 3 ?_;refine wq 6 ?_;refine wq 8 ?_;refine wq 12 ?_;refine wq 14 ?_;refine wv 0 ((rrV S r false V)) rfl (fun x' hS=>Zaz rfl rfl (Zez hS.1.blk)) (by assumption) ?_;refine wv 2 ((rrV S r false V)) rfl (fun x' hS=>Zaz rfl rfl (Zez hS.1.blk)) (by assumption) ?_;refine wt 4 (by assumption) ?_;refine wt 7 (by assumption) ?_;refine wt 9 (by assumption) ?_;refine wt 10 (by assumption) ?_;refine wv 11 ((Za2 S.C.ahead xb)) rfl (fun x' hS=>Zaz rfl rfl (Zdt hS.2.1 hxb)) (by assumption) ?_;refine wt 13 (by assumption) ?_;refine wt 15 (by assumption) ?_;refine wt 16 (by assumption) ?_;refine wt 17 (by assumption) ?_;refine wt 18 (by assumption) ?_;refine Zar (i:=5) κ rfl (fun K hK=>?_);go_simp
 go_at_call 126
 refine (atR B S r V a xa _ hHeld.1.ref hxa hS.few hadr).mono ?_;rintro e wp ⟨he,hbp⟩;rw [HAT.o] at he;subst he;have hS2:=HSS.o wp (Zag hbp);refine hK.out _ _ hS2 ?_;clear hK K;refine pu ?_;refine wl 19 ?_
 repeat (first | (go_at_call 123;refine Hid.o ?_) | go_step)
 refine Zh ?_;refine (HW.o V wp hS2.1.ref).mono ?_;rintro e w1 ⟨r1,fl1,V1,rfl,hr1,hk1,hg1⟩;dsimp only;obtain⟨z,hz,hzs⟩:=hS2.1.out1 hk1
 repeat (first | ((with_reducible refine Zas ?_);refine Zap 83 6 133 (w.heap.size+1+1) rfl rfl rfl hz (by exact hzs) κ (Zbg _ _ _ _) rfl rfl ?_) | go_step)
 refine Zbt 83 6 (w.heap.size+1+1) rfl (hz.row _) Tryz.underlying83 rfl κ rfl rfl ?_;exact Zbn.of (hS2.1.ret1 hr1 hk1) hg1
theorem Z3q (B:Nat)(S:RrS)(hS:Zeo S)(hrisc:S.C.risc=decide (S.T.arch=2))(r:Rn)(V:RrV)(nr k:Nat)(hI:Inv S.C nr k r)(hnr:nr<=32)(hfl:r.full=false)(pl:Nat)(d a b:Nat)(hd:d<nr)(xa xb:Rg)(hxa:r.regs[a]?=some xa)(hxb:r.regs[b]?=some xb)(imm:Int)(loc label:List UInt8)(fence:Int)(w:World)(hR:Za7 w B S r V)(hadr:∀ s,xa.h=.adr s->s∈S.C.locs)(s:Nm)(hxs:xa.h=.adr s)(hon:Rds r.evs xa.on):Calls Tryz.prog 76 #[rrV S r false V,.int .i64 (pl:Int),.agg #[.int .i64 6,.int .i64 (d:Int),.int .i64 (a:Int),.int .i64 (b:Int),.int .i64 imm,.string ⟨loc.toArray⟩,.string ⟨label.toArray⟩,.int .i64 fence]] w (Zbn B S (some (Zej S.C r pl s xa.on (d:Int))) w):=by
 have HW:=Zh (fun V w h=>(Z1d B S hS hrisc r V nr k hI hnr hfl pl s d hd xa.on w h hon).mono fun e w' p=>(p.st rfl:Zbn B S (some (Zej S.C r pl s xa.on (d:Int))) w e w'));have HAT:=Zh (show atK S.C xa.h=((S.C.locs.idxOf s:Nat):Int) by rw [hxs];rfl);have h0:¬ ((S.C.locs.idxOf s:Nat):Int)<0:=ω;clear hon;generalize ((S.C.locs.idxOf s:Nat):Int)=at_ at *;have HR:=Zh hR;have hal:=(List.getElem?_eq_some_iff.1 hxa).1;have hbl:=(List.getElem?_eq_some_iff.1 hxb).1;obtain⟨c,hc⟩:∃ c,c=rrC S r false V:=⟨_,rfl⟩;rw [show rrV S r false V=.agg c by rw [hc]];have HC:=Zh hc;clear hc;go_enter Tryz.func76,Tryz.ntmps76;apply wp_seq_k;intro K hK;have HK:=Zh hK;clear hK
 go_wp2_with fail
 refine Zhf (P:=fun X=>K _ X) w _ _ _ _ _ _ ?_;intro W b0 b1 b2 hz hbW;refine HK.o _ _ ?_;clear HK K;rw [HC.o] at b0;have HU:Hid (Zbz w W B w.heap.size (w.heap.size+1+1) S r false V):=Zh ⟨HR.o.below hbW,Zba.of_below hbW HR.o.hB,HR.o.hB,b0,⟨_,b2,rfl⟩,Nat.le_refl _,ω,ω⟩;have HE:=Zh b1;have hzW:w.heap.size<W.heap.size:=ω;clear b0 b1 b2 hbW hz HC;obtain⟨q0,cp,hvr,hat⟩:=HU.o.ref.rgAt (show 0<r.regs.length by omega);have k13:W.cell? ⟨w.heap.size,13,none⟩=some (.slice (some ⟨q0,0,none⟩) r.regs.length cp):=by rw [<- hvr];exact HU.o.blk.cell 13
 have e0:=HE.o.k0;have e1:=HE.o.k1;have e2:=HE.o.k2;have e3:=HE.o.k3;have e4:=HE.o.k4;have e5:=HE.o.k5;have c3:W.cell? ⟨q0,a*4+3,none⟩=some (.int .u64 ((xa.on<<<S.C.ahead:Nat):Int)):=by
  obtain⟨p,o,e,hc⟩:=hat a xa hxa;simp only [Option.some.injEq,Addr.mk.injEq,and_true] at e;obtain⟨rfl,rfl⟩:=e;have:=hc 3 _ rfl
  rwa [Nat.zero_add] at this
 have HSS:=Zh (show ∀ y,Below W.heap.size W y->(fun y:World=>Zbz w y B w.heap.size (w.heap.size+1+1) S r false V/\(Zdj S.C.ahead).At y (some ⟨q0,0,none⟩) r.regs/\y.cell? ⟨w.heap.size,13,none⟩=some (.slice (some ⟨q0,0,none⟩) r.regs.length cp)/\y.cell? ⟨w.heap.size+1,0,none⟩=some (.int .i64 6)/\y.cell? ⟨w.heap.size+1,1,none⟩=some (.int .i64 (d:Int))/\y.cell? ⟨w.heap.size+1,2,none⟩=some (.int .i64 (a:Int))/\y.cell? ⟨w.heap.size+1,3,none⟩=some (.int .i64 (b:Int))/\y.cell? ⟨w.heap.size+1,4,none⟩=some (.int .i64 imm)/\y.cell? ⟨w.heap.size+1,5,none⟩=some (.string ⟨loc.toArray⟩)/\y.cell? ⟨q0,a*4+3,none⟩=some (.int .u64 ((xa.on<<<S.C.ahead:Nat):Int))) y from fun y hb=>⟨HU.o.below hb,hat.below hb,Zac k13 hb,Zac e0 hb,Zac e1 hb,Zac e2 hb,Zac e3 hb,Zac e4 hb,Zac e5 hb,Zac c3 hb⟩);have hi1:(0:Int)<=(a:Int):=ω;have hi2:(a:Int)<(r.regs.length:Int):=ω;have hi3:(0:Int)<=(b:Int):=ω;have hi4:(b:Int)<(r.regs.length:Int):=ω;clear hat hvr HR hR
 repeat (first | ((with_reducible refine Zas ?_);refine Zaw 83 3 w.heap.size rfl rfl HU.o.blk Tryz.underlying83 rfl κ rfl ?_) | (go_at_call 126;refine Hid.o ?_) | go_step)
 refine Zh ?_;refine (atR B S r V a xa W HU.o.ref hxa hS.few hadr).mono ?_;rintro e w1 ⟨he,hb1⟩;rw [HAT.o] at he;subst he
 go_wp2_with fail
 refine wz (fun y:World=>Zbz w y B w.heap.size (w.heap.size+1+1) S r false V/\(Zdj S.C.ahead).At y (some ⟨q0,0,none⟩) r.regs/\y.cell? ⟨w.heap.size,13,none⟩=some (.slice (some ⟨q0,0,none⟩) r.regs.length cp)/\y.cell? ⟨w.heap.size+1,0,none⟩=some (.int .i64 6)/\y.cell? ⟨w.heap.size+1,1,none⟩=some (.int .i64 (d:Int))/\y.cell? ⟨w.heap.size+1,2,none⟩=some (.int .i64 (a:Int))/\y.cell? ⟨w.heap.size+1,3,none⟩=some (.int .i64 (b:Int))/\y.cell? ⟨w.heap.size+1,4,none⟩=some (.int .i64 imm)/\y.cell? ⟨w.heap.size+1,5,none⟩=some (.string ⟨loc.toArray⟩)/\y.cell? ⟨q0,a*4+3,none⟩=some (.int .u64 ((xa.on<<<S.C.ahead:Nat):Int))) [0,2,4,5,7,9,11,12,13,14] (HSS.o _ hb1.drew) (fun hHeld=>?_);refine wq 1 ?_;refine wq 3 ?_;refine wq 6 ?_;refine wq 8 ?_;refine wq 10 ?_;refine wv 0 ((rrV S r false V)) rfl (fun x' hS=>Zaz rfl rfl (Zez hS.1.blk)) (by assumption) ?_;refine wv 2 ((rrV S r false V)) rfl (fun x' hS=>Zaz rfl rfl (Zez hS.1.blk)) (by assumption) ?_;refine wt 4 (by assumption) ?_;refine wt 7 (by assumption) ?_;refine wt 9 (by assumption) ?_;refine wt 11 (by assumption) ?_;refine wt 12 (by assumption) ?_;refine wt 13 (by assumption) ?_;refine wt 14 (by assumption) ?_;refine Zar (i:=5) κ rfl (fun K hK=>?_);go_simp
 go_at_call 126
 refine (atR B S r V a xa _ hHeld.1.ref hxa hS.few hadr).mono ?_;rintro e wp ⟨he,hbp⟩;rw [HAT.o] at he;subst he;have hS2:=HSS.o wp (Zaa hb1.drew hbp);refine hK.out _ _ hS2 ?_;clear hK K;refine pu ?_;refine wl 15 ?_
 repeat (first | (go_at_call 124;refine Hid.o ?_) | go_step)
 refine Zh ?_;refine (HW.o V wp hS2.1.ref).mono ?_;rintro e w1 ⟨r1,fl1,V1,rfl,hr1,hk1,hg1⟩;dsimp only;obtain⟨z,hz,hzs⟩:=hS2.1.out1 hk1
 repeat (first | ((with_reducible refine Zas ?_);refine Zap 83 6 111 (w.heap.size+1+1) rfl rfl rfl hz (by exact hzs) κ (Zbg _ _ _ _) rfl rfl ?_) | go_step)
 refine Zbt 83 6 (w.heap.size+1+1) rfl (hz.row _) Tryz.underlying83 rfl κ rfl rfl ?_;exact Zbn.of (hS2.1.ret1 hr1 hk1) hg1
theorem Z0c (B:Nat)(S:RrS)(hS:Zeo S)(_hrisc:S.C.risc=decide (S.T.arch=2))(r:Rn)(V:RrV)(nr k:Nat)(_hI:Inv S.C nr k r)(_hnr:nr<=32)(_hfl:r.full=false)(pl:Nat)(d a b:Nat)(_hd:d<nr)(xa xb:Rg)(hxa:r.regs[a]?=some xa)(hxb:r.regs[b]?=some xb)(imm:Int)(loc label:List UInt8)(fence:Int)(w:World)(hR:Za7 w B S r V)(hadr:∀ s,xa.h=.adr s->s∈S.C.locs)(hno:atK S.C xa.h=-1):Calls Tryz.prog 76 #[rrV S r false V,.int .i64 (pl:Int),.agg #[.int .i64 6,.int .i64 (d:Int),.int .i64 (a:Int),.int .i64 (b:Int),.int .i64 imm,.string ⟨loc.toArray⟩,.string ⟨label.toArray⟩,.int .i64 fence]] w (Ze4 B S r true w):=by
 have HAT:=Zh hno;clear hno;have HR:=Zh hR;have hal:=(List.getElem?_eq_some_iff.1 hxa).1;have hbl:=(List.getElem?_eq_some_iff.1 hxb).1;obtain⟨c,hc⟩:∃ c,c=rrC S r false V:=⟨_,rfl⟩;rw [show rrV S r false V=.agg c by rw [hc]];have HC:=Zh hc;clear hc;go_enter Tryz.func76,Tryz.ntmps76;apply wp_seq_k;intro K hK;have HK:=Zh hK;clear hK
 go_wp2_with fail
 refine Zhf (P:=fun X=>K _ X) w _ _ _ _ _ _ ?_;intro W b0 b1 b2 hz hbW;refine HK.o _ _ ?_;clear HK K;rw [HC.o] at b0;have HU:Hid (Zbz w W B w.heap.size (w.heap.size+1+1) S r false V):=Zh ⟨HR.o.below hbW,Zba.of_below hbW HR.o.hB,HR.o.hB,b0,⟨_,b2,rfl⟩,Nat.le_refl _,ω,ω⟩;have HE:=Zh b1;have hzW:w.heap.size<W.heap.size:=ω;clear b0 b1 b2 hbW hz HC;obtain⟨q0,cp,hvr,hat⟩:=HU.o.ref.rgAt (show 0<r.regs.length by omega);have k13:W.cell? ⟨w.heap.size,13,none⟩=some (.slice (some ⟨q0,0,none⟩) r.regs.length cp):=by rw [<- hvr];exact HU.o.blk.cell 13
 obtain⟨e0,e1,e2,e3,e4,e5⟩:=HE.o.c6;have c3:W.cell? ⟨q0,a*4+3,none⟩=some (.int .u64 ((xa.on<<<S.C.ahead:Nat):Int)):=by
  obtain⟨p,o,e,hc⟩:=hat a xa hxa;simp only [Option.some.injEq,Addr.mk.injEq,and_true] at e;obtain⟨rfl,rfl⟩:=e;have:=hc 3 _ rfl
  rwa [Nat.zero_add] at this
 have HSS:=Zh (show ∀ y,Below W.heap.size W y->(fun y:World=>Zbz w y B w.heap.size (w.heap.size+1+1) S r false V/\(Zdj S.C.ahead).At y (some ⟨q0,0,none⟩) r.regs/\y.cell? ⟨w.heap.size,13,none⟩=some (.slice (some ⟨q0,0,none⟩) r.regs.length cp)/\y.cell? ⟨w.heap.size+1,0,none⟩=some (.int .i64 6)/\y.cell? ⟨w.heap.size+1,1,none⟩=some (.int .i64 (d:Int))/\y.cell? ⟨w.heap.size+1,2,none⟩=some (.int .i64 (a:Int))/\y.cell? ⟨w.heap.size+1,3,none⟩=some (.int .i64 (b:Int))/\y.cell? ⟨w.heap.size+1,4,none⟩=some (.int .i64 imm)/\y.cell? ⟨w.heap.size+1,5,none⟩=some (.string ⟨loc.toArray⟩)/\y.cell? ⟨q0,a*4+3,none⟩=some (.int .u64 ((xa.on<<<S.C.ahead:Nat):Int))) y from fun y hb=>⟨HU.o.below hb,hat.below hb,Zac k13 hb,Zac e0 hb,Zac e1 hb,Zac e2 hb,Zac e3 hb,Zac e4 hb,Zac e5 hb,Zac c3 hb⟩);have hi1:(0:Int)<=(a:Int):=ω;have hi2:(a:Int)<(r.regs.length:Int):=ω;have hi3:(0:Int)<=(b:Int):=ω;have hi4:(b:Int)<(r.regs.length:Int):=ω;clear hat hvr HR hR
 repeat (first | ((with_reducible refine Zas ?_);refine Zaw 83 3 w.heap.size rfl rfl HU.o.blk Tryz.underlying83 rfl κ rfl ?_) | (go_at_call 126;refine Hid.o ?_) | go_step)
 refine Zh ?_;refine (atR B S r V a xa W HU.o.ref hxa hS.few hadr).mono ?_;rintro e w1 ⟨he,hb1⟩;rw [HAT.o] at he;subst he;dsimp only;have HU1:=Zh (HU.o.below hb1);have f24:=HU1.o.blk.frozen 24;have k24:=HU1.o.blk.cm 24;have HV:=Zh HU1.o.flow
 repeat (first | ((with_reducible refine Zfw ?_);refine Zcg Tryz.f76 3 6 95 rfl rfl rfl rfl rfl rfl rfl HV.o rfl rfl (by decide) (of_decide_eq_true rfl) rfl (fun _ _ h=>h)) | go_step)
end
theorem Zna {α β:Type}(o:Option α)(n:β):(o.map (fun y=>(y,n))).map Prod.fst=o:=by cases o <;> rfl
theorem Z0r {C:Cx}{h:Zd8}(hn:∀ s,h≠.adr s):atK C h=-1:=by
 cases h with
 | num n=>rfl
 | adr s=>exact absurd rfl (hn s)
 | rd i=>rfl
 | non=>rfl
theorem Zv4 {C:Cx}{r:Rn}{pl:Nat}{x:Ins}(hn:∀ s,(rgA r x.a).h≠.adr s):Zi2 C r pl x=none:=by
 unfold Zi2;cases h:(rgA r x.a).h with
 | num n=>rfl
 | adr s=>exact absurd h (hn s)
 | rd i=>rfl
 | non=>rfl
theorem Z52 (B:Nat)(S:RrS)(hS:Zeo S)(hrisc:S.C.risc=decide (S.T.arch=2))(r:Rn)(V:RrV)(nr k:Nat)(hI:Inv S.C nr k r)(hnr:nr<=32)(hfl:r.full=false)(hk:k<=256)(c:List Ins)(pl:Nat)(x:Ins)(hv:Zoe S.C nr c pl x)(hop:x.op≠11)(w:World)(hR:Za7 w B S r V) :
  Calls Tryz.prog 76 #[rrV S r false V,.int .i64 (pl:Int),.agg #[.int .i64 x.op,.int .i64 x.d,.int .i64 x.a,.int .i64 x.b,.int .i64 x.imm,.string ⟨x.loc.toArray⟩,.string ⟨x.label.toArray⟩,.int .i64 x.fence]] w (Zbn B S ((Zbh S.C r c pl x).map Prod.fst) w):=by
 have hvo:=hv.op;have hvd:=hv.d;have hva:=hv.a;have hvb:=hv.b;have himm:=hv.imm;have hvl:=hv.loc;obtain⟨oka,hxa⟩:=hI.rg hva.1 hva.2;obtain⟨okb,hxb⟩:=hI.rg hvb.1 hvb.2;obtain⟨op,d,a,b,imm,loc,label,fence⟩:=x;simp only at hvo hvd hva hvb himm hvl hxa hxb oka okb hop ⊢;obtain⟨d,rfl⟩:=Int.eq_ofNat_of_zero_le hvd.1;obtain⟨a,rfl⟩:=Int.eq_ofNat_of_zero_le hva.1;obtain⟨b,rfl⟩:=Int.eq_ofNat_of_zero_le hvb.1;have hd:d<nr:=by have:=hvd.2;omega
 rw [Int.toNat_natCast] at hxa hxb;obtain⟨xa,ea⟩:∃ xa,rgA r (a:Int)=xa:=⟨_,rfl⟩;obtain⟨xb,eb⟩:∃ xb,rgA r (b:Int)=xb:=⟨_,rfl⟩;rw [ea] at hxa oka;rw [eb] at hxb okb;have room:=hI.room;have lta:=Zh6 oka.2.lt room;have ltb:=Zh6 okb.2.lt room;have hadr:∀ s,xa.h=.adr s->s∈S.C.locs:=fun s hs=>by
  have:=oka.1;rw [hs] at this;exact this
 have hc:op=1\/op=2\/op=3\/op=4\/op=5\/op=6\/op=7\/op=8\/op=9\/op=10\/op=12\/op=13:=ω;rcases hc with rfl | rfl | rfl | rfl | rfl | rfl | rfl | rfl | rfl | rfl | rfl | rfl
 ·rw [show Zbh S.C r c pl ⟨1,d,a,b,imm,loc,label,fence⟩=(Zcj S.C r pl loc 0 ⟨.num imm,0⟩).map (·,pl+1) from rfl,Zna];exact Z3l B S hS hrisc r V nr k hI hnr hfl pl d a b hd xa xb hxa hxb imm loc label fence w hR (hvl ω)
 ·rw [show Zbh S.C r c pl ⟨2,d,a,b,imm,loc,label,fence⟩=(Zcj S.C r pl loc 0 (rgA r (a:Int))).map (·,pl+1) from rfl,Zna,ea];exact Z3m B S hS hrisc r V nr k hI hnr hfl pl d a b hd xa xb hxa hxb imm loc label fence w hR (hvl ω) oka
 ·exact Z3n B S hS hrisc r V nr k hI hnr hfl pl d a b hd xa xb hxa hxb imm loc label fence w hR (hvl ω)
 ·exact Z3o B S hS hrisc r V nr k hI hnr hfl pl d a b hd xa xb hxa hxb imm loc label fence w hR
 ·exact (Z3p B S hS hrisc r V nr k hI hnr hfl pl d a b hd xa xb hxa hxb imm loc label fence w hR hk).mono fun e w' p=>p.st rfl
 ·rw [show Zbh S.C r c pl ⟨6,d,a,b,imm,loc,label,fence⟩=(Zi2 S.C r pl ⟨6,d,a,b,imm,loc,label,fence⟩).map (·,pl+1) from rfl,Zna];by_cases hs:∃ s,xa.h=.adr s
  ·obtain⟨s,hs⟩:=hs;rw [show Zi2 S.C r pl ⟨6,d,a,b,imm,loc,label,fence⟩=some (Zej S.C r pl s xa.on (d:Int)) by unfold Zi2;simp only [ea,hs];rfl];exact Z3q B S hS hrisc r V nr k hI hnr hfl pl d a b hd xa xb hxa hxb imm loc label fence w hR hadr s hs oka.2
  ·rw [Zv4 (by show ∀ s,(rgA r (a:Int)).h≠.adr s;rw [ea];exact fun s h=>hs ⟨s,h⟩)];exact (Z0c B S hS hrisc r V nr k hI hnr hfl pl d a b hd xa xb hxa hxb imm loc label fence w hR hadr (Z0r fun s h=>hs ⟨s,h⟩)).mono fun e w' p=>p.no rfl hfl
 ·rw [show Zbh S.C r c pl ⟨7,d,a,b,imm,loc,label,fence⟩=(Zi2 S.C r pl ⟨7,d,a,b,imm,loc,label,fence⟩).map (·,pl+1) from rfl,Zna];by_cases hs:∃ s,xa.h=.adr s
  ·obtain⟨s,hs⟩:=hs;rw [show Zi2 S.C r pl ⟨7,d,a,b,imm,loc,label,fence⟩=Zcj S.C r pl s xa.on xb by unfold Zi2;simp only [ea,eb,hs];rfl];exact Zw6 B S hS hrisc r V nr k hI hnr hfl pl d a b hd xa xb hxa hxb imm loc label fence w hR hadr _ _ (show atK S.C xa.h=((S.C.locs.idxOf s:Nat):Int) by rw [hs];rfl) fun V w h=>Zp5 B S hS r V nr k hI hfl pl s xb okb xa.on w h oka.2
  ·rw [Zv4 (by show ∀ s,(rgA r (a:Int)).h≠.adr s;rw [ea];exact fun s h=>hs ⟨s,h⟩)];exact Zw6 B S hS hrisc r V nr k hI hnr hfl pl d a b hd xa xb hxa hxb imm loc label fence w hR hadr _ _ (Z0r fun s h=>hs ⟨s,h⟩) fun V w h=>(Ze1 B S r V pl (-1) xb _ w h (Or.inl ω)).mono fun e w' p=>p.no rfl hfl
 ·have e8:Zbh S.C r c pl ⟨8,d,a,b,imm,loc,label,fence⟩=some (Zfz S.C r (d:Int) ⟨Zcw 8 xa.h (.num imm),xa.on⟩,pl+1):=by
   show some (Zeq S.C r ⟨8,d,a,b,imm,loc,label,fence⟩,pl+1)=_;unfold Zeq;simp only [ea,if_true,show ¬ ((8:Int)=9/\(a:Int)=(b:Int)) by omega,if_false,Nat.or_zero]
  rw [e8];exact Z3r B S hS hrisc r V nr k hI hnr hfl pl d a b hd xa xb hxa hxb imm loc label fence w hR oka himm lta
 ·by_cases hab:a=b
  ·have e9:Zbh S.C r c pl ⟨9,d,a,b,imm,loc,label,fence⟩=some (Zfz S.C r (d:Int) ⟨.num 0,xa.on⟩,pl+1):=by
    subst hab;show some (Zeq S.C r ⟨9,d,a,a,imm,loc,label,fence⟩,pl+1)=_;unfold Zeq;simp [ea]
   rw [e9];exact Z0d B S hS hrisc r V nr k hI hnr hfl pl d a b hd xa xb hxa hxb imm loc label fence w hR hab
  ·have e9:Zbh S.C r c pl ⟨9,d,a,b,imm,loc,label,fence⟩=some (Zfz S.C r (d:Int) ⟨Zcw 9 xa.h xb.h,xa.on|||xb.on⟩,pl+1):=by
    show some (Zeq S.C r ⟨9,d,a,b,imm,loc,label,fence⟩,pl+1)=_;unfold Zeq;simp [ea,eb,show ¬ (a:Int)=(b:Int) by omega]
   rw [e9];exact Z3s B S hS hrisc r V nr k hI hnr hfl pl d a b hd xa xb hxa hxb imm loc label fence w hR oka okb lta ltb hab
 ·have e10:Zbh S.C r c pl ⟨10,d,a,b,imm,loc,label,fence⟩=some (Zfz S.C r (d:Int) ⟨Zcw 10 xa.h xb.h,xa.on|||xb.on⟩,pl+1):=by
   show some (Zeq S.C r ⟨10,d,a,b,imm,loc,label,fence⟩,pl+1)=_;unfold Zeq;simp [ea,eb]
  rw [e10];exact Zz9 B S hS hrisc r V nr k hI hnr hfl pl d a b hd xa xb hxa hxb imm loc label fence w hR oka okb lta ltb
 ·exact (Z0a B S hS hrisc r V nr k hI hnr hfl pl d a b hd xa xb hxa hxb imm loc label fence w hR).mono fun e w' p=>p.st rfl
 ·exact (Z0b B S hS hrisc r V nr k hI hnr hfl pl d a b hd xa xb hxa hxb imm loc label fence w hR hk).mono fun e w' p=>p.st rfl
section
theorem Zxg {K:Act->World->Prop}{F:Nat->Nat->World->Prop}{A:Nat->Nat->Act}{G:Prop}(h1:(∀ la lb W3,F la lb W3->K (A la lb) W3)->G)(h2:∀ la lb W3,F la lb W3->K (A la lb) W3):G:=h1 h2
theorem Zco.keep {w w':World}{A:Option Addr}{c:List Ins}{B:Nat}(h:Zco w A c)(hA:c≠[]->∀ p,A=some p->p.block<B)(hb:Below B w w'):Zco w' A c:=fun i x hx=>by
 obtain⟨b,o,e,h0,h1,h2,h3,h4,h5,h6,h7,h8,h9⟩:=h i x hx;have hB:b<B:=hA (fun e0=>by rw [e0] at hx;simp at hx) _ e;have k:∀ {n v},w.cell? ⟨b,n,none⟩=some v->w'.cell? ⟨b,n,none⟩=some v:=fun {n v} hv=>Zcx hv hb hB
 exact⟨b,o,e,k h0,k h1,k h2,k h3,k h4,k h5,k h6,k h7,h8,h9⟩
def Zin (B:Nat)(S:RrS)(o:Option (Rn×Nat))(k m:Nat)(w:World)(e:Ending)(w':World):Prop:=∃ r1 fl V n,e=.returned (.tuple #[rrV S r1 fl V,.int .i64 ((n:Nat):Int)])/\Za7 w' B S r1 V/\Zba B w w'/\k<n/\n<=m/\((fl=false/\o=some (r1,n))\/(fl=true/\o=none/\r1.full=false))
theorem Zin.of {B g q n k m:Nat}{S:RrS}{o:Option (Rn×Nat)}{w W:World}{r1:Rn}{fl:Bool}{V:RrV}(h:Zbz w W B g q S r1 fl V)(h1:k<n)(h2:n<=m)(hg:(fl=false/\o=some (r1,n))\/(fl=true/\o=none/\r1.full=false)):Zin B S o k m w (.returned (.tuple #[.agg (rrC S r1 fl V),.int .i64 ((n:Nat):Int)])) (W.setRow q (rrC S r1 fl V)):=by
 obtain⟨z,hz,_⟩:=h.out;exact⟨r1,fl,V,n,rfl,h.ref.row hz _,h.keep.row h.hB h.hq _,h1,h2,hg⟩
set_option maxHeartbeats 4000000
set_option maxRecDepth 100000
theorem Z1x (B:Nat)(S:RrS)(r:Rn)(V:RrV)(nr k:Nat)(hI:Inv S.C nr k r)(hfl:r.full=false)(c:List Ins)(Ac:Option Addr)(cc:Nat)(at_:Nat)(op imm fence:Int)(d a b:Nat)(loc label:List UInt8)(w:World)(hc:Zco w Ac c)(hcB:c≠[]->∀ p,Ac=some p->p.block<B)(hcl:c.length<=256)(_hcc:c.length<=cc)(hx:c[at_]?=some ⟨op,d,a,b,imm,loc,label,fence⟩)
  (hlab:Zhv c at_ ⟨op,d,a,b,imm,loc,label,fence⟩<c.length) (xa xb:Rg) (hxa:r.regs[a]?=some xa) (hxb:r.regs[b]?=some xb) (hra:Zil S.C r.evs xa) (hrb:Zil S.C r.evs xb) (hR:Za7 w B S r V) :
  Calls Tryz.prog 75 #[rrV S r false V,.slice Ac c.length cc,.int .i64 (at_:Int),.int .i64 ((Zhv c at_ ⟨op,d,a,b,imm,loc,label,fence⟩:Nat):Int)] w (Zin B S (brL r c at_ ⟨op,d,a,b,imm,loc,label,fence⟩) at_ c.length w):=by
 have HR:=Zh hR;have hal:=(List.getElem?_eq_some_iff.1 hxa).1;have hbl:=(List.getElem?_eq_some_iff.1 hxb).1;have hkl:=(List.getElem?_eq_some_iff.1 hx).1;obtain⟨bc,oc,rfl,_,_,m2,m3,_,_,_,_,_⟩:=hc at_ _ hx;simp only at m2 m3;obtain⟨L,hL⟩:∃ L,Zhv c at_ ⟨op,d,a,b,imm,loc,label,fence⟩=L:=⟨_,rfl⟩;rw [hL] at hlab ⊢;have HBW0:=Zh (Below.refl w.heap.size w);have HINS:=Zh (fun W r1 fl V1 (h:Zbz w W B w.heap.size (w.heap.size+1) S r1 fl V1)=>hc.keep hcB h.keep.below);obtain⟨cR,hcR⟩:∃ cR,cR=rrC S r false V:=⟨_,rfl⟩;rw [show rrV S r false V=.agg cR by rw [hcR]];have HC:=Zh hcR;clear hcR;go_enter Tryz.func75,Tryz.ntmps75;apply wp_seq_k;intro K hK;have HK:=Zh hK;clear hK
 go_wp2_with fail
 refine Z6l (P:=fun X=>K _ X) w _ _ _ _ ?_;intro W b0 b2 hz hbW;refine HK.o _ _ ?_;clear HK K;rw [HC.o] at b0;have HU:Hid (Zbz w W B w.heap.size (w.heap.size+1) S r false V):=Zh ⟨HR.o.below hbW,Zba.of_below hbW HR.o.hB,HR.o.hB,b0,⟨_,b2,rfl⟩,Nat.le_refl _,ω,ω⟩;have hzW:w.heap.size<W.heap.size:=ω;have hzW1:w.heap.size+1<W.heap.size:=ω;have HBW:=Zh hbW;clear b0 b2 hbW hz HC;obtain⟨q0,cp,hvr,hat⟩:=HU.o.ref.rgAt (show 0<r.regs.length by omega);have k13:W.cell? ⟨w.heap.size,13,none⟩=some (.slice (some ⟨q0,0,none⟩) r.regs.length cp):=by rw [<- hvr];exact HU.o.blk.cell 13
 have m2:=Zac m2 HBW.o;have m3:=Zac m3 HBW.o;have HSS:=Zh (show ∀ y,Below W.heap.size W y->(fun y:World=>Zbz w y B w.heap.size (w.heap.size+1) S r false V/\(Zdj S.C.ahead).At y (some ⟨q0,0,none⟩) r.regs/\y.cell? ⟨w.heap.size,13,none⟩=some (.slice (some ⟨q0,0,none⟩) r.regs.length cp)/\y.cell? ⟨bc,oc+at_*8+2,none⟩=some (.int .i64 (a:Int))/\y.cell? ⟨bc,oc+at_*8+3,none⟩=some (.int .i64 (b:Int))/\Below W.heap.size W y) y from fun y hb=>⟨HU.o.below hb,hat.below hb,Zac k13 hb,Zac m2 hb,Zac m3 hb,hb⟩);have hi1:(0:Int)<=(a:Int):=ω;have hi2:(a:Int)<(r.regs.length:Int):=ω;have hi3:(0:Int)<=(b:Int):=ω;have hi4:(b:Int)<(r.regs.length:Int):=ω;have hi5:(0:Int)<=(at_:Int):=ω;have hi6:(at_:Int)<(c.length:Int):=ω;clear hat hvr HR hR k13 m2 m3;apply wp_seq_k;intro K hK;have HK:=Zh hK;clear hK;apply Zxg (K:=K) (F:=fun la lb W3=>Zbz w W3 B w.heap.size (w.heap.size+1) S r false V/\Blk W3 la 87 #[.int .i64 (Zax xa.h),.int .i64 (Zb6 S.C.ahead xa.h),.string ⟨(Zb5 xa.h).toArray⟩,.int .u64 ((xa.on<<<S.C.ahead:Nat):Int)]/\Blk W3 lb 87 #[.int .i64 (Zax xb.h),.int .i64 (Zb6 S.C.ahead xb.h),.string ⟨(Zb5 xb.h).toArray⟩,.int .u64 ((xb.on<<<S.C.ahead:Nat):Int)]/\la≠lb/\w.heap.size+1<la/\w.heap.size+1<lb)
 ·intro HM;have HM:=Zh HM;refine wz (fun y:World=>Zbz w y B w.heap.size (w.heap.size+1) S r false V/\(Zdj S.C.ahead).At y (some ⟨q0,0,none⟩) r.regs/\y.cell? ⟨w.heap.size,13,none⟩=some (.slice (some ⟨q0,0,none⟩) r.regs.length cp)/\y.cell? ⟨bc,oc+at_*8+2,none⟩=some (.int .i64 (a:Int))/\y.cell? ⟨bc,oc+at_*8+3,none⟩=some (.int .i64 (b:Int))/\Below W.heap.size W y) [1,6,8,10,15,16,17,18,19,20] (HSS.o _ (Below.refl _ _).drew) (fun hHeld=>?_);refine wq 0 ?_;refine wq 2 ?_;refine wq 3 ?_;refine wq 4 ?_;refine wq 5 ?_;refine wq 9 ?_;refine wq 11 ?_;refine wq 12 ?_;refine wq 13 ?_;refine wq 14 ?_;refine wt 1 (by assumption) ?_;refine wt 6 (by assumption) ?_;refine wq 7 ?_;refine wv 8 ((Za2 S.C.ahead xa)) rfl (fun x' hS=>Zaz rfl rfl (Zdt hS.2.1 hxa)) (by assumption) ?_;refine wt 10 (by assumption) ?_;refine wt 15 (by assumption) ?_;refine wt 16 (by assumption) ?_;refine wv 17 ((Za2 S.C.ahead xb)) rfl (fun x' hS=>Zaz rfl rfl (Zdt hS.2.1 hxb)) (by assumption) ?_;clear hHeld;refine Zd5 (i:=18) (j:=19) κ rfl rfl (fun K hK=>?_) (fun K hK=>?_)
  ·go_simp;refine hK.out _ _ (HSS.o _ (by repeat (first | exact Below.refl _ _ | exact Below.refl _ _ | with_reducible refine Below.drew ?_ | with_reducible refine Zab ?_ _))) ?_;clear hK K;refine pu ?_;refine Zar (i:=19) κ rfl (fun K hK=>?_);go_simp;refine hK.out _ _ (HSS.o _ (by repeat (first | exact Below.refl _ _ | exact Below.refl _ _ | with_reducible refine Below.drew ?_ | with_reducible refine Zab ?_ _))) ?_;clear hK K;refine pu ?_;generalize hW2:(World.drew (World.alloc _ _))=W2;have BA:Hid (Blk W2 W.heap.size 87 #[.int .i64 0,.int .i64 0,.string ⟨#[]⟩,.int .u64 0]):=by rw [<- hW2];exact Zh (((Blk.new W 87 #[.int .i64 0,.int .i64 0,.string ⟨#[]⟩,.int .u64 0]).alloc _).drew)
   have BB:Hid (Blk W2 (W.heap.size+1) 87 #[.int .i64 0,.int .i64 0,.string ⟨#[]⟩,.int .u64 0]):=by rw [<- hW2];exact Zh ((Zcl W _ 87 #[.int .i64 0,.int .i64 0,.string ⟨#[]⟩,.int .u64 0]).drew)
   have HW2:Hid (Below W.heap.size W W2):=by rw [<- hW2];exact Zh ((by repeat (first | exact Below.refl _ _ | exact Below.refl _ _ | with_reducible refine Below.drew ?_ | with_reducible refine Zab ?_ _)))
   clear hW2;refine Zar (i:=20) κ rfl (fun K hK=>?_);rw [if_pos κ];refine Zjk 87 10 23 (W.heap.size) rfl rfl BA.o (by rfl) κ κ rfl rfl ?_;have hw3:=below_setRow HW2.o (show W.heap.size<=W.heap.size by omega) #[.int .i64 (Zax xa.h),.int .i64 (Zb6 S.C.ahead xa.h),.string ⟨(Zb5 xa.h).toArray⟩,.int .u64 ((xa.on<<<S.C.ahead:Nat):Int)];refine hK.out _ _ (HSS.o _ hw3) ?_;clear hK K;refine pu ?_;refine wl 21 ?_;refine Zap 87 11 32 ((W.heap.size+1)) rfl rfl rfl (BB.o.farRow (show (W.heap.size+1)≠W.heap.size by omega) _) (by rfl) κ κ rfl rfl ?_;have hw4:=below_setRow hw3 (show W.heap.size<=(W.heap.size+1) by omega) #[.int .i64 (Zax xb.h),.int .i64 (Zb6 S.C.ahead xb.h),.string ⟨(Zb5 xb.h).toArray⟩,.int .u64 ((xb.on<<<S.C.ahead:Nat):Int)]
   have hF:Zbz w ((W2.setRow (W.heap.size) #[.int .i64 (Zax xa.h),.int .i64 (Zb6 S.C.ahead xa.h),.string ⟨(Zb5 xa.h).toArray⟩,.int .u64 ((xa.on<<<S.C.ahead:Nat):Int)]).setRow ((W.heap.size+1)) #[.int .i64 (Zax xb.h),.int .i64 (Zb6 S.C.ahead xb.h),.string ⟨(Zb5 xb.h).toArray⟩,.int .u64 ((xb.on<<<S.C.ahead:Nat):Int)]) B w.heap.size (w.heap.size+1) S r false V/\Blk ((W2.setRow (W.heap.size) #[.int .i64 (Zax xa.h),.int .i64 (Zb6 S.C.ahead xa.h),.string ⟨(Zb5 xa.h).toArray⟩,.int .u64 ((xa.on<<<S.C.ahead:Nat):Int)]).setRow ((W.heap.size+1)) #[.int .i64 (Zax xb.h),.int .i64 (Zb6 S.C.ahead xb.h),.string ⟨(Zb5 xb.h).toArray⟩,.int .u64 ((xb.on<<<S.C.ahead:Nat):Int)]) (W.heap.size) 87 #[.int .i64 (Zax xa.h),.int .i64 (Zb6 S.C.ahead xa.h),.string ⟨(Zb5 xa.h).toArray⟩,.int .u64 ((xa.on<<<S.C.ahead:Nat):Int)]/\Blk ((W2.setRow (W.heap.size) #[.int .i64 (Zax xa.h),.int .i64 (Zb6 S.C.ahead xa.h),.string ⟨(Zb5 xa.h).toArray⟩,.int .u64 ((xa.on<<<S.C.ahead:Nat):Int)]).setRow ((W.heap.size+1)) #[.int .i64 (Zax xb.h),.int .i64 (Zb6 S.C.ahead xb.h),.string ⟨(Zb5 xb.h).toArray⟩,.int .u64 ((xb.on<<<S.C.ahead:Nat):Int)]) ((W.heap.size+1)) 87 #[.int .i64 (Zax xb.h),.int .i64 (Zb6 S.C.ahead xb.h),.string ⟨(Zb5 xb.h).toArray⟩,.int .u64 ((xb.on<<<S.C.ahead:Nat):Int)]/\W.heap.size≠(W.heap.size+1)/\w.heap.size+1<W.heap.size/\w.heap.size+1<(W.heap.size+1):=⟨HU.o.below hw4,(BA.o.row _).farRow ω _,(BB.o.farRow ω _).row _,ω,ω,ω⟩
   clear hw3 hw4 BA BB HW2;generalize ((W2.setRow (W.heap.size) #[.int .i64 (Zax xa.h),.int .i64 (Zb6 S.C.ahead xa.h),.string ⟨(Zb5 xa.h).toArray⟩,.int .u64 ((xa.on<<<S.C.ahead:Nat):Int)]).setRow ((W.heap.size+1)) #[.int .i64 (Zax xb.h),.int .i64 (Zb6 S.C.ahead xb.h),.string ⟨(Zb5 xb.h).toArray⟩,.int .u64 ((xb.on<<<S.C.ahead:Nat):Int)])=W3 at hF ⊢;generalize W.heap.size+1=l1 at hF ⊢;generalize W.heap.size=l2 at hF ⊢;exact wpList_nil (HM.o _ _ _ hF)
  ·go_simp;refine hK.out _ _ (HSS.o _ (by repeat (first | exact Below.refl _ _ | exact Below.refl _ _ | with_reducible refine Below.drew ?_ | with_reducible refine Zab ?_ _))) ?_;clear hK K;refine pu ?_;refine Zar (i:=18) κ rfl (fun K hK=>?_);go_simp;refine hK.out _ _ (HSS.o _ (by repeat (first | exact Below.refl _ _ | exact Below.refl _ _ | with_reducible refine Below.drew ?_ | with_reducible refine Zab ?_ _))) ?_;clear hK K;refine pu ?_;generalize hW2:(World.drew (World.alloc _ _))=W2;have BA:Hid (Blk W2 (W.heap.size+1) 87 #[.int .i64 0,.int .i64 0,.string ⟨#[]⟩,.int .u64 0]):=by rw [<- hW2];exact Zh ((Zcl W _ 87 #[.int .i64 0,.int .i64 0,.string ⟨#[]⟩,.int .u64 0]).drew)
   have BB:Hid (Blk W2 W.heap.size 87 #[.int .i64 0,.int .i64 0,.string ⟨#[]⟩,.int .u64 0]):=by rw [<- hW2];exact Zh (((Blk.new W 87 #[.int .i64 0,.int .i64 0,.string ⟨#[]⟩,.int .u64 0]).alloc _).drew)
   have HW2:Hid (Below W.heap.size W W2):=by rw [<- hW2];exact Zh ((by repeat (first | exact Below.refl _ _ | exact Below.refl _ _ | with_reducible refine Below.drew ?_ | with_reducible refine Zab ?_ _)))
   clear hW2;refine Zar (i:=20) κ rfl (fun K hK=>?_);rw [if_pos κ];refine Zjk 87 10 23 ((W.heap.size+1)) rfl rfl BA.o (by rfl) κ κ rfl rfl ?_;have hw3:=below_setRow HW2.o (show W.heap.size<=(W.heap.size+1) by omega) #[.int .i64 (Zax xa.h),.int .i64 (Zb6 S.C.ahead xa.h),.string ⟨(Zb5 xa.h).toArray⟩,.int .u64 ((xa.on<<<S.C.ahead:Nat):Int)];refine hK.out _ _ (HSS.o _ hw3) ?_;clear hK K;refine pu ?_;refine wl 21 ?_;refine Zap 87 11 32 (W.heap.size) rfl rfl rfl (BB.o.farRow (show W.heap.size≠(W.heap.size+1) by omega) _) (by rfl) κ κ rfl rfl ?_;have hw4:=below_setRow hw3 (show W.heap.size<=W.heap.size by omega) #[.int .i64 (Zax xb.h),.int .i64 (Zb6 S.C.ahead xb.h),.string ⟨(Zb5 xb.h).toArray⟩,.int .u64 ((xb.on<<<S.C.ahead:Nat):Int)]
   have hF:Zbz w ((W2.setRow ((W.heap.size+1)) #[.int .i64 (Zax xa.h),.int .i64 (Zb6 S.C.ahead xa.h),.string ⟨(Zb5 xa.h).toArray⟩,.int .u64 ((xa.on<<<S.C.ahead:Nat):Int)]).setRow (W.heap.size) #[.int .i64 (Zax xb.h),.int .i64 (Zb6 S.C.ahead xb.h),.string ⟨(Zb5 xb.h).toArray⟩,.int .u64 ((xb.on<<<S.C.ahead:Nat):Int)]) B w.heap.size (w.heap.size+1) S r false V/\Blk ((W2.setRow ((W.heap.size+1)) #[.int .i64 (Zax xa.h),.int .i64 (Zb6 S.C.ahead xa.h),.string ⟨(Zb5 xa.h).toArray⟩,.int .u64 ((xa.on<<<S.C.ahead:Nat):Int)]).setRow (W.heap.size) #[.int .i64 (Zax xb.h),.int .i64 (Zb6 S.C.ahead xb.h),.string ⟨(Zb5 xb.h).toArray⟩,.int .u64 ((xb.on<<<S.C.ahead:Nat):Int)]) ((W.heap.size+1)) 87 #[.int .i64 (Zax xa.h),.int .i64 (Zb6 S.C.ahead xa.h),.string ⟨(Zb5 xa.h).toArray⟩,.int .u64 ((xa.on<<<S.C.ahead:Nat):Int)]/\Blk ((W2.setRow ((W.heap.size+1)) #[.int .i64 (Zax xa.h),.int .i64 (Zb6 S.C.ahead xa.h),.string ⟨(Zb5 xa.h).toArray⟩,.int .u64 ((xa.on<<<S.C.ahead:Nat):Int)]).setRow (W.heap.size) #[.int .i64 (Zax xb.h),.int .i64 (Zb6 S.C.ahead xb.h),.string ⟨(Zb5 xb.h).toArray⟩,.int .u64 ((xb.on<<<S.C.ahead:Nat):Int)]) (W.heap.size) 87 #[.int .i64 (Zax xb.h),.int .i64 (Zb6 S.C.ahead xb.h),.string ⟨(Zb5 xb.h).toArray⟩,.int .u64 ((xb.on<<<S.C.ahead:Nat):Int)]/\(W.heap.size+1)≠W.heap.size/\w.heap.size+1<(W.heap.size+1)/\w.heap.size+1<W.heap.size:=⟨HU.o.below hw4,(BA.o.row _).farRow ω _,(BB.o.farRow ω _).row _,ω,ω,ω⟩
   clear hw3 hw4 BA BB HW2;generalize ((W2.setRow ((W.heap.size+1)) #[.int .i64 (Zax xa.h),.int .i64 (Zb6 S.C.ahead xa.h),.string ⟨(Zb5 xa.h).toArray⟩,.int .u64 ((xa.on<<<S.C.ahead:Nat):Int)]).setRow (W.heap.size) #[.int .i64 (Zax xb.h),.int .i64 (Zb6 S.C.ahead xb.h),.string ⟨(Zb5 xb.h).toArray⟩,.int .u64 ((xb.on<<<S.C.ahead:Nat):Int)])=W3 at hF ⊢;generalize W.heap.size+1=l1 at hF ⊢;generalize W.heap.size=l2 at hF ⊢;exact wpList_nil (HM.o _ _ _ hF)
 ·intro la lb W3 ⟨hU,hA,hB,hne,hla,hlb⟩;refine HK.o _ _ ?_;clear HK K HSS HU HBW;obtain⟨ca,hca⟩:∃ A,r.ctrl<<<S.C.ahead=A:=⟨_,rfl⟩;obtain⟨oa,hoa⟩:∃ A,xa.on<<<S.C.ahead=A:=⟨_,rfl⟩;obtain⟨ob,hob⟩:∃ A,xb.on<<<S.C.ahead=A:=⟨_,rfl⟩;obtain⟨cb,hcb⟩:∃ A,(r.ctrl|||xa.on)<<<S.C.ahead=A:=⟨_,rfl⟩;obtain⟨cc2,hcc2⟩:∃ A,(r.ctrl|||xa.on|||xb.on)<<<S.C.ahead=A:=⟨_,rfl⟩;have room:=hI.room;have o1:bits .or .u64 ((ca:Nat):Int) ((oa:Nat):Int)=((cb:Nat):Int):=by
   rw [<- hca,<- hoa,<- hcb,Zcf (Zh6 hI.ctrl.lt room) (Zh6 hra.2.lt room),Zh7]
  have o2:bits .or .u64 ((cb:Nat):Int) ((ob:Nat):Int)=((cc2:Nat):Int):=by
   rw [<- hcb,<- hob,<- hcc2,Zcf (Zh6 (hI.ctrl.or hra.2).lt room) (Zh6 hrb.2.lt room)];exact congrArg _ (Zh7 _ _ _).symm
  have g14:W3.cell? ⟨w.heap.size,14,none⟩=some (.int .u64 ((ca:Nat):Int)):=by rw [<- hca];exact hU.blk.cell 14
  have f14:=hU.blk.frozen 14;have a3:W3.cell? ⟨la,3,none⟩=some (.int .u64 ((oa:Nat):Int)):=by rw [<- hoa];exact hA.cell 3
  have b3:W3.cell? ⟨lb,3,none⟩=some (.int .u64 ((ob:Nat):Int)):=by rw [<- hob];exact hB.cell 3
  have hu4:=hU.ctrl (r.ctrl|||xa.on|||xb.on);rw [hcc2] at hu4;have HA:=Zh (hA.far (p:=⟨w.heap.size,14,none⟩) (show la≠w.heap.size by omega) (.int .u64 ((cc2:Nat):Int)));have HB:=Zh (hB.far (p:=⟨w.heap.size,14,none⟩) (show lb≠w.heap.size by omega) (.int .u64 ((cc2:Nat):Int)));have HU:=Zh hu4;have HLE:=Zh (fun w=>Z47 S.C.ahead xa xb w);have ea:rgA r (a:Int)=xa:=by unfold rgA;rw [Int.toNat_natCast,hxa];rfl
  have eb:rgA r (b:Int)=xb:=by unfold rgA;rw [Int.toNat_natCast,hxb];rfl
  have HBR:=Zh (show brL r c at_ ⟨op,d,a,b,imm,loc,label,fence⟩=if Zby xa.h||Zby xb.h then (if ((c.take L).drop (at_+1)).any (fun y=>decide (y.op≠12)) then none else some ({ r with ctrl:=r.ctrl|||xa.on|||xb.on },at_+1)) else some ({ r with ctrl:=r.ctrl|||xa.on|||xb.on },if Zan xa.h xb.h then L else at_+1) by
   unfold brL;simp only [ea,eb,hL])
  generalize hr1:({ r with ctrl:=r.ctrl|||xa.on|||xb.on }:Rn)=r1 at *;have hfl1:r1.full=false:=by rw [<- hr1];exact hfl
  have hlab1:at_<L:=by rw [<- hL];unfold Zhv;omega
  clear hr1 hU hA hB hu4 hca hoa hob hcb hcc2 hI hra hrb ea eb hxa hxb
  repeat (first | ((with_reducible refine Zas ?_);refine Zaw 87 10 la rfl rfl HA.o Tryz.underlying87 rfl κ rfl ?_) | ((with_reducible refine Zas ?_);refine Zaw 87 11 lb rfl rfl HB.o Tryz.underlying87 rfl κ rfl ?_) | (go_at_call 122;refine Hid.o ?_) | go_step)
  refine Zh ?_;refine (HLE.o _).mono ?_;rintro e w5 ⟨v,he,hv,hb5⟩;have HU5:=Zh (HU.o.below hb5);obtain⟨z,hz,hzs⟩:=HU5.o.out;clear HU HA HB HLE o1 o2 g14 f14 a3 b3 hb5;obtain⟨ko,hko⟩:∃ x,(Zby xa.h||Zby xb.h)=x:=⟨_,rfl⟩;rw [hko] at he hv;have HKO:=Zh hko;rw [hko] at HBR;clear hko;cases ko with
  | false=>
   have HVL:=Zh (hv rfl);clear hv;subst he;cases v with
   | true=>
    dsimp only [Bool.not_false]
    repeat (first | ((with_reducible refine Zas ?_);refine Zaw 83 4 w.heap.size rfl rfl HU5.o.blk Tryz.underlying83 rfl κ rfl ?_) | ((with_reducible refine Zas ?_);refine Zap 83 8 52 (w.heap.size+1) rfl rfl rfl hz (by exact hzs) κ (Zbg _ _ _ _) rfl rfl ?_) | go_step)
    refine Znv 83 8 (w.heap.size+1) 9 rfl (hz.row _) Tryz.underlying83 rfl κ rfl rfl rfl ?_;exact Zin.of (n:=L) (HU5.o) ω ω (Or.inl ⟨rfl,by rw [HBR.o,<- HVL.o];rfl⟩)
   | false=>
    dsimp only [Bool.not_false];have HO:=Zh (show brL r c at_ ⟨op,d,a,b,imm,loc,label,fence⟩=some (r1,at_+1) by rw [HBR.o,<- HVL.o];rfl);clear hz hzs
    go_wp2_with fail
    go_loopw [14] (fun x wr=>x=.int .i64 ((at_:Int)+1)/\Zbz w wr B w.heap.size (w.heap.size+1) S r1 false V) (fun _ _=>0)
    case atStart=>exact⟨by go_num,HU5.o⟩
    case round=>
     obtain⟨rfl,hu⟩:=hrel;have HU6:=Zh hu;obtain⟨z,hz,hzs⟩:=hu.out;clear hu HU5
     go_wp2_with (first | ((with_reducible refine Zas ?_);refine Zaw 83 4 w.heap.size rfl rfl HU6.o.blk Tryz.underlying83 rfl κ rfl ?_) | ((with_reducible refine Zas ?_);refine Zap 83 8 72 (w.heap.size+1) rfl rfl rfl hz (by exact hzs) κ (Zbg _ _ _ _) rfl rfl ?_))
     all_goals
      refine Znv 83 8 (w.heap.size+1) 9 rfl (hz.row _) Tryz.underlying83 rfl κ rfl rfl rfl ?_;exact Zin.of (n:=at_+1) (HU6.o) ω ω (Or.inl ⟨rfl,HO.o⟩)
  | true=>
   clear hv;subst he;dsimp only [Bool.not_true];clear hz hzs
   go_wp2_with fail
   go_loopw [14] (fun x wr=>∃ (j:Nat) (fl:Bool),at_+1<=j/\j<=L/\x=.int .i64 (j:Int)/\fl=((c.take j).drop (at_+1)).any (fun y=>decide (y.op≠12))/\Zbz w wr B w.heap.size (w.heap.size+1) S r1 fl V) (fun x _=>L - (intOf x).toNat)
   case atStart=>exact⟨at_+1,false,ω,ω,by go_num,by rw [List.drop_eq_nil_of_le (by rw [List.length_take];omega)];rfl,HU5.o⟩
   case round=>
    obtain⟨j,fl,hj1,hj2,rfl,hf,hu⟩:=hrel;have HF:=Zh hf;have HU6:=Zh hu;obtain⟨z,hz,hzs⟩:=hu.out;clear hu hf HU5;by_cases hlt:j<L
    ·have hjl:(j:Int)<(L:Int):=ω;have hjc:(j:Int)<(c.length:Int):=ω;have hj0:(0:Int)<=(j:Int):=ω;obtain⟨y,hy⟩:∃ y,c[j]?=some y:=⟨_,List.getElem?_eq_getElem ω⟩;have hins:=HINS.o _ _ _ _ HU6.o;obtain⟨b',o',e',m0,_⟩:=hins j y hy;simp only [Option.some.injEq,Addr.mk.injEq,and_true] at e';obtain⟨rfl,rfl⟩:=e';have HN:=Zh (show ((c.take (j+1)).drop (at_+1)).any (fun y=>decide (y.op≠12))=(fl||decide (y.op≠12)) by
      rw [List.take_add_one,hy,List.drop_append_of_le_length (by rw [List.length_take];omega),List.any_append,<- HF.o];simp only [Option.toList_some,List.any_cons,List.any_nil,Bool.or_false])
     have f24:=HU6.o.blk.frozen 24;have k24:=HU6.o.blk.cm 24;have HU7:=Zh HU6.o.flow;clear hins hy hz hzs;by_cases h12:y.op=12
     ·have hn:fl=((c.take (j+1)).drop (at_+1)).any (fun y=>decide (y.op≠12)):=by rw [HN.o,h12];simp
      have HNN:=Zh hn;clear hn
      go_wp2_with fail
      go_roundw
      case rel=>exact⟨j+1,fl,ω,ω,by go_num,HNN.o,HU6.o⟩
      case measure=>exact msr
     ·have hn:true=((c.take (j+1)).drop (at_+1)).any (fun y=>decide (y.op≠12)):=by rw [HN.o];simp [h12]
      have HNN:=Zh hn;clear hn
      go_wp2_with fail
      go_roundw
      case rel=>exact⟨j+1,true,ω,ω,by go_num,HNN.o,HU7.o⟩
      case measure=>exact msr
    ·have hjL:j=L:=ω;subst hjL
     go_wp2_with (first | ((with_reducible refine Zas ?_);refine Zaw 83 4 w.heap.size rfl rfl HU6.o.blk Tryz.underlying83 rfl κ rfl ?_) | ((with_reducible refine Zas ?_);refine Zap 83 8 72 (w.heap.size+1) rfl rfl rfl hz (by exact hzs) κ (Zbg _ _ _ _) rfl rfl ?_))
     have HO:Hid ((fl=false/\brL r c at_ ⟨op,d,a,b,imm,loc,label,fence⟩=some (r1,at_+1))\/(fl=true/\brL r c at_ ⟨op,d,a,b,imm,loc,label,fence⟩=none/\r1.full=false)):=by
      have e:=HBR.o;rw [if_pos trivial,<- HF.o] at e;cases fl with
      | true=>exact Zh (Or.inr ⟨rfl,by rw [e];rfl,hfl1⟩)
      | false=>exact Zh (Or.inl ⟨rfl,by rw [e];rfl⟩)
     all_goals
      refine Znv 83 8 (w.heap.size+1) 9 rfl (hz.row _) Tryz.underlying83 rfl κ rfl rfl rfl ?_;exact Zin.of (n:=at_+1) (HU6.o) ω ω (HO.o)
end
section
def Zmd (L:Ze2)(w:World)(e:Ending)(w':World):Prop:=∃ q,e=.returned (.tuple #[.agg #[.int .i64 (L.a.evs.length:Int),.slice (some ⟨q,0,none⟩) L.a.evs.length L.a.evs.length],.int .i64 0])/\Blk w' q 70 (Zjn.flat (Zp8 L.a.evs.length (btw (Zke Zcz L.a.bars) L.a.evs 0 L.a.evs))).toArray/\Below w.heap.size w w'
section
set_option maxHeartbeats 4000000
set_option maxRecDepth 100000
theorem Zx9 (L:Ze2)(V:Ze5)(p:Nat)(w:World)(h:Zc1 w L V)(G:Zc5 L)(hp0:L.a.addr=[])(hp1:L.a.data=[])(hp2:L.a.hang=[])(hth:L.th.length<=1)(hp:w.cell? ⟨p,3,none⟩=some V.br.v) :
  Calls Tryz.prog 28 #[Zd4 V,.func (.func 77) #[] #[.pointer (some ⟨p,0,none⟩)]] w (Zmd L w):=by
 have HCK:=Zh (fun (z:World) (hz:Zc1 z L V)=>Z10 L V z hz G hp0 hp1 hp2 hth);have HB1:=Zh (Zao w (.cells (Zjb V) 41 (0,0)) (.cells #[.int .i64 0,.slice none 0 0] 48 (0,0)));have hck:=Zh (HCK.o _ (h.below HB1.o));clear HCK;have HFC:=Zh (fun (a b:Evt) (z:World) (hz:Below w.heap.size w z)=>Z74 L.a.bars V.br.A V.br.c p a b z (h.br.below hz) G.nbr (by rw [<- h.nbr];exact Zac hp hz));have hlen:(btw (Zke Zcz L.a.bars) L.a.evs 0 L.a.evs).length<=1000000:=by
  have h1:=Zqc (Zke Zcz L.a.bars) L.a.evs L.a.evs 0;have h2:=G.nev;have:L.a.evs.length*L.a.evs.length<=64*64:=Nat.mul_le_mul h2 h2;omega
 have hmem:∀ q∈btw (Zke Zcz L.a.bars) L.a.evs 0 L.a.evs,0<=q.1/\q.1<L.a.evs.length/\0<=q.2/\q.2<L.a.evs.length:=fun q hq=>by
  obtain⟨m,n,a,b,h1,h2,rfl,_⟩:=(Zis _ _ _ _ _).1 hq;have:=(List.getElem?_eq_some_iff.1 h1).1;have:=(List.getElem?_eq_some_iff.1 h2).1;simp only;omega
 have HMM:=Zh hmem;clear hmem hp;obtain⟨X,hX⟩:∃ X,btw (Zke Zcz L.a.bars) L.a.evs 0 L.a.evs=X:=⟨_,rfl⟩;have HX:=Zh hX;unfold Zmd;rw [hX] at hlen HMM ⊢;clear hX;obtain⟨⟨Al,nl,cl⟩,⟨Ai,ni,ci⟩,⟨Ae,ne,ce⟩,⟨Ab,nb,cb⟩,⟨Aa,na,ca⟩,⟨Ad,nd,cd⟩,⟨Ac,nc,cc⟩,⟨At,nt,ct⟩,⟨Ax,nx,cx⟩⟩:=V;simp only [Zd4,Sl.v];have HT:=Zh h;have hn1:=Zh (show nl=L.lo.length from h.nlo);have hn2:=Zh (show ni=L.ini.length from h.nini);have hn3:=Zh (show ne=L.a.evs.length from h.nev);have hn4:=Zh (show nb=L.a.bars.length from h.nbr);have hn8:=Zh (show nt=L.th.length from h.nth);have hn9:=Zh (show nx=L.a.ends.length from h.nen);have HB0:=Zh (Zad w (.cells #[.slice Al nl cl,.slice Ai ni ci,.slice Ae ne ce,.slice Ab nb cb,.slice Aa na ca,.slice Ad nd cd,.slice Ac nc cc,.slice At nt ct,.slice Ax nx cx] 41 (0,0)));have HTB:=Zh (Blk.new w 41 #[.slice Al nl cl,.slice Ai ni ci,.slice Ae ne ce,.slice Ab nb cb,.slice Aa na ca,.slice Ad nd cd,.slice Ac nc cc,.slice At nt ct,.slice Ax nx cx]);have hl1:ne<=64:=by rw [hn3.o];exact G.nev
 rw [<- hn3.o] at HMM ⊢;clear h G HB0 HTB;go_enter Tryz.func28,Tryz.ntmps28
 go_wp2_with (go_at_call 8;refine hck.o.mono ?_;rintro e w2 ⟨rfl,hb⟩;have HB2:=Zh (Zaa HB1.o hb);have HK2:=Zh ((Blk.alloc (Blk.new w 41 #[.slice Al nl cl,.slice Ai ni ci,.slice Ae ne ce,.slice Ab nb cb,.slice Aa na ca,.slice Ad nd cd,.slice Ac nc cc,.slice At nt ct,.slice Ax nx cx]) (.cells #[.int .i64 0,.slice none 0 0] 48 (0,0))).go hb);have HR2:Hid (Blk w2 (w.heap.size+1) 48 #[.int .i64 0,.slice none 0 0]):=Zh ((Zcl w (.cells #[.slice Al nl cl,.slice Ai ni ci,.slice Ae ne ce,.slice Ab nb cb,.slice Aa na ca,.slice Ad nd cd,.slice Ac nc cc,.slice At nt ct,.slice Ax nx cx] 41 (0,0)) 48 #[.int .i64 0,.slice none 0 0]).go hb);clear hb;have k2:w2.cell? ⟨w.heap.size,2,none⟩=some (.slice Ae ne ce):=HK2.o.cell 2)
 go_loopw [21,7] (fun iv vv wr=>∃ (k:Nat) (s:Sl) (q:List (Int×Int)),k<=ne/\iv=.int .i64 k/\vv=s.v/\q++btw (Zke Zcz L.a.bars) L.a.evs k (L.a.evs.drop k)=X/\Zbf.Own 129 w.heap.size wr s.v q/\Below w.heap.size w wr/\Blk wr w.heap.size 41 #[.slice Al nl cl,.slice Ai ni ci,.slice Ae ne ce,.slice Ab nb cb,.slice Aa na ca,.slice Ad nd cd,.slice Ac nc cc,.slice At nt ct,.slice Ax nx cx]/\Blk wr (w.heap.size+1) 48 #[.int .i64 0,.slice none 0 0]) (fun iv _ _=>ne - (intOf iv).toNat)
 case atStart=>exact⟨0,⟨none,0,0⟩,[],Nat.zero_le _,rfl,rfl,by rw [List.drop_zero];exact HX.o,Enc.Own.nil _ _ _,HB2.o,HK2.o,HR2.o⟩
 case round=>
  obtain⟨k,s,q,hk,rfl,rfl,hac,hown,hb,hkk,hr⟩:=hrel;obtain⟨wk,hwk⟩:∃ z:World,z=wr:=⟨_,rfl⟩;subst hwk;have HAC:=Zh hac;have HOWN:=Zh hown;have HB:=Zh hb;have HK:=Zh hkk;have HR:=Zh hr;have hns:=Zpm hown;have hql:q.length<=1000000:=by rw [<- hac] at hlen;simp at hlen;omega
  have hgr:=hr.lt;have hgv:=hkk.lt;have k2:wk.cell? ⟨w.heap.size,2,none⟩=some (.slice Ae ne ce):=hkk.cell 2;clear hac hown hb hkk hr HB2 HK2 HR2;have hii:(0:Int)<=(k:Int):=ω;by_cases hlt:k<ne
  ·have hij:(k:Int)<(ne:Int):=ω;obtain⟨x,hx⟩:∃ x,L.a.evs[k]?=some x:=⟨_,List.getElem?_eq_getElem (by rw [<- hn3.o];exact hlt)⟩;obtain⟨b,o,eA,c0,c1,c2,c3,c4,c5⟩:=Zc6 (HT.o.ev.below HB.o) hx;simp only at eA;subst eA;have HST:=Zh (show q++(Zjd (Zke Zcz L.a.bars) k x 0 L.a.evs++btw (Zke Zcz L.a.bars) L.a.evs (k+1) (L.a.evs.drop (k+1)))=X by
    have:=HAC.o;rw [Zbp hx] at this;exact this)
   obtain⟨at_,ap,ad,al,av,ar⟩:=x;simp only at c0 c1 c2 c3 c4 c5;have HE0:=Zh (Blk.new wk 54 #[.int .i64 at_,.int .i64 ap,.int .i64 ad,.int .i64 al,.int .i64 av,.int .i64 ar]);have HB3:=Zh (Zab HB.o (.cells #[.int .i64 at_,.int .i64 ap,.int .i64 ad,.int .i64 al,.int .i64 av,.int .i64 ar] 54 (0,0)));have HK3:=Zh (HK.o.alloc (.cells #[.int .i64 at_,.int .i64 ap,.int .i64 ad,.int .i64 al,.int .i64 av,.int .i64 ar] 54 (0,0)));have HR3:=Zh (HR.o.alloc (.cells #[.int .i64 at_,.int .i64 ap,.int .i64 ad,.int .i64 al,.int .i64 av,.int .i64 ar] 54 (0,0)));have HO3:=Zh (HOWN.o.below (Zad wk (.cells #[.int .i64 at_,.int .i64 ap,.int .i64 ad,.int .i64 al,.int .i64 av,.int .i64 ar] 54 (0,0))));clear hx HAC
   go_wp2_with fail
   clear c0 c1 c2 c3 c4 c5 k2;go_loopw [29,7] (fun iv vv wr=>∃ (m:Nat) (s:Sl) (acc:List (Int×Int)),m<=ne/\iv=.int .i64 m/\vv=s.v/\acc++(Zjd (Zke Zcz L.a.bars) k ⟨at_,ap,ad,al,av,ar⟩ m (L.a.evs.drop m)++btw (Zke Zcz L.a.bars) L.a.evs (k+1) (L.a.evs.drop (k+1)))=X/\Zbf.Own 129 w.heap.size wr s.v acc/\Below w.heap.size w wr/\Blk wr w.heap.size 41 #[.slice Al nl cl,.slice Ai ni ci,.slice (some ⟨b,o,none⟩) ne ce,.slice Ab nb cb,.slice Aa na ca,.slice Ad nd cd,.slice Ac nc cc,.slice At nt ct,.slice Ax nx cx]/\Blk wr (w.heap.size+1) 48 #[.int .i64 0,.slice none 0 0]/\Blk wr wk.heap.size 54 #[.int .i64 at_,.int .i64 ap,.int .i64 ad,.int .i64 al,.int .i64 av,.int .i64 ar]) (fun iv _ _=>ne - (intOf iv).toNat)
   case atStart=>exact⟨0,s,q,Nat.zero_le _,rfl,rfl,by rw [List.drop_zero];exact HST.o,HO3.o,HB3.o,HK3.o,HR3.o,HE0.o⟩
   case round=>
    obtain⟨m,s,acc,hm,rfl,rfl,hac,hown,hb,hkk,hr,he⟩:=hrel;have HAC:=Zh hac;have HOWN2:=Zh hown;have HB4:=Zh hb;have HK4:=Zh hkk;have HR4:=Zh hr;have HE4:=Zh he;have hacl:acc.length<=1000000:=by rw [<- hac] at hlen;simp at hlen;omega
    have g0:=he.cm 0;have g1:=he.cm 1;have g2:=he.cm 2;have g3:=he.cm 3;have g4:=he.cm 4;have g5:=he.cm 5;have hgw:=he.lt;have hgv2:=hkk.lt;have hmm:(0:Int)<=(m:Int):=ω;clear hac hown hb hkk hr he HST HO3 HB3 HK3 HR3 HE0 HOWN HB HK HR;by_cases hlm:m<ne
    ·have hml:(m:Int)<(ne:Int):=ω;obtain⟨y,hy⟩:∃ y,L.a.evs[m]?=some y:=⟨_,List.getElem?_eq_getElem (by rw [<- hn3.o];exact hlm)⟩;obtain⟨b',o',eA,c0,c1,c2,c3,c4,c5⟩:=Zc6 (HT.o.ev.below HB4.o) hy;simp only at eA;simp only [Option.some.injEq,Addr.mk.injEq,and_true] at eA;obtain⟨h1,h2⟩:=eA;subst h1 h2;have HDM:=Zh (Zbp hy);obtain⟨bt,bp,bd,bl,bv,br⟩:=y;simp only at c0 c1 c2 c3 c4 c5;have HBA:=Zh (Zab HB4.o (.cells #[.int .i64 bt,.int .i64 bp,.int .i64 bd,.int .i64 bl,.int .i64 bv,.int .i64 br] 54 (0,0)));have HKA:=Zh (HK4.o.alloc (.cells #[.int .i64 bt,.int .i64 bp,.int .i64 bd,.int .i64 bl,.int .i64 bv,.int .i64 br] 54 (0,0)));have HRA:=Zh (HR4.o.alloc (.cells #[.int .i64 bt,.int .i64 bp,.int .i64 bd,.int .i64 bl,.int .i64 bv,.int .i64 br] 54 (0,0)));have HEA:=Zh (HE4.o.alloc (.cells #[.int .i64 bt,.int .i64 bp,.int .i64 bd,.int .i64 bl,.int .i64 bv,.int .i64 br] 54 (0,0)));clear hy;by_cases h1:at_=bt
     ·by_cases h2:ap<bp
      ·obtain⟨r,hr⟩:∃ r,Zke Zcz L.a.bars ⟨at_,ap,ad,al,av,ar⟩ ⟨bt,bp,bd,bl,bv,br⟩=r:=⟨_,rfl⟩;have HF2:=Zh (fun z (hz:Below w.heap.size w z)=>HFC.o ⟨at_,ap,ad,al,av,ar⟩ ⟨bt,bp,bd,bl,bv,br⟩ z hz);rw [hr] at HF2;simp only [evV] at HF2;subst h1;cases r
       ·have HSN:=Zh (show acc++(Zjd (Zke Zcz L.a.bars) k ⟨at_,ap,ad,al,av,ar⟩ (m+1) (L.a.evs.drop (m+1))++btw (Zke Zcz L.a.bars) L.a.evs (k+1) (L.a.evs.drop (k+1)))=X by
         have:=HAC.o;rw [HDM.o] at this;unfold Zjd at this;rw [if_neg (by simp [hr])] at this;exact this)
        clear hr HAC HDM
        go_wp2_with (go_at_call 77;refine (HF2.o _ HBA.o).mono ?_;rintro e w9 ⟨rfl,hb9⟩;have HB9:=Zh hb9;clear hb9)
        go_roundw
        case rel=>exact⟨m+1,s,acc,ω,by go_num,rfl,HSN.o,(HOWN2.o.below (Zad _ _)).below HB9.o,Zaa HBA.o HB9.o,HKA.o.go HB9.o,HRA.o.go HB9.o,HEA.o.go HB9.o⟩
        case measure=>simp [intOf];omega
       ·have HSN:=Zh (show (acc++[((k:Int),(m:Int))])++(Zjd (Zke Zcz L.a.bars) k ⟨at_,ap,ad,al,av,ar⟩ (m+1) (L.a.evs.drop (m+1))++btw (Zke Zcz L.a.bars) L.a.evs (k+1) (L.a.evs.drop (k+1)))=X by
         have:=HAC.o;rw [HDM.o] at this;unfold Zjd at this;rw [if_pos ⟨rfl,h2,hr⟩] at this;rw [<- this];simp)
        clear hr HAC HDM
        go_wp2_with first | (go_at_call 77;refine (HF2.o _ HBA.o).mono ?_;rintro e w9 ⟨rfl,hb9⟩;have HB9:=Zh hb9;clear hb9;have HPA:=Zh (Zi7 w9 ((k:Int),(m:Int)));have HBP:=Zh (Zad w9 (.cells #[.int .i64 (k:Int),.int .i64 (m:Int)] 129 (0,0)));have HO9:=Zh (((HOWN2.o.below (Zad _ _)).below HB9.o).below HBP.o);have hz9:=(Zaa HBA.o HB9.o).size) | (at_builtin;refine Enc.appW Zmp _ rfl (.tmp 52) (.tmp 56) rfl [((k:Int),(m:Int))] w.heap.size acc _ w9.heap.size 0 1 rfl rfl HPA.o HO9.o (by simp;omega) (by simp;omega) (by simp;omega) ?_;intro v' w3 hown3 hg3;obtain⟨s3,rfl,_⟩:=Zd7 hown3;have HO5:=Zh hown3;have HG5:=Zh hg3;clear hown3 hg3)
        go_roundw
        case rel=>exact⟨m+1,s3,acc++[((k:Int),(m:Int))],ω,by go_num,rfl,HSN.o,HO5.o,(Zaa (Zaa HBA.o HB9.o) HBP.o).trans HG5.o.below,Zat ((HKA.o.go HB9.o).go HBP.o) HO9.o (by decide) HG5.o,Zat ((HRA.o.go HB9.o).go HBP.o) HO9.o (by decide) HG5.o,Zat ((HEA.o.go HB9.o).go HBP.o) HO9.o (by decide) HG5.o⟩
        case measure=>simp [intOf];omega
      ·have HSN:=Zh (show acc++(Zjd (Zke Zcz L.a.bars) k ⟨at_,ap,ad,al,av,ar⟩ (m+1) (L.a.evs.drop (m+1))++btw (Zke Zcz L.a.bars) L.a.evs (k+1) (L.a.evs.drop (k+1)))=X by
        have:=HAC.o;rw [HDM.o] at this;unfold Zjd at this;rw [if_neg (by simp [h2])] at this;exact this)
       subst h1;clear HAC HDM
       go_wp2_with fail
       go_roundw
       case rel=>exact⟨m+1,s,acc,ω,by go_num,rfl,HSN.o,HOWN2.o.below (Zad _ _),HBA.o,HKA.o,HRA.o,HEA.o⟩
       case measure=>simp [intOf];omega
     ·have HSN:=Zh (show acc++(Zjd (Zke Zcz L.a.bars) k ⟨at_,ap,ad,al,av,ar⟩ (m+1) (L.a.evs.drop (m+1))++btw (Zke Zcz L.a.bars) L.a.evs (k+1) (L.a.evs.drop (k+1)))=X by
       have:=HAC.o;rw [HDM.o] at this;unfold Zjd at this;rw [if_neg (by simp [h1])] at this;exact this)
      have h1f:(at_ == bt)=false:=by simpa using h1
      clear HAC HDM
      go_wp2_with fail
      go_roundw
      case rel=>exact⟨m+1,s,acc,ω,by go_num,rfl,HSN.o,HOWN2.o.below (Zad _ _),HBA.o,HKA.o,HRA.o,HEA.o⟩
      case measure=>simp [intOf];omega
    ·have hml:¬ (m:Int)<(ne:Int):=ω;have HSN:=Zh (show acc++btw (Zke Zcz L.a.bars) L.a.evs (k+1) (L.a.evs.drop (k+1))=X by
      have:=HAC.o;rw [List.drop_eq_nil_of_le (by rw [<- hn3.o];omega)] at this;exact this)
     exact m_92
  ·have hij:¬ (k:Int)<(ne:Int):=ω;have HQX:=Zh (show q=X by
    have:=HAC.o;rw [List.drop_eq_nil_of_le (by rw [<- hn3.o];omega)] at this;simpa [btw] using this)
   have HAT:Hid (Zbf.At wk s.A X):=by
    obtain⟨A',cap',e1,hat,_⟩:=HOWN.o.at_;simp only [Sl.v,Value.slice.injEq] at e1;obtain⟨e2,_,_⟩:=e1;rw [e2,<- HQX.o];exact Zh hat
   have HRO:=Zh (Z1e ne s X wk ω hlen HAT.o (by rw [hns,HQX.o]) HMM.o);have r0:=HR.o.cell 0;have r1:=HR.o.cell 1;have fr:=HR.o.frozen;simp only [Sl.v] at HRO;clear HAC
   go_wp2_with (go_at_call 79;refine HRO.o.mono ?_;rintro e w9 ⟨q9,rfl,hq9,hge,hb9⟩;have HQ9:=Zh hq9;have HB9:=Zh hb9;have HR9:=Zh (HR.o.go hb9);clear hq9 hb9;have r0:=HR9.o.cell 0;have r1:=HR9.o.cell 1;have fr:=HR9.o.frozen)
   refine bodyPost_ret (v:=.tuple #[.agg #[.int .i64 (ne:Int),.slice (some ⟨q9,0,none⟩) ne ne],.int .i64 0]) (by simp [results,Tryz.results28,go_sem, *]) rfl ?_;refine⟨q9,rfl,?_,?_⟩
   ·exact (HQ9.o.far (p:=⟨w.heap.size+1,0,none⟩) (by simp only [ne_eq];omega) _).far (p:=⟨w.heap.size+1,1,none⟩) (by simp only [ne_eq];omega) _
   exact m_86
end
end
end Go.Proofs.YtdfmcfppoohckaaGreatDoor
