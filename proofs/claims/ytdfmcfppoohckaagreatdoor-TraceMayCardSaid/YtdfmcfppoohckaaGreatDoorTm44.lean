/- Layer 15: a trace that may be, is told to be so: the reference's barred, paired. -/
import Derived.Test.YtdfmcfppoohckaaGreatDoorTm39
import Derived.Test.YtdfmcfppoohckaaGreatDoorTm40
import Derived.Test.YtdfmcfppoohckaaGreatDoorTm43

namespace Go.Proofs.YtdfmcfppoohckaaGreatDoor
open Go.RowKit
section
set_option maxHeartbeats 4000000
set_option maxRecDepth 100000
theorem Z1t (L:Ze2)(V:Ze5)(w:World)(h:Zc1 w L V)(G:Zc5 L):Calls Tryz.prog 37 #[Zd4 V] w fun e w'=>e=.returned (.bool true)/\Below w.heap.size w w':=by
 obtain⟨⟨Al,nl,cl⟩,⟨Ai,ni,ci⟩,⟨Ae,ne,ce⟩,⟨Ab,nb,cb⟩,⟨Aa,na,ca⟩,⟨Ad,nd,cd⟩,⟨Ac,nc,cc⟩,⟨At,nt,ct⟩,⟨Ax,nx,cx⟩⟩:=V;simp only [Zd4,Sl.v];have HT:=Zh h;have hn3:=Zh (show ne=L.a.evs.length from h.nev);have hn4:=Zh (show nb=L.a.bars.length from h.nbr);have HB0:=Zh (Zad w (.cells #[.slice Al nl cl,.slice Ai ni ci,.slice Ae ne ce,.slice Ab nb cb,.slice Aa na ca,.slice Ad nd cd,.slice Ac nc cc,.slice At nt ct,.slice Ax nx cx] 41 (0,0)));have HTB:=Zh (Blk.new w 41 #[.slice Al nl cl,.slice Ai ni ci,.slice Ae ne ce,.slice Ab nb cb,.slice Aa na ca,.slice Ad nd cd,.slice Ac nc cc,.slice At nt ct,.slice Ax nx cx]);have hl1:nb<=4096:=by rw [hn4.o];exact G.nbr
 have hl2:ne<=64:=by rw [hn3.o];exact G.nev
 have HG:=Zh G;clear h G;go_enter Tryz.func37,Tryz.ntmps37
 go_wp2_with fail
 go_loopw [3] (fun v wr=>∃ i:Nat,i<=nb/\v=.int .i64 i/\Below w.heap.size w wr/\Blk wr w.heap.size 41 #[.slice Al nl cl,.slice Ai ni ci,.slice Ae ne ce,.slice Ab nb cb,.slice Aa na ca,.slice Ad nd cd,.slice Ac nc cc,.slice At nt ct,.slice Ax nx cx]) (fun v _=>nb - (intOf v).toNat)
 case atStart=>exact⟨0,Nat.zero_le _,rfl,HB0.o,HTB.o⟩
 case round=>
  obtain⟨i,hi,rfl,hb,ht⟩:=hrel;obtain⟨wk,hwk⟩:∃ z:World,z=wr:=⟨_,rfl⟩;subst hwk;have HB:=Zh hb;have HK:=Zh ht;have k3:wk.cell? ⟨w.heap.size,3,none⟩=some (.slice Ab nb cb):=ht.cell 3;have hii:(0:Int)<=(i:Int):=ω;clear hb ht HB0 HTB;by_cases hlt:i<nb
  ·have hij:(i:Int)<(nb:Int):=ω;obtain⟨x,hx⟩:∃ x,L.a.bars[i]?=some x:=⟨_,List.getElem?_eq_getElem (by rw [<- hn4.o];omega)⟩;obtain⟨b,o,eA,c0,c1,c2⟩:=Zog (HT.o.br.below HB.o) hx;simp only at eA;subst eA;obtain⟨⟨h1a,h1b⟩,⟨h2a,h2b⟩,h3a,h3b⟩:=HG.o.br x (List.mem_of_getElem? hx);have HEV:=Zh (fun j x' (h:L.a.bars[j]?=some x') (hj:j+1=i)=>HG.o.bro j x' x h (by rw [hj];exact hx));have HNE:=Zh (HG.o.bre x (List.mem_of_getElem? hx));obtain⟨xt,xp,xf⟩:=x;simp only at h1a h1b h2a h2b h3a h3b c0 c1 c2;have HBD:=Zh (Zab HB.o (.cells #[.int .i64 xt,.int .i64 xp,.int .i64 xf] 123 (0,0)));have HBBD:=Zh (Blk.new wk 123 #[.int .i64 xt,.int .i64 xp,.int .i64 xf]);have HKD:=Zh (Blk.alloc HK.o (.cells #[.int .i64 xt,.int .i64 xp,.int .i64 xf] 123 (0,0)));clear hx;by_cases h0:i=0
   ·have hd2:decide ((0:Int)<(i:Int))=false:=decide_eq_false ω;have hd1:decide (0<i)=false:=decide_eq_false ω;clear h0
    go_wp2_with fail
    generalize wk.alloc _=w9 at *;clear c0 c1 c2 k3 HEV h1a h1b h2a h2b h3a h3b
    go_quiet (fail)
    clear hd1 hd2;exact m_7
   ·obtain⟨j,hji⟩:∃ j,i=j+1:=⟨i - 1,ω⟩;obtain⟨y,hy⟩:∃ x,L.a.bars[j]?=some x:=⟨_,List.getElem?_eq_getElem (by rw [<- hn4.o];omega)⟩;have HAH:=Zh (fun z=>Zrj _ _ _ _ z (HEV.o j y hy hji.symm));obtain⟨b3,o3,eA,d0,d1,d2⟩:=Zog (HT.o.br.below HB.o) hy;simp only [Option.some.injEq,Addr.mk.injEq,and_true] at eA;obtain⟨rfl,rfl⟩:=eA;obtain⟨yt,yp,yf⟩:=y;simp only at d0 d1 HAH;have hjm:(i:Int) - 1=(j:Int):=ω;have hj0:(0:Int)<=(j:Int):=ω;have hjl:(j:Int)<(nb:Int):=ω;have hd1:decide (0<i)=true:=decide_eq_true ω;have hd2:decide ((0:Int)<(i:Int))=true:=decide_eq_true ω;clear hji hy d2;have hwj:IntKind.i64.wrap (j:Int)=(j:Int):=by unfold IntKind.wrap;simp [IntKind.bits,IntKind.signed];omega
    have k3':=Zal k3 (.cells #[.int .i64 xt,.int .i64 xp,.int .i64 xf] 123 (0,0));have d0':=Zal d0 (.cells #[.int .i64 xt,.int .i64 xp,.int .i64 xf] 123 (0,0));have d1':=Zal d1 (.cells #[.int .i64 xt,.int .i64 xp,.int .i64 xf] 123 (0,0));clear d0 d1
    go_wp2_with fail
    generalize wk.alloc _=w9 at *;have e0:=HBBD.o.cm 0;have e1:=HBBD.o.cm 1;clear c0 c1 c2 k3 HEV h1a h1b h2a h2b h3a h3b
    go_quiet (first | (go_at_call 85;exact Zkn (HAH.o _)))
    clear hd1 hd2 k3' d0' d1' e0 e1 hjm hj0 hjl hwj;exact m_7
  ·have hij:¬ (i:Int)<(nb:Int):=ω
   go_wp2_with fail
   go_ret;exact⟨rfl,HB.o⟩
theorem Zq1 (L:Ze2)(V:Ze5)(w:World)(h:Zc1 w L V)(G:Zc5 L)(q:Bool)(A:Option Addr)(cp:Nat)(ps:List (Int×Int))(hps:Zbf.At w A ps)(hn:ps.length<=1000000)(hd:∀ p∈ps,Zhi L.a.evs q p)(ho:∀ (i:Nat) x y,ps[i]?=some x->ps[i+1]?=some y->Zjo x y) :
  Calls Tryz.prog 38 #[Zd4 V,.slice A ps.length cp,.bool q] w fun e w'=>e=.returned (.bool true)/\Below w.heap.size w w':=by
 obtain⟨⟨Al,nl,cl⟩,⟨Ai,ni,ci⟩,⟨Ae,ne,ce⟩,⟨Ab,nb,cb⟩,⟨Aa,na,ca⟩,⟨Ad,nd,cd⟩,⟨Ac,nc,cc⟩,⟨At,nt,ct⟩,⟨Ax,nx,cx⟩⟩:=V;simp only [Zd4,Sl.v];have HT:=Zh h;have hn3:=Zh (show ne=L.a.evs.length from h.nev);have hn4:=Zh (show nb=L.a.bars.length from h.nbr);have HB0:=Zh (Zad w (.cells #[.slice Al nl cl,.slice Ai ni ci,.slice Ae ne ce,.slice Ab nb cb,.slice Aa na ca,.slice Ad nd cd,.slice Ac nc cc,.slice At nt ct,.slice Ax nx cx] 41 (0,0)));have HTB:=Zh (Blk.new w 41 #[.slice Al nl cl,.slice Ai ni ci,.slice Ae ne ce,.slice Ab nb cb,.slice Aa na ca,.slice Ad nd cd,.slice Ac nc cc,.slice At nt ct,.slice Ax nx cx]);have HP:=Zh hps;have HD:=Zh hd;have HO:=Zh ho;have hne:ne<=64:=by rw [hn3.o];exact G.nev
 clear h hps hd ho G;obtain⟨n,HN⟩:∃ n,Hid (ps.length=n):=⟨_,Zh rfl⟩;rw [HN.o] at hn ⊢;go_enter Tryz.func38,Tryz.ntmps38
 go_wp2_with fail
 go_loopw [7] (fun v wr=>∃ i:Nat,i<=n/\v=.int .i64 i/\Below w.heap.size w wr/\Blk wr w.heap.size 41 #[.slice Al nl cl,.slice Ai ni ci,.slice Ae ne ce,.slice Ab nb cb,.slice Aa na ca,.slice Ad nd cd,.slice Ac nc cc,.slice At nt ct,.slice Ax nx cx]) (fun v _=>n - (intOf v).toNat)
 case atStart=>exact⟨0,Nat.zero_le _,rfl,HB0.o,HTB.o⟩
 case round=>
  obtain⟨i,hi,rfl,hb,ht⟩:=hrel;have HB:=Zh hb;have HK:=Zh ht;have hii:(0:Int)<=(i:Int):=ω;have hgw:=ht.lt;clear hb ht HB0 HTB;by_cases hlt:i<n
  ·have hij:(i:Int)<(n:Int):=ω;obtain⟨x,hx⟩:∃ x,ps[i]?=some x:=⟨_,List.getElem?_eq_getElem (by rw [HN.o];omega)⟩;obtain⟨pb,po,eA,c0,c1⟩:=Zg2 (HP.o.below HB.o) hx;subst eA;obtain⟨⟨a,c,ex,ey,rfl,hac,hxe,hye,hdr,hth,hwr⟩⟩:=HD.o x (List.mem_of_getElem? hx);have hal:=(List.getElem?_eq_some_iff.1 hxe).1;have hcl:=(List.getElem?_eq_some_iff.1 hye).1;rw [<- hn3.o] at hal hcl;obtain⟨eb,eo,eA,x0,x1,x2,x3,x4,x5⟩:=Zc6 (HT.o.ev.below HB.o) hxe;simp only at eA;subst eA;obtain⟨eb2,eo2,eA,y0,y1,y2,y3,y4,y5⟩:=Zc6 (HT.o.ev.below HB.o) hye;simp only [Option.some.injEq,Addr.mk.injEq,and_true] at eA;obtain⟨rfl,rfl⟩:=eA;have HAH:=Zh (fun j x' (h:ps[j]?=some x') (hj:j+1=i)=>HO.o j x' _ h (by rw [hj];exact hx));obtain⟨t,xp,xd,xl,xv,xr⟩:=ex;obtain⟨yt,yp,yd,yl,yv,yr⟩:=ey;simp only at x0 x2 y0 y2 hdr hth hwr;subst hth hdr;have m0:=Zal x0 (.cells #[.int .i64 (a:Int),.int .i64 (c:Int)] 129 (0,0));have m2:=Zal x2 (.cells #[.int .i64 (a:Int),.int .i64 (c:Int)] 129 (0,0));have n0:=Zal y0 (.cells #[.int .i64 (a:Int),.int .i64 (c:Int)] 129 (0,0));have n2:=Zal y2 (.cells #[.int .i64 (a:Int),.int .i64 (c:Int)] 129 (0,0));have HKA:=Zh (HK.o.alloc (.cells #[.int .i64 (a:Int),.int .i64 (c:Int)] 129 (0,0)));have HBA:=Zh (Zab HB.o (.cells #[.int .i64 (a:Int),.int .i64 (c:Int)] 129 (0,0)));have HQ:=Zh (Blk.new wr 129 #[.int .i64 (a:Int),.int .i64 (c:Int)]);have ha0:(0:Int)<=(a:Int):=ω
   have hc0:(0:Int)<=(c:Int):=ω;have hae:(a:Int)<(ne:Int):=ω;have hce:(c:Int)<(ne:Int):=ω;have q1:decide ((a:Int)<0)=false:=decide_eq_false ω;have q2n:decide (c<=a)=false:=decide_eq_false ω;have q3n:decide (ne<=c)=false:=decide_eq_false ω;have q2:decide ((c:Int)<=(a:Int))=false:=decide_eq_false ω;have q3:decide ((ne:Int)<=(c:Int))=false:=decide_eq_false ω;have hor:q=false\/(q=true/\yd=2):=by cases q <;> simp_all
   clear hwr hx hxe hye x0 x1 x2 x3 x4 x5 y0 y1 y2 y3 y4 y5 hac hal hcl
   go_wp2_with fail
   generalize wr.alloc _=w9 at *;have s2:w9.cell? ⟨w.heap.size,2,none⟩=some (.slice (some ⟨eb,eo,none⟩) ne ce):=HKA.o.cell 2;have z0:=HQ.o.cm 0;have z1:=HQ.o.cm 1;clear c0 c1;rcases hor with rfl | ⟨rfl,rfl⟩ <;>
   (go_quiet (fail)
    clear q1 q2 q2n q3 q3n ha0 hc0 hae hce s2 m0 m2 n0 n2 z0 z1;have HBE:=Zh (Zam HBA.o nq);have HKE:Hid (Blk (w9.drewN nq) w.heap.size 41 #[.slice Al nl cl,.slice Ai ni ci,.slice (some ⟨eb,eo,none⟩) ne ce,.slice Ab nb cb,.slice Aa na ca,.slice Ad nd cd,.slice Ac nc cc,.slice At nt ct,.slice Ax nx cx]):=Zh HKA.o;have HQE:Hid (Blk (w9.drewN nq) wr.heap.size 129 #[.int .i64 (a:Int),.int .i64 (c:Int)]):=Zh HQ.o;generalize w9.drewN nq=w8 at *;have z0:=HQE.o.cm 0;have z1:=HQE.o.cm 1;clear HQ HQE
    go_wp2_with fail
    by_cases h0:i=0
    ·have hd1:decide (0<i)=false:=decide_eq_false ω;have hd2:decide ((0:Int)<(i:Int))=false:=decide_eq_false ω
     go_quiet (fail)
     go_wp2_with fail
     go_roundw
     case rel=>exact⟨i+1,ω,by go_num,Zam HBE.o _,HKE.o⟩
     case measure=>simp [intOf];omega
    ·obtain⟨j,hji⟩:∃ j,i=j+1:=⟨i - 1,ω⟩;obtain⟨y,hy⟩:∃ x,ps[j]?=some x:=⟨_,List.getElem?_eq_getElem (by rw [HN.o];omega)⟩;obtain⟨pb3,po3,eA,e0,e1⟩:=Zg2 (HP.o.below HBE.o) hy;simp only [Option.some.injEq,Addr.mk.injEq,and_true] at eA;obtain⟨rfl,rfl⟩:=eA;obtain⟨d0,d1⟩:=y;have HAR:=Zh (fun z=>Zrj d0 d1 (a:Int) (c:Int) z (HAH.o j (d0,d1) hy hji.symm));simp only at e0 e1;have hd1:decide (0<i)=true:=decide_eq_true ω;have hd2:decide ((0:Int)<(i:Int))=true:=decide_eq_true ω;have hjm:(i:Int) - 1=(j:Int):=ω;have hj0:(0:Int)<=(j:Int):=ω;have hjl:(j:Int)<(n:Int):=ω;have hwj:IntKind.i64.wrap (j:Int)=(j:Int):=by unfold IntKind.wrap;simp [IntKind.bits,IntKind.signed];omega
     clear hji hy h0
     go_quiet (first | (go_at_call 85;exact Zkn (HAR.o _)))
     go_wp2_with fail
     go_roundw
     case rel=>exact⟨i+1,ω,by go_num,Zam HBE.o _,HKE.o⟩
     case measure=>simp [intOf];omega)
  exact m_141
end
section
structure Zeo (S:RrS):Prop where
 ahead:S.C.ahead=S.a.evs.length
 l1:S.a.addr.length<=100000
 l2:S.a.data.length<=100000
 l3:S.a.hang.length<=100000
 l4:S.a.bars.length<=8192
 few:S.C.locs.length<=64
theorem Zbg (S:RrS)(r:Rn)(fl:Bool)(V:RrV):(rrC S r fl V).all (·.oneCell')=true:=by simp [rrC,Value.oneCell']
theorem Zq7 (w:World)(g:Nat)(cs:Array Value):(w.setRow g cs).heap.size=w.heap.size:=by simp [World.setRow]
theorem Zck {w:World}{B q:Nat}{t T:TypeId}{z n:Nat}{v:Value}{cs:List Value}{zz:Array Value}(h:w.ownsRow B t z v n cs)(hq:Blk w q T zz)(hne:t≠T)(c:Array Value):(w.setRow q c).ownsRow B t z v n cs:=
 Zex h fun b hb=>setRow_other w q b c fun e=>Zcm h hq hne (by rw [hb,e])
theorem Za7.row {w:World}{B q:Nat}{S:RrS}{r:Rn}{V:RrV}{z:Array Value}(h:Za7 w B S r V)(hq:Blk w q 83 z)(c:Array Value):Za7 (w.setRow q c) B S r V:=
 ⟨by rw [Zq7];exact h.hB,Zck h.lo hq (by decide) c,Zck h.rg hq (by decide) c,Zck h.ev hq (by decide) c,Zck h.br hq (by decide) c,Zck h.ad hq (by decide) c,Zck h.da hq (by decide) c,Zck h.ct hq (by decide) c,h.a1,h.a2,h.a3⟩
theorem Zba.row {B:Nat}{w W:World}(h:Zba B w W)(hB:B<=w.heap.size){q:Nat}(hq:w.heap.size<=q)(c:Array Value):Zba B w (W.setRow q c):=
 ⟨below_setRow h.below (Nat.le_trans hB hq) c,fun b t cs hb h1 h2 h3=>(h.keep b t cs hb h1 h2 h3).farRow (by have:=hb.lt;omega) c⟩
structure Zbz (w W:World) (B g q:Nat) (S:RrS) (r:Rn) (fl:Bool) (V:RrV):Prop where
 ref:Za7 W B S r V
 keep:Zba B w W
 hB:B<=w.heap.size
 blk:Blk W g 83 (rrC S r fl V)
 out:∃ z,Blk W q 83 z/\z.size=26
 hg:w.heap.size<=g
 hq:w.heap.size<=q
 ne:q≠g
namespace Zbz
variable {w W W1:World} {B g q:Nat} {S:RrS} {r r':Rn} {fl:Bool} {V V':RrV} {s:Sl}
theorem below (h:Zbz w W B g q S r fl V)(hb:Below W.heap.size W W1):Zbz w W1 B g q S r fl V:=
 ⟨h.ref.below hb,h.keep.below' hb h.hB,h.hB,h.blk.go hb,h.out.imp fun _ hz=>⟨hz.1.go hb,hz.2⟩,h.hg,h.hq,h.ne⟩
theorem drew (h:Zbz w W B g q S r fl V):Zbz w W.drew B g q S r fl V:=
 ⟨h.ref.drew,h.keep.drew,h.hB,h.blk,h.out,h.hg,h.hq,h.ne⟩
theorem put_ {t:TypeId}{z n i:Nat}{v:Value}{cs:List Value}(h:Zbz w W B g q S r fl V)(ho:W.ownsRow B t z v n cs)(ht:t = 54\/t = 123\/t = 129)(hg:Zbm W W1 B v s.v)(hr:Za7 W1 B S r' V')(hc:(rrC S r fl V).setIfInBounds i s.v=rrC S r' fl V'):Zbz w (W1.setCell ⟨g,i,none⟩ s.v) B g q S r' fl V':=by
 have hne:t≠83:=by rcases ht with rfl | rfl | rfl <;> decide
 have hb:=Zat h.blk ho hne hg;obtain⟨z,hz,hzs⟩:=h.out;exact⟨hr.set hb i _,(h.keep.trans (Zba.grew ho ht hg)).set h.hg h.hB i _,h.hB,by rw [<- hc];exact hb.set_ i _,⟨z,(Zat hz ho hne hg).far (p:=⟨g,i,none⟩) h.ne _,hzs⟩,h.hg,h.hq,h.ne⟩
theorem ev {l:List Evt}(h:Zbz w W B g q S r fl V)(hg:Zbm W W1 B V.ev.v s.v)(ho:Zqm.Own 54 B W1 s.v (S.a.evs++l)):Zbz w (W1.setCell ⟨g,17,none⟩ s.v) B g q S { r with evs:=l } fl { V with ev:=s }:=
 h.put_ h.ref.ev (Or.inl rfl) hg (h.ref.evG hg ho) rfl
theorem br {l:List Br}(h:Zbz w W B g q S r fl V)(hg:Zbm W W1 B V.br.v s.v)(ho:Zmq.Own 123 B W1 s.v (S.a.bars++l)):Zbz w (W1.setCell ⟨g,18,none⟩ s.v) B g q S { r with bars:=l } fl { V with br:=s }:=
 h.put_ h.ref.br (Or.inr (Or.inl rfl)) hg (h.ref.brG hg ho) rfl
theorem ad {l:List (Int×Int)}(h:Zbz w W B g q S r fl V)(hg:Zbm W W1 B V.ad.v s.v)(ho:Zbf.Own 129 B W1 s.v (S.a.addr++l.map (shP S.C.ahead))):Zbz w (W1.setCell ⟨g,19,none⟩ s.v) B g q S { r with addr:=l } fl { V with ad:=s }:=
 h.put_ h.ref.ad (Or.inr (Or.inr rfl)) hg (h.ref.adG hg ho) rfl
theorem da {l:List (Int×Int)}(h:Zbz w W B g q S r fl V)(hg:Zbm W W1 B V.da.v s.v)(ho:Zbf.Own 129 B W1 s.v (S.a.data++l.map (shP S.C.ahead))):Zbz w (W1.setCell ⟨g,20,none⟩ s.v) B g q S { r with data:=l } fl { V with da:=s }:=
 h.put_ h.ref.da (Or.inr (Or.inr rfl)) hg (h.ref.daG hg ho) rfl
theorem ct {l:List (Int×Int)}(h:Zbz w W B g q S r fl V)(hg:Zbm W W1 B V.ct.v s.v)(ho:Zbf.Own 129 B W1 s.v (S.a.hang++l.map (shP S.C.ahead))):Zbz w (W1.setCell ⟨g,21,none⟩ s.v) B g q S { r with hang:=l } fl { V with ct:=s }:=
 h.put_ h.ref.ct (Or.inr (Or.inr rfl)) hg (h.ref.ctG hg ho) rfl
theorem one_ {i:Nat}{u:Value}(h:Zbz w W B g q S r fl V){fl':Bool}(hr:Za7 W B S r' V')(hc:(rrC S r fl V).setIfInBounds i u=rrC S r' fl' V'):Zbz w (W.setCell ⟨g,i,none⟩ u) B g q S r' fl' V':=by
 obtain⟨z,hz,hzs⟩:=h.out;exact⟨hr.set h.blk i _,h.keep.set h.hg h.hB i _,h.hB,by rw [<- hc];exact h.blk.set_ i _,⟨z,hz.far (p:=⟨g,i,none⟩) h.ne _,hzs⟩,h.hg,h.hq,h.ne⟩
theorem full (h:Zbz w W B g q S r fl V):Zbz w (W.setCell ⟨g,25,none⟩ (.bool true)) B g q S { r with full:=true } fl V:=h.one_ (h.ref.full true) rfl
theorem flow (h:Zbz w W B g q S r fl V):Zbz w (W.setCell ⟨g,24,none⟩ (.bool true)) B g q S r true V:=h.one_ h.ref rfl
theorem ctrl (h:Zbz w W B g q S r fl V)(c:Nat):Zbz w (W.setCell ⟨g,14,none⟩ (.int .u64 ((c<<<S.C.ahead:Nat):Int))) B g q S { r with ctrl:=c } fl V:=h.one_ (h.ref.ctrl c) rfl
theorem regs {l:List Rg}(h:Zbz w W B g q S r fl V)(ho:(Zdj S.C.ahead).Own 87 B W s.v l):Zbz w (W.setCell ⟨g,13,none⟩ s.v) B g q S { r with regs:=l } fl { V with rg:=s }:=h.one_ (h.ref.rgG ho) rfl
theorem row (h:Zbz w W B g q S r fl V){fl':Bool}(hr:Za7 W1 B S r' V')(hk:Zba B W W1):Zbz w (W1.setRow g (rrC S r' fl' V')) B g q S r' fl' V':=by
 obtain⟨z,hz,hzs⟩:=h.out;have hb:=hk.keep _ _ _ h.blk (by decide) (by decide) (by decide);have hz':=hk.keep _ _ _ hz (by decide) (by decide) (by decide);exact⟨hr.row hb _,(h.keep.trans hk).row h.hB h.hg _,h.hB,hb.row _,⟨z,hz'.farRow h.ne _,hzs⟩,h.hg,h.hq,h.ne⟩
theorem ret (h:Zbz w W B g q S r fl V):Ze4 B S r fl w (.returned (.agg (rrC S r fl V))) (W.setRow q (rrC S r fl V)):=by
 obtain⟨z,hz,hzs⟩:=h.out;exact⟨V,rfl,h.ref.row hz _,h.keep.row h.hB h.hq _⟩
theorem out1 (h:Zbz w W B g q S r fl V)(hk:Zba B W W1):∃ z,Blk W1 q 83 z/\z.size=26:=by
 obtain⟨z,hz,hzs⟩:=h.out;exact⟨z,hk.keep _ _ _ hz (by decide) (by decide) (by decide),hzs⟩
theorem ret1 (h:Zbz w W B g q S r fl V){fl':Bool}(hr:Za7 W1 B S r' V')(hk:Zba B W W1):Ze4 B S r' fl' w (.returned (.agg (rrC S r' fl' V'))) (W1.setRow q (rrC S r' fl' V')):=by
 obtain⟨z,hz,hzs⟩:=h.out1 hk;exact⟨V',rfl,hr.row hz _,(h.keep.trans hk).row h.hB h.hq _⟩
end Zbz
theorem Zcg (fn:Func){a:Act}{Q:Exit->Act->World->Prop}{id:Nat}{o1 o2:Oper}(tp rp d1:Nat){w W:World}{B g q:Nat}{S:RrS}{r:Rn}{fl:Bool}{V:RrV}
  (h1:o1.op=.load 83 (.tmp tp)) (g1:o1.guard=none) (e1:o1.dst=some d1) (h2:o2.op=.store 83 (.tmp rp) (.tmp d1)) (g2:o2.guard=none) (e2:o2.dst=none) (hr:fn.results=#[.cell rp 83])
  (hU:Zbz w W B g q S r fl V) (ha:a.tmps.getD tp undef=.pointer (some ⟨g,0,none⟩)) (hb:a.tmps.getD rp undef=.pointer (some ⟨q,0,none⟩)) (hne:rp≠d1) (hlt:d1<a.tmps.size) (hdf:a.defers=[])
  (hQ:∀ a' W',bodyPost Tryz.prog fn (Ze4 B S r fl w) .ret a' W'->Q .ret a' W'):(Code.seq (.region id #[o1,o2] false) .ret).wp Tryz.prog Q a W:=by
 obtain⟨z,hz,hzs⟩:=hU.out;exact Zyu fn 83 tp rp d1 g q h1 g1 e1 h2 g2 e2 hr hU.blk hz hzs Tryz.underlying83 rfl κ (Zbg _ _ _ _) ha hb hne hlt hdf hQ hU.ret
theorem Zez {w:World}{g:Nat}{S:RrS}{r:Rn}{fl:Bool}{V:RrV}(h:Blk w g 83 (rrC S r fl V)):(loadVar 83 ⟨g,0,none⟩).run Tryz.prog w=.ok (rrV S r fl V) w:=
 run_loadVar_row w g 83 83 (rrC S r fl V) (0,0) _ h Tryz.underlying83 rfl κ
theorem Zkp {w:World}{g:Nat}{S:RrS}{r:Rn}{fl:Bool}{V:RrV}(h:Blk w g 83 (rrC S r fl V)):(loadVar 41 ⟨g,15,none⟩).run Tryz.prog w=.ok (Zwk S V) w:=
 run_loadVar_mid w g 15 41 [S.lo.v,S.ini.v,V.ev.v,V.br.v,V.ad.v,V.da.v,V.ct.v,S.th.v,S.en.v] _ (World.rangeAt_of_block h 15 9) Tryz.underlying41 rfl κ
theorem Zdt {w:World}{q f:Nat}{l:List Rg}(h:(Zdj f).At w (some ⟨q,0,none⟩) l){i:Nat}{x:Rg}(hx:l[i]?=some x):(loadVar 87 ⟨q,i*4,none⟩).run Tryz.prog w=.ok (Za2 f x) w:=by
 refine run_loadVar_mid w q (i*4) 87 [.int .i64 (Zax x.h),.int .i64 (Zb6 f x.h),.string ⟨(Zb5 x.h).toArray⟩,.int .u64 ((x.on<<<f:Nat):Int)] _ (fun j v hj=>?_) Tryz.underlying87 rfl κ;obtain⟨b,o,e,hc⟩:=h i x hx;simp only [Option.some.injEq,Addr.mk.injEq,and_true] at e;obtain⟨rfl,rfl⟩:=e;have:=hc j v hj
 rwa [Nat.zero_add] at this
set_option maxHeartbeats 4000000
set_option maxRecDepth 100000
theorem Zqn (B:Nat)(S:RrS)(r:Rn)(V:RrV)(x:Evt)(on da:Nat)(w:World)(hR:Za7 w B S r V)(hen:V.ev.n=S.C.ahead+r.evs.length)(hfull:64<=S.C.ahead+r.evs.length) :
  Calls Tryz.prog 164 #[rrV S r false V,.agg #[.int .i64 x.th,.int .i64 x.pl,.int .i64 x.dr,.int .i64 x.lc,.int .i64 x.vl,.int .i64 x.rg],.int .u64 ((on<<<S.C.ahead:Nat):Int),.int .u64 ((da<<<S.C.ahead:Nat):Int)] w (Ze4 B S { r with full:=true } false w):=by
 have HR:=Zh hR;obtain⟨c,hc⟩:∃ c,c=rrC S r false V:=⟨_,rfl⟩;rw [show rrV S r false V=.agg c by rw [hc]];have HC:=Zh hc;clear hc;go_enter Tryz.func164,Tryz.ntmps164;apply wp_seq_k;intro K hK;have HK:=Zh hK;clear hK hR
 go_wp2_with fail
 refine Zhf (P:=fun X=>K _ X) w _ _ _ _ _ _ ?_;intro W b0 b1 b2 hz hbW;refine HK.o _ _ ?_;clear HK K;rw [HC.o] at b0;have HU:Hid (Zbz w W B w.heap.size (w.heap.size+1+1) S r false V):=Zh ⟨HR.o.below hbW,Zba.of_below hbW HR.o.hB,HR.o.hB,b0,⟨_,b2,rfl⟩,Nat.le_refl _,ω,ω⟩;have HN:=Zh hen;clear b0 b1 b2 hbW hz hen HC;have k17:W.cell? ⟨w.heap.size,17,none⟩=some (.slice V.ev.A (S.C.ahead+r.evs.length) V.ev.c):=by rw [<- HN.o];exact HU.o.blk.cell 17
 have k25:=HU.o.blk.cm 25;have f25:=HU.o.blk.frozen 25;have HV:=Zh HU.o.full;have hfi:(64:Int)<=(S.C.ahead:Int)+(r.evs.length:Int):=ω
 repeat (first | ((with_reducible refine Zfw ?_);refine Zcg Tryz.f164 4 8 17 rfl rfl rfl rfl rfl rfl rfl HV.o rfl rfl (by decide) (of_decide_eq_true rfl) rfl (fun _ _ h=>h)) | go_step)
theorem Zqo (B:Nat)(S:RrS)(hS:Zeo S)(r:Rn)(V:RrV)(x:Evt)(on da:Nat)(w:World)(hR:Za7 w B S r V)(hon:on<2 ^ r.evs.length)(hda:da<2 ^ r.evs.length)(hct:r.ctrl<2 ^ r.evs.length)(l1:r.addr.length<=100000)(l2:r.data.length<=100000)(l3:r.hang.length<=100000)(hroom:¬ 64<=S.C.ahead+r.evs.length) :
  Calls Tryz.prog 164 #[rrV S r false V,.agg #[.int .i64 x.th,.int .i64 x.pl,.int .i64 x.dr,.int .i64 x.lc,.int .i64 x.vl,.int .i64 x.rg],.int .u64 ((on<<<S.C.ahead:Nat):Int),.int .u64 ((da<<<S.C.ahead:Nat):Int)] w
   (Ze4 B S { r with evs:=r.evs++[{ x with th:=(S.C.th:Int) }],addr:=r.addr++Zbk on r.evs.length 64,data:=r.data++Zbk da r.evs.length 64,hang:=r.hang++Zbk r.ctrl r.evs.length 64 } false w):=by
 have HR:=Zh hR;obtain⟨n,hn⟩:∃ n,S.C.ahead+r.evs.length=n:=⟨_,rfl⟩;have hen:V.ev.n=n:=by rw [Zpm hR.ev,List.length_append,<- hS.ahead,hn]
 have hlen:(S.a.evs++r.evs).length=n:=by rw [List.length_append,<- hS.ahead,hn]
 have hni:(n:Int)<64:=ω;have P1:=Zh (Zgg (i:=r.evs.length) hon (show S.C.ahead+r.evs.length<=64 by omega));have P2:=Zh (Zgg (i:=r.evs.length) hda (show S.C.ahead+r.evs.length<=64 by omega));have P3:=Zh (Zgg (i:=r.evs.length) hct (show S.C.ahead+r.evs.length<=64 by omega));have U1:=Zh (Zh6 hon (show S.C.ahead+r.evs.length<=64 by omega));have U2:=Zh (Zh6 hda (show S.C.ahead+r.evs.length<=64 by omega));have U3:=Zh (Zh6 hct (show S.C.ahead+r.evs.length<=64 by omega));rw [hn] at P1 P2 P3;generalize on<<<S.C.ahead=on' at *;generalize da<<<S.C.ahead=da' at *;have HS:=Zh hS;obtain⟨c,hc⟩:∃ c,c=rrC S r false V:=⟨_,rfl⟩;rw [show rrV S r false V=.agg c by rw [hc]];have HC:=Zh hc;clear hc hR hon hda hct hS hn;go_enter Tryz.func164,Tryz.ntmps164;apply wp_seq_k;intro K hK;have HK:=Zh hK;clear hK
 go_wp2_with fail
 refine Zhf (P:=fun X=>K _ X) w _ _ _ _ _ _ ?_;intro W b0 b1 b2 hz hbW;refine HK.o _ _ ?_;clear HK K;rw [HC.o] at b0;have HU:Hid (Zbz w W B w.heap.size (w.heap.size+1+1) S r false V):=Zh ⟨HR.o.below hbW,Zba.of_below hbW HR.o.hB,HR.o.hB,b0,⟨_,b2,rfl⟩,Nat.le_refl _,ω,ω⟩;have HE:=Zh b1;have HBW:=Zh hbW;have hzW:w.heap.size<W.heap.size:=ω;clear b0 b1 b2 hbW hz HC;have k12:=HU.o.blk.cm 12;have k17:W.cell? ⟨w.heap.size,17,none⟩=some (.slice V.ev.A n V.ev.c):=by rw [<- hen];exact HU.o.blk.cell 17
 obtain⟨e0,e1,e2,e3,e4,e5⟩:=HE.o.c6;have fe:=HE.o.frozen 0
 go_wp2_with (at_builtin;refine Hid.o ?_)
 have hb1:=Zad (W.setCell ⟨w.heap.size+1,0,none⟩ (.int .i64 (S.C.th:Int))) (.cells #[.int .i64 (S.C.th:Int),.int .i64 x.pl,.int .i64 x.dr,.int .i64 x.lc,.int .i64 x.vl,.int .i64 x.rg] 54 (0,0));have hb2:=(HBW.o.setCell (p:=⟨w.heap.size+1,0,none⟩) (by simp) (.int .i64 (S.C.th:Int))).trans (hb1.mono (by simpa [World.setCell] using Nat.le_of_lt hzW));have HV:=Zh (show Zbz w _ B w.heap.size (w.heap.size+1+1) S r false V from⟨HR.o.below hb2,Zba.of_below hb2 HU.o.hB,HU.o.hB,(HU.o.blk.far (p:=⟨w.heap.size+1,0,none⟩) (by simp) _).go hb1,HU.o.out.imp fun _ h=>⟨(h.1.far (p:=⟨w.heap.size+1,0,none⟩) (by simp) _).go hb1,h.2⟩,Nat.le_refl _,ω,ω⟩);clear hb1 hb2 HU k17 k12 e0 e1 e2 e3 e4 e5 fe HE;have HA:=Zh (Z01 (W.setCell ⟨w.heap.size+1,0,none⟩ (.int .i64 (S.C.th:Int))) (S.C.th:Int) x.pl x.dr x.lc x.vl x.rg);rw [show (W.setCell ⟨w.heap.size+1,0,none⟩ (.int .i64 (S.C.th:Int))).heap.size=W.heap.size by simp [World.setCell]] at HA;refine Zh ?_;refine Enc.appW Z2o _ rfl (.tmp 23) (.tmp 25) rfl [⟨(S.C.th:Int),x.pl,x.dr,x.lc,x.vl,x.rg⟩] B (S.a.evs++r.evs) (.slice V.ev.A n V.ev.c) W.heap.size 0 1 rfl rfl HA.o (by rw [<- hen];exact HV.o.ref.ev) (by simp only [hlen,List.length_singleton];omega) (by simp only [hlen,List.length_singleton];omega) HV.o.ref.hB ?_;intro v' w4 ho4 hg4;obtain⟨s4,rfl,hs4⟩:=Zd7 ho4;clear hs4;rw [List.append_assoc] at ho4;have HU:=Zh (HV.o.ev (by rw [<- hen] at hg4;exact hg4) ho4)
 have hb4:=Zat HV.o.blk HV.o.ref.ev (by decide) (by rw [<- hen] at hg4;exact hg4);have k17:w4.cell? ⟨w.heap.size,17,none⟩=some (.slice V.ev.A n V.ev.c):=by rw [<- hen];exact hb4.cell 17
 have f17:=hb4.frozen 17;have k19:w4.cell? ⟨w.heap.size,19,none⟩=some V.ad.v:=hb4.cell 19;clear HR HBW HV HA ho4 hg4 hb4 hzW
 go_wp2_with (go_at_call 201;refine Hid.o ?_)
 refine Zh ?_;refine (Zvj V.ad _ _ n B _ U1.o (by have:=HS.o.l1;rw [List.length_append,List.length_map];dsimp only;omega) HU.o.ref.hB HU.o.ref.ad).mono ?_;rintro e w6 ⟨s6,rfl,ho6,hg6⟩;dsimp only at ho6;rw [List.append_assoc,P1.o,<- List.map_append] at ho6;have hb6:=Zat HU.o.blk HU.o.ref.ad (by decide) hg6;have HU2:=Zh (HU.o.ad hg6 ho6);clear HU;have HU:=HU2;clear HU2;have k19:w6.cell? ⟨w.heap.size,19,none⟩=some V.ad.v:=hb6.cell 19;have f19:=hb6.frozen 19;clear ho6 hg6 k17 f17;have k20:w6.cell? ⟨w.heap.size,20,none⟩=some V.da.v:=hb6.cell 20;clear hb6
 go_wp2_with (go_at_call 201;refine Hid.o ?_)
 refine Zh ?_;refine (Zvj V.da _ _ n B _ U2.o (by have:=HS.o.l2;rw [List.length_append,List.length_map];dsimp only;omega) HU.o.ref.hB HU.o.ref.da).mono ?_;rintro e w6 ⟨s6,rfl,ho6,hg6⟩;dsimp only at ho6;rw [List.append_assoc,P2.o,<- List.map_append] at ho6;have hb6:=Zat HU.o.blk HU.o.ref.da (by decide) hg6;have HU2:=Zh (HU.o.da hg6 ho6);clear HU;have HU:=HU2;clear HU2;have k20:w6.cell? ⟨w.heap.size,20,none⟩=some V.da.v:=hb6.cell 20;have f20:=hb6.frozen 20;clear ho6 hg6 k19 f19;have k21:w6.cell? ⟨w.heap.size,21,none⟩=some V.ct.v:=hb6.cell 21;have k14:=hb6.cm 14;clear hb6
 go_wp2_with (go_at_call 201;refine Hid.o ?_)
 refine Zh ?_;refine (Zvj V.ct _ _ n B _ U3.o (by have:=HS.o.l3;rw [List.length_append,List.length_map];dsimp only;omega) HU.o.ref.hB HU.o.ref.ct).mono ?_;rintro e w6 ⟨s6,rfl,ho6,hg6⟩;dsimp only at ho6;rw [List.append_assoc,P3.o,<- List.map_append] at ho6;have hb6:=Zat HU.o.blk HU.o.ref.ct (by decide) hg6;have HU2:=Zh (HU.o.ct hg6 ho6);clear HU;have HU:=HU2;clear HU2;have k21:w6.cell? ⟨w.heap.size,21,none⟩=some V.ct.v:=hb6.cell 21;have f21:=hb6.frozen 21;clear ho6 hg6 k20 f20 k14;clear hb6;dsimp only
 repeat (first | ((with_reducible refine Zfw ?_);refine Zcg Tryz.f164 4 8 54 rfl rfl rfl rfl rfl rfl rfl HU.o rfl rfl (by decide) (of_decide_eq_true rfl) rfl (fun _ _ h=>h)) | go_step)
theorem Z00 (B:Nat)(S:RrS)(hS:Zeo S)(r:Rn)(V:RrV)(nr k:Nat)(hI:Inv S.C nr k r)(hfl:r.full=false)(pl:Nat)(dr lc vl rg:Int)(loc:Nm)(on da:Nat)(hlc:lc=((S.C.locs.idxOf loc:Nat):Int))(hon:Rds r.evs on)(hda:Rds r.evs da)(w:World)(hR:Za7 w B S r V) :
  Calls Tryz.prog 164 #[rrV S r false V,.agg #[.int .i64 0,.int .i64 (pl:Int),.int .i64 dr,.int .i64 lc,.int .i64 vl,.int .i64 rg],.int .u64 ((on<<<S.C.ahead:Nat):Int),.int .u64 ((da<<<S.C.ahead:Nat):Int)] w
   (Ze4 B S (Zg6 (Ziv S.C r pl dr loc vl rg on) da r.evs.length) false w):=by
 subst hlc;have h1:=hI.addr.len;have h2:=hI.data.len;have h3:=hI.hang.len;have hroom:=hI.room;by_cases h:64<=S.C.ahead+r.evs.length
 ·rw [Zcr h,show Zg6 { r with full:=true } da r.evs.length={ r with full:=true } from if_pos rfl];exact Zqn B S r V ⟨0,pl,dr,(S.C.locs.idxOf loc:Nat),vl,rg⟩ on da w hR (by rw [Zpm hR.ev,List.length_append,<- hS.ahead]) h
 ·rw [Zcs h];have:=Zqo B S hS r V ⟨0,pl,dr,(S.C.locs.idxOf loc:Nat),vl,rg⟩ on da w hR hon.lt hda.lt hI.ctrl.lt ω ω ω h;have e:Zg6 { r with evs:=r.evs++[Zs8 S.C pl dr loc vl rg],addr:=r.addr++Zbk on r.evs.length 64,hang:=r.hang++Zbk r.ctrl r.evs.length 64 } da r.evs.length={ r with evs:=r.evs++[Zs8 S.C pl dr loc vl rg],addr:=r.addr++Zbk on r.evs.length 64,data:=r.data++Zbk da r.evs.length 64,hang:=r.hang++Zbk r.ctrl r.evs.length 64 }:=
   if_neg (by show ¬ r.full=true;rw [hfl];decide)
  rw [e];exact this
end
section
theorem Zh0 {w:World}{B b:Nat}{t:TypeId}{z n:Nat}{v:Value}{xs:List Value}(h:w.ownsRow B t z v n xs)(hb:v.ownBlock=some b)(i:Nat)(u:Value):(w.setCell ⟨b,i,none⟩ u).ownsRow B t z v n (xs.set i u):=by
 obtain⟨h1,h2⟩:=h;refine⟨by rw [List.length_set];exact h1,?_⟩;rcases h2 with ⟨rfl,_⟩ | ⟨g,cap,cur,rfl,hg,hh,hnc,hcm,hcs,ht⟩
 ·simp [Value.ownBlock] at hb
 ·simp only [Value.ownBlock,Option.some.injEq] at hb;subst hb;refine Or.inr ⟨g,cap,cur.setIfInBounds i u,rfl,hg,Blk.set_ hh i u,hnc,hcm,by simpa using hcs,?_⟩;rw [Array.toList_setIfInBounds,<- ht,List.take_set]
theorem Zi5 {w:World}{B:Nat}{t:TypeId}{z n:Nat}{v:Value}{xs:List Value}(h:w.ownsRow B t z v n xs)(hn:0<n):∃ b cap,v=.slice (some ⟨b,0,none⟩) n cap/\B<=b:=by
 rcases h.2 with ⟨_,h2⟩ | ⟨g,cap,cur,rfl,hg,_⟩
 ·omega
 ·exact⟨g,cap,rfl,hg⟩
theorem Zve (f:Nat)(l:List Rg)(i:Nat)(x:Rg)(h:i<l.length):(((((Zdj f).flat l).set (i*4) (.int .i64 (Zax x.h))).set (i*4+1) (.int .i64 (Zb6 f x.h))).set (i*4+2) (.string ⟨(Zb5 x.h).toArray⟩)).set (i*4+3) (.int .u64 ((x.on<<<f:Nat):Int))=(Zdj f).flat (l.set i x):=by
 apply List.ext_getElem?;intro m;have hl:((Zdj f).flat l).length=l.length*4:=(Zdj f).flat_len l;have hi:i*4+4<=l.length*4:=ω;rw [Zet (Zdj f) l i x m h];simp only [List.getElem?_set];show _=if i*4<=m/\m<i*4+4 then _ else _
 by_cases hm:i*4<=m/\m<i*4+4
 ·rw [if_pos hm];have hc:m=i*4\/m=i*4+1\/m=i*4+2\/m=i*4+3:=ω;rcases hc with rfl | rfl | rfl | rfl
  ·simp [hl];omega
  ·simp [hl];omega
  ·simp [hl];omega
  ·simp [hl];omega
 ·rw [if_neg hm];simp [show ¬ i*4=m by omega,show ¬ i*4+1=m by omega,show ¬ i*4+2=m by omega,show ¬ i*4+3=m by omega]
theorem Zgp {f:Nat}{w:World}{B b:Nat}{v:Value}{l:List Rg}(h:(Zdj f).Own 87 B w v l)(hb:v.ownBlock=some b){i:Nat}(hi:i<l.length)(x:Rg) :
  (Zdj f).Own 87 B ((((w.setCell ⟨b,i*4,none⟩ (.int .i64 (Zax x.h))).setCell ⟨b,i*4+1,none⟩ (.int .i64 (Zb6 f x.h))).setCell ⟨b,i*4+2,none⟩ (.string ⟨(Zb5 x.h).toArray⟩)).setCell ⟨b,i*4+3,none⟩ (.int .u64 ((x.on<<<f:Nat):Int))) v (l.set i x):=by
 have k:=Zh0 (Zh0 (Zh0 (Zh0 h hb (i*4) (.int .i64 (Zax x.h))) hb (i*4+1) (.int .i64 (Zb6 f x.h))) hb (i*4+2) (.string ⟨(Zb5 x.h).toArray⟩)) hb (i*4+3) (.int .u64 ((x.on<<<f:Nat):Int));unfold Enc.Own;rw [List.length_set,<- Zve f l i x hi];exact k
theorem Zh1 {f:Nat}{w:World}{B b n cap:Nat}{l:List Rg}(h:(Zdj f).Own 87 B w (.slice (some ⟨b,0,none⟩) n cap) l){i:Nat}(hi:i<l.length):w.there b (i*4) 4:=fun j hj=>by
 obtain⟨cur,hc,_⟩:=Zg1 h rfl;have hB:Blk w b 87 cur:=hc;refine⟨?_,hB.frozen _⟩;obtain⟨A,cap',e,hat,_⟩:=Enc.Own.at_ h;simp only [Value.slice.injEq] at e;obtain⟨b',o,e2,hcs⟩:=hat i _ (List.getElem?_eq_getElem hi);rw [<- e.1] at e2;simp only [Option.some.injEq,Addr.mk.injEq,and_true] at e2;obtain⟨rfl,rfl⟩:=e2;have hl:((Zdj f).enc l[i]).length=4:=(Zdj f).len _;have:=hcs j _ (List.getElem?_eq_getElem (by rw [hl];exact hj));rw [Nat.zero_add] at this;rw [show i*4+j=i*(Zdj f).size+j from rfl,this];rfl
theorem Za7.rgAt {w:World}{B:Nat}{S:RrS}{r:Rn}{V:RrV}(h:Za7 w B S r V)(hl:0<r.regs.length):∃ q0 cp,V.rg.v=.slice (some ⟨q0,0,none⟩) r.regs.length cp/\(Zdj S.C.ahead).At w (some ⟨q0,0,none⟩) r.regs:=by
 obtain⟨q0,cp,hvr,_⟩:=Zi5 h.rg hl;refine⟨q0,cp,hvr,?_⟩;obtain⟨A,cap,e,hat,_⟩:=Enc.Own.at_ h.rg;rw [hvr] at e;simp only [Value.slice.injEq] at e;rw [e.1];exact hat
theorem Za7.loAt {w:World}{B:Nat}{S:RrS}{r:Rn}{V:RrV}(h:Za7 w B S r V):Zcy.At w S.lo.A S.C.locs/\S.lo.n=S.C.locs.length:=by
 obtain⟨A,cap,e,hat,_⟩:=Enc.Own.at_ h.lo;simp only [Sl.v,Value.slice.injEq] at e;rw [e.1];exact⟨hat,e.2.1⟩
set_option maxHeartbeats 4000000
set_option maxRecDepth 100000
theorem Z4a (B:Nat)(S:RrS)(hrisc:S.C.risc=decide (S.T.arch=2))(r:Rn)(V:RrV)(d:Nat)(x:Rg)(w:World)(hR:Za7 w B S r V)(hd:d<r.regs.length)(hl:r.regs.length<=32) :
  Calls Tryz.prog 125 #[rrV S r false V,.int .i64 (d:Int),Za2 S.C.ahead x] w (Ze4 B S (Zfz S.C r (d:Int) x) false w):=by
 have HR:=Zh hR;obtain⟨c,hc⟩:∃ c,c=rrC S r false V:=⟨_,rfl⟩;rw [show rrV S r false V=.agg c by rw [hc]];have HC:=Zh hc;clear hc;simp only [Za2];by_cases hz:S.C.risc=true/\(d:Int)=0
 ·have HV:=Zh (show Zfz S.C r (d:Int) x=r from if_pos hz);have ha:S.T.arch=2:=by have:=hrisc.symm.trans hz.1;simpa using this
  obtain⟨_,hz2⟩:=hz;have hd0:d=0:=ω;subst hd0;rw [HV.o];clear hR;go_enter Tryz.func125,Tryz.ntmps125;apply wp_seq_k;intro K hK;have HK:=Zh hK;clear hK
  go_wp2_with fail
  refine Zhf (P:=fun X=>K _ X) w _ _ _ _ _ _ ?_;intro W b0 b1 b2 hz hbW;refine HK.o _ _ ?_;clear HK K;rw [HC.o] at b0;have HU:Hid (Zbz w W B w.heap.size (w.heap.size+1+1) S r false V):=Zh ⟨HR.o.below hbW,Zba.of_below hbW HR.o.hB,HR.o.hB,b0,⟨_,b2,rfl⟩,Nat.le_refl _,ω,ω⟩;have HE:=Zh b1;have hzW:w.heap.size<W.heap.size:=ω;clear b0 b1 b2 hbW hz HC;have k0:W.cell? ⟨w.heap.size,0,none⟩=some (.int .i64 2):=by rw [<- ha];exact HU.o.blk.cell 0
  repeat (first | ((with_reducible refine Zfw ?_);refine Zcg Tryz.f125 3 6 16 rfl rfl rfl rfl rfl rfl rfl HU.o rfl rfl (by decide) (of_decide_eq_true rfl) rfl (fun _ _ h=>h)) | go_step)
 ·have HV:=Zh (show Zfz S.C r (d:Int) x={ r with regs:=r.regs.set d x } by unfold Zfz;rw [if_neg hz];simp);rw [HV.o];clear hR;have hor:(d:Int)≠0\/S.T.arch≠2:=by
   by_cases h0:(d:Int)=0
   ·exact Or.inr fun ha=>hz ⟨by rw [hrisc];simpa using ha,h0⟩
   ·exact Or.inl h0
  clear hz hrisc;go_enter Tryz.func125,Tryz.ntmps125;apply wp_seq_k;intro K hK;have HK:=Zh hK;clear hK
  go_wp2_with fail
  refine Zhf (P:=fun X=>K _ X) w _ _ _ _ _ _ ?_;intro W b0 b1 b2 hz hbW;refine HK.o _ _ ?_;clear HK K;rw [HC.o] at b0;have HU:Hid (Zbz w W B w.heap.size (w.heap.size+1+1) S r false V):=Zh ⟨HR.o.below hbW,Zba.of_below hbW HR.o.hB,HR.o.hB,b0,⟨_,b2,rfl⟩,Nat.le_refl _,ω,ω⟩;have HE:=Zh b1;have hzW:w.heap.size<W.heap.size:=ω;clear b0 b1 b2 hbW hz HC;obtain⟨q0,cp,hvr,hqB⟩:=Zi5 HU.o.ref.rg (show 0<r.regs.length by omega);have hat:(Zdj S.C.ahead).At W (some ⟨q0,0,none⟩) r.regs:=by
   obtain⟨A,cap,e,hat,_⟩:=Enc.Own.at_ HU.o.ref.rg;rw [hvr] at e;simp only [Value.slice.injEq] at e;rw [e.1];exact hat
  have HAT:=Zh hat;have k0:=HU.o.blk.cm 0;have k13:W.cell? ⟨w.heap.size,13,none⟩=some (.slice (some ⟨q0,0,none⟩) r.regs.length cp):=by rw [<- hvr];exact HU.o.blk.cell 13
  have hi1:(0:Int)<=(d:Int):=ω;have hi2:(d:Int)<(r.regs.length:Int):=ω;clear hat hvr;by_cases ha:S.T.arch=2
  ·have hd1:¬ (d:Int)=0:=hor.resolve_right (fun h=>h ha);rw [ha] at k0
   go_wp2_with (at_builtin;refine Hid.o ?_)
   exact m_10
  ·go_wp2_with (at_builtin;refine Hid.o ?_)
   exact m_10
def atK (C:Cx):Zd8->Int
 | .adr s=>((C.locs.idxOf s:Nat):Int)
 | _=>-1
theorem atR (B:Nat)(S:RrS)(r:Rn)(V:RrV)(a:Nat)(xa:Rg)(w:World)(hR:Za7 w B S r V)(hxa:r.regs[a]?=some xa)(few:S.C.locs.length<=64)(hadr:∀ s,xa.h=.adr s->s∈S.C.locs) :
  Calls Tryz.prog 126 #[rrV S r false V,.int .i64 (a:Int)] w (RB w (.int .i64 (atK S.C xa.h))):=by
 have HR:=Zh hR;have hal:=(List.getElem?_eq_some_iff.1 hxa).1;obtain⟨h,oa⟩:=xa;obtain⟨c,hc⟩:∃ c,c=rrC S r false V:=⟨_,rfl⟩;rw [show rrV S r false V=.agg c by rw [hc]];have HC:=Zh hc;clear hc;clear hR;cases h with
 | num n=>
  go_enter Tryz.func126,Tryz.ntmps126;apply wp_seq_k;intro K hK;have HK:=Zh hK;clear hK
  go_wp2_with fail
  refine Z4m (P:=fun X=>K _ X) w _ _ ?_;intro W b0 hz hbW;refine HK.o _ _ ?_;clear HK K;rw [HC.o] at b0;have HG:=Zh b0;have HBW:=Zh hbW;have hzW:w.heap.size<W.heap.size:=ω;clear b0 hbW hz HC;obtain⟨q0,cp,hvr,hat⟩:=(HR.o.below HBW.o).rgAt (show 0<r.regs.length by omega);have k13:W.cell? ⟨w.heap.size,13,none⟩=some (.slice (some ⟨q0,0,none⟩) r.regs.length cp):=by rw [<- hvr];exact HG.o.cell 13
  obtain⟨p,o,e,hc⟩:=hat a _ hxa;simp only [Option.some.injEq,Addr.mk.injEq,and_true] at e;obtain⟨rfl,rfl⟩:=e;have c0:W.cell? ⟨q0,a*4,none⟩=some (.int .i64 1):=by have:=hc 0 _ rfl;rwa [Nat.zero_add] at this
  have c2:W.cell? ⟨q0,a*4+2,none⟩=some (.string ⟨#[]⟩):=by have:=hc 2 _ rfl;rwa [Nat.zero_add] at this
  have hi1:(0:Int)<=(a:Int):=ω;have hi2:(a:Int)<(r.regs.length:Int):=ω;clear hvr hat hc;clear c2 hadr hxa
  go_wp2_with fail
  go_ret;exact⟨rfl,HBW.o⟩
 | rd n=>
  go_enter Tryz.func126,Tryz.ntmps126;apply wp_seq_k;intro K hK;have HK:=Zh hK;clear hK
  go_wp2_with fail
  refine Z4m (P:=fun X=>K _ X) w _ _ ?_;intro W b0 hz hbW;refine HK.o _ _ ?_;clear HK K;rw [HC.o] at b0;have HG:=Zh b0;have HBW:=Zh hbW;have hzW:w.heap.size<W.heap.size:=ω;clear b0 hbW hz HC;obtain⟨q0,cp,hvr,hat⟩:=(HR.o.below HBW.o).rgAt (show 0<r.regs.length by omega);have k13:W.cell? ⟨w.heap.size,13,none⟩=some (.slice (some ⟨q0,0,none⟩) r.regs.length cp):=by rw [<- hvr];exact HG.o.cell 13
  obtain⟨p,o,e,hc⟩:=hat a _ hxa;simp only [Option.some.injEq,Addr.mk.injEq,and_true] at e;obtain⟨rfl,rfl⟩:=e;have c0:W.cell? ⟨q0,a*4,none⟩=some (.int .i64 3):=by have:=hc 0 _ rfl;rwa [Nat.zero_add] at this
  have c2:W.cell? ⟨q0,a*4+2,none⟩=some (.string ⟨#[]⟩):=by have:=hc 2 _ rfl;rwa [Nat.zero_add] at this
  have hi1:(0:Int)<=(a:Int):=ω;have hi2:(a:Int)<(r.regs.length:Int):=ω;clear hvr hat hc;clear c2 hadr hxa
  go_wp2_with fail
  go_ret;exact⟨rfl,HBW.o⟩
 | non=>
  go_enter Tryz.func126,Tryz.ntmps126;apply wp_seq_k;intro K hK;have HK:=Zh hK;clear hK
  go_wp2_with fail
  refine Z4m (P:=fun X=>K _ X) w _ _ ?_;intro W b0 hz hbW;refine HK.o _ _ ?_;clear HK K;rw [HC.o] at b0;have HG:=Zh b0;have HBW:=Zh hbW;have hzW:w.heap.size<W.heap.size:=ω;clear b0 hbW hz HC;obtain⟨q0,cp,hvr,hat⟩:=(HR.o.below HBW.o).rgAt (show 0<r.regs.length by omega);have k13:W.cell? ⟨w.heap.size,13,none⟩=some (.slice (some ⟨q0,0,none⟩) r.regs.length cp):=by rw [<- hvr];exact HG.o.cell 13
  obtain⟨p,o,e,hc⟩:=hat a _ hxa;simp only [Option.some.injEq,Addr.mk.injEq,and_true] at e;obtain⟨rfl,rfl⟩:=e;have c0:W.cell? ⟨q0,a*4,none⟩=some (.int .i64 4):=by have:=hc 0 _ rfl;rwa [Nat.zero_add] at this
  have c2:W.cell? ⟨q0,a*4+2,none⟩=some (.string ⟨#[]⟩):=by have:=hc 2 _ rfl;rwa [Nat.zero_add] at this
  have hi1:(0:Int)<=(a:Int):=ω;have hi2:(a:Int)<(r.regs.length:Int):=ω;clear hvr hat hc;clear c2 hadr hxa
  go_wp2_with fail
  go_ret;exact⟨rfl,HBW.o⟩
 | adr s=>
  have hm:=hadr s rfl;go_enter Tryz.func126,Tryz.ntmps126;apply wp_seq_k;intro K hK;have HK:=Zh hK;clear hK
  go_wp2_with fail
  refine Z4m (P:=fun X=>K _ X) w _ _ ?_;intro W b0 hz hbW;refine HK.o _ _ ?_;clear HK K;rw [HC.o] at b0;have HG:=Zh b0;have HBW:=Zh hbW;have hzW:w.heap.size<W.heap.size:=ω;clear b0 hbW hz HC;obtain⟨q0,cp,hvr,hat⟩:=(HR.o.below HBW.o).rgAt (show 0<r.regs.length by omega);have k13:W.cell? ⟨w.heap.size,13,none⟩=some (.slice (some ⟨q0,0,none⟩) r.regs.length cp):=by rw [<- hvr];exact HG.o.cell 13
  obtain⟨p,o,e,hc⟩:=hat a _ hxa;simp only [Option.some.injEq,Addr.mk.injEq,and_true] at e;obtain⟨rfl,rfl⟩:=e;have c0:W.cell? ⟨q0,a*4,none⟩=some (.int .i64 2):=by have:=hc 0 _ rfl;rwa [Nat.zero_add] at this
  have c2:W.cell? ⟨q0,a*4+2,none⟩=some (.string ⟨s.toArray⟩):=by have:=hc 2 _ rfl;rwa [Nat.zero_add] at this
  have hi1:(0:Int)<=(a:Int):=ω;have hi2:(a:Int)<(r.regs.length:Int):=ω;clear hvr hat hc
  go_wp2_with fail
  have hlo:=(HR.o.below HBW.o).loAt;refine wz (fun y:World=>Blk y w.heap.size 83 (rrC S r false V)/\y.cell? ⟨w.heap.size,13,none⟩=some (.slice (some ⟨q0,0,none⟩) r.regs.length cp)/\y.cell? ⟨q0,a*4+2,none⟩=some (.string ⟨s.toArray⟩)) [1,3,5,6,7] ⟨HG.o.drew,k13,c2⟩ (fun hHeld=>?_);refine wq 0 ?_;refine wq 2 ?_;refine wq 4 ?_;refine wv 1 ((Zwk S V)) rfl (fun x' hS=>Zaz rfl rfl (Zkp hS.1)) (by assumption) ?_;refine wt 3 (by assumption) ?_;refine wt 5 (by assumption) ?_;refine wt 6 (by assumption) ?_;refine wt 7 (by assumption) ?_;refine wl 8 ?_
  go_wp2_with (go_at_call 21;refine (Zkl ⟨S.lo,S.ini,V.ev,V.br,V.ad,V.da,V.ct,S.th,S.en⟩ S.C.locs s _ (hlo.1.below (Below.refl _ _).drew) hlo.2 few hm).mono ?_;rintro e wp ⟨rfl,hbp⟩)
  go_ret;exact⟨rfl,Zaa HBW.o (Zag hbp)⟩
end
section
theorem Zs7 {r:Rn}{i:Nat}:Zg6 r 0 i=r:=by
 unfold Zg6;rw [Zq2,List.append_nil]
 split <;> rfl
set_option maxHeartbeats 4000000
set_option maxRecDepth 100000
theorem Ze1 (B:Nat)(S:RrS)(r:Rn)(V:RrV)(pl lc:Int)(x:Rg)(on:Int)(w:World)(hR:Za7 w B S r V)(h:lc<0\/(0<=lc/\Zo8 x.h=false)) :
  Calls Tryz.prog 123 #[rrV S r false V,.int .i64 pl,.int .i64 lc,Za2 S.C.ahead x,.int .u64 on] w (Ze4 B S r true w):=by
 have HR:=Zh hR;obtain⟨c,hc⟩:∃ c,c=rrC S r false V:=⟨_,rfl⟩;rw [show rrV S r false V=.agg c by rw [hc]];have HC:=Zh hc;clear hc;simp only [Za2];clear hR;rcases h with h | ⟨h,hk⟩
 ·go_enter Tryz.func123,Tryz.ntmps123;apply wp_seq_k;intro K hK;have HK:=Zh hK;clear hK
  go_wp2_with fail
  refine Zhf (P:=fun X=>K _ X) w _ _ _ _ _ _ ?_;intro W b0 b1 b2 hz hbW;refine HK.o _ _ ?_;clear HK K;rw [HC.o] at b0;have HU:Hid (Zbz w W B w.heap.size (w.heap.size+1+1) S r false V):=Zh ⟨HR.o.below hbW,Zba.of_below hbW HR.o.hB,HR.o.hB,b0,⟨_,b2,rfl⟩,Nat.le_refl _,ω,ω⟩;have HE:=Zh b1;have hzW:w.heap.size<W.heap.size:=ω;clear b0 b1 b2 hbW hz HC;have f24:=HU.o.blk.frozen 24;have k24:=HU.o.blk.cm 24;have HV:=Zh HU.o.flow
  repeat (first | ((with_reducible refine Zfw ?_);refine Zcg Tryz.f123 5 10 19 rfl rfl rfl rfl rfl rfl rfl HV.o rfl rfl (by decide) (of_decide_eq_true rfl) rfl (fun _ _ h=>h)) | go_step)
 ·have hk1:=Zm1 hk;have hk2:¬ Zax x.h=1:=hk1;have hk3:(Zax x.h != 1)=true:=by simpa using hk1
  have hk4:decide (Zax x.h=1)=false:=by simpa using hk1
  have h0:¬ lc<0:=ω;go_enter Tryz.func123,Tryz.ntmps123;apply wp_seq_k;intro K hK;have HK:=Zh hK;clear hK
  go_wp2_with fail
  refine Zhf (P:=fun X=>K _ X) w _ _ _ _ _ _ ?_;intro W b0 b1 b2 hz hbW;refine HK.o _ _ ?_;clear HK K;rw [HC.o] at b0;have HU:Hid (Zbz w W B w.heap.size (w.heap.size+1+1) S r false V):=Zh ⟨HR.o.below hbW,Zba.of_below hbW HR.o.hB,HR.o.hB,b0,⟨_,b2,rfl⟩,Nat.le_refl _,ω,ω⟩;have HE:=Zh b1;have hzW:w.heap.size<W.heap.size:=ω;clear b0 b1 b2 hbW hz HC;have f24:=HU.o.blk.frozen 24;have k24:=HU.o.blk.cm 24;have e0:=HE.o.cm 0;have HV:=Zh HU.o.flow
  repeat (first | ((with_reducible refine Zfw ?_);refine Zcg Tryz.f123 5 10 19 rfl rfl rfl rfl rfl rfl rfl HV.o rfl rfl (by decide) (of_decide_eq_true rfl) rfl (fun _ _ h=>h)) | go_step)
theorem Zxn (B:Nat)(S:RrS)(hS:Zeo S)(r:Rn)(V:RrV)(nr k:Nat)(hI:Inv S.C nr k r)(hfl:r.full=false)(pl:Nat)(loc:Nm)(n:Int)(xo on:Nat)(w:World)(hR:Za7 w B S r V)(hon:Rds r.evs on)(hxo:Rds r.evs xo) :
  Calls Tryz.prog 123 #[rrV S r false V,.int .i64 (pl:Int),.int .i64 ((S.C.locs.idxOf loc:Nat):Int),Za2 S.C.ahead ⟨.num n,xo⟩,.int .u64 ((on<<<S.C.ahead:Nat):Int)] w
   (Ze4 B S (Zg6 (Ziv S.C r pl 2 loc n 0 on) xo r.evs.length) false w):=by
 have HR:=Zh hR;have HEV:=Zh (fun V w h=>Z00 B S hS r V nr k hI hfl pl 2 _ n 0 loc on xo rfl hon hxo w h);obtain⟨c,hc⟩:∃ c,c=rrC S r false V:=⟨_,rfl⟩;rw [show rrV S r false V=.agg c by rw [hc]];have HC:=Zh hc;clear hc;simp only [Za2,Zax,Zb6,Zb5];clear hR hS hI hfl hon hxo;have h0:¬ ((S.C.locs.idxOf loc:Nat):Int)<0:=ω;go_enter Tryz.func123,Tryz.ntmps123;apply wp_seq_k;intro K hK;have HK:=Zh hK;clear hK
 go_wp2_with fail
 refine Zhf (P:=fun X=>K _ X) w _ _ _ _ _ _ ?_;intro W b0 b1 b2 hz hbW;refine HK.o _ _ ?_;clear HK K;rw [HC.o] at b0;have HU:Hid (Zbz w W B w.heap.size (w.heap.size+1+1) S r false V):=Zh ⟨HR.o.below hbW,Zba.of_below hbW HR.o.hB,HR.o.hB,b0,⟨_,b2,rfl⟩,Nat.le_refl _,ω,ω⟩;have HE:=Zh b1;have hzW:w.heap.size<W.heap.size:=ω;clear b0 b1 b2 hbW hz HC;have e0:=HE.o.k0;have e1:=HE.o.k1;have e3:=HE.o.k3
 repeat (first | ((with_reducible refine Zas ?_);refine Zaw 83 5 w.heap.size rfl rfl HU.o.blk Tryz.underlying83 rfl κ rfl ?_) | (go_at_call 164;refine Hid.o ?_) | go_step)
 refine Zh ?_;refine (HEV.o V W HU.o.ref).mono ?_;rintro e w1 ⟨V1,rfl,hr1,hk1⟩;obtain⟨z,hz,hzs⟩:=HU.o.out1 hk1;dsimp only
 repeat (first | ((with_reducible refine Zas ?_);refine Zap 83 10 29 (w.heap.size+1+1) rfl rfl rfl hz (by exact hzs) κ (Zbg _ _ _ _) rfl rfl ?_) | go_step)
 refine Zbt 83 10 (w.heap.size+1+1) rfl (hz.row _) Tryz.underlying83 rfl κ rfl rfl ?_;exact HU.o.ret1 hr1 hk1
theorem Z1d (B:Nat)(S:RrS)(hS:Zeo S)(hrisc:S.C.risc=decide (S.T.arch=2))(r:Rn)(V:RrV)(nr k:Nat)(hI:Inv S.C nr k r)(hnr:nr<=32)(hfl:r.full=false)(pl:Nat)(loc:Nm)(d:Nat)(hd:d<nr)(on:Nat)(w:World)(hR:Za7 w B S r V)(hon:Rds r.evs on) :
  Calls Tryz.prog 124 #[rrV S r false V,.int .i64 (pl:Int),.int .i64 ((S.C.locs.idxOf loc:Nat):Int),.int .i64 (d:Int),.int .u64 ((on<<<S.C.ahead:Nat):Int)] w
   (Ze4 B S (Zej S.C r pl loc on (d:Int)) false w):=by
 have HR:=Zh hR;obtain⟨n,hn⟩:∃ n,S.C.ahead+r.evs.length=n:=⟨_,rfl⟩;have hen:V.ev.n=n:=by rw [Zpm hR.ev,List.length_append,<- hS.ahead,hn]
 have HEV:=Zh (fun V w h=>Z00 B S hS r V nr k hI hfl pl 1 _ 0 (d:Int) loc on 0 rfl hon (Rds.zero _) w h);rw [Zs7,Nat.zero_shiftLeft] at HEV;have hI1:=hI.evt (pl:=pl) (dr:=1) (loc:=loc) (vl:=0) (rg:=(d:Int)) hon;have HRD:=Zh (show Zej S.C r pl loc on (d:Int)=if (Ziv S.C r pl 1 loc 0 (d:Int) on).full then Ziv S.C r pl 1 loc 0 (d:Int) on else Zfz S.C (Ziv S.C r pl 1 loc 0 (d:Int) on) (d:Int) ⟨.rd r.evs.length,2 ^ r.evs.length⟩ from rfl);have hni:(Ziv S.C r pl 1 loc 0 (d:Int) on).full=false->n<64:=fun hf=>by
  by_cases hr:64<=S.C.ahead+r.evs.length
  ·rw [Zcr hr] at hf;cases hf
  ·omega
 have hrl:=hI1.rlen;generalize Ziv S.C r pl 1 loc 0 (d:Int) on=r1 at *;have hpw:=Z3g r.evs.length S.C.ahead;rw [hn] at hpw;have HP:=Zh (fun V w h=>Z4a B S hrisc r1 V d ⟨.rd r.evs.length,2 ^ r.evs.length⟩ w h (by rw [hrl];exact hd) (by rw [hrl];exact hnr));simp only [Za2,Zax,Zb6,Zb5,hn,hpw] at HP;obtain⟨c,hc⟩:∃ c,c=rrC S r false V:=⟨_,rfl⟩;rw [show rrV S r false V=.agg c by rw [hc]];have HC:=Zh hc;clear hc;clear hR hS hI hfl hon hI1 hrl hpw hn;cases hff:r1.full with
 | true=>
  rw [HRD.o,if_pos hff];go_enter Tryz.func124,Tryz.ntmps124;apply wp_seq_k;intro K hK;have HK:=Zh hK;clear hK
  go_wp2_with fail
  refine Z6l (P:=fun X=>K _ X) w _ _ _ _ ?_;intro W b0 b2 hz hbW;refine HK.o _ _ ?_;clear HK K;rw [HC.o] at b0;have HU:Hid (Zbz w W B w.heap.size (w.heap.size+1) S r false V):=Zh ⟨HR.o.below hbW,Zba.of_below hbW HR.o.hB,HR.o.hB,b0,⟨_,b2,rfl⟩,Nat.le_refl _,ω,ω⟩;have hzW:w.heap.size<W.heap.size:=ω;clear b0 b2 hbW hz HC;have k17:W.cell? ⟨w.heap.size,17,none⟩=some (.slice V.ev.A n V.ev.c):=by rw [<- hen];exact HU.o.blk.cell 17
  repeat (first | ((with_reducible refine Zas ?_);refine Zaw 83 5 w.heap.size rfl rfl HU.o.blk Tryz.underlying83 rfl κ rfl ?_) | (go_at_call 164;refine Hid.o ?_) | go_step)
  refine Zh ?_;refine (HEV.o V W HU.o.ref).mono ?_;rintro e w1 ⟨V1,rfl,hr1,hk1⟩;have hb1:=hk1.keep _ _ _ HU.o.blk (by decide) (by decide) (by decide);have HU2:=Zh (HU.o.row (fl':=false) hr1 hk1);clear HU;have HU:=HU2;clear HU2;have k25:=HU.o.blk.cm 25;clear k17;dsimp only;rw [hff] at k25
  repeat (first | ((with_reducible refine Zas ?_);refine Zap 83 5 22 w.heap.size rfl rfl rfl hb1 (by exact rfl) κ (Zbg _ _ _ _) rfl rfl ?_) | ((with_reducible refine Zfw ?_);refine Zcg Tryz.f124 5 10 25 rfl rfl rfl rfl rfl rfl rfl HU.o rfl rfl (by decide) (of_decide_eq_true rfl) rfl (fun _ _ h=>h)) | go_step)
 | false=>
  have hn64:=hni hff;rw [HRD.o,if_neg (by rw [hff];decide)];go_enter Tryz.func124,Tryz.ntmps124;apply wp_seq_k;intro K hK;have HK:=Zh hK;clear hK
  go_wp2_with fail
  refine Z6l (P:=fun X=>K _ X) w _ _ _ _ ?_;intro W b0 b2 hz hbW;refine HK.o _ _ ?_;clear HK K;rw [HC.o] at b0;have HU:Hid (Zbz w W B w.heap.size (w.heap.size+1) S r false V):=Zh ⟨HR.o.below hbW,Zba.of_below hbW HR.o.hB,HR.o.hB,b0,⟨_,b2,rfl⟩,Nat.le_refl _,ω,ω⟩;have hzW:w.heap.size<W.heap.size:=ω;clear b0 b2 hbW hz HC;have k17:W.cell? ⟨w.heap.size,17,none⟩=some (.slice V.ev.A n V.ev.c):=by rw [<- hen];exact HU.o.blk.cell 17
  repeat (first | ((with_reducible refine Zas ?_);refine Zaw 83 5 w.heap.size rfl rfl HU.o.blk Tryz.underlying83 rfl κ rfl ?_) | (go_at_call 164;refine Hid.o ?_) | go_step)
  refine Zh ?_;refine (HEV.o V W HU.o.ref).mono ?_;rintro e w1 ⟨V1,rfl,hr1,hk1⟩;have hb1:=hk1.keep _ _ _ HU.o.blk (by decide) (by decide) (by decide);have HU2:=Zh (HU.o.row (fl':=false) hr1 hk1);clear HU;have HU:=HU2;clear HU2;have k25:=HU.o.blk.cm 25;clear k17;dsimp only;rw [hff] at k25;have hsh:=Zh (show IntKind.u64.wrap ((2:Int) ^ n)=((2 ^ n:Nat):Int) by have:=Zq8 hn64;rwa [Int.one_mul] at this);have hn1:(0:Int)<=(n:Int):=ω;have hn2:(n:Int)<64:=ω
  repeat (first | ((with_reducible refine Zas ?_);refine Zap 83 5 22 w.heap.size rfl rfl rfl hb1 (by exact rfl) κ (Zbg _ _ _ _) rfl rfl ?_) | ((with_reducible refine Zas ?_);refine Zaw 83 5 w.heap.size rfl rfl HU.o.blk Tryz.underlying83 rfl κ rfl ?_) | (go_at_call 125;refine Hid.o ?_) | go_step)
  refine Zh ?_;rw [hsh.out];refine (HP.o _ _ HU.o.ref).mono ?_;rintro e w2 ⟨V2,rfl,hr2,hk2⟩;obtain⟨z,hz,hzs⟩:=HU.o.out1 hk2;dsimp only
  repeat (first | ((with_reducible refine Zas ?_);refine Zap 83 10 33 (w.heap.size+1) rfl rfl rfl hz (by exact hzs) κ (Zbg _ _ _ _) rfl rfl ?_) | go_step)
  refine Zbt 83 10 (w.heap.size+1) rfl (hz.row _) Tryz.underlying83 rfl κ rfl rfl ?_;exact HU.o.ret1 hr2 hk2
end
section
def Zbn (B:Nat)(S:RrS)(o:Option Rn)(w:World)(e:Ending)(w':World):Prop:=∃ r1 fl V,e=.returned (rrV S r1 fl V)/\Za7 w' B S r1 V/\Zba B w w'/\((fl=false/\o=some r1)\/(fl=true/\o=none/\r1.full=false))
theorem Zbn.of {B:Nat}{S:RrS}{o:Option Rn}{w w':World}{e:Ending}{r1:Rn}{fl:Bool}(h:Ze4 B S r1 fl w e w')(hg:(fl=false/\o=some r1)\/(fl=true/\o=none/\r1.full=false)):Zbn B S o w e w':=by
 obtain⟨V,h1,h2,h3⟩:=h;exact⟨r1,fl,V,h1,h2,h3,hg⟩
theorem Ze4.st {B:Nat}{S:RrS}{o:Option Rn}{w w':World}{e:Ending}{r1:Rn}(h:Ze4 B S r1 false w e w')(ho:o=some r1):Zbn B S o w e w':=Zbn.of h (Or.inl ⟨rfl,ho⟩)
theorem Ze4.no {B:Nat}{S:RrS}{o:Option Rn}{w w':World}{e:Ending}{r1:Rn}(h:Ze4 B S r1 true w e w')(ho:o=none)(hf:r1.full=false):Zbn B S o w e w':=Zbn.of h (Or.inr ⟨rfl,ho,hf⟩)
theorem Zue (w:World)(a b c:Int):Zmq.At (w.alloc (.cells #[.int .i64 a,.int .i64 b,.int .i64 c] 123 (0,0))) (some ⟨w.heap.size,0,none⟩) [⟨a,b,c⟩]:=by
 have hB:=Blk.new w 123 #[.int .i64 a,.int .i64 b,.int .i64 c];intro i x hx;refine⟨w.heap.size,0,rfl,fun j u hj=>?_⟩
 match i,hx with
 | 0,hx=>
  simp at hx;subst hx;rw [show 0+0*Zmq.size+j=j by omega,hB.cell];rw [<- hj];simp
set_option maxHeartbeats 4000000
set_option maxRecDepth 100000
theorem Zp5 (B:Nat)(S:RrS)(hS:Zeo S)(r:Rn)(V:RrV)(nr k:Nat)(hI:Inv S.C nr k r)(hfl:r.full=false)(pl:Nat)(loc:Nm)(x:Rg)(hx:Zil S.C r.evs x)(on:Nat)(w:World)(hR:Za7 w B S r V)(hon:Rds r.evs on) :
  Calls Tryz.prog 123 #[rrV S r false V,.int .i64 (pl:Int),.int .i64 ((S.C.locs.idxOf loc:Nat):Int),Za2 S.C.ahead x,.int .u64 ((on<<<S.C.ahead:Nat):Int)] w (Zbn B S (Zcj S.C r pl loc on x) w):=by
 obtain⟨h,xo⟩:=x;cases h with
 | num n=>exact (Zxn B S hS r V nr k hI hfl pl loc n xo on w hR hon hx.2).mono fun e w' p=>p.st rfl
 | adr s=>exact (Ze1 B S r V pl _ ⟨.adr s,xo⟩ _ w hR (Or.inr ⟨ω,rfl⟩)).mono fun e w' p=>p.no rfl hfl
 | rd i=>exact (Ze1 B S r V pl _ ⟨.rd i,xo⟩ _ w hR (Or.inr ⟨ω,rfl⟩)).mono fun e w' p=>p.no rfl hfl
 | non=>exact (Ze1 B S r V pl _ ⟨.non,xo⟩ _ w hR (Or.inr ⟨ω,rfl⟩)).mono fun e w' p=>p.no rfl hfl
theorem Z3l (B:Nat)(S:RrS)(hS:Zeo S)(_hrisc:S.C.risc=decide (S.T.arch=2))(r:Rn)(V:RrV)(nr k:Nat)(hI:Inv S.C nr k r)(_hnr:nr<=32)(hfl:r.full=false)(pl:Nat)(d a b:Nat)(_hd:d<nr)(xa xb:Rg)(hxa:r.regs[a]?=some xa)(hxb:r.regs[b]?=some xb)(imm:Int)(loc label:List UInt8)(fence:Int)(w:World)(hR:Za7 w B S r V)(hloc:loc∈S.C.locs):Calls Tryz.prog 76 #[rrV S r false V,.int .i64 (pl:Int),.agg #[.int .i64 1,.int .i64 (d:Int),.int .i64 (a:Int),.int .i64 (b:Int),.int .i64 imm,.string ⟨loc.toArray⟩,.string ⟨label.toArray⟩,.int .i64 fence]] w (Zbn B S (Zcj S.C r pl loc 0 ⟨.num imm,0⟩) w):=by
 have HW:=Zh (fun V w h=>(Zxn B S hS r V nr k hI hfl pl loc imm 0 0 w h (Rds.zero _) (Rds.zero _)).mono fun e w' p=>(p.st rfl:Zbn B S (Zcj S.C r pl loc 0 ⟨.num imm,0⟩) w e w'));simp only [Za2,Zax,Zb6,Zb5,Nat.zero_shiftLeft] at HW;have HR:=Zh hR;have hal:=(List.getElem?_eq_some_iff.1 hxa).1;have hbl:=(List.getElem?_eq_some_iff.1 hxb).1;obtain⟨c,hc⟩:∃ c,c=rrC S r false V:=⟨_,rfl⟩;rw [show rrV S r false V=.agg c by rw [hc]];have HC:=Zh hc;clear hc;go_enter Tryz.func76,Tryz.ntmps76;apply wp_seq_k;intro K hK;have HK:=Zh hK;clear hK
 go_wp2_with fail
 refine Zhf (P:=fun X=>K _ X) w _ _ _ _ _ _ ?_;intro W b0 b1 b2 hz hbW;refine HK.o _ _ ?_;clear HK K;rw [HC.o] at b0;have HU:Hid (Zbz w W B w.heap.size (w.heap.size+1+1) S r false V):=Zh ⟨HR.o.below hbW,Zba.of_below hbW HR.o.hB,HR.o.hB,b0,⟨_,b2,rfl⟩,Nat.le_refl _,ω,ω⟩;have HE:=Zh b1;have hzW:w.heap.size<W.heap.size:=ω;clear b0 b1 b2 hbW hz HC;obtain⟨q0,cp,hvr,hat⟩:=HU.o.ref.rgAt (show 0<r.regs.length by omega);have k13:W.cell? ⟨w.heap.size,13,none⟩=some (.slice (some ⟨q0,0,none⟩) r.regs.length cp):=by rw [<- hvr];exact HU.o.blk.cell 13
 have e0:=HE.o.k0;have e1:=HE.o.k1;have e2:=HE.o.k2;have e3:=HE.o.k3;have e4:=HE.o.k4;have e5:=HE.o.k5;have c3:W.cell? ⟨q0,a*4+3,none⟩=some (.int .u64 ((xa.on<<<S.C.ahead:Nat):Int)):=by
  obtain⟨p,o,e,hc⟩:=hat a xa hxa;simp only [Option.some.injEq,Addr.mk.injEq,and_true] at e;obtain⟨rfl,rfl⟩:=e;have:=hc 3 _ rfl
  rwa [Nat.zero_add] at this
 have HSS:=Zh (show ∀ y,Below W.heap.size W y->(fun y:World=>Zbz w y B w.heap.size (w.heap.size+1+1) S r false V/\(Zdj S.C.ahead).At y (some ⟨q0,0,none⟩) r.regs/\y.cell? ⟨w.heap.size,13,none⟩=some (.slice (some ⟨q0,0,none⟩) r.regs.length cp)/\y.cell? ⟨w.heap.size+1,0,none⟩=some (.int .i64 1)/\y.cell? ⟨w.heap.size+1,1,none⟩=some (.int .i64 (d:Int))/\y.cell? ⟨w.heap.size+1,2,none⟩=some (.int .i64 (a:Int))/\y.cell? ⟨w.heap.size+1,3,none⟩=some (.int .i64 (b:Int))/\y.cell? ⟨w.heap.size+1,4,none⟩=some (.int .i64 imm)/\y.cell? ⟨w.heap.size+1,5,none⟩=some (.string ⟨loc.toArray⟩)/\y.cell? ⟨q0,a*4+3,none⟩=some (.int .u64 ((xa.on<<<S.C.ahead:Nat):Int))) y from fun y hb=>⟨HU.o.below hb,hat.below hb,Zac k13 hb,Zac e0 hb,Zac e1 hb,Zac e2 hb,Zac e3 hb,Zac e4 hb,Zac e5 hb,Zac c3 hb⟩);have hi1:(0:Int)<=(a:Int):=ω;have hi2:(a:Int)<(r.regs.length:Int):=ω;have hi3:(0:Int)<=(b:Int):=ω;have hi4:(b:Int)<(r.regs.length:Int):=ω;clear hat hvr HR hR
 go_wp2_with fail
 refine wz (fun y:World=>Zbz w y B w.heap.size (w.heap.size+1+1) S r false V/\(Zdj S.C.ahead).At y (some ⟨q0,0,none⟩) r.regs/\y.cell? ⟨w.heap.size,13,none⟩=some (.slice (some ⟨q0,0,none⟩) r.regs.length cp)/\y.cell? ⟨w.heap.size+1,0,none⟩=some (.int .i64 1)/\y.cell? ⟨w.heap.size+1,1,none⟩=some (.int .i64 (d:Int))/\y.cell? ⟨w.heap.size+1,2,none⟩=some (.int .i64 (a:Int))/\y.cell? ⟨w.heap.size+1,3,none⟩=some (.int .i64 (b:Int))/\y.cell? ⟨w.heap.size+1,4,none⟩=some (.int .i64 imm)/\y.cell? ⟨w.heap.size+1,5,none⟩=some (.string ⟨loc.toArray⟩)/\y.cell? ⟨q0,a*4+3,none⟩=some (.int .u64 ((xa.on<<<S.C.ahead:Nat):Int))) [0,3,5,6,8,9] (HSS.o _ (Below.refl _ _).drew) (fun hHeld=>?_);refine wq 1 ?_;refine wq 2 ?_;refine wq 4 ?_;refine wq 7 ?_;refine wv 0 ((rrV S r false V)) rfl (fun x' hS=>Zaz rfl rfl (Zez hS.1.blk)) (by assumption) ?_;refine wv 3 ((Zwk S V)) rfl (fun x' hS=>Zaz rfl rfl (Zkp hS.1.blk)) (by assumption) ?_;refine wt 5 (by assumption) ?_;refine wt 8 (by assumption) ?_;refine wt 9 (by assumption) ?_;refine Zar (i:=6) κ rfl (fun K hK=>?_);go_simp
 go_at_call 21
 refine (Zkl ⟨S.lo,S.ini,V.ev,V.br,V.ad,V.da,V.ct,S.th,S.en⟩ S.C.locs loc _ (hHeld.1.ref.loAt).1 (hHeld.1.ref.loAt).2 hS.few hloc).mono ?_;rintro e wp ⟨rfl,hbp⟩;have hS2:=HSS.o wp (Zag hbp);refine hK.out _ _ hS2 ?_;clear hK K;refine pu ?_;refine wl 10 ?_
 repeat (first | (go_at_call 123;refine Hid.o ?_) | go_step)
 refine Zh ?_;refine (HW.o V wp hS2.1.ref).mono ?_;rintro e w1 ⟨r1,fl1,V1,rfl,hr1,hk1,hg1⟩;dsimp only;obtain⟨z,hz,hzs⟩:=hS2.1.out1 hk1
 repeat (first | ((with_reducible refine Zas ?_);refine Zap 83 6 21 (w.heap.size+1+1) rfl rfl rfl hz (by exact hzs) κ (Zbg _ _ _ _) rfl rfl ?_) | go_step)
 refine Zbt 83 6 (w.heap.size+1+1) rfl (hz.row _) Tryz.underlying83 rfl κ rfl rfl ?_;exact Zbn.of (hS2.1.ret1 hr1 hk1) hg1
theorem Z3m (B:Nat)(S:RrS)(hS:Zeo S)(_hrisc:S.C.risc=decide (S.T.arch=2))(r:Rn)(V:RrV)(nr k:Nat)(hI:Inv S.C nr k r)(_hnr:nr<=32)(hfl:r.full=false)(pl:Nat)(d a b:Nat)(_hd:d<nr)(xa xb:Rg)(hxa:r.regs[a]?=some xa)(hxb:r.regs[b]?=some xb)(imm:Int)(loc label:List UInt8)(fence:Int)(w:World)(hR:Za7 w B S r V)(hloc:loc∈S.C.locs)(hok:Zil S.C r.evs xa):Calls Tryz.prog 76 #[rrV S r false V,.int .i64 (pl:Int),.agg #[.int .i64 2,.int .i64 (d:Int),.int .i64 (a:Int),.int .i64 (b:Int),.int .i64 imm,.string ⟨loc.toArray⟩,.string ⟨label.toArray⟩,.int .i64 fence]] w (Zbn B S (Zcj S.C r pl loc 0 xa) w):=by
 have HW:=Zh (fun V w h=>Zp5 B S hS r V nr k hI hfl pl loc xa hok 0 w h (Rds.zero _));simp only [Nat.zero_shiftLeft] at HW;have HR:=Zh hR;have hal:=(List.getElem?_eq_some_iff.1 hxa).1;have hbl:=(List.getElem?_eq_some_iff.1 hxb).1;obtain⟨c,hc⟩:∃ c,c=rrC S r false V:=⟨_,rfl⟩;rw [show rrV S r false V=.agg c by rw [hc]];have HC:=Zh hc;clear hc;go_enter Tryz.func76,Tryz.ntmps76;apply wp_seq_k;intro K hK;have HK:=Zh hK;clear hK
 go_wp2_with fail
 refine Zhf (P:=fun X=>K _ X) w _ _ _ _ _ _ ?_;intro W b0 b1 b2 hz hbW;refine HK.o _ _ ?_;clear HK K;rw [HC.o] at b0;have HU:Hid (Zbz w W B w.heap.size (w.heap.size+1+1) S r false V):=Zh ⟨HR.o.below hbW,Zba.of_below hbW HR.o.hB,HR.o.hB,b0,⟨_,b2,rfl⟩,Nat.le_refl _,ω,ω⟩;have HE:=Zh b1;have hzW:w.heap.size<W.heap.size:=ω;clear b0 b1 b2 hbW hz HC;obtain⟨q0,cp,hvr,hat⟩:=HU.o.ref.rgAt (show 0<r.regs.length by omega);have k13:W.cell? ⟨w.heap.size,13,none⟩=some (.slice (some ⟨q0,0,none⟩) r.regs.length cp):=by rw [<- hvr];exact HU.o.blk.cell 13
 have e0:=HE.o.k0;have e1:=HE.o.k1;have e2:=HE.o.k2;have e3:=HE.o.k3;have e4:=HE.o.k4;have e5:=HE.o.k5;have c3:W.cell? ⟨q0,a*4+3,none⟩=some (.int .u64 ((xa.on<<<S.C.ahead:Nat):Int)):=by
  obtain⟨p,o,e,hc⟩:=hat a xa hxa;simp only [Option.some.injEq,Addr.mk.injEq,and_true] at e;obtain⟨rfl,rfl⟩:=e;have:=hc 3 _ rfl
  rwa [Nat.zero_add] at this
 have HSS:=Zh (show ∀ y,Below W.heap.size W y->(fun y:World=>Zbz w y B w.heap.size (w.heap.size+1+1) S r false V/\(Zdj S.C.ahead).At y (some ⟨q0,0,none⟩) r.regs/\y.cell? ⟨w.heap.size,13,none⟩=some (.slice (some ⟨q0,0,none⟩) r.regs.length cp)/\y.cell? ⟨w.heap.size+1,0,none⟩=some (.int .i64 2)/\y.cell? ⟨w.heap.size+1,1,none⟩=some (.int .i64 (d:Int))/\y.cell? ⟨w.heap.size+1,2,none⟩=some (.int .i64 (a:Int))/\y.cell? ⟨w.heap.size+1,3,none⟩=some (.int .i64 (b:Int))/\y.cell? ⟨w.heap.size+1,4,none⟩=some (.int .i64 imm)/\y.cell? ⟨w.heap.size+1,5,none⟩=some (.string ⟨loc.toArray⟩)/\y.cell? ⟨q0,a*4+3,none⟩=some (.int .u64 ((xa.on<<<S.C.ahead:Nat):Int))) y from fun y hb=>⟨HU.o.below hb,hat.below hb,Zac k13 hb,Zac e0 hb,Zac e1 hb,Zac e2 hb,Zac e3 hb,Zac e4 hb,Zac e5 hb,Zac c3 hb⟩);have hi1:(0:Int)<=(a:Int):=ω;have hi2:(a:Int)<(r.regs.length:Int):=ω;have hi3:(0:Int)<=(b:Int):=ω;have hi4:(b:Int)<(r.regs.length:Int):=ω;clear hat hvr HR hR
 go_wp2_with fail
 refine wz (fun y:World=>Zbz w y B w.heap.size (w.heap.size+1+1) S r false V/\(Zdj S.C.ahead).At y (some ⟨q0,0,none⟩) r.regs/\y.cell? ⟨w.heap.size,13,none⟩=some (.slice (some ⟨q0,0,none⟩) r.regs.length cp)/\y.cell? ⟨w.heap.size+1,0,none⟩=some (.int .i64 2)/\y.cell? ⟨w.heap.size+1,1,none⟩=some (.int .i64 (d:Int))/\y.cell? ⟨w.heap.size+1,2,none⟩=some (.int .i64 (a:Int))/\y.cell? ⟨w.heap.size+1,3,none⟩=some (.int .i64 (b:Int))/\y.cell? ⟨w.heap.size+1,4,none⟩=some (.int .i64 imm)/\y.cell? ⟨w.heap.size+1,5,none⟩=some (.string ⟨loc.toArray⟩)/\y.cell? ⟨q0,a*4+3,none⟩=some (.int .u64 ((xa.on<<<S.C.ahead:Nat):Int))) [0,3,5,6,8,10,11,12] (HSS.o _ (Below.refl _ _).drew) (fun hHeld=>?_);refine wq 1 ?_;refine wq 2 ?_;refine wq 4 ?_;refine wq 7 ?_;refine wq 9 ?_;refine wv 0 ((rrV S r false V)) rfl (fun x' hS=>Zaz rfl rfl (Zez hS.1.blk)) (by assumption) ?_;refine wv 3 ((Zwk S V)) rfl (fun x' hS=>Zaz rfl rfl (Zkp hS.1.blk)) (by assumption) ?_;refine wt 5 (by assumption) ?_;refine wt 8 (by assumption) ?_;refine wt 10 (by assumption) ?_;refine wt 11 (by assumption) ?_;refine wv 12 ((Za2 S.C.ahead xa)) rfl (fun x' hS=>Zaz rfl rfl (Zdt hS.2.1 hxa)) (by assumption) ?_;refine Zar (i:=6) κ rfl (fun K hK=>?_);go_simp
 go_at_call 21
 refine (Zkl ⟨S.lo,S.ini,V.ev,V.br,V.ad,V.da,V.ct,S.th,S.en⟩ S.C.locs loc _ (hHeld.1.ref.loAt).1 (hHeld.1.ref.loAt).2 hS.few hloc).mono ?_;rintro e wp ⟨rfl,hbp⟩;have hS2:=HSS.o wp (Zag hbp);refine hK.out _ _ hS2 ?_;clear hK K;refine pu ?_;refine wl 13 ?_
 repeat (first | (go_at_call 123;refine Hid.o ?_) | go_step)
 refine Zh ?_;refine (HW.o V wp hS2.1.ref).mono ?_;rintro e w1 ⟨r1,fl1,V1,rfl,hr1,hk1,hg1⟩;dsimp only;obtain⟨z,hz,hzs⟩:=hS2.1.out1 hk1
 repeat (first | ((with_reducible refine Zas ?_);refine Zap 83 6 37 (w.heap.size+1+1) rfl rfl rfl hz (by exact hzs) κ (Zbg _ _ _ _) rfl rfl ?_) | go_step)
 refine Zbt 83 6 (w.heap.size+1+1) rfl (hz.row _) Tryz.underlying83 rfl κ rfl rfl ?_;exact Zbn.of (hS2.1.ret1 hr1 hk1) hg1
theorem Z3n (B:Nat)(S:RrS)(hS:Zeo S)(hrisc:S.C.risc=decide (S.T.arch=2))(r:Rn)(V:RrV)(nr k:Nat)(hI:Inv S.C nr k r)(hnr:nr<=32)(hfl:r.full=false)(pl:Nat)(d a b:Nat)(hd:d<nr)(xa xb:Rg)(hxa:r.regs[a]?=some xa)(hxb:r.regs[b]?=some xb)(imm:Int)(loc label:List UInt8)(fence:Int)(w:World)(hR:Za7 w B S r V)(hloc:loc∈S.C.locs):Calls Tryz.prog 76 #[rrV S r false V,.int .i64 (pl:Int),.agg #[.int .i64 3,.int .i64 (d:Int),.int .i64 (a:Int),.int .i64 (b:Int),.int .i64 imm,.string ⟨loc.toArray⟩,.string ⟨label.toArray⟩,.int .i64 fence]] w (Zbn B S (some (Zej S.C r pl loc 0 (d:Int))) w):=by
 have HW:=Zh (fun V w h=>(Z1d B S hS hrisc r V nr k hI hnr hfl pl loc d hd 0 w h (Rds.zero _)).mono fun e w' p=>(p.st rfl:Zbn B S (some (Zej S.C r pl loc 0 (d:Int))) w e w'));simp only [Nat.zero_shiftLeft] at HW;have HR:=Zh hR;have hal:=(List.getElem?_eq_some_iff.1 hxa).1;have hbl:=(List.getElem?_eq_some_iff.1 hxb).1;obtain⟨c,hc⟩:∃ c,c=rrC S r false V:=⟨_,rfl⟩;rw [show rrV S r false V=.agg c by rw [hc]];have HC:=Zh hc;clear hc;go_enter Tryz.func76,Tryz.ntmps76;apply wp_seq_k;intro K hK;have HK:=Zh hK;clear hK
 go_wp2_with fail
 refine Zhf (P:=fun X=>K _ X) w _ _ _ _ _ _ ?_;intro W b0 b1 b2 hz hbW;refine HK.o _ _ ?_;clear HK K;rw [HC.o] at b0;have HU:Hid (Zbz w W B w.heap.size (w.heap.size+1+1) S r false V):=Zh ⟨HR.o.below hbW,Zba.of_below hbW HR.o.hB,HR.o.hB,b0,⟨_,b2,rfl⟩,Nat.le_refl _,ω,ω⟩;have HE:=Zh b1;have hzW:w.heap.size<W.heap.size:=ω;clear b0 b1 b2 hbW hz HC;obtain⟨q0,cp,hvr,hat⟩:=HU.o.ref.rgAt (show 0<r.regs.length by omega);have k13:W.cell? ⟨w.heap.size,13,none⟩=some (.slice (some ⟨q0,0,none⟩) r.regs.length cp):=by rw [<- hvr];exact HU.o.blk.cell 13
 have e0:=HE.o.k0;have e1:=HE.o.k1;have e2:=HE.o.k2;have e3:=HE.o.k3;have e4:=HE.o.k4;have e5:=HE.o.k5;have c3:W.cell? ⟨q0,a*4+3,none⟩=some (.int .u64 ((xa.on<<<S.C.ahead:Nat):Int)):=by
  obtain⟨p,o,e,hc⟩:=hat a xa hxa;simp only [Option.some.injEq,Addr.mk.injEq,and_true] at e;obtain⟨rfl,rfl⟩:=e;have:=hc 3 _ rfl
  rwa [Nat.zero_add] at this
 have HSS:=Zh (show ∀ y,Below W.heap.size W y->(fun y:World=>Zbz w y B w.heap.size (w.heap.size+1+1) S r false V/\(Zdj S.C.ahead).At y (some ⟨q0,0,none⟩) r.regs/\y.cell? ⟨w.heap.size,13,none⟩=some (.slice (some ⟨q0,0,none⟩) r.regs.length cp)/\y.cell? ⟨w.heap.size+1,0,none⟩=some (.int .i64 3)/\y.cell? ⟨w.heap.size+1,1,none⟩=some (.int .i64 (d:Int))/\y.cell? ⟨w.heap.size+1,2,none⟩=some (.int .i64 (a:Int))/\y.cell? ⟨w.heap.size+1,3,none⟩=some (.int .i64 (b:Int))/\y.cell? ⟨w.heap.size+1,4,none⟩=some (.int .i64 imm)/\y.cell? ⟨w.heap.size+1,5,none⟩=some (.string ⟨loc.toArray⟩)/\y.cell? ⟨q0,a*4+3,none⟩=some (.int .u64 ((xa.on<<<S.C.ahead:Nat):Int))) y from fun y hb=>⟨HU.o.below hb,hat.below hb,Zac k13 hb,Zac e0 hb,Zac e1 hb,Zac e2 hb,Zac e3 hb,Zac e4 hb,Zac e5 hb,Zac c3 hb⟩);have hi1:(0:Int)<=(a:Int):=ω;have hi2:(a:Int)<(r.regs.length:Int):=ω;have hi3:(0:Int)<=(b:Int):=ω;have hi4:(b:Int)<(r.regs.length:Int):=ω;clear hat hvr HR hR
 go_wp2_with fail
 refine wz (fun y:World=>Zbz w y B w.heap.size (w.heap.size+1+1) S r false V/\(Zdj S.C.ahead).At y (some ⟨q0,0,none⟩) r.regs/\y.cell? ⟨w.heap.size,13,none⟩=some (.slice (some ⟨q0,0,none⟩) r.regs.length cp)/\y.cell? ⟨w.heap.size+1,0,none⟩=some (.int .i64 3)/\y.cell? ⟨w.heap.size+1,1,none⟩=some (.int .i64 (d:Int))/\y.cell? ⟨w.heap.size+1,2,none⟩=some (.int .i64 (a:Int))/\y.cell? ⟨w.heap.size+1,3,none⟩=some (.int .i64 (b:Int))/\y.cell? ⟨w.heap.size+1,4,none⟩=some (.int .i64 imm)/\y.cell? ⟨w.heap.size+1,5,none⟩=some (.string ⟨loc.toArray⟩)/\y.cell? ⟨q0,a*4+3,none⟩=some (.int .u64 ((xa.on<<<S.C.ahead:Nat):Int))) [0,3,5,6,8] (HSS.o _ (Below.refl _ _).drew) (fun hHeld=>?_);refine wq 1 ?_;refine wq 2 ?_;refine wq 4 ?_;refine wq 7 ?_;refine wv 0 ((rrV S r false V)) rfl (fun x' hS=>Zaz rfl rfl (Zez hS.1.blk)) (by assumption) ?_;refine wv 3 ((Zwk S V)) rfl (fun x' hS=>Zaz rfl rfl (Zkp hS.1.blk)) (by assumption) ?_;refine wt 5 (by assumption) ?_;refine wt 8 (by assumption) ?_;refine Zar (i:=6) κ rfl (fun K hK=>?_);go_simp
 go_at_call 21
 refine (Zkl ⟨S.lo,S.ini,V.ev,V.br,V.ad,V.da,V.ct,S.th,S.en⟩ S.C.locs loc _ (hHeld.1.ref.loAt).1 (hHeld.1.ref.loAt).2 hS.few hloc).mono ?_;rintro e wp ⟨rfl,hbp⟩;have hS2:=HSS.o wp (Zag hbp);refine hK.out _ _ hS2 ?_;clear hK K;refine pu ?_;refine wl 9 ?_
 repeat (first | (go_at_call 124;refine Hid.o ?_) | go_step)
 refine Zh ?_;refine (HW.o V wp hS2.1.ref).mono ?_;rintro e w1 ⟨r1,fl1,V1,rfl,hr1,hk1,hg1⟩;dsimp only;obtain⟨z,hz,hzs⟩:=hS2.1.out1 hk1
 repeat (first | ((with_reducible refine Zas ?_);refine Zap 83 6 49 (w.heap.size+1+1) rfl rfl rfl hz (by exact hzs) κ (Zbg _ _ _ _) rfl rfl ?_) | go_step)
 refine Zbt 83 6 (w.heap.size+1+1) rfl (hz.row _) Tryz.underlying83 rfl κ rfl rfl ?_;exact Zbn.of (hS2.1.ret1 hr1 hk1) hg1
theorem Z3o (B:Nat)(S:RrS)(_hS:Zeo S)(hrisc:S.C.risc=decide (S.T.arch=2))(r:Rn)(V:RrV)(nr k:Nat)(hI:Inv S.C nr k r)(hnr:nr<=32)(_hfl:r.full=false)(pl:Nat)(d a b:Nat)(hd:d<nr)(xa xb:Rg)(hxa:r.regs[a]?=some xa)(hxb:r.regs[b]?=some xb)(imm:Int)(loc label:List UInt8)(fence:Int)(w:World)(hR:Za7 w B S r V):Calls Tryz.prog 76 #[rrV S r false V,.int .i64 (pl:Int),.agg #[.int .i64 4,.int .i64 (d:Int),.int .i64 (a:Int),.int .i64 (b:Int),.int .i64 imm,.string ⟨loc.toArray⟩,.string ⟨label.toArray⟩,.int .i64 fence]] w (Zbn B S (some (Zfz S.C r (d:Int) ⟨.num imm,0⟩)) w):=by
 have HW:=Zh (fun V w h=>(Z4a B S hrisc r V d ⟨.num imm,0⟩ w h (by rw [hI.rlen];exact hd) (by rw [hI.rlen];exact hnr)).mono fun e w' p=>(p.st rfl:Zbn B S (some (Zfz S.C r (d:Int) ⟨.num imm,0⟩)) w e w'));simp only [Za2,Zax,Zb6,Zb5,Nat.zero_shiftLeft] at HW;have HR:=Zh hR;have hal:=(List.getElem?_eq_some_iff.1 hxa).1;have hbl:=(List.getElem?_eq_some_iff.1 hxb).1;obtain⟨c,hc⟩:∃ c,c=rrC S r false V:=⟨_,rfl⟩;rw [show rrV S r false V=.agg c by rw [hc]];have HC:=Zh hc;clear hc;go_enter Tryz.func76,Tryz.ntmps76;apply wp_seq_k;intro K hK;have HK:=Zh hK;clear hK
 go_wp2_with fail
 refine Zhf (P:=fun X=>K _ X) w _ _ _ _ _ _ ?_;intro W b0 b1 b2 hz hbW;refine HK.o _ _ ?_;clear HK K;rw [HC.o] at b0;have HU:Hid (Zbz w W B w.heap.size (w.heap.size+1+1) S r false V):=Zh ⟨HR.o.below hbW,Zba.of_below hbW HR.o.hB,HR.o.hB,b0,⟨_,b2,rfl⟩,Nat.le_refl _,ω,ω⟩;have HE:=Zh b1;have hzW:w.heap.size<W.heap.size:=ω;clear b0 b1 b2 hbW hz HC;obtain⟨q0,cp,hvr,hat⟩:=HU.o.ref.rgAt (show 0<r.regs.length by omega);have k13:W.cell? ⟨w.heap.size,13,none⟩=some (.slice (some ⟨q0,0,none⟩) r.regs.length cp):=by rw [<- hvr];exact HU.o.blk.cell 13
 have e0:=HE.o.k0;have e1:=HE.o.k1;have e2:=HE.o.k2;have e3:=HE.o.k3;have e4:=HE.o.k4;have e5:=HE.o.k5;have c3:W.cell? ⟨q0,a*4+3,none⟩=some (.int .u64 ((xa.on<<<S.C.ahead:Nat):Int)):=by
  obtain⟨p,o,e,hc⟩:=hat a xa hxa;simp only [Option.some.injEq,Addr.mk.injEq,and_true] at e;obtain⟨rfl,rfl⟩:=e;have:=hc 3 _ rfl
  rwa [Nat.zero_add] at this
 have HSS:=Zh (show ∀ y,Below W.heap.size W y->(fun y:World=>Zbz w y B w.heap.size (w.heap.size+1+1) S r false V/\(Zdj S.C.ahead).At y (some ⟨q0,0,none⟩) r.regs/\y.cell? ⟨w.heap.size,13,none⟩=some (.slice (some ⟨q0,0,none⟩) r.regs.length cp)/\y.cell? ⟨w.heap.size+1,0,none⟩=some (.int .i64 4)/\y.cell? ⟨w.heap.size+1,1,none⟩=some (.int .i64 (d:Int))/\y.cell? ⟨w.heap.size+1,2,none⟩=some (.int .i64 (a:Int))/\y.cell? ⟨w.heap.size+1,3,none⟩=some (.int .i64 (b:Int))/\y.cell? ⟨w.heap.size+1,4,none⟩=some (.int .i64 imm)/\y.cell? ⟨w.heap.size+1,5,none⟩=some (.string ⟨loc.toArray⟩)/\y.cell? ⟨q0,a*4+3,none⟩=some (.int .u64 ((xa.on<<<S.C.ahead:Nat):Int))) y from fun y hb=>⟨HU.o.below hb,hat.below hb,Zac k13 hb,Zac e0 hb,Zac e1 hb,Zac e2 hb,Zac e3 hb,Zac e4 hb,Zac e5 hb,Zac c3 hb⟩);have hi1:(0:Int)<=(a:Int):=ω;have hi2:(a:Int)<(r.regs.length:Int):=ω;have hi3:(0:Int)<=(b:Int):=ω;have hi4:(b:Int)<(r.regs.length:Int):=ω;clear hat hvr HR hR
 repeat (first | ((with_reducible refine Zas ?_);refine Zaw 83 3 w.heap.size rfl rfl HU.o.blk Tryz.underlying83 rfl κ rfl ?_) | (go_at_call 125;refine Hid.o ?_) | go_step)
 refine Zh ?_;refine (HW.o V W HU.o.ref).mono ?_;rintro e w1 ⟨r1,fl1,V1,rfl,hr1,hk1,hg1⟩;dsimp only;obtain⟨z,hz,hzs⟩:=HU.o.out1 hk1
 repeat (first | ((with_reducible refine Zas ?_);refine Zap 83 6 58 (w.heap.size+1+1) rfl rfl rfl hz (by exact hzs) κ (Zbg _ _ _ _) rfl rfl ?_) | go_step)
 refine Zbt 83 6 (w.heap.size+1+1) rfl (hz.row _) Tryz.underlying83 rfl κ rfl rfl ?_;exact Zbn.of (HU.o.ret1 hr1 hk1) hg1
theorem Z0a (B:Nat)(S:RrS)(_hS:Zeo S)(_hrisc:S.C.risc=decide (S.T.arch=2))(r:Rn)(V:RrV)(nr k:Nat)(_hI:Inv S.C nr k r)(_hnr:nr<=32)(_hfl:r.full=false)(pl:Nat)(d a b:Nat)(_hd:d<nr)(xa xb:Rg)(hxa:r.regs[a]?=some xa)(hxb:r.regs[b]?=some xb)(imm:Int)(loc label:List UInt8)(fence:Int)(w:World)(hR:Za7 w B S r V):Calls Tryz.prog 76 #[rrV S r false V,.int .i64 (pl:Int),.agg #[.int .i64 12,.int .i64 (d:Int),.int .i64 (a:Int),.int .i64 (b:Int),.int .i64 imm,.string ⟨loc.toArray⟩,.string ⟨label.toArray⟩,.int .i64 fence]] w (Ze4 B S r false w):=by
 have HR:=Zh hR;have hal:=(List.getElem?_eq_some_iff.1 hxa).1;have hbl:=(List.getElem?_eq_some_iff.1 hxb).1;obtain⟨c,hc⟩:∃ c,c=rrC S r false V:=⟨_,rfl⟩;rw [show rrV S r false V=.agg c by rw [hc]];have HC:=Zh hc;clear hc;go_enter Tryz.func76,Tryz.ntmps76;apply wp_seq_k;intro K hK;have HK:=Zh hK;clear hK
 go_wp2_with fail
 refine Zhf (P:=fun X=>K _ X) w _ _ _ _ _ _ ?_;intro W b0 b1 b2 hz hbW;refine HK.o _ _ ?_;clear HK K;rw [HC.o] at b0;have HU:Hid (Zbz w W B w.heap.size (w.heap.size+1+1) S r false V):=Zh ⟨HR.o.below hbW,Zba.of_below hbW HR.o.hB,HR.o.hB,b0,⟨_,b2,rfl⟩,Nat.le_refl _,ω,ω⟩;have HE:=Zh b1;have hzW:w.heap.size<W.heap.size:=ω;clear b0 b1 b2 hbW hz HC;obtain⟨q0,cp,hvr,hat⟩:=HU.o.ref.rgAt (show 0<r.regs.length by omega);have k13:W.cell? ⟨w.heap.size,13,none⟩=some (.slice (some ⟨q0,0,none⟩) r.regs.length cp):=by rw [<- hvr];exact HU.o.blk.cell 13
 have e0:=HE.o.k0;have e1:=HE.o.k1;have e2:=HE.o.k2;have e3:=HE.o.k3;have e4:=HE.o.k4;have e5:=HE.o.k5;have c3:W.cell? ⟨q0,a*4+3,none⟩=some (.int .u64 ((xa.on<<<S.C.ahead:Nat):Int)):=by
  obtain⟨p,o,e,hc⟩:=hat a xa hxa;simp only [Option.some.injEq,Addr.mk.injEq,and_true] at e;obtain⟨rfl,rfl⟩:=e;have:=hc 3 _ rfl
  rwa [Nat.zero_add] at this
 have HSS:=Zh (show ∀ y,Below W.heap.size W y->(fun y:World=>Zbz w y B w.heap.size (w.heap.size+1+1) S r false V/\(Zdj S.C.ahead).At y (some ⟨q0,0,none⟩) r.regs/\y.cell? ⟨w.heap.size,13,none⟩=some (.slice (some ⟨q0,0,none⟩) r.regs.length cp)/\y.cell? ⟨w.heap.size+1,0,none⟩=some (.int .i64 12)/\y.cell? ⟨w.heap.size+1,1,none⟩=some (.int .i64 (d:Int))/\y.cell? ⟨w.heap.size+1,2,none⟩=some (.int .i64 (a:Int))/\y.cell? ⟨w.heap.size+1,3,none⟩=some (.int .i64 (b:Int))/\y.cell? ⟨w.heap.size+1,4,none⟩=some (.int .i64 imm)/\y.cell? ⟨w.heap.size+1,5,none⟩=some (.string ⟨loc.toArray⟩)/\y.cell? ⟨q0,a*4+3,none⟩=some (.int .u64 ((xa.on<<<S.C.ahead:Nat):Int))) y from fun y hb=>⟨HU.o.below hb,hat.below hb,Zac k13 hb,Zac e0 hb,Zac e1 hb,Zac e2 hb,Zac e3 hb,Zac e4 hb,Zac e5 hb,Zac c3 hb⟩);have hi1:(0:Int)<=(a:Int):=ω;have hi2:(a:Int)<(r.regs.length:Int):=ω;have hi3:(0:Int)<=(b:Int):=ω;have hi4:(b:Int)<(r.regs.length:Int):=ω;clear hat hvr HR hR
 repeat (first | ((with_reducible refine Zfw ?_);refine Zcg Tryz.f76 3 6 211 rfl rfl rfl rfl rfl rfl rfl HU.o rfl rfl (by decide) (of_decide_eq_true rfl) rfl (fun _ _ h=>h)) | go_step)
theorem Z3p (B:Nat)(S:RrS)(hS:Zeo S)(_hrisc:S.C.risc=decide (S.T.arch=2))(r:Rn)(V:RrV)(nr k:Nat)(hI:Inv S.C nr k r)(_hnr:nr<=32)(_hfl:r.full=false)(pl:Nat)(d a b:Nat)(_hd:d<nr)(xa xb:Rg)(hxa:r.regs[a]?=some xa)(hxb:r.regs[b]?=some xb)(imm:Int)(loc label:List UInt8)(fence:Int)(w:World)(hR:Za7 w B S r V)(hk:k<=256):Calls Tryz.prog 76 #[rrV S r false V,.int .i64 (pl:Int),.agg #[.int .i64 5,.int .i64 (d:Int),.int .i64 (a:Int),.int .i64 (b:Int),.int .i64 imm,.string ⟨loc.toArray⟩,.string ⟨label.toArray⟩,.int .i64 fence]] w (Ze4 B S (Zx0 S.C r pl 1) false w):=by
 have HR:=Zh hR;have hal:=(List.getElem?_eq_some_iff.1 hxa).1;have hbl:=(List.getElem?_eq_some_iff.1 hxb).1;obtain⟨c,hc⟩:∃ c,c=rrC S r false V:=⟨_,rfl⟩;rw [show rrV S r false V=.agg c by rw [hc]];have HC:=Zh hc;clear hc;go_enter Tryz.func76,Tryz.ntmps76;apply wp_seq_k;intro K hK;have HK:=Zh hK;clear hK
 go_wp2_with fail
 refine Zhf (P:=fun X=>K _ X) w _ _ _ _ _ _ ?_;intro W b0 b1 b2 hz hbW;refine HK.o _ _ ?_;clear HK K;rw [HC.o] at b0;have HU:Hid (Zbz w W B w.heap.size (w.heap.size+1+1) S r false V):=Zh ⟨HR.o.below hbW,Zba.of_below hbW HR.o.hB,HR.o.hB,b0,⟨_,b2,rfl⟩,Nat.le_refl _,ω,ω⟩;have HE:=Zh b1;have hzW:w.heap.size<W.heap.size:=ω;clear b0 b1 b2 hbW hz HC;obtain⟨q0,cp,hvr,hat⟩:=HU.o.ref.rgAt (show 0<r.regs.length by omega);have k13:W.cell? ⟨w.heap.size,13,none⟩=some (.slice (some ⟨q0,0,none⟩) r.regs.length cp):=by rw [<- hvr];exact HU.o.blk.cell 13
 obtain⟨e0,e1,e2,e3,e4,e5⟩:=HE.o.c6;have c3:W.cell? ⟨q0,a*4+3,none⟩=some (.int .u64 ((xa.on<<<S.C.ahead:Nat):Int)):=by
  obtain⟨p,o,e,hc⟩:=hat a xa hxa;simp only [Option.some.injEq,Addr.mk.injEq,and_true] at e;obtain⟨rfl,rfl⟩:=e;have:=hc 3 _ rfl
  rwa [Nat.zero_add] at this
 have HSS:=Zh (show ∀ y,Below W.heap.size W y->(fun y:World=>Zbz w y B w.heap.size (w.heap.size+1+1) S r false V/\(Zdj S.C.ahead).At y (some ⟨q0,0,none⟩) r.regs/\y.cell? ⟨w.heap.size,13,none⟩=some (.slice (some ⟨q0,0,none⟩) r.regs.length cp)/\y.cell? ⟨w.heap.size+1,0,none⟩=some (.int .i64 5)/\y.cell? ⟨w.heap.size+1,1,none⟩=some (.int .i64 (d:Int))/\y.cell? ⟨w.heap.size+1,2,none⟩=some (.int .i64 (a:Int))/\y.cell? ⟨w.heap.size+1,3,none⟩=some (.int .i64 (b:Int))/\y.cell? ⟨w.heap.size+1,4,none⟩=some (.int .i64 imm)/\y.cell? ⟨w.heap.size+1,5,none⟩=some (.string ⟨loc.toArray⟩)/\y.cell? ⟨q0,a*4+3,none⟩=some (.int .u64 ((xa.on<<<S.C.ahead:Nat):Int))) y from fun y hb=>⟨HU.o.below hb,hat.below hb,Zac k13 hb,Zac e0 hb,Zac e1 hb,Zac e2 hb,Zac e3 hb,Zac e4 hb,Zac e5 hb,Zac c3 hb⟩);have hi1:(0:Int)<=(a:Int):=ω;have hi2:(a:Int)<(r.regs.length:Int):=ω;have hi3:(0:Int)<=(b:Int):=ω;have hi4:(b:Int)<(r.regs.length:Int):=ω;clear hat hvr HR hR
 skip
 have k12:=HU.o.blk.cm 12;have k18:W.cell? ⟨w.heap.size,18,none⟩=some V.br.v:=HU.o.blk.cell 18;have HBL:=Zh (show (S.a.bars++r.bars).length<=1000000 by have:=hS.l4;have:=hI.bars;rw [List.length_append];omega)
 go_wp2_with (at_builtin;refine Hid.o ?_)
 have HA:=Zh (Zue W (S.C.th:Int) (pl:Int) 1);have HV:=Zh (HU.o.below (Zad W (.cells #[.int .i64 (S.C.th:Int),.int .i64 (pl:Int),.int .i64 1] 123 (0,0))));refine Zh ?_;refine Enc.appW Zu5 _ rfl (.tmp 63) (.tmp 68) rfl [⟨(S.C.th:Int),(pl:Int),1⟩] B (S.a.bars++r.bars) V.br.v W.heap.size 0 1 rfl rfl HA.o HV.o.ref.br (by have:=HBL.o;simp only [List.length_singleton];omega) (by have:=HBL.o;simp only [List.length_singleton];omega) HV.o.ref.hB ?_;intro v' w4 ho4 hg4;obtain⟨s4,rfl,hs4⟩:=Zd7 ho4;clear hs4;rw [List.append_assoc] at ho4;have hb4:=Zat HV.o.blk HV.o.ref.br (by decide) hg4;have HU:=Zh (HV.o.br hg4 ho4);have k18:w4.cell? ⟨w.heap.size,18,none⟩=some V.br.v:=hb4.cell 18;have f18:=hb4.frozen 18
 repeat (first | ((with_reducible refine Zfw ?_);refine Zcg Tryz.f76 3 6 211 rfl rfl rfl rfl rfl rfl rfl HU.o rfl rfl (by decide) (of_decide_eq_true rfl) rfl (fun _ _ h=>h)) | go_step)
theorem Z0b (B:Nat)(S:RrS)(hS:Zeo S)(_hrisc:S.C.risc=decide (S.T.arch=2))(r:Rn)(V:RrV)(nr k:Nat)(hI:Inv S.C nr k r)(_hnr:nr<=32)(_hfl:r.full=false)(pl:Nat)(d a b:Nat)(_hd:d<nr)(xa xb:Rg)(hxa:r.regs[a]?=some xa)(hxb:r.regs[b]?=some xb)(imm:Int)(loc label:List UInt8)(fence:Int)(w:World)(hR:Za7 w B S r V)(hk:k<=256):Calls Tryz.prog 76 #[rrV S r false V,.int .i64 (pl:Int),.agg #[.int .i64 13,.int .i64 (d:Int),.int .i64 (a:Int),.int .i64 (b:Int),.int .i64 imm,.string ⟨loc.toArray⟩,.string ⟨label.toArray⟩,.int .i64 fence]] w (Ze4 B S (Zx0 S.C r pl fence) false w):=by
 have HR:=Zh hR;have hal:=(List.getElem?_eq_some_iff.1 hxa).1;have hbl:=(List.getElem?_eq_some_iff.1 hxb).1;obtain⟨c,hc⟩:∃ c,c=rrC S r false V:=⟨_,rfl⟩;rw [show rrV S r false V=.agg c by rw [hc]];have HC:=Zh hc;clear hc;go_enter Tryz.func76,Tryz.ntmps76;apply wp_seq_k;intro K hK;have HK:=Zh hK;clear hK
 go_wp2_with fail
 refine Zhf (P:=fun X=>K _ X) w _ _ _ _ _ _ ?_;intro W b0 b1 b2 hz hbW;refine HK.o _ _ ?_;clear HK K;rw [HC.o] at b0;have HU:Hid (Zbz w W B w.heap.size (w.heap.size+1+1) S r false V):=Zh ⟨HR.o.below hbW,Zba.of_below hbW HR.o.hB,HR.o.hB,b0,⟨_,b2,rfl⟩,Nat.le_refl _,ω,ω⟩;have HE:=Zh b1;have hzW:w.heap.size<W.heap.size:=ω;clear b0 b1 b2 hbW hz HC;obtain⟨q0,cp,hvr,hat⟩:=HU.o.ref.rgAt (show 0<r.regs.length by omega);have k13:W.cell? ⟨w.heap.size,13,none⟩=some (.slice (some ⟨q0,0,none⟩) r.regs.length cp):=by rw [<- hvr];exact HU.o.blk.cell 13
 obtain⟨e0,e1,e2,e3,e4,e5⟩:=HE.o.c6;have c3:W.cell? ⟨q0,a*4+3,none⟩=some (.int .u64 ((xa.on<<<S.C.ahead:Nat):Int)):=by
  obtain⟨p,o,e,hc⟩:=hat a xa hxa;simp only [Option.some.injEq,Addr.mk.injEq,and_true] at e;obtain⟨rfl,rfl⟩:=e;have:=hc 3 _ rfl
  rwa [Nat.zero_add] at this
 have HSS:=Zh (show ∀ y,Below W.heap.size W y->(fun y:World=>Zbz w y B w.heap.size (w.heap.size+1+1) S r false V/\(Zdj S.C.ahead).At y (some ⟨q0,0,none⟩) r.regs/\y.cell? ⟨w.heap.size,13,none⟩=some (.slice (some ⟨q0,0,none⟩) r.regs.length cp)/\y.cell? ⟨w.heap.size+1,0,none⟩=some (.int .i64 13)/\y.cell? ⟨w.heap.size+1,1,none⟩=some (.int .i64 (d:Int))/\y.cell? ⟨w.heap.size+1,2,none⟩=some (.int .i64 (a:Int))/\y.cell? ⟨w.heap.size+1,3,none⟩=some (.int .i64 (b:Int))/\y.cell? ⟨w.heap.size+1,4,none⟩=some (.int .i64 imm)/\y.cell? ⟨w.heap.size+1,5,none⟩=some (.string ⟨loc.toArray⟩)/\y.cell? ⟨q0,a*4+3,none⟩=some (.int .u64 ((xa.on<<<S.C.ahead:Nat):Int))) y from fun y hb=>⟨HU.o.below hb,hat.below hb,Zac k13 hb,Zac e0 hb,Zac e1 hb,Zac e2 hb,Zac e3 hb,Zac e4 hb,Zac e5 hb,Zac c3 hb⟩);have hi1:(0:Int)<=(a:Int):=ω;have hi2:(a:Int)<(r.regs.length:Int):=ω;have hi3:(0:Int)<=(b:Int):=ω;have hi4:(b:Int)<(r.regs.length:Int):=ω;clear hat hvr HR hR
 (have e7:W.cell? ⟨w.heap.size+1,7,none⟩=some (.int .i64 fence):=HE.o.cell 7)
 have k12:=HU.o.blk.cm 12;have k18:W.cell? ⟨w.heap.size,18,none⟩=some V.br.v:=HU.o.blk.cell 18;have HBL:=Zh (show (S.a.bars++r.bars).length<=1000000 by have:=hS.l4;have:=hI.bars;rw [List.length_append];omega)
 go_wp2_with (at_builtin;refine Hid.o ?_)
 have HA:=Zh (Zue W (S.C.th:Int) (pl:Int) fence);have HV:=Zh (HU.o.below (Zad W (.cells #[.int .i64 (S.C.th:Int),.int .i64 (pl:Int),.int .i64 fence] 123 (0,0))));refine Zh ?_;refine Enc.appW Zu5 _ rfl (.tmp 76) (.tmp 83) rfl [⟨(S.C.th:Int),(pl:Int),fence⟩] B (S.a.bars++r.bars) V.br.v W.heap.size 0 1 rfl rfl HA.o HV.o.ref.br (by have:=HBL.o;simp only [List.length_singleton];omega) (by have:=HBL.o;simp only [List.length_singleton];omega) HV.o.ref.hB ?_;intro v' w4 ho4 hg4;obtain⟨s4,rfl,hs4⟩:=Zd7 ho4;clear hs4;rw [List.append_assoc] at ho4;have hb4:=Zat HV.o.blk HV.o.ref.br (by decide) hg4;have HU:=Zh (HV.o.br hg4 ho4);have k18:w4.cell? ⟨w.heap.size,18,none⟩=some V.br.v:=hb4.cell 18;have f18:=hb4.frozen 18
 repeat (first | ((with_reducible refine Zfw ?_);refine Zcg Tryz.f76 3 6 211 rfl rfl rfl rfl rfl rfl rfl HU.o rfl rfl (by decide) (of_decide_eq_true rfl) rfl (fun _ _ h=>h)) | go_step)
end
section
set_option maxHeartbeats 4000000
set_option maxRecDepth 100000
theorem Z3r (B:Nat)(S:RrS)(_hS:Zeo S)(hrisc:S.C.risc=decide (S.T.arch=2))(r:Rn)(V:RrV)(nr k:Nat)(hI:Inv S.C nr k r)(hnr:nr<=32)(_hfl:r.full=false)(pl:Nat)(d a b:Nat)(hd:d<nr)(xa xb:Rg)(hxa:r.regs[a]?=some xa)(hxb:r.regs[b]?=some xb)(imm:Int)(loc label:List UInt8)(fence:Int)(w:World)(hR:Za7 w B S r V)(hok:Zil S.C r.evs xa)(himm:Zc7 imm)(hlt:xa.on<<<S.C.ahead<18446744073709551616):Calls Tryz.prog 76 #[rrV S r false V,.int .i64 (pl:Int),.agg #[.int .i64 8,.int .i64 (d:Int),.int .i64 (a:Int),.int .i64 (b:Int),.int .i64 imm,.string ⟨loc.toArray⟩,.string ⟨label.toArray⟩,.int .i64 fence]] w (Zbn B S (some (Zfz S.C r (d:Int) ⟨Zcw 8 xa.h (.num imm),xa.on⟩)) w):=by
 have HW:=Zh (fun V w h=>(Z4a B S hrisc r V d ⟨Zcw 8 xa.h (.num imm),xa.on⟩ w h (by rw [hI.rlen];exact hd) (by rw [hI.rlen];exact hnr)).mono fun e w' p=>(p.st rfl:Zbn B S (some (Zfz S.C r (d:Int) ⟨Zcw 8 xa.h (.num imm),xa.on⟩)) w e w'));have HMX:=Zh (fun w=>Zv5 S.C.ahead 8 (Or.inl rfl) xa ⟨.num imm,0⟩ hok.1.num himm w hlt (by simp));simp only [Za2,Zax,Zb6,Zb5,Nat.zero_shiftLeft,Nat.or_zero] at HMX;have HR:=Zh hR;have hal:=(List.getElem?_eq_some_iff.1 hxa).1;have hbl:=(List.getElem?_eq_some_iff.1 hxb).1;obtain⟨c,hc⟩:∃ c,c=rrC S r false V:=⟨_,rfl⟩;rw [show rrV S r false V=.agg c by rw [hc]];have HC:=Zh hc;clear hc;go_enter Tryz.func76,Tryz.ntmps76;apply wp_seq_k;intro K hK;have HK:=Zh hK;clear hK
 go_wp2_with fail
 refine Zhf (P:=fun X=>K _ X) w _ _ _ _ _ _ ?_;intro W b0 b1 b2 hz hbW;refine HK.o _ _ ?_;clear HK K;rw [HC.o] at b0;have HU:Hid (Zbz w W B w.heap.size (w.heap.size+1+1) S r false V):=Zh ⟨HR.o.below hbW,Zba.of_below hbW HR.o.hB,HR.o.hB,b0,⟨_,b2,rfl⟩,Nat.le_refl _,ω,ω⟩;have HE:=Zh b1;have hzW:w.heap.size<W.heap.size:=ω;clear b0 b1 b2 hbW hz HC;obtain⟨q0,cp,hvr,hat⟩:=HU.o.ref.rgAt (show 0<r.regs.length by omega);have k13:W.cell? ⟨w.heap.size,13,none⟩=some (.slice (some ⟨q0,0,none⟩) r.regs.length cp):=by rw [<- hvr];exact HU.o.blk.cell 13
 have e0:=HE.o.k0;have e1:=HE.o.k1;have e2:=HE.o.k2;have e3:=HE.o.k3;have e4:=HE.o.k4;have e5:=HE.o.k5;have c3:W.cell? ⟨q0,a*4+3,none⟩=some (.int .u64 ((xa.on<<<S.C.ahead:Nat):Int)):=by
  obtain⟨p,o,e,hc⟩:=hat a xa hxa;simp only [Option.some.injEq,Addr.mk.injEq,and_true] at e;obtain⟨rfl,rfl⟩:=e;have:=hc 3 _ rfl
  rwa [Nat.zero_add] at this
 have HSS:=Zh (show ∀ y,Below W.heap.size W y->(fun y:World=>Zbz w y B w.heap.size (w.heap.size+1+1) S r false V/\(Zdj S.C.ahead).At y (some ⟨q0,0,none⟩) r.regs/\y.cell? ⟨w.heap.size,13,none⟩=some (.slice (some ⟨q0,0,none⟩) r.regs.length cp)/\y.cell? ⟨w.heap.size+1,0,none⟩=some (.int .i64 8)/\y.cell? ⟨w.heap.size+1,1,none⟩=some (.int .i64 (d:Int))/\y.cell? ⟨w.heap.size+1,2,none⟩=some (.int .i64 (a:Int))/\y.cell? ⟨w.heap.size+1,3,none⟩=some (.int .i64 (b:Int))/\y.cell? ⟨w.heap.size+1,4,none⟩=some (.int .i64 imm)/\y.cell? ⟨w.heap.size+1,5,none⟩=some (.string ⟨loc.toArray⟩)/\y.cell? ⟨q0,a*4+3,none⟩=some (.int .u64 ((xa.on<<<S.C.ahead:Nat):Int))) y from fun y hb=>⟨HU.o.below hb,hat.below hb,Zac k13 hb,Zac e0 hb,Zac e1 hb,Zac e2 hb,Zac e3 hb,Zac e4 hb,Zac e5 hb,Zac c3 hb⟩);have hi1:(0:Int)<=(a:Int):=ω;have hi2:(a:Int)<(r.regs.length:Int):=ω;have hi3:(0:Int)<=(b:Int):=ω;have hi4:(b:Int)<(r.regs.length:Int):=ω;clear hat hvr HR hR
 go_wp2_with fail
 refine wz (fun y:World=>Zbz w y B w.heap.size (w.heap.size+1+1) S r false V/\(Zdj S.C.ahead).At y (some ⟨q0,0,none⟩) r.regs/\y.cell? ⟨w.heap.size,13,none⟩=some (.slice (some ⟨q0,0,none⟩) r.regs.length cp)/\y.cell? ⟨w.heap.size+1,0,none⟩=some (.int .i64 8)/\y.cell? ⟨w.heap.size+1,1,none⟩=some (.int .i64 (d:Int))/\y.cell? ⟨w.heap.size+1,2,none⟩=some (.int .i64 (a:Int))/\y.cell? ⟨w.heap.size+1,3,none⟩=some (.int .i64 (b:Int))/\y.cell? ⟨w.heap.size+1,4,none⟩=some (.int .i64 imm)/\y.cell? ⟨w.heap.size+1,5,none⟩=some (.string ⟨loc.toArray⟩)/\y.cell? ⟨q0,a*4+3,none⟩=some (.int .u64 ((xa.on<<<S.C.ahead:Nat):Int))) [0,2,4,6,8,9,10,12,13,14] (HSS.o _ (Below.refl _ _).drew) (fun hHeld=>?_);refine wq 1 ?_;refine wq 3 ?_;refine wq 5 ?_;refine wq 7 ?_;refine wq 11 ?_;refine wv 0 ((rrV S r false V)) rfl (fun x' hS=>Zaz rfl rfl (Zez hS.1.blk)) (by assumption) ?_;refine wt 2 (by assumption) ?_;refine wt 4 (by assumption) ?_;refine wt 6 (by assumption) ?_;refine wt 8 (by assumption) ?_;refine wt 9 (by assumption) ?_;refine wv 10 ((Za2 S.C.ahead xa)) rfl (fun x' hS=>Zaz rfl rfl (Zdt hS.2.1 hxa)) (by assumption) ?_;refine wt 12 (by assumption) ?_;refine wt 13 (by assumption) ?_;refine Zar (i:=14) κ rfl (fun K hK=>?_);go_simp
 go_at_call 127
 refine (HMX.o _).mono ?_;rintro e wp ⟨rfl,hbp⟩;have hS2:=HSS.o wp (Zag hbp);refine hK.out _ _ hS2 ?_;clear hK K;refine pu ?_;refine wl 15 ?_
 repeat (first | (go_at_call 125;refine Hid.o ?_) | go_step)
 refine Zh ?_;refine (HW.o V wp hS2.1.ref).mono ?_;rintro e w1 ⟨r1,fl1,V1,rfl,hr1,hk1,hg1⟩;dsimp only;obtain⟨z,hz,hzs⟩:=hS2.1.out1 hk1
 repeat (first | ((with_reducible refine Zas ?_);refine Zap 83 6 151 (w.heap.size+1+1) rfl rfl rfl hz (by exact hzs) κ (Zbg _ _ _ _) rfl rfl ?_) | go_step)
 refine Zbt 83 6 (w.heap.size+1+1) rfl (hz.row _) Tryz.underlying83 rfl κ rfl rfl ?_;exact Zbn.of (hS2.1.ret1 hr1 hk1) hg1
theorem Z0d (B:Nat)(S:RrS)(_hS:Zeo S)(hrisc:S.C.risc=decide (S.T.arch=2))(r:Rn)(V:RrV)(nr k:Nat)(hI:Inv S.C nr k r)(hnr:nr<=32)(_hfl:r.full=false)(pl:Nat)(d a b:Nat)(hd:d<nr)(xa xb:Rg)(hxa:r.regs[a]?=some xa)(hxb:r.regs[b]?=some xb)(imm:Int)(loc label:List UInt8)(fence:Int)(w:World)(hR:Za7 w B S r V)(hab:a=b):Calls Tryz.prog 76 #[rrV S r false V,.int .i64 (pl:Int),.agg #[.int .i64 9,.int .i64 (d:Int),.int .i64 (a:Int),.int .i64 (b:Int),.int .i64 imm,.string ⟨loc.toArray⟩,.string ⟨label.toArray⟩,.int .i64 fence]] w (Zbn B S (some (Zfz S.C r (d:Int) ⟨.num 0,xa.on⟩)) w):=by
 have HW:=Zh (fun V w h=>(Z4a B S hrisc r V d ⟨.num 0,xa.on⟩ w h (by rw [hI.rlen];exact hd) (by rw [hI.rlen];exact hnr)).mono fun e w' p=>(p.st rfl:Zbn B S (some (Zfz S.C r (d:Int) ⟨.num 0,xa.on⟩)) w e w'));simp only [Za2,Zax,Zb6,Zb5] at HW;have hab2:decide ((a:Int)=(b:Int))=true:=by simp [hab]
 have hab3:((a:Int) == (b:Int))=true:=by simp [hab]
 clear hab;have HR:=Zh hR;have hal:=(List.getElem?_eq_some_iff.1 hxa).1;have hbl:=(List.getElem?_eq_some_iff.1 hxb).1;obtain⟨c,hc⟩:∃ c,c=rrC S r false V:=⟨_,rfl⟩;rw [show rrV S r false V=.agg c by rw [hc]];have HC:=Zh hc;clear hc;go_enter Tryz.func76,Tryz.ntmps76;apply wp_seq_k;intro K hK;have HK:=Zh hK;clear hK
 go_wp2_with fail
 refine Zhf (P:=fun X=>K _ X) w _ _ _ _ _ _ ?_;intro W b0 b1 b2 hz hbW;refine HK.o _ _ ?_;clear HK K;rw [HC.o] at b0;have HU:Hid (Zbz w W B w.heap.size (w.heap.size+1+1) S r false V):=Zh ⟨HR.o.below hbW,Zba.of_below hbW HR.o.hB,HR.o.hB,b0,⟨_,b2,rfl⟩,Nat.le_refl _,ω,ω⟩;have HE:=Zh b1;have hzW:w.heap.size<W.heap.size:=ω;clear b0 b1 b2 hbW hz HC;obtain⟨q0,cp,hvr,hat⟩:=HU.o.ref.rgAt (show 0<r.regs.length by omega);have k13:W.cell? ⟨w.heap.size,13,none⟩=some (.slice (some ⟨q0,0,none⟩) r.regs.length cp):=by rw [<- hvr];exact HU.o.blk.cell 13
 have e0:=HE.o.k0;have e1:=HE.o.k1;have e2:=HE.o.k2;have e3:=HE.o.k3;have e4:=HE.o.k4;have e5:=HE.o.k5;have c3:W.cell? ⟨q0,a*4+3,none⟩=some (.int .u64 ((xa.on<<<S.C.ahead:Nat):Int)):=by
  obtain⟨p,o,e,hc⟩:=hat a xa hxa;simp only [Option.some.injEq,Addr.mk.injEq,and_true] at e;obtain⟨rfl,rfl⟩:=e;have:=hc 3 _ rfl
  rwa [Nat.zero_add] at this
 have HSS:=Zh (show ∀ y,Below W.heap.size W y->(fun y:World=>Zbz w y B w.heap.size (w.heap.size+1+1) S r false V/\(Zdj S.C.ahead).At y (some ⟨q0,0,none⟩) r.regs/\y.cell? ⟨w.heap.size,13,none⟩=some (.slice (some ⟨q0,0,none⟩) r.regs.length cp)/\y.cell? ⟨w.heap.size+1,0,none⟩=some (.int .i64 9)/\y.cell? ⟨w.heap.size+1,1,none⟩=some (.int .i64 (d:Int))/\y.cell? ⟨w.heap.size+1,2,none⟩=some (.int .i64 (a:Int))/\y.cell? ⟨w.heap.size+1,3,none⟩=some (.int .i64 (b:Int))/\y.cell? ⟨w.heap.size+1,4,none⟩=some (.int .i64 imm)/\y.cell? ⟨w.heap.size+1,5,none⟩=some (.string ⟨loc.toArray⟩)/\y.cell? ⟨q0,a*4+3,none⟩=some (.int .u64 ((xa.on<<<S.C.ahead:Nat):Int))) y from fun y hb=>⟨HU.o.below hb,hat.below hb,Zac k13 hb,Zac e0 hb,Zac e1 hb,Zac e2 hb,Zac e3 hb,Zac e4 hb,Zac e5 hb,Zac c3 hb⟩);have hi1:(0:Int)<=(a:Int):=ω;have hi2:(a:Int)<(r.regs.length:Int):=ω;have hi3:(0:Int)<=(b:Int):=ω;have hi4:(b:Int)<(r.regs.length:Int):=ω;clear hat hvr HR hR
 go_wp2_with fail
 refine wz (fun y:World=>Zbz w y B w.heap.size (w.heap.size+1+1) S r false V/\(Zdj S.C.ahead).At y (some ⟨q0,0,none⟩) r.regs/\y.cell? ⟨w.heap.size,13,none⟩=some (.slice (some ⟨q0,0,none⟩) r.regs.length cp)/\y.cell? ⟨w.heap.size+1,0,none⟩=some (.int .i64 9)/\y.cell? ⟨w.heap.size+1,1,none⟩=some (.int .i64 (d:Int))/\y.cell? ⟨w.heap.size+1,2,none⟩=some (.int .i64 (a:Int))/\y.cell? ⟨w.heap.size+1,3,none⟩=some (.int .i64 (b:Int))/\y.cell? ⟨w.heap.size+1,4,none⟩=some (.int .i64 imm)/\y.cell? ⟨w.heap.size+1,5,none⟩=some (.string ⟨loc.toArray⟩)/\y.cell? ⟨q0,a*4+3,none⟩=some (.int .u64 ((xa.on<<<S.C.ahead:Nat):Int))) [0,2,4,6,7,8,9,10] (HSS.o _ (Below.refl _ _).drew) (fun hHeld=>?_);refine wq 1 ?_;refine wq 3 ?_;refine wq 5 ?_;refine wv 0 ((rrV S r false V)) rfl (fun x' hS=>Zaz rfl rfl (Zez hS.1.blk)) (by assumption) ?_;refine wt 2 (by assumption) ?_;refine wt 4 (by assumption) ?_;refine wt 6 (by assumption) ?_;refine wt 7 (by assumption) ?_;refine wt 8 (by assumption) ?_;refine wt 9 (by assumption) ?_;refine wt 10 (by assumption) ?_;refine wl 11 ?_
 repeat (first | (go_at_call 125;refine Hid.o ?_) | go_step)
 refine Zh ?_;refine (HW.o V _ hHeld.1.ref).mono ?_;rintro e w1 ⟨r1,fl1,V1,rfl,hr1,hk1,hg1⟩;dsimp only;obtain⟨z,hz,hzs⟩:=hHeld.1.out1 hk1
 repeat (first | ((with_reducible refine Zas ?_);refine Zap 83 6 170 (w.heap.size+1+1) rfl rfl rfl hz (by exact hzs) κ (Zbg _ _ _ _) rfl rfl ?_) | go_step)
 refine Zbt 83 6 (w.heap.size+1+1) rfl (hz.row _) Tryz.underlying83 rfl κ rfl rfl ?_;exact Zbn.of (hHeld.1.ret1 hr1 hk1) hg1
theorem Z3s (B:Nat)(S:RrS)(_hS:Zeo S)(hrisc:S.C.risc=decide (S.T.arch=2))(r:Rn)(V:RrV)(nr k:Nat)(hI:Inv S.C nr k r)(hnr:nr<=32)(_hfl:r.full=false)(pl:Nat)(d a b:Nat)(hd:d<nr)(xa xb:Rg)(hxa:r.regs[a]?=some xa)(hxb:r.regs[b]?=some xb)(imm:Int)(loc label:List UInt8)(fence:Int)(w:World)(hR:Za7 w B S r V)(hoka:Zil S.C r.evs xa)(hokb:Zil S.C r.evs xb)(hlta:xa.on<<<S.C.ahead<18446744073709551616)(hltb:xb.on<<<S.C.ahead<18446744073709551616)(hab:a≠b):Calls Tryz.prog 76 #[rrV S r false V,.int .i64 (pl:Int),.agg #[.int .i64 9,.int .i64 (d:Int),.int .i64 (a:Int),.int .i64 (b:Int),.int .i64 imm,.string ⟨loc.toArray⟩,.string ⟨label.toArray⟩,.int .i64 fence]] w (Zbn B S (some (Zfz S.C r (d:Int) ⟨Zcw 9 xa.h xb.h,xa.on|||xb.on⟩)) w):=by
 have HW:=Zh (fun V w h=>(Z4a B S hrisc r V d ⟨Zcw 9 xa.h xb.h,xa.on|||xb.on⟩ w h (by rw [hI.rlen];exact hd) (by rw [hI.rlen];exact hnr)).mono fun e w' p=>(p.st rfl:Zbn B S (some (Zfz S.C r (d:Int) ⟨Zcw 9 xa.h xb.h,xa.on|||xb.on⟩)) w e w'));have HMX:=Zh (fun w=>Zv5 S.C.ahead 9 (Or.inr (Or.inl rfl)) xa xb hoka.1.num hokb.1.num w hlta hltb);have HR:=Zh hR;have hal:=(List.getElem?_eq_some_iff.1 hxa).1;have hbl:=(List.getElem?_eq_some_iff.1 hxb).1;obtain⟨c,hc⟩:∃ c,c=rrC S r false V:=⟨_,rfl⟩;rw [show rrV S r false V=.agg c by rw [hc]];have HC:=Zh hc;clear hc;go_enter Tryz.func76,Tryz.ntmps76;apply wp_seq_k;intro K hK;have HK:=Zh hK;clear hK
 go_wp2_with fail
 refine Zhf (P:=fun X=>K _ X) w _ _ _ _ _ _ ?_;intro W b0 b1 b2 hz hbW;refine HK.o _ _ ?_;clear HK K;rw [HC.o] at b0;have HU:Hid (Zbz w W B w.heap.size (w.heap.size+1+1) S r false V):=Zh ⟨HR.o.below hbW,Zba.of_below hbW HR.o.hB,HR.o.hB,b0,⟨_,b2,rfl⟩,Nat.le_refl _,ω,ω⟩;have HE:=Zh b1;have hzW:w.heap.size<W.heap.size:=ω;clear b0 b1 b2 hbW hz HC;obtain⟨q0,cp,hvr,hat⟩:=HU.o.ref.rgAt (show 0<r.regs.length by omega);have k13:W.cell? ⟨w.heap.size,13,none⟩=some (.slice (some ⟨q0,0,none⟩) r.regs.length cp):=by rw [<- hvr];exact HU.o.blk.cell 13
 have e0:=HE.o.k0;have e1:=HE.o.k1;have e2:=HE.o.k2;have e3:=HE.o.k3;have e4:=HE.o.k4;have e5:=HE.o.k5;have c3:W.cell? ⟨q0,a*4+3,none⟩=some (.int .u64 ((xa.on<<<S.C.ahead:Nat):Int)):=by
  obtain⟨p,o,e,hc⟩:=hat a xa hxa;simp only [Option.some.injEq,Addr.mk.injEq,and_true] at e;obtain⟨rfl,rfl⟩:=e;have:=hc 3 _ rfl
  rwa [Nat.zero_add] at this
 have HSS:=Zh (show ∀ y,Below W.heap.size W y->(fun y:World=>Zbz w y B w.heap.size (w.heap.size+1+1) S r false V/\(Zdj S.C.ahead).At y (some ⟨q0,0,none⟩) r.regs/\y.cell? ⟨w.heap.size,13,none⟩=some (.slice (some ⟨q0,0,none⟩) r.regs.length cp)/\y.cell? ⟨w.heap.size+1,0,none⟩=some (.int .i64 9)/\y.cell? ⟨w.heap.size+1,1,none⟩=some (.int .i64 (d:Int))/\y.cell? ⟨w.heap.size+1,2,none⟩=some (.int .i64 (a:Int))/\y.cell? ⟨w.heap.size+1,3,none⟩=some (.int .i64 (b:Int))/\y.cell? ⟨w.heap.size+1,4,none⟩=some (.int .i64 imm)/\y.cell? ⟨w.heap.size+1,5,none⟩=some (.string ⟨loc.toArray⟩)/\y.cell? ⟨q0,a*4+3,none⟩=some (.int .u64 ((xa.on<<<S.C.ahead:Nat):Int))) y from fun y hb=>⟨HU.o.below hb,hat.below hb,Zac k13 hb,Zac e0 hb,Zac e1 hb,Zac e2 hb,Zac e3 hb,Zac e4 hb,Zac e5 hb,Zac c3 hb⟩);have hi1:(0:Int)<=(a:Int):=ω;have hi2:(a:Int)<(r.regs.length:Int):=ω;have hi3:(0:Int)<=(b:Int):=ω;have hi4:(b:Int)<(r.regs.length:Int):=ω;clear hat hvr HR hR
 (have hab2:decide ((a:Int)=(b:Int))=false:=by simp;omega);have hab3:((a:Int) == (b:Int))=false:=by simp;omega
 go_wp2_with fail
 refine wz (fun y:World=>Zbz w y B w.heap.size (w.heap.size+1+1) S r false V/\(Zdj S.C.ahead).At y (some ⟨q0,0,none⟩) r.regs/\y.cell? ⟨w.heap.size,13,none⟩=some (.slice (some ⟨q0,0,none⟩) r.regs.length cp)/\y.cell? ⟨w.heap.size+1,0,none⟩=some (.int .i64 9)/\y.cell? ⟨w.heap.size+1,1,none⟩=some (.int .i64 (d:Int))/\y.cell? ⟨w.heap.size+1,2,none⟩=some (.int .i64 (a:Int))/\y.cell? ⟨w.heap.size+1,3,none⟩=some (.int .i64 (b:Int))/\y.cell? ⟨w.heap.size+1,4,none⟩=some (.int .i64 imm)/\y.cell? ⟨w.heap.size+1,5,none⟩=some (.string ⟨loc.toArray⟩)/\y.cell? ⟨q0,a*4+3,none⟩=some (.int .u64 ((xa.on<<<S.C.ahead:Nat):Int))) [0,2,4,6,8,9,10,12,14,15,16,17] (HSS.o _ (Below.refl _ _).drew) (fun hHeld=>?_);refine wq 1 ?_;refine wq 3 ?_;refine wq 5 ?_;refine wq 7 ?_;refine wq 11 ?_;refine wq 13 ?_;refine wv 0 ((rrV S r false V)) rfl (fun x' hS=>Zaz rfl rfl (Zez hS.1.blk)) (by assumption) ?_;refine wt 2 (by assumption) ?_;refine wt 4 (by assumption) ?_;refine wt 6 (by assumption) ?_;refine wt 8 (by assumption) ?_;refine wt 9 (by assumption) ?_;refine wv 10 ((Za2 S.C.ahead xa)) rfl (fun x' hS=>Zaz rfl rfl (Zdt hS.2.1 hxa)) (by assumption) ?_;refine wt 12 (by assumption) ?_;refine wt 14 (by assumption) ?_;refine wt 15 (by assumption) ?_;refine wv 16 ((Za2 S.C.ahead xb)) rfl (fun x' hS=>Zaz rfl rfl (Zdt hS.2.1 hxb)) (by assumption) ?_;refine Zar (i:=17) κ rfl (fun K hK=>?_);go_simp
 go_at_call 127
 refine (HMX.o _).mono ?_;rintro e wp ⟨rfl,hbp⟩;have hS2:=HSS.o wp (Zag hbp);refine hK.out _ _ hS2 ?_;clear hK K;refine pu ?_;refine wl 18 ?_
 repeat (first | (go_at_call 125;refine Hid.o ?_) | go_step)
 refine Zh ?_;refine (HW.o V wp hS2.1.ref).mono ?_;rintro e w1 ⟨r1,fl1,V1,rfl,hr1,hk1,hg1⟩;dsimp only;obtain⟨z,hz,hzs⟩:=hS2.1.out1 hk1
 repeat (first | ((with_reducible refine Zas ?_);refine Zap 83 6 189 (w.heap.size+1+1) rfl rfl rfl hz (by exact hzs) κ (Zbg _ _ _ _) rfl rfl ?_) | go_step)
 refine Zbt 83 6 (w.heap.size+1+1) rfl (hz.row _) Tryz.underlying83 rfl κ rfl rfl ?_;exact Zbn.of (hS2.1.ret1 hr1 hk1) hg1
theorem Zz9 (B:Nat)(S:RrS)(_hS:Zeo S)(hrisc:S.C.risc=decide (S.T.arch=2))(r:Rn)(V:RrV)(nr k:Nat)(hI:Inv S.C nr k r)(hnr:nr<=32)(_hfl:r.full=false)(pl:Nat)(d a b:Nat)(hd:d<nr)(xa xb:Rg)(hxa:r.regs[a]?=some xa)(hxb:r.regs[b]?=some xb)(imm:Int)(loc label:List UInt8)(fence:Int)(w:World)(hR:Za7 w B S r V)(hoka:Zil S.C r.evs xa)(hokb:Zil S.C r.evs xb)(hlta:xa.on<<<S.C.ahead<18446744073709551616)(hltb:xb.on<<<S.C.ahead<18446744073709551616):Calls Tryz.prog 76 #[rrV S r false V,.int .i64 (pl:Int),.agg #[.int .i64 10,.int .i64 (d:Int),.int .i64 (a:Int),.int .i64 (b:Int),.int .i64 imm,.string ⟨loc.toArray⟩,.string ⟨label.toArray⟩,.int .i64 fence]] w (Zbn B S (some (Zfz S.C r (d:Int) ⟨Zcw 10 xa.h xb.h,xa.on|||xb.on⟩)) w):=by
 have HW:=Zh (fun V w h=>(Z4a B S hrisc r V d ⟨Zcw 10 xa.h xb.h,xa.on|||xb.on⟩ w h (by rw [hI.rlen];exact hd) (by rw [hI.rlen];exact hnr)).mono fun e w' p=>(p.st rfl:Zbn B S (some (Zfz S.C r (d:Int) ⟨Zcw 10 xa.h xb.h,xa.on|||xb.on⟩)) w e w'));have HMX:=Zh (fun w=>Zv5 S.C.ahead 10 (Or.inr (Or.inr rfl)) xa xb hoka.1.num hokb.1.num w hlta hltb);have HR:=Zh hR;have hal:=(List.getElem?_eq_some_iff.1 hxa).1;have hbl:=(List.getElem?_eq_some_iff.1 hxb).1;obtain⟨c,hc⟩:∃ c,c=rrC S r false V:=⟨_,rfl⟩;rw [show rrV S r false V=.agg c by rw [hc]];have HC:=Zh hc;clear hc;go_enter Tryz.func76,Tryz.ntmps76;apply wp_seq_k;intro K hK;have HK:=Zh hK;clear hK
 go_wp2_with fail
 refine Zhf (P:=fun X=>K _ X) w _ _ _ _ _ _ ?_;intro W b0 b1 b2 hz hbW;refine HK.o _ _ ?_;clear HK K;rw [HC.o] at b0;have HU:Hid (Zbz w W B w.heap.size (w.heap.size+1+1) S r false V):=Zh ⟨HR.o.below hbW,Zba.of_below hbW HR.o.hB,HR.o.hB,b0,⟨_,b2,rfl⟩,Nat.le_refl _,ω,ω⟩;have HE:=Zh b1;have hzW:w.heap.size<W.heap.size:=ω;clear b0 b1 b2 hbW hz HC;obtain⟨q0,cp,hvr,hat⟩:=HU.o.ref.rgAt (show 0<r.regs.length by omega);have k13:W.cell? ⟨w.heap.size,13,none⟩=some (.slice (some ⟨q0,0,none⟩) r.regs.length cp):=by rw [<- hvr];exact HU.o.blk.cell 13
 have e0:=HE.o.k0;have e1:=HE.o.k1;have e2:=HE.o.k2;have e3:=HE.o.k3;have e4:=HE.o.k4;have e5:=HE.o.k5;have c3:W.cell? ⟨q0,a*4+3,none⟩=some (.int .u64 ((xa.on<<<S.C.ahead:Nat):Int)):=by
  obtain⟨p,o,e,hc⟩:=hat a xa hxa;simp only [Option.some.injEq,Addr.mk.injEq,and_true] at e;obtain⟨rfl,rfl⟩:=e;have:=hc 3 _ rfl
  rwa [Nat.zero_add] at this
 have HSS:=Zh (show ∀ y,Below W.heap.size W y->(fun y:World=>Zbz w y B w.heap.size (w.heap.size+1+1) S r false V/\(Zdj S.C.ahead).At y (some ⟨q0,0,none⟩) r.regs/\y.cell? ⟨w.heap.size,13,none⟩=some (.slice (some ⟨q0,0,none⟩) r.regs.length cp)/\y.cell? ⟨w.heap.size+1,0,none⟩=some (.int .i64 10)/\y.cell? ⟨w.heap.size+1,1,none⟩=some (.int .i64 (d:Int))/\y.cell? ⟨w.heap.size+1,2,none⟩=some (.int .i64 (a:Int))/\y.cell? ⟨w.heap.size+1,3,none⟩=some (.int .i64 (b:Int))/\y.cell? ⟨w.heap.size+1,4,none⟩=some (.int .i64 imm)/\y.cell? ⟨w.heap.size+1,5,none⟩=some (.string ⟨loc.toArray⟩)/\y.cell? ⟨q0,a*4+3,none⟩=some (.int .u64 ((xa.on<<<S.C.ahead:Nat):Int))) y from fun y hb=>⟨HU.o.below hb,hat.below hb,Zac k13 hb,Zac e0 hb,Zac e1 hb,Zac e2 hb,Zac e3 hb,Zac e4 hb,Zac e5 hb,Zac c3 hb⟩);have hi1:(0:Int)<=(a:Int):=ω;have hi2:(a:Int)<(r.regs.length:Int):=ω;have hi3:(0:Int)<=(b:Int):=ω;have hi4:(b:Int)<(r.regs.length:Int):=ω;clear hat hvr HR hR
 skip
 go_wp2_with fail
 refine wz (fun y:World=>Zbz w y B w.heap.size (w.heap.size+1+1) S r false V/\(Zdj S.C.ahead).At y (some ⟨q0,0,none⟩) r.regs/\y.cell? ⟨w.heap.size,13,none⟩=some (.slice (some ⟨q0,0,none⟩) r.regs.length cp)/\y.cell? ⟨w.heap.size+1,0,none⟩=some (.int .i64 10)/\y.cell? ⟨w.heap.size+1,1,none⟩=some (.int .i64 (d:Int))/\y.cell? ⟨w.heap.size+1,2,none⟩=some (.int .i64 (a:Int))/\y.cell? ⟨w.heap.size+1,3,none⟩=some (.int .i64 (b:Int))/\y.cell? ⟨w.heap.size+1,4,none⟩=some (.int .i64 imm)/\y.cell? ⟨w.heap.size+1,5,none⟩=some (.string ⟨loc.toArray⟩)/\y.cell? ⟨q0,a*4+3,none⟩=some (.int .u64 ((xa.on<<<S.C.ahead:Nat):Int))) [0,2,4,6,8,9,10,12,14,15,16,17] (HSS.o _ (Below.refl _ _).drew) (fun hHeld=>?_);refine wq 1 ?_;refine wq 3 ?_;refine wq 5 ?_;refine wq 7 ?_;refine wq 11 ?_;refine wq 13 ?_;refine wv 0 ((rrV S r false V)) rfl (fun x' hS=>Zaz rfl rfl (Zez hS.1.blk)) (by assumption) ?_;refine wt 2 (by assumption) ?_;refine wt 4 (by assumption) ?_;refine wt 6 (by assumption) ?_;refine wt 8 (by assumption) ?_;refine wt 9 (by assumption) ?_;refine wv 10 ((Za2 S.C.ahead xa)) rfl (fun x' hS=>Zaz rfl rfl (Zdt hS.2.1 hxa)) (by assumption) ?_;refine wt 12 (by assumption) ?_;refine wt 14 (by assumption) ?_;refine wt 15 (by assumption) ?_;refine wv 16 ((Za2 S.C.ahead xb)) rfl (fun x' hS=>Zaz rfl rfl (Zdt hS.2.1 hxb)) (by assumption) ?_;refine Zar (i:=17) κ rfl (fun K hK=>?_);go_simp
 go_at_call 127
 refine (HMX.o _).mono ?_;rintro e wp ⟨rfl,hbp⟩;have hS2:=HSS.o wp (Zag hbp);refine hK.out _ _ hS2 ?_;clear hK K;refine pu ?_;refine wl 18 ?_
 repeat (first | (go_at_call 125;refine Hid.o ?_) | go_step)
 refine Zh ?_;refine (HW.o V wp hS2.1.ref).mono ?_;rintro e w1 ⟨r1,fl1,V1,rfl,hr1,hk1,hg1⟩;dsimp only;obtain⟨z,hz,hzs⟩:=hS2.1.out1 hk1
 repeat (first | ((with_reducible refine Zas ?_);refine Zap 83 6 210 (w.heap.size+1+1) rfl rfl rfl hz (by exact hzs) κ (Zbg _ _ _ _) rfl rfl ?_) | go_step)
 refine Zbt 83 6 (w.heap.size+1+1) rfl (hz.row _) Tryz.underlying83 rfl κ rfl rfl ?_;exact Zbn.of (hS2.1.ret1 hr1 hk1) hg1
end
section
set_option maxHeartbeats 4000000
set_option maxRecDepth 100000
theorem Zz0 (V:Ze5)(A:Option Addr)(c:Nat)(b:Bool)(w:World):Calls Tryz.prog 33 #[Zd4 V,.slice A 0 c,.bool b] w fun e w'=>e=.returned (.bool true)/\Below w.heap.size w w':=by
 obtain⟨⟨Al,nl,cl⟩,⟨Ai,ni,ci⟩,⟨Ae,ne,ce⟩,⟨Ab,nb,cb⟩,⟨Aa,na,ca⟩,⟨Ad,nd,cd⟩,⟨Ac,nc,cc⟩,⟨At,nt,ct⟩,⟨Ax,nx,cx⟩⟩:=V;simp only [Zd4,Sl.v];have HB0:=Zh (Zad w (.cells #[.slice Al nl cl,.slice Ai ni ci,.slice Ae ne ce,.slice Ab nb cb,.slice Aa na ca,.slice Ad nd cd,.slice Ac nc cc,.slice At nt ct,.slice Ax nx cx] 41 (0,0)));go_enter Tryz.func33,Tryz.ntmps33
 go_wp2_with fail
 go_loopw [15] (fun v wr=>v=.int .i64 0/\Below w.heap.size w wr) (fun _ _=>0)
 case atStart=>exact⟨rfl,HB0.o⟩
 case round=>
  obtain⟨rfl,hb⟩:=hrel;have HB:=Zh hb;clear hb HB0
  go_wp2_with fail
  go_ret;exact⟨rfl,HB.o⟩
theorem Z10 (L:Ze2)(V:Ze5)(w:World)(h:Zc1 w L V)(G:Zc5 L)(h0:L.a.addr=[])(h1:L.a.data=[])(h2:L.a.hang=[])(hth:L.th.length<=1):Calls Tryz.prog 8 #[Zd4 V] w fun e w'=>e=.returned (.int .i64 0)/\Below w.heap.size w w':=by
 have hna:V.ad.n=0:=by rw [h.nad,h0];rfl
 have hnd:V.da.n=0:=by rw [h.nda,h1];rfl
 have hnc:V.ct.n=0:=by rw [h.nct,h2];rfl
 have H1:=Zh (fun z (hz:Below w.heap.size w z)=>Zr9 L V z (h.below hz) G);have H2:=Zh (fun z (hz:Below w.heap.size w z)=>Zrs L V z (h.below hz) G);have H3:=Zh (fun z (hz:Below w.heap.size w z)=>Zuf L V z (h.below hz) G);have H4:=Zh (fun A c b z=>Zz0 V A c b z);have H5:=Zh (fun x e z (hz:Below w.heap.size w z) (hx:Zk0 L x e)=>Z0y L V z x e (h.below hz) G hx);obtain⟨⟨Al,nl,cl⟩,⟨Ai,ni,ci⟩,⟨Ae,ne,ce⟩,⟨Ab,nb,cb⟩,⟨Aa,na,ca⟩,⟨Ad,nd,cd⟩,⟨Ac,nc,cc⟩,⟨At,nt,ct⟩,⟨Ax,nx,cx⟩⟩:=V;simp only at hna hnd hnc;subst hna hnd hnc;simp only [Zd4,Sl.v] at H1 H2 H3 H4 H5 ⊢;have HT:=Zh h;have hn8:nt<=1:=by have:=h.nth;simp only at this;omega
 have HN8:=Zh (show nt=L.th.length from h.nth);have hn9:nx=nt:=by have h8:=h.nth;have h9:=h.nen;simp only at h8 h9;rw [h8,h9];exact G.nen
 have HG:=Zh G;subst hn9;have HB:=Zh (Zad w (.cells #[.slice Al nl cl,.slice Ai ni ci,.slice Ae ne ce,.slice Ab nb cb,.slice Aa 0 ca,.slice Ad 0 cd,.slice Ac 0 cc,.slice At nx ct,.slice Ax nx cx] 41 (0,0)));have HK:=Zh (Blk.new w 41 #[.slice Al nl cl,.slice Ai ni ci,.slice Ae ne ce,.slice Ab nb cb,.slice Aa 0 ca,.slice Ad 0 cd,.slice Ac 0 cc,.slice At nx ct,.slice Ax nx cx]);clear h G h0 h1 h2 hth;go_enter Tryz.func8,Tryz.ntmps8
 go_wp2_with first | (go_at_call 30;refine (H1.o _ HB.o).mono ?_;rintro e w' ⟨rfl,hb9⟩;have HK:=Zh (HK.o.go hb9);have HB:=Zh (Zaa HB.o hb9);clear hb9;have k0:=HK.o.cell 0;have k1:=HK.o.cell 1;have k2:=HK.o.cell 2;have k3:=HK.o.cell 3;have k4:=HK.o.cell 4;have k5:=HK.o.cell 5;have k6:=HK.o.cell 6;have k7:=HK.o.cell 7;have k8:=HK.o.cell 8) | (go_at_call 31;refine (H2.o _ HB.o).mono ?_;rintro e w' ⟨rfl,hb9⟩;have HK:=Zh (HK.o.go hb9);have HB:=Zh (Zaa HB.o hb9);clear hb9;have k0:=HK.o.cell 0;have k1:=HK.o.cell 1;have k2:=HK.o.cell 2;have k3:=HK.o.cell 3;have k4:=HK.o.cell 4;have k5:=HK.o.cell 5;have k6:=HK.o.cell 6;have k7:=HK.o.cell 7;have k8:=HK.o.cell 8) | (go_at_call 32;refine (H3.o _ HB.o).mono ?_;rintro e w' ⟨rfl,hb9⟩;have HK:=Zh (HK.o.go hb9);have HB:=Zh (Zaa HB.o hb9);clear hb9;have k0:=HK.o.cell 0;have k1:=HK.o.cell 1;have k2:=HK.o.cell 2;have k3:=HK.o.cell 3;have k4:=HK.o.cell 4;have k5:=HK.o.cell 5;have k6:=HK.o.cell 6;have k7:=HK.o.cell 7;have k8:=HK.o.cell 8) | (go_at_call 33;refine (H4.o _ _ _ _).mono ?_;rintro e w' ⟨rfl,hb9⟩;have HK:=Zh (HK.o.go hb9);have HB:=Zh (Zaa HB.o hb9);clear hb9;have k0:=HK.o.cell 0;have k1:=HK.o.cell 1;have k2:=HK.o.cell 2;have k3:=HK.o.cell 3;have k4:=HK.o.cell 4;have k5:=HK.o.cell 5;have k6:=HK.o.cell 6;have k7:=HK.o.cell 7;have k8:=HK.o.cell 8)
 go_loopw [55] (fun v wr=>∃ i:Nat,i<=nx/\v=.int .i64 i/\Below w.heap.size w wr/\Blk wr w.heap.size 41 #[.slice Al nl cl,.slice Ai ni ci,.slice Ae ne ce,.slice Ab nb cb,.slice Aa 0 ca,.slice Ad 0 cd,.slice Ac 0 cc,.slice At nx ct,.slice Ax nx cx]) (fun v _=>nx - (intOf v).toNat)
 case atStart=>exact⟨0,Nat.zero_le _,rfl,HB.o,HK.o⟩
 case round=>
  obtain⟨i,hi,rfl,hb,hk⟩:=hrel;have HBR:=Zh hb;have HKR:=Zh hk;have k0:=hk.cell 0;have k7:wr.cell? ⟨w.heap.size,7,none⟩=some (.slice At nx ct):=hk.cell 7;have hgw:=hk.lt;clear hb hk;by_cases hlt:i<nx
  ·have hi0:i=0:=ω;subst hi0;obtain⟨x,hx⟩:∃ x,L.th[0]?=some x:=⟨_,List.getElem?_eq_getElem (by rw [<- HN8.o];exact hlt)⟩;obtain⟨e,he⟩:∃ e,L.a.ends[0]?=some e:=⟨_,List.getElem?_eq_getElem (by rw [HG.o.nen,<- HN8.o];exact hlt)⟩;have hok:=HG.o.en 0 x e hx he;obtain⟨tb,to,eA,c0,c1,c2⟩:=(HT.o.th.go HBR.o) 0 x hx;simp only at eA;subst eA;obtain⟨eb,eo,eA,d0,d1⟩:=Zg2 (HT.o.en.below HBR.o) he;simp only at eA;subst eA;have HEN:=Zh (fun z (hz:Below w.heap.size w z)=>H5.o x e z hz hok);obtain⟨xt,xr,xl⟩:=x;obtain⟨ek,en⟩:=e;simp only [Nat.zero_mul,Nat.add_zero] at c0 c1 c2 d0 d1 HEN;have hij:(0:Int)<(nx:Int):=ω;have HT9:=Zh (Blk.new wr 25 #[.int .i64 xt,.int .i64 xr,.string ⟨xl.toArray⟩]);have HK9:=Zh (HKR.o.alloc (.cells #[.int .i64 xt,.int .i64 xr,.string ⟨xl.toArray⟩] 25 (0,0)));have HB9:=Zh (Zab HBR.o (.cells #[.int .i64 xt,.int .i64 xr,.string ⟨xl.toArray⟩] 25 (0,0)));have s12:=Zal d0 (.cells #[.int .i64 xt,.int .i64 xr,.string ⟨xl.toArray⟩] 25 (0,0));have s13:=Zal d1 (.cells #[.int .i64 xt,.int .i64 xr,.string ⟨xl.toArray⟩] 25 (0,0));clear hx he hok d0 d1
   go_wp2_with fail
   generalize wr.alloc (.cells #[.int .i64 xt,.int .i64 xr,.string ⟨xl.toArray⟩] 25 (0,0))=w9 at *;have s0:w9.cell? ⟨w.heap.size,0,none⟩=some (.slice Al nl cl):=HK9.o.cell 0;have s1:w9.cell? ⟨w.heap.size,1,none⟩=some (.slice Ai ni ci):=HK9.o.cell 1;have s2:w9.cell? ⟨w.heap.size,2,none⟩=some (.slice Ae ne ce):=HK9.o.cell 2;have s3:w9.cell? ⟨w.heap.size,3,none⟩=some (.slice Ab nb cb):=HK9.o.cell 3;have s4:w9.cell? ⟨w.heap.size,4,none⟩=some (.slice Aa 0 ca):=HK9.o.cell 4;have s5:w9.cell? ⟨w.heap.size,5,none⟩=some (.slice Ad 0 cd):=HK9.o.cell 5;have s6:w9.cell? ⟨w.heap.size,6,none⟩=some (.slice Ac 0 cc):=HK9.o.cell 6;have s7:w9.cell? ⟨w.heap.size,7,none⟩=some (.slice (some ⟨tb,to,none⟩) nx ct):=HK9.o.cell 7;have s8:w9.cell? ⟨w.heap.size,8,none⟩=some (.slice (some ⟨eb,eo,none⟩) nx cx):=HK9.o.cell 8;have s9:=HT9.o.cm 0;have s10:=HT9.o.cm 1;have s11:=HT9.o.cm 2;clear c0 c1 c2 k0 k7
   refine wz (fun y:World=>y.cell? ⟨w.heap.size,0,none⟩=some (.slice Al nl cl)/\y.cell? ⟨w.heap.size,1,none⟩=some (.slice Ai ni ci)/\y.cell? ⟨w.heap.size,2,none⟩=some (.slice Ae ne ce)/\y.cell? ⟨w.heap.size,3,none⟩=some (.slice Ab nb cb)/\y.cell? ⟨w.heap.size,4,none⟩=some (.slice Aa 0 ca)/\y.cell? ⟨w.heap.size,5,none⟩=some (.slice Ad 0 cd)/\y.cell? ⟨w.heap.size,6,none⟩=some (.slice Ac 0 cc)/\y.cell? ⟨w.heap.size,7,none⟩=some (.slice (some ⟨tb,to,none⟩) nx ct)/\y.cell? ⟨w.heap.size,8,none⟩=some (.slice (some ⟨eb,eo,none⟩) nx cx)/\y.cell? ⟨wr.heap.size,0,none⟩=some (.int .i64 xt)/\y.cell? ⟨wr.heap.size,1,none⟩=some (.int .i64 xr)/\y.cell? ⟨wr.heap.size,2,none⟩=some (.string ⟨xl.toArray⟩)/\y.cell? ⟨eb,eo,none⟩=some (.int .i64 ek)/\y.cell? ⟨eb,eo+1,none⟩=some (.int .i64 en)) [0,1,3,5,6,7] ⟨s0,s1,s2,s3,s4,s5,s6,s7,s8,s9,s10,s11,s12,s13⟩ (fun hHeld=>?_);refine wq 2 ?_;refine wq 4 ?_;refine wt 0 (by assumption) ?_;refine wt 1 (by assumption) ?_;refine wt 3 (by assumption) ?_;refine wt 5 (by assumption) ?_;refine wt 6 (by assumption) ?_;refine Zar (i:=7) κ rfl (fun K hK=>?_);go_simp
   go_at_call 34
   refine (HEN.o _ HB9.o.drew).mono ?_;rintro r w10 ⟨rfl,hb10⟩;have hHeld10:=(And.intro (Zac hHeld.1 hb10) (And.intro (Zac hHeld.2.1 hb10) (And.intro (Zac hHeld.2.2.1 hb10) (And.intro (Zac hHeld.2.2.2.1 hb10) (And.intro (Zac hHeld.2.2.2.2.1 hb10) (And.intro (Zac hHeld.2.2.2.2.2.1 hb10) (And.intro (Zac hHeld.2.2.2.2.2.2.1 hb10) (And.intro (Zac hHeld.2.2.2.2.2.2.2.1 hb10) (And.intro (Zac hHeld.2.2.2.2.2.2.2.2.1 hb10) (And.intro (Zac hHeld.2.2.2.2.2.2.2.2.2.1 hb10) (And.intro (Zac hHeld.2.2.2.2.2.2.2.2.2.2.1 hb10) (And.intro (Zac hHeld.2.2.2.2.2.2.2.2.2.2.2.1 hb10) (And.intro (Zac hHeld.2.2.2.2.2.2.2.2.2.2.2.2.1 hb10) (Zac hHeld.2.2.2.2.2.2.2.2.2.2.2.2.2 hb10))))))))))))));have HB10:=Zh (Zaa HB9.o.drew hb10);have HK10:=Zh (show Blk w10 w.heap.size 41 _ from (show Blk w9.drew w.heap.size 41 _ from HK9.o).go hb10);refine hK.out _ _ hHeld10 ?_;clear hK K hHeld hb10;refine pu ?_;refine wq 8 ?_;refine wq 9 ?_;refine wq 10 ?_;refine wq 11 ?_;refine wq 12 ?_;refine ws 13 ?_;refine ws 15 ?_;refine ws 16 ?_;refine ws 14 ?_;refine ws 17 ?_;refine ws 18 ?_;refine ws 19 ?_;refine Zar (i:=20) κ rfl (fun K hK=>?_);go_simp;refine hK.out _ _ hHeld10 ?_;clear hK K;refine pu ?_;refine ws 21 ?_;refine wq 22 ?_;refine wl 23 ?_;clear hHeld10
   go_wp2_with fail
   go_roundw
   case rel=>exact⟨0+1,ω,by go_num,HB10.o,HK10.o⟩
   case measure=>simp [intOf];omega
  exact m_140
end
end Go.Proofs.YtdfmcfppoohckaaGreatDoor
