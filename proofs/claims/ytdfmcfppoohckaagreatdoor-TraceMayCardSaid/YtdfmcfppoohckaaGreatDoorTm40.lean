/- Layer 15: a trace that may be, is told to be so: the program's barred. -/
import Derived.Test.YtdfmcfppoohckaaGreatDoorTm38

namespace Go.Proofs.YtdfmcfppoohckaaGreatDoor
open Go.RowKit
section
set_option maxHeartbeats 4000000
set_option maxRecDepth 100000
theorem Zuf (L:Ze2)(V:Ze5)(w:World)(h:Zc1 w L V)(G:Zc5 L):Calls Tryz.prog 32 #[Zd4 V] w fun e w'=>e=.returned (.bool true)/\Below w.heap.size w w':=by
 obtain⟨⟨Al,nl,cl⟩,⟨Ai,ni,ci⟩,⟨Ae,ne,ce⟩,⟨Ab,nb,cb⟩,⟨Aa,na,ca⟩,⟨Ad,nd,cd⟩,⟨Ac,nc,cc⟩,⟨At,nt,ct⟩,⟨Ax,nx,cx⟩⟩:=V;simp only [Zd4,Sl.v];have HT:=Zh h;have hn1:=Zh (show nl=L.lo.length from h.nlo);have hn2:=Zh (show ni=L.ini.length from h.nini);have hn3:=Zh (show ne=L.a.evs.length from h.nev);have hn4:=Zh (show nb=L.a.bars.length from h.nbr);have hn8:=Zh (show nt=L.th.length from h.nth);have hn9:=Zh (show nx=L.a.ends.length from h.nen);have HB0:=Zh (Zad w (.cells #[.slice Al nl cl,.slice Ai ni ci,.slice Ae ne ce,.slice Ab nb cb,.slice Aa na ca,.slice Ad nd cd,.slice Ac nc cc,.slice At nt ct,.slice Ax nx cx] 41 (0,0)));have HTB:=Zh (Blk.new w 41 #[.slice Al nl cl,.slice Ai ni ci,.slice Ae ne ce,.slice Ab nb cb,.slice Aa na ca,.slice Ad nd cd,.slice Ac nc cc,.slice At nt ct,.slice Ax nx cx]);have hl1:nb<=4096:=by rw [hn4.o];exact G.nbr
 have hl2:ne<=64:=by rw [hn3.o];exact G.nev
 have HG:=Zh G;clear h G;go_enter Tryz.func32,Tryz.ntmps32
 go_wp2_with fail
 go_loopw [14] (fun v wr=>∃ i:Nat,i<=nb/\v=.int .i64 i/\Below w.heap.size w wr/\Blk wr w.heap.size 41 #[.slice Al nl cl,.slice Ai ni ci,.slice Ae ne ce,.slice Ab nb cb,.slice Aa na ca,.slice Ad nd cd,.slice Ac nc cc,.slice At nt ct,.slice Ax nx cx]) (fun v _=>nb - (intOf v).toNat)
 case atStart=>exact⟨0,Nat.zero_le _,rfl,HB0.o,HTB.o⟩
 case round=>
  obtain⟨i,hi,rfl,hb,ht⟩:=hrel;obtain⟨wk,hwk⟩:∃ z:World,z=wr:=⟨_,rfl⟩;subst hwk;have HB:=Zh hb;have HK:=Zh ht;have k3:wk.cell? ⟨w.heap.size,3,none⟩=some (.slice Ab nb cb):=ht.cell 3;have hii:(0:Int)<=(i:Int):=ω;have hgw:=ht.lt;clear hb ht HB0 HTB;by_cases hlt:i<nb
  ·have hij:(i:Int)<(nb:Int):=ω;obtain⟨x,hx⟩:∃ x,L.a.bars[i]?=some x:=⟨_,List.getElem?_eq_getElem (by rw [<- hn4.o];omega)⟩;obtain⟨b,o,eA,c0,c1,c2⟩:=Zog (HT.o.br.below HB.o) hx;simp only at eA;subst eA;obtain⟨⟨h1a,h1b⟩,⟨h2a,h2b⟩,h3a,h3b⟩:=HG.o.br x (List.mem_of_getElem? hx);have HEV:=Zh (fun j x' (h:L.a.bars[j]?=some x') (hj:j+1=i)=>HG.o.bro j x' x h (by rw [hj];exact hx));have HNE:=Zh (HG.o.bre x (List.mem_of_getElem? hx));obtain⟨xt,xp,xf⟩:=x;simp only at h1a h1b h2a h2b h3a h3b c0 c1 c2;have HPL:=Zh (fun (z:World)=>Zwp xt xp z ⟨h1a,h1b⟩ ⟨h2a,h2b⟩);have HBD:=Zh (Zab HB.o (.cells #[.int .i64 xt,.int .i64 xp,.int .i64 xf] 123 (0,0)));have HBBD:=Zh (Blk.new wk 123 #[.int .i64 xt,.int .i64 xp,.int .i64 xf]);have HKD:=Zh (Blk.alloc HK.o (.cells #[.int .i64 xt,.int .i64 xp,.int .i64 xf] 123 (0,0)));clear hx;by_cases h0:i=0
   ·subst h0;simp only [Nat.add_zero,Nat.zero_mul] at c0 c1 c2;clear hii
    go_wp2_with (go_at_call 82;refine (HPL.o _).mono ?_;rintro e w' ⟨rfl,rfl⟩)
    refine wz (fun _:World=>True) [] trivial (fun hHeld=>?_);refine wq 0 ?_;refine wq 1 ?_;refine wq 2 ?_;refine ws 3 ?_;refine ws 5 ?_;refine ws 6 ?_;refine ws 10 ?_;refine ws 4 ?_;refine ws 7 ?_;refine ws 8 ?_;refine ws 9 ?_;refine ws 11 ?_;refine ws 12 ?_;refine ws 13 ?_;refine ws 14 ?_;refine ws 16 ?_;refine ws 17 ?_;refine ws 21 ?_;refine ws 15 ?_;refine ws 18 ?_;refine ws 19 ?_;refine ws 20 ?_;refine ws 22 ?_;refine ws 23 ?_;refine ws 24 ?_;refine ws 25 ?_;refine ws 27 ?_;refine ws 28 ?_;refine ws 32 ?_;refine ws 26 ?_;refine ws 29 ?_;refine ws 30 ?_;refine ws 31 ?_;refine ws 33 ?_;refine ws 34 ?_;refine ws 35 ?_;refine ws 36 ?_;refine wl 37 ?_;have HBD:=Zh HBD.o.drew;have HKD:Hid (Blk (wk.alloc (.cells #[.int .i64 xt,.int .i64 xp,.int .i64 xf] 123 (0,0))).drew w.heap.size 41 #[.slice Al nl cl,.slice Ai ni ci,.slice Ae ne ce,.slice (some ⟨b,o,none⟩) nb cb,.slice Aa na ca,.slice Ad nd cd,.slice Ac nc cc,.slice At nt ct,.slice Ax nx cx]):=HKD;have HBBD:Hid (Blk (wk.alloc (.cells #[.int .i64 xt,.int .i64 xp,.int .i64 xf] 123 (0,0))).drew wk.heap.size 123 #[.int .i64 xt,.int .i64 xp,.int .i64 xf]):=HBBD;generalize (wk.alloc (.cells #[.int .i64 xt,.int .i64 xp,.int .i64 xf] 123 (0,0))).drew=w9 at *;have e2:w9.cell? ⟨w.heap.size,2,none⟩=some (.slice Ae ne ce):=HKD.o.cell 2
    go_wp2_with fail
    clear e2;go_loopw [76] (fun v wr=>∃ m:Nat,m<=ne/\v=.int .i64 m/\Below w.heap.size w wr/\Blk wr w.heap.size 41 #[.slice Al nl cl,.slice Ai ni ci,.slice Ae ne ce,.slice (some ⟨b,o,none⟩) nb cb,.slice Aa na ca,.slice Ad nd cd,.slice Ac nc cc,.slice At nt ct,.slice Ax nx cx]/\Blk wr wk.heap.size 123 #[.int .i64 xt,.int .i64 xp,.int .i64 xf]) (fun v _=>ne - (intOf v).toNat)
    case atStart=>exact⟨0,Nat.zero_le _,rfl,HBD.o,HKD.o,HBBD.o⟩
    case round=>
     obtain⟨m,hm,rfl,hb,ht,hbb⟩:=hrel;have HB2:=Zh hb;have HK2:=Zh ht;have HBB2:=Zh hbb;have f0:=hbb.cm 0;have f1:=hbb.cm 1;have hgr:=hbb.lt;have hmm:(0:Int)<=(m:Int):=ω;clear hb ht hbb HBD HKD HBBD;by_cases hlm:m<ne
     ·have hml:(m:Int)<(ne:Int):=ω;exact m_15
     ·have hml:¬ (m:Int)<(ne:Int):=ω
      go_wp2_with fail
      go_roundw
      case rel=>exact⟨0+1,ω,by go_num,HB2.o,HK2.o⟩
      case measure=>simp [intOf];omega
   ·obtain⟨j,hji⟩:∃ j,i=j+1:=⟨i - 1,ω⟩;obtain⟨y,hy⟩:∃ x,L.a.bars[j]?=some x:=⟨_,List.getElem?_eq_getElem (by rw [<- hn4.o];omega)⟩;have hah:=HEV.o j y hy hji.symm;obtain⟨b3,o3,eA,d0,d1,d2⟩:=Zog (HT.o.br.below HB.o) hy;simp only [Option.some.injEq,Addr.mk.injEq,and_true] at eA;obtain⟨rfl,rfl⟩:=eA;obtain⟨yt,yp,yf⟩:=y;simp only at d0 d1 d2 hah;have hjj:(0:Int)<(i:Int):=ω;have hip:0<i:=ω;have hjm:(i:Int) - 1=(j:Int):=ω;have hj0:(0:Int)<=(j:Int):=ω;have hjl:(j:Int)<(nb:Int):=ω;clear hji hy d2;unfold Zri at hah;have HWJ:Hid (IntKind.i64.wrap (j:Int)=(j:Int)):=Zh (by unfold IntKind.wrap;simp [IntKind.bits,IntKind.signed];omega);have hnl:¬ xt<yt:=ω;have HNL:Hid ((yt == xt)=false\/(yt=xt/\¬ xp<=yp)):=Zh (by rcases hah with h | h;exact Or.inl (by simp;omega);exact Or.inr ⟨h.1,ω⟩);clear hah;have k3':=Zal k3 (.cells #[.int .i64 xt,.int .i64 xp,.int .i64 xf] 123 (0,0));have d0':=Zal d0 (.cells #[.int .i64 xt,.int .i64 xp,.int .i64 xf] 123 (0,0));have d1':=Zal d1 (.cells #[.int .i64 xt,.int .i64 xp,.int .i64 xf] 123 (0,0));clear d0 d1
    go_wp2_with (go_at_call 82;refine (HPL.o _).mono ?_;rintro e w' ⟨rfl,rfl⟩)
    generalize hw0:wk.alloc (.cells #[.int .i64 xt,.int .i64 xp,.int .i64 xf] 123 (0,0))=w0 at *;have e0:=HBBD.o.cm 0;have e1:=HBBD.o.cm 1;clear c0 c1 c2 k3 HPL HEV hw0;have hwj:=HWJ.o;have hd1:decide (0<i)=true:=decide_eq_true hip;have hd2:decide ((0:Int)<(i:Int))=true:=decide_eq_true hjj;have hd3:decide (xt<yt)=false:=decide_eq_false ω;rcases HNL.o with hnl2 | ⟨rfl,hnl2⟩
    ·refine wz (fun y:World=>y.cell? ⟨w.heap.size,3,none⟩=some (.slice (some ⟨b,o,none⟩) nb cb)/\y.cell? ⟨b,o+j*3,none⟩=some (.int .i64 yt)/\y.cell? ⟨b,o+j*3+1,none⟩=some (.int .i64 yp)/\y.cell? ⟨wk.heap.size,0,none⟩=some (.int .i64 xt)/\y.cell? ⟨wk.heap.size,1,none⟩=some (.int .i64 xp)) [4,9,11,15,20,22] ⟨k3',d0',d1',e0,e1⟩ (fun hHeld=>?_);refine wq 0 ?_;refine wq 1 ?_;refine wq 2 ?_;refine wq 3 ?_;refine wq 5 ?_;refine wq 6 ?_;refine wq 10 ?_;refine wt 4 (by assumption) ?_;refine wq 7 ?_;refine wq 8 ?_;refine wt 9 (by assumption) ?_;refine wt 11 (by assumption) ?_;refine wq 12 ?_;refine wq 13 ?_;refine wq 14 ?_;refine wq 16 ?_;refine wq 17 ?_;refine wq 21 ?_;refine wt 15 (by assumption) ?_;refine wq 18 ?_;refine wq 19 ?_;refine wt 20 (by assumption) ?_;refine wt 22 (by assumption) ?_;refine wq 23 ?_;refine wq 24 ?_;refine ws 25 ?_;refine ws 27 ?_;refine ws 28 ?_;refine ws 32 ?_;refine ws 26 ?_;refine ws 29 ?_;refine ws 30 ?_;refine ws 31 ?_;refine ws 33 ?_;refine ws 34 ?_;refine wq 35 ?_;refine wq 36 ?_;refine wl 37 ?_;clear hHeld k3' d0' d1' e0 e1 hwj hd1 hd2 hd3 hnl2;have HBD:=Zh HBD.o.drew;have HKD:=Zh (show Blk w0.drew _ _ _ from HKD.o);have HBBD:=Zh (show Blk w0.drew _ _ _ from HBBD.o);generalize w0.drew=w9 at *;have e2:w9.cell? ⟨w.heap.size,2,none⟩=some (.slice Ae ne ce):=HKD.o.cell 2
     go_wp2_with fail
     clear e2;go_loopw [76] (fun v wr=>∃ m:Nat,m<=ne/\v=.int .i64 m/\Below w.heap.size w wr/\Blk wr w.heap.size 41 #[.slice Al nl cl,.slice Ai ni ci,.slice Ae ne ce,.slice (some ⟨b,o,none⟩) nb cb,.slice Aa na ca,.slice Ad nd cd,.slice Ac nc cc,.slice At nt ct,.slice Ax nx cx]/\Blk wr wk.heap.size 123 #[.int .i64 xt,.int .i64 xp,.int .i64 xf]) (fun v _=>ne - (intOf v).toNat)
     case atStart=>exact⟨0,Nat.zero_le _,rfl,HBD.o,HKD.o,HBBD.o⟩
     case round=>
      obtain⟨m,hm,rfl,hb,ht,hbb⟩:=hrel;have HB2:=Zh hb;have HK2:=Zh ht;have HBB2:=Zh hbb;have f0:=hbb.cm 0;have f1:=hbb.cm 1;have hgr:=hbb.lt;have hmm:(0:Int)<=(m:Int):=ω;clear hb ht hbb HBD HKD HBBD;by_cases hlm:m<ne
      ·have hml:(m:Int)<(ne:Int):=ω;exact m_15
      exact m_108
    ·have hd4:decide (xp<=yp)=false:=decide_eq_false ω;refine wz (fun y:World=>y.cell? ⟨w.heap.size,3,none⟩=some (.slice (some ⟨b,o,none⟩) nb cb)/\y.cell? ⟨b,o+j*3,none⟩=some (.int .i64 yt)/\y.cell? ⟨b,o+j*3+1,none⟩=some (.int .i64 yp)/\y.cell? ⟨wk.heap.size,0,none⟩=some (.int .i64 yt)/\y.cell? ⟨wk.heap.size,1,none⟩=some (.int .i64 xp)) [4,9,11,15,20,22,26,31,33] ⟨k3',d0',d1',e0,e1⟩ (fun hHeld=>?_);refine wq 0 ?_;refine wq 1 ?_;refine wq 2 ?_;refine wq 3 ?_;refine wq 5 ?_;refine wq 6 ?_;refine wq 10 ?_;refine wt 4 (by assumption) ?_;refine wq 7 ?_;refine wq 8 ?_;refine wt 9 (by assumption) ?_;refine wt 11 (by assumption) ?_;refine wq 12 ?_;refine wq 13 ?_;refine wq 14 ?_;refine wq 16 ?_;refine wq 17 ?_;refine wq 21 ?_;refine wt 15 (by assumption) ?_;refine wq 18 ?_;refine wq 19 ?_;refine wt 20 (by assumption) ?_;refine wt 22 (by assumption) ?_;refine wq 23 ?_;refine wq 24 ?_;refine wq 25 ?_;refine wq 27 ?_;refine wq 28 ?_;refine wq 32 ?_;refine wt 26 (by assumption) ?_;refine wq 29 ?_;refine wq 30 ?_;refine wt 31 (by assumption) ?_;refine wt 33 (by assumption) ?_;refine wq 34 ?_;refine wq 35 ?_;refine wq 36 ?_;refine wl 37 ?_;clear hHeld k3' d0' d1' e0 e1 hwj hd1 hd2 hd3 hnl2 hd4;have HBD:=Zh HBD.o.drew;have HKD:=Zh (show Blk w0.drew _ _ _ from HKD.o);have HBBD:=Zh (show Blk w0.drew _ _ _ from HBBD.o);generalize w0.drew=w9 at *;have e2:w9.cell? ⟨w.heap.size,2,none⟩=some (.slice Ae ne ce):=HKD.o.cell 2
     go_wp2_with fail
     clear e2;go_loopw [76] (fun v wr=>∃ m:Nat,m<=ne/\v=.int .i64 m/\Below w.heap.size w wr/\Blk wr w.heap.size 41 #[.slice Al nl cl,.slice Ai ni ci,.slice Ae ne ce,.slice (some ⟨b,o,none⟩) nb cb,.slice Aa na ca,.slice Ad nd cd,.slice Ac nc cc,.slice At nt ct,.slice Ax nx cx]/\Blk wr wk.heap.size 123 #[.int .i64 yt,.int .i64 xp,.int .i64 xf]) (fun v _=>ne - (intOf v).toNat)
     case atStart=>exact⟨0,Nat.zero_le _,rfl,HBD.o,HKD.o,HBBD.o⟩
     case round=>
      obtain⟨m,hm,rfl,hb,ht,hbb⟩:=hrel;have HB2:=Zh hb;have HK2:=Zh ht;have HBB2:=Zh hbb;have f0:=hbb.cm 0;have f1:=hbb.cm 1;have hgr:=hbb.lt;have hmm:(0:Int)<=(m:Int):=ω;clear hb ht hbb HBD HKD HBBD;by_cases hlm:m<ne
      ·have hml:(m:Int)<(ne:Int):=ω;obtain⟨x,hx⟩:∃ x,L.a.evs[m]?=some x:=⟨_,List.getElem?_eq_getElem (by rw [<- hn3.o];exact hlm)⟩;obtain⟨be,oe,eA,c0,c1,c2,c3,c4,c5⟩:=Zc6 (HT.o.ev.below HB2.o) hx;simp only at eA;subst eA;have hne:=HNE.o x (List.mem_of_getElem? hx);obtain⟨qt,qp,qd,ql,qv,qr⟩:=x;simp only at c0 c1 c2 c3 c4 c5 hne;have HB3:=Zh (Zab HB2.o (.cells #[.int .i64 qt,.int .i64 qp,.int .i64 qd,.int .i64 ql,.int .i64 qv,.int .i64 qr] 54 (0,0)));clear hx;by_cases hqt:qt=yt
       ·have hqp:(qp == xp)=false:=by simpa using hne hqt
        subst hqt;exact m_103
       ·have hqf:(qt == yt)=false:=by simpa using hqt
        exact m_103
      exact m_108
  ·have hij:¬ (i:Int)<(nb:Int):=ω
   go_wp2_with fail
   go_ret;exact⟨rfl,HB.o⟩
end
end Go.Proofs.YtdfmcfppoohckaaGreatDoor
