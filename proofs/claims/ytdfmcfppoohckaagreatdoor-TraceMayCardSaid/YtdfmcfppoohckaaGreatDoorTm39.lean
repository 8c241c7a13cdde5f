/- Layer 15: a trace that may be, is told to be so: the program's evented. -/
import Derived.Test.YtdfmcfppoohckaaGreatDoorTm38

namespace Go.Proofs.YtdfmcfppoohckaaGreatDoor
open Go.RowKit
section
set_option maxHeartbeats 4000000
set_option maxRecDepth 100000
theorem Zrs (L:Ze2)(V:Ze5)(w:World)(h:Zc1 w L V)(G:Zc5 L):Calls Tryz.prog 31 #[Zd4 V] w fun e w'=>e=.returned (.bool true)/\Below w.heap.size w w':=by
 obtain⟨⟨Al,nl,cl⟩,⟨Ai,ni,ci⟩,⟨Ae,ne,ce⟩,⟨Ab,nb,cb⟩,⟨Aa,na,ca⟩,⟨Ad,nd,cd⟩,⟨Ac,nc,cc⟩,⟨At,nt,ct⟩,⟨Ax,nx,cx⟩⟩:=V;simp only [Zd4,Sl.v];have HT:=Zh h;have hn1:=Zh (show nl=L.lo.length from h.nlo);have hn2:=Zh (show ni=L.ini.length from h.nini);have hn3:=Zh (show ne=L.a.evs.length from h.nev);have hn4:=Zh (show nb=L.a.bars.length from h.nbr);have hn8:=Zh (show nt=L.th.length from h.nth);have hn9:=Zh (show nx=L.a.ends.length from h.nen);have HB0:=Zh (Zad w (.cells #[.slice Al nl cl,.slice Ai ni ci,.slice Ae ne ce,.slice Ab nb cb,.slice Aa na ca,.slice Ad nd cd,.slice Ac nc cc,.slice At nt ct,.slice Ax nx cx] 41 (0,0)));have HTB:=Zh (Blk.new w 41 #[.slice Al nl cl,.slice Ai ni ci,.slice Ae ne ce,.slice Ab nb cb,.slice Aa na ca,.slice Ad nd cd,.slice Ac nc cc,.slice At nt ct,.slice Ax nx cx]);have hl1:ne<=64:=by rw [hn3.o];exact G.nev
 have HG:=Zh G;clear h G;go_enter Tryz.func31,Tryz.ntmps31
 go_wp2_with fail
 go_loopw [12] (fun v wr=>∃ i:Nat,i<=ne/\v=.int .i64 i/\Below w.heap.size w wr/\Blk wr w.heap.size 41 #[.slice Al nl cl,.slice Ai ni ci,.slice Ae ne ce,.slice Ab nb cb,.slice Aa na ca,.slice Ad nd cd,.slice Ac nc cc,.slice At nt ct,.slice Ax nx cx]) (fun v _=>ne - (intOf v).toNat)
 case atStart=>exact⟨0,Nat.zero_le _,rfl,HB0.o,HTB.o⟩
 case round=>
  obtain⟨i,hi,rfl,hb,ht⟩:=hrel;have HB:=Zh hb;have HK:=Zh ht;have k0:wr.cell? ⟨w.heap.size,0,none⟩=some (.slice Al nl cl):=ht.cell 0;have k2:wr.cell? ⟨w.heap.size,2,none⟩=some (.slice Ae ne ce):=ht.cell 2;have hii:(0:Int)<=(i:Int):=ω;have hgw:=ht.lt;clear hb ht HB0 HTB;by_cases hlt:i<ne
  ·have hij:(i:Int)<(ne:Int):=ω;obtain⟨x,hx⟩:∃ x,L.a.evs[i]?=some x:=⟨_,List.getElem?_eq_getElem (by rw [<- hn3.o];omega)⟩;obtain⟨b,o,eA,c0,c1,c2,c3,c4,c5⟩:=Zc6 (HT.o.ev.below HB.o) hx;simp only at eA;subst eA;obtain⟨⟨h1a,h1b⟩,⟨h2a,h2b⟩,⟨h3a,h3b⟩,h4,⟨h5a,h5b⟩,h6⟩:=HG.o.ev x (List.mem_of_getElem? hx);have h3c:x.lc<(nl:Int):=by rw [hn1.o];exact h3b
   have HEV:=Zh (fun j x' (h:L.a.evs[j]?=some x') (hj:j+1=i)=>HG.o.evo j x' x h (by rw [hj];exact hx));obtain⟨xt,xp,xd,xl,xv,xr⟩:=x;simp only at h1a h1b h2a h2b h3a h3b h3c h4 h5a h5b h6 c0 c1 c2 c3 c4 c5;have HNU:=Zh (fun (z:World)=>show Calls Tryz.prog 81 #[.int .i64 xv] z fun e w'=>e=.returned (.bool true)/\z=w' by
    have:=Z7a z xv;rw [h4] at this;exact this)
   have HPL:=Zh (fun (z:World)=>Zwp xt xp z ⟨h1a,h1b⟩ ⟨h2a,h2b⟩);have HB1:=Zh (Zab HB.o (.cells #[.int .i64 xt,.int .i64 xp,.int .i64 xd,.int .i64 xl,.int .i64 xv,.int .i64 xr] 54 (0,0)));clear hx h4;by_cases h0:i=0
   ·subst h0;simp only [Nat.add_zero,Nat.zero_mul] at c0 c1 c2 c3 c4 c5;clear hii;rcases h6 with ⟨rfl,rfl⟩ | ⟨rfl,rfl⟩
    all_goals
     go_wp2_with first | (go_at_call 82;refine (HPL.o _).mono ?_;rintro e w' ⟨rfl,rfl⟩) | (go_at_call 81;refine (HNU.o _).mono ?_;rintro e w' ⟨rfl,rfl⟩)
     refine wz (fun _:World=>True) [] trivial (fun hHeld=>?_);refine wq 0 ?_;refine wq 1 ?_;refine wq 2 ?_;refine ws 3 ?_;refine ws 5 ?_;refine ws 6 ?_;refine ws 10 ?_;refine ws 4 ?_;refine ws 7 ?_;refine ws 8 ?_;refine ws 9 ?_;refine ws 11 ?_;refine ws 12 ?_;refine ws 13 ?_;refine ws 14 ?_;refine ws 16 ?_;refine ws 17 ?_;refine ws 21 ?_;refine ws 15 ?_;refine ws 18 ?_;refine ws 19 ?_;refine ws 20 ?_;refine ws 22 ?_;refine ws 23 ?_;refine ws 24 ?_;refine ws 25 ?_;refine ws 27 ?_;refine ws 28 ?_;refine ws 32 ?_;refine ws 26 ?_;refine ws 29 ?_;refine ws 30 ?_;refine ws 31 ?_;refine ws 33 ?_;refine ws 34 ?_;refine ws 35 ?_;refine ws 36 ?_;refine wl 37 ?_
     go_wp2_with fail
     go_roundw
     case rel=>exact⟨0+1,ω,by go_num,HB1.o.drew,Blk.alloc HK.o _⟩
     case measure=>simp [intOf];omega
   ·obtain⟨j,hji⟩:∃ j,i=j+1:=⟨i - 1,ω⟩;obtain⟨y,hy⟩:∃ x,L.a.evs[j]?=some x:=⟨_,List.getElem?_eq_getElem (by rw [<- hn3.o];omega)⟩;have hah:=HEV.o j y hy hji.symm;obtain⟨b3,o3,eA,d0,d1,d2,d3,d4,d5⟩:=Zc6 (HT.o.ev.below HB.o) hy;simp only [Option.some.injEq,Addr.mk.injEq,and_true] at eA;obtain⟨rfl,rfl⟩:=eA;obtain⟨yt,yp,yd,yl,yv,yr⟩:=y;simp only at d0 d1 d2 d3 d4 d5 hah;have hjj:(0:Int)<(i:Int):=ω;have hip:0<i:=ω;have hjm:(i:Int) - 1=(j:Int):=ω;have hj0:(0:Int)<=(j:Int):=ω;have hjl:(j:Int)<(ne:Int):=ω;clear hji hy d2 d3 d4 d5;unfold Zri at hah;have HWJ:Hid (IntKind.i64.wrap (j:Int)=(j:Int)):=Zh (by unfold IntKind.wrap;simp [IntKind.bits,IntKind.signed];omega);have hnl:¬ xt<yt:=ω;have HNL:Hid ((yt == xt)=false\/(yt=xt/\¬ xp<=yp)):=Zh (by rcases hah with h | h;exact Or.inl (by simp;omega);exact Or.inr ⟨h.1,ω⟩);clear hah;have HEB:=Zh (Blk.new wr 54 #[.int .i64 xt,.int .i64 xp,.int .i64 xd,.int .i64 xl,.int .i64 xv,.int .i64 xr]);have k2':=Zal k2 (.cells #[.int .i64 xt,.int .i64 xp,.int .i64 xd,.int .i64 xl,.int .i64 xv,.int .i64 xr] 54 (0,0));have d0':=Zal d0 (.cells #[.int .i64 xt,.int .i64 xp,.int .i64 xd,.int .i64 xl,.int .i64 xv,.int .i64 xr] 54 (0,0));have d1':=Zal d1 (.cells #[.int .i64 xt,.int .i64 xp,.int .i64 xd,.int .i64 xl,.int .i64 xv,.int .i64 xr] 54 (0,0))
    have HKA:=Zh (Blk.alloc HK.o (.cells #[.int .i64 xt,.int .i64 xp,.int .i64 xd,.int .i64 xl,.int .i64 xv,.int .i64 xr] 54 (0,0)));clear d0 d1;rcases h6 with ⟨rfl,rfl⟩ | ⟨rfl,rfl⟩
    ·go_wp2_with first | (go_at_call 82;refine (HPL.o _).mono ?_;rintro e w' ⟨rfl,rfl⟩) | (go_at_call 81;refine (HNU.o _).mono ?_;rintro e w' ⟨rfl,rfl⟩)
     generalize wr.alloc (.cells #[.int .i64 xt,.int .i64 xp,.int .i64 1,.int .i64 xl,.int .i64 0,.int .i64 xr] 54 (0,0))=w9 at *;exact m_4
    ·go_wp2_with first | (go_at_call 82;refine (HPL.o _).mono ?_;rintro e w' ⟨rfl,rfl⟩) | (go_at_call 81;refine (HNU.o _).mono ?_;rintro e w' ⟨rfl,rfl⟩)
     generalize wr.alloc (.cells #[.int .i64 xt,.int .i64 xp,.int .i64 2,.int .i64 xl,.int .i64 xv,.int .i64 0] 54 (0,0))=w9 at *;exact m_4
  ·have hij:¬ (i:Int)<(ne:Int):=ω
   go_wp2_with fail
   go_ret;exact⟨rfl,HB.o⟩
end
end Go.Proofs.YtdfmcfppoohckaaGreatDoor
