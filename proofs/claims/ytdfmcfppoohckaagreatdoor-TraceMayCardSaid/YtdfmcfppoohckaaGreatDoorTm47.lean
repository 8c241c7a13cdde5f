/- Layer 15: Check of a trace that may be. -/
import Derived.Test.YtdfmcfppoohckaaGreatDoorTm46

namespace Go.Proofs.YtdfmcfppoohckaaGreatDoor
open Go.RowKit
section
theorem Zk0.r0 {L:Ze2}{x:Th}{e:Int×Int}(h:Zk0 L x e)(k:x.1=-1):x.2.1=0:=by
 rcases h with h | h
 ·exact h.2.1
 ·omega
section
set_option maxHeartbeats 4000000
set_option maxRecDepth 100000
theorem Z4r (L:Ze2)(V:Ze5)(w:World)(h:Zc1 w L V)(G:Zc5 L)(hna:L.a.addr.length<=1000000)(hnd:L.a.data.length<=1000000)(hnc:L.a.hang.length<=1000000):Calls Tryz.prog 8 #[Zd4 V] w fun e w'=>e=.returned (.int .i64 0)/\Below w.heap.size w w':=by
 have H1:=Zh (fun z (hz:Below w.heap.size w z)=>Zr9 L V z (h.below hz) G);have H2:=Zh (fun z (hz:Below w.heap.size w z)=>Zrs L V z (h.below hz) G);have H3:=Zh (fun z (hz:Below w.heap.size w z)=>Zuf L V z (h.below hz) G);have H4:=Zh (fun z (hz:Below w.heap.size w z)=>Zq0 L V z (h.below hz) G false V.ad.A V.ad.c _ (h.below hz).ad hna G.ad G.ado);have H5:=Zh (fun z (hz:Below w.heap.size w z)=>Zq0 L V z (h.below hz) G true V.da.A V.da.c _ (h.below hz).da hnd G.da G.dao);have H6:=Zh (fun z (hz:Below w.heap.size w z)=>Zq0 L V z (h.below hz) G false V.ct.A V.ct.c _ (h.below hz).ct hnc G.ct G.cto);rw [<- h.nad] at H4;rw [<- h.nda] at H5;rw [<- h.nct] at H6;have H7:=Zh (fun x e z (hz:Below w.heap.size w z) (hx:Zk0 L x e)=>Z0y L V z x e (h.below hz) G hx);obtain⟨⟨Al,nl,cl⟩,⟨Ai,ni,ci⟩,⟨Ae,ne,ce⟩,⟨Ab,nb,cb⟩,⟨Aa,na,ca⟩,⟨Ad,nd,cd⟩,⟨Ac,nc,cc⟩,⟨At,nt,ct⟩,⟨Ax,nx,cx⟩⟩:=V;simp only [Zd4,Sl.v] at H1 H2 H3 H4 H5 H6 H7 ⊢;have HT:=Zh h;have hn8:nt<=1024:=by have:=h.nth;simp only at this;rw [this];exact G.nth
 have HN8:=Zh (show nt=L.th.length from h.nth);have hn9:nx=nt:=by have h8:=h.nth;have h9:=h.nen;simp only at h8 h9;rw [h8,h9];exact G.nen
 have HG:=Zh G;subst hn9;have HB:=Zh (Zad w (.cells #[.slice Al nl cl,.slice Ai ni ci,.slice Ae ne ce,.slice Ab nb cb,.slice Aa na ca,.slice Ad nd cd,.slice Ac nc cc,.slice At nx ct,.slice Ax nx cx] 41 (0,0)));have HK:=Zh (Blk.new w 41 #[.slice Al nl cl,.slice Ai ni ci,.slice Ae ne ce,.slice Ab nb cb,.slice Aa na ca,.slice Ad nd cd,.slice Ac nc cc,.slice At nx ct,.slice Ax nx cx]);clear h G hna hnd hnc;go_enter Tryz.func8,Tryz.ntmps8
 go_wp2_with first | (go_at_call 30;refine (H1.o _ HB.o).mono ?_;rintro e w' ⟨rfl,hb9⟩;have HK:=Zh (HK.o.go hb9);have HB:=Zh (Zaa HB.o hb9);clear hb9;have k0:=HK.o.cell 0;have k1:=HK.o.cell 1;have k2:=HK.o.cell 2;have k3:=HK.o.cell 3;have k4:=HK.o.cell 4;have k5:=HK.o.cell 5;have k6:=HK.o.cell 6;have k7:=HK.o.cell 7;have k8:=HK.o.cell 8) | (go_at_call 31;refine (H2.o _ HB.o).mono ?_;rintro e w' ⟨rfl,hb9⟩;have HK:=Zh (HK.o.go hb9);have HB:=Zh (Zaa HB.o hb9);clear hb9;have k0:=HK.o.cell 0;have k1:=HK.o.cell 1;have k2:=HK.o.cell 2;have k3:=HK.o.cell 3;have k4:=HK.o.cell 4;have k5:=HK.o.cell 5;have k6:=HK.o.cell 6;have k7:=HK.o.cell 7;have k8:=HK.o.cell 8) | (go_at_call 32;refine (H3.o _ HB.o).mono ?_;rintro e w' ⟨rfl,hb9⟩;have HK:=Zh (HK.o.go hb9);have HB:=Zh (Zaa HB.o hb9);clear hb9;have k0:=HK.o.cell 0;have k1:=HK.o.cell 1;have k2:=HK.o.cell 2;have k3:=HK.o.cell 3;have k4:=HK.o.cell 4;have k5:=HK.o.cell 5;have k6:=HK.o.cell 6;have k7:=HK.o.cell 7;have k8:=HK.o.cell 8) | (go_at_call 33;with_reducible refine (H4.o _ HB.o).mono ?_;rintro e w' ⟨rfl,hb9⟩;have HK:=Zh (HK.o.go hb9);have HB:=Zh (Zaa HB.o hb9);clear hb9;have k0:=HK.o.cell 0;have k1:=HK.o.cell 1;have k2:=HK.o.cell 2;have k3:=HK.o.cell 3;have k4:=HK.o.cell 4;have k5:=HK.o.cell 5;have k6:=HK.o.cell 6;have k7:=HK.o.cell 7;have k8:=HK.o.cell 8) | (go_at_call 33;with_reducible refine (H5.o _ HB.o).mono ?_;rintro e w' ⟨rfl,hb9⟩;have HK:=Zh (HK.o.go hb9);have HB:=Zh (Zaa HB.o hb9);clear hb9;have k0:=HK.o.cell 0;have k1:=HK.o.cell 1;have k2:=HK.o.cell 2;have k3:=HK.o.cell 3;have k4:=HK.o.cell 4;have k5:=HK.o.cell 5;have k6:=HK.o.cell 6;have k7:=HK.o.cell 7;have k8:=HK.o.cell 8) | (go_at_call 33;with_reducible refine (H6.o _ HB.o).mono ?_;rintro e w' ⟨rfl,hb9⟩;have HK:=Zh (HK.o.go hb9);have HB:=Zh (Zaa HB.o hb9);clear hb9;have k0:=HK.o.cell 0;have k1:=HK.o.cell 1;have k2:=HK.o.cell 2;have k3:=HK.o.cell 3;have k4:=HK.o.cell 4;have k5:=HK.o.cell 5;have k6:=HK.o.cell 6;have k7:=HK.o.cell 7;have k8:=HK.o.cell 8)
 go_loopw [55] (fun v wr=>∃ i:Nat,i<=nx/\v=.int .i64 i/\Below w.heap.size w wr/\Blk wr w.heap.size 41 #[.slice Al nl cl,.slice Ai ni ci,.slice Ae ne ce,.slice Ab nb cb,.slice Aa na ca,.slice Ad nd cd,.slice Ac nc cc,.slice At nx ct,.slice Ax nx cx]) (fun v _=>nx - (intOf v).toNat)
 case atStart=>exact⟨0,Nat.zero_le _,rfl,HB.o,HK.o⟩
 case round=>
  clear k0 k1 k2 k3 k4 k5 k6 k7 k8;obtain⟨i,hi,rfl,hb,hk⟩:=hrel;have HBR:=Zh hb;have HKR:=Zh hk;have k7:wr.cell? ⟨w.heap.size,7,none⟩=some (.slice At nx ct):=hk.cell 7;have hgw:=hk.lt;have hii:(0:Int)<=(i:Int):=ω;clear hb hk;by_cases hlt:i<nx
  ·obtain⟨x,hx⟩:∃ x,L.th[i]?=some x:=⟨_,List.getElem?_eq_getElem (by rw [<- HN8.o];exact hlt)⟩;obtain⟨e,he⟩:∃ e,L.a.ends[i]?=some e:=⟨_,List.getElem?_eq_getElem (by rw [HG.o.nen,<- HN8.o];exact hlt)⟩;have hok:=HG.o.en i x e hx he;obtain⟨tb,to,eA,c0,c1,c2⟩:=(HT.o.th.go HBR.o) i x hx;simp only at eA;subst eA;obtain⟨eb,eo,eA,d0,d1⟩:=Zg2 (HT.o.en.below HBR.o) he;simp only at eA;subst eA;have HEN:=Zh (fun z (hz:Below w.heap.size w z)=>H7.o x e z hz hok);have HPV:=Zh (fun j y (hy:L.th[j]?=some y) (hj:j+1=i) (z:World)=>Z4g y x z (HG.o.tho j y x hy (by rw [hj];exact hx)) (by obtain⟨q,hq⟩:∃ q,L.a.ends[j]?=some q:=⟨_,List.getElem?_eq_getElem (by rw [HG.o.nen,<- HN8.o];omega)⟩;exact (HG.o.en j y q hy hq).r0) hok.r0);obtain⟨xt,xr,xl⟩:=x;obtain⟨ek,en⟩:=e;simp only at c0 c1 c2 d0 d1 HEN HPV;have hij:(i:Int)<(nx:Int):=ω;have HT9:=Zh (Blk.new wr 25 #[.int .i64 xt,.int .i64 xr,.string ⟨xl.toArray⟩]);have HK9:=Zh (HKR.o.alloc (.cells #[.int .i64 xt,.int .i64 xr,.string ⟨xl.toArray⟩] 25 (0,0)));have HB9:=Zh (Zab HBR.o (.cells #[.int .i64 xt,.int .i64 xr,.string ⟨xl.toArray⟩] 25 (0,0)));have s12:=Zal d0 (.cells #[.int .i64 xt,.int .i64 xr,.string ⟨xl.toArray⟩] 25 (0,0));have s13:=Zal d1 (.cells #[.int .i64 xt,.int .i64 xr,.string ⟨xl.toArray⟩] 25 (0,0));clear hx he hok d0 d1
   go_wp2_with fail
   generalize wr.alloc _=w9 at *;obtain⟨s0,s1,s2,s3,s4,s5,s6,s7,s8⟩:=HK9.o.c9;obtain⟨s9,s10,s11⟩:=HT9.o.c3;clear c0 c1 c2 k7;by_cases h0:i=0
   ·have hd1:decide (0<i)=false:=decide_eq_false ω;have hd2:decide ((0:Int)<(i:Int))=false:=decide_eq_false ω;clear h0;have HSS:=Zh (show ∀ y,Below w9.heap.size w9 y->(y.cell? ⟨w.heap.size,0,none⟩=some (.slice Al nl cl)/\y.cell? ⟨w.heap.size,1,none⟩=some (.slice Ai ni ci)/\y.cell? ⟨w.heap.size,2,none⟩=some (.slice Ae ne ce)/\y.cell? ⟨w.heap.size,3,none⟩=some (.slice Ab nb cb)/\y.cell? ⟨w.heap.size,4,none⟩=some (.slice Aa na ca)/\y.cell? ⟨w.heap.size,5,none⟩=some (.slice Ad nd cd)/\y.cell? ⟨w.heap.size,6,none⟩=some (.slice Ac nc cc)/\y.cell? ⟨w.heap.size,7,none⟩=some (.slice (some ⟨tb,to,none⟩) nx ct)/\y.cell? ⟨w.heap.size,8,none⟩=some (.slice (some ⟨eb,eo,none⟩) nx cx)/\y.cell? ⟨wr.heap.size,0,none⟩=some (.int .i64 xt)/\y.cell? ⟨wr.heap.size,1,none⟩=some (.int .i64 xr)/\y.cell? ⟨wr.heap.size,2,none⟩=some (.string ⟨xl.toArray⟩)/\y.cell? ⟨eb,eo+i*2,none⟩=some (.int .i64 ek)/\y.cell? ⟨eb,eo+i*2+1,none⟩=some (.int .i64 en)) from fun y hb=>⟨Zac s0 hb,Zac s1 hb,Zac s2 hb,Zac s3 hb,Zac s4 hb,Zac s5 hb,Zac s6 hb,Zac s7 hb,Zac s8 hb,Zac s9 hb,Zac s10 hb,Zac s11 hb,Zac s12 hb,Zac s13 hb⟩)
    refine wz (fun y:World=>y.cell? ⟨w.heap.size,0,none⟩=some (.slice Al nl cl)/\y.cell? ⟨w.heap.size,1,none⟩=some (.slice Ai ni ci)/\y.cell? ⟨w.heap.size,2,none⟩=some (.slice Ae ne ce)/\y.cell? ⟨w.heap.size,3,none⟩=some (.slice Ab nb cb)/\y.cell? ⟨w.heap.size,4,none⟩=some (.slice Aa na ca)/\y.cell? ⟨w.heap.size,5,none⟩=some (.slice Ad nd cd)/\y.cell? ⟨w.heap.size,6,none⟩=some (.slice Ac nc cc)/\y.cell? ⟨w.heap.size,7,none⟩=some (.slice (some ⟨tb,to,none⟩) nx ct)/\y.cell? ⟨w.heap.size,8,none⟩=some (.slice (some ⟨eb,eo,none⟩) nx cx)/\y.cell? ⟨wr.heap.size,0,none⟩=some (.int .i64 xt)/\y.cell? ⟨wr.heap.size,1,none⟩=some (.int .i64 xr)/\y.cell? ⟨wr.heap.size,2,none⟩=some (.string ⟨xl.toArray⟩)/\y.cell? ⟨eb,eo+i*2,none⟩=some (.int .i64 ek)/\y.cell? ⟨eb,eo+i*2+1,none⟩=some (.int .i64 en)) [0,1,3,5,6,7] (HSS.o _ (Below.refl _ _).drew) (fun hHeld=>?_);refine wq 2 ?_;refine wq 4 ?_;refine wt 0 (by assumption) ?_;refine wt 1 (by assumption) ?_;refine wt 3 (by assumption) ?_;refine wt 5 (by assumption) ?_;refine wt 6 (by assumption) ?_;refine Zar (i:=7) κ rfl (fun K hK=>?_);go_simp
    (go_at_call 34;refine (HEN.o _ HB9.o.drew).mono ?_)
    rintro r w10 ⟨rfl,hb10⟩;have hS2:=HSS.o w10 (Zag hb10);have HB10:=Zh (Zaa HB9.o (Zag hb10));have HK10:=Zh (HK9.o.go (Zag hb10));refine hK.out _ _ hS2 ?_;clear hK K;refine pu ?_;refine wq 8 ?_;refine wq 9 ?_;refine wq 10 ?_;refine wq 11 ?_;refine wq 12 ?_;refine ws 13 ?_;refine ws 15 ?_;refine ws 16 ?_;refine ws 14 ?_;refine ws 17 ?_;refine ws 18 ?_;refine ws 19 ?_;refine Zar (i:=20) κ rfl (fun K hK=>?_);go_simp;refine hK.out _ _ hS2 ?_;clear hK K;refine pu ?_;refine ws 21 ?_;refine wq 22 ?_;refine wl 23 ?_;clear hHeld hS2
    go_wp2_with fail
    go_roundw
    case rel=>exact⟨i+1,ω,by go_num,HB10.o,HK10.o⟩
    case measure=>simp [intOf];omega
   ·obtain⟨j,hji⟩:∃ j,i=j+1:=⟨i - 1,ω⟩;obtain⟨y,hy⟩:∃ x,L.th[j]?=some x:=⟨_,List.getElem?_eq_getElem (by rw [<- HN8.o];omega)⟩;have HAH:=Zh (fun z=>HPV.o j y hy hji.symm z);obtain⟨b3,o3,eA,p0,p1,p2⟩:=(HT.o.th.go HB9.o) j y hy;simp only [Option.some.injEq,Addr.mk.injEq,and_true] at eA;obtain⟨rfl,rfl⟩:=eA;obtain⟨yt,yr,yl⟩:=y;simp only at p0 p1 p2 HAH;have hjm:(i:Int) - 1=(j:Int):=ω;have hj0:(0:Int)<=(j:Int):=ω;have hjl:(j:Int)<(nx:Int):=ω;have hd1:decide (0<i)=true:=decide_eq_true ω;have hd2:decide ((0:Int)<(i:Int))=true:=decide_eq_true ω;have hwj:IntKind.i64.wrap (j:Int)=(j:Int):=by unfold IntKind.wrap;simp [IntKind.bits,IntKind.signed];omega
    clear h0 hji hy;have HSS:=Zh (show ∀ y,Below w9.heap.size w9 y->(y.cell? ⟨w.heap.size,0,none⟩=some (.slice Al nl cl)/\y.cell? ⟨w.heap.size,1,none⟩=some (.slice Ai ni ci)/\y.cell? ⟨w.heap.size,2,none⟩=some (.slice Ae ne ce)/\y.cell? ⟨w.heap.size,3,none⟩=some (.slice Ab nb cb)/\y.cell? ⟨w.heap.size,4,none⟩=some (.slice Aa na ca)/\y.cell? ⟨w.heap.size,5,none⟩=some (.slice Ad nd cd)/\y.cell? ⟨w.heap.size,6,none⟩=some (.slice Ac nc cc)/\y.cell? ⟨w.heap.size,7,none⟩=some (.slice (some ⟨tb,to,none⟩) nx ct)/\y.cell? ⟨w.heap.size,8,none⟩=some (.slice (some ⟨eb,eo,none⟩) nx cx)/\y.cell? ⟨wr.heap.size,0,none⟩=some (.int .i64 xt)/\y.cell? ⟨wr.heap.size,1,none⟩=some (.int .i64 xr)/\y.cell? ⟨wr.heap.size,2,none⟩=some (.string ⟨xl.toArray⟩)/\y.cell? ⟨eb,eo+i*2,none⟩=some (.int .i64 ek)/\y.cell? ⟨eb,eo+i*2+1,none⟩=some (.int .i64 en)/\y.cell? ⟨tb,to+j*3,none⟩=some (.int .i64 yt)/\y.cell? ⟨tb,to+j*3+1,none⟩=some (.int .i64 yr)/\y.cell? ⟨tb,to+j*3+2,none⟩=some (.string ⟨yl.toArray⟩)) from fun y hb=>⟨Zac s0 hb,Zac s1 hb,Zac s2 hb,Zac s3 hb,Zac s4 hb,Zac s5 hb,Zac s6 hb,Zac s7 hb,Zac s8 hb,Zac s9 hb,Zac s10 hb,Zac s11 hb,Zac s12 hb,Zac s13 hb,Zac p0 hb,Zac p1 hb,Zac p2 hb⟩);clear s0 s1 s2 s3 s4 s5 s6 s7 s8 s9 s10 s11 s12 s13 p0 p1 p2
    refine wz (fun y:World=>y.cell? ⟨w.heap.size,0,none⟩=some (.slice Al nl cl)/\y.cell? ⟨w.heap.size,1,none⟩=some (.slice Ai ni ci)/\y.cell? ⟨w.heap.size,2,none⟩=some (.slice Ae ne ce)/\y.cell? ⟨w.heap.size,3,none⟩=some (.slice Ab nb cb)/\y.cell? ⟨w.heap.size,4,none⟩=some (.slice Aa na ca)/\y.cell? ⟨w.heap.size,5,none⟩=some (.slice Ad nd cd)/\y.cell? ⟨w.heap.size,6,none⟩=some (.slice Ac nc cc)/\y.cell? ⟨w.heap.size,7,none⟩=some (.slice (some ⟨tb,to,none⟩) nx ct)/\y.cell? ⟨w.heap.size,8,none⟩=some (.slice (some ⟨eb,eo,none⟩) nx cx)/\y.cell? ⟨wr.heap.size,0,none⟩=some (.int .i64 xt)/\y.cell? ⟨wr.heap.size,1,none⟩=some (.int .i64 xr)/\y.cell? ⟨wr.heap.size,2,none⟩=some (.string ⟨xl.toArray⟩)/\y.cell? ⟨eb,eo+i*2,none⟩=some (.int .i64 ek)/\y.cell? ⟨eb,eo+i*2+1,none⟩=some (.int .i64 en)/\y.cell? ⟨tb,to+j*3,none⟩=some (.int .i64 yt)/\y.cell? ⟨tb,to+j*3+1,none⟩=some (.int .i64 yr)/\y.cell? ⟨tb,to+j*3+2,none⟩=some (.string ⟨yl.toArray⟩)) [0,1,3,5,6,7,14,17,18,19,20] (HSS.o _ (Below.refl _ _).drew) (fun hHeld=>?_);refine wq 2 ?_;refine wq 4 ?_;refine wt 0 (by assumption) ?_;refine wt 1 (by assumption) ?_;refine wt 3 (by assumption) ?_;refine wt 5 (by assumption) ?_;refine wt 6 (by assumption) ?_;refine Zar (i:=7) κ rfl (fun K hK=>?_);go_simp
    (go_at_call 34;refine (HEN.o _ HB9.o.drew).mono ?_)
    rintro r w10 ⟨rfl,hb10⟩;have hS2:=HSS.o w10 (Zag hb10);have HB10:=Zh (Zaa HB9.o (Zag hb10));have HK10:=Zh (HK9.o.go (Zag hb10));have HZ:=Zh (Zag hb10);refine hK.out _ _ hS2 ?_;clear hK K;refine pu ?_;refine wq 8 ?_;refine wq 9 ?_;refine wq 10 ?_;refine wq 11 ?_;refine wq 12 ?_;refine wq 13 ?_;refine wq 15 ?_;refine wq 16 ?_;refine wt 14 (by assumption) ?_;refine wt 17 (by assumption) ?_;refine wt 18 (by assumption) ?_;refine wt 19 (by assumption) ?_;refine Zar (i:=20) κ rfl (fun K hK=>?_);go_simp
    go_at_call 35
    refine (HAH.o _).mono ?_;rintro r w11 ⟨rfl,hb11⟩;have HB11:=Zh (Zaa HB10.o hb11);have HK11:=Zh (HK10.o.go hb11);refine hK.out _ _ (HSS.o w11 (Zaa HZ.o hb11)) ?_;clear hK K;refine pu ?_;refine wq 21 ?_;refine wq 22 ?_;refine wl 23 ?_;clear hHeld hS2 hd1 hd2
    go_wp2_with fail
    go_roundw
    case rel=>exact⟨i+1,ω,by go_num,HB11.o,HK11.o⟩
    case measure=>simp [intOf];omega
  exact m_140
theorem Z6w (L:Ze2)(V:Ze5)(w:World)(h:Zc1 w L V)(G:Zc5 L)(hna:L.a.addr.length<=1000000)(hnd:L.a.data.length<=1000000)(hnc:L.a.hang.length<=1000000):Calls Tryz.prog 9 #[Zd4 V] w fun e w'=>e=.returned (.int .i64 0)/\Below w.heap.size w w':=by
 have H2:=Zh (fun z (hz:Below w.heap.size w z)=>Zyx L V z (h.below hz) G);have H3:=Zh (fun z (hz:Below w.heap.size w z)=>Z1t L V z (h.below hz) G);have H4:=Zh (fun z (hz:Below w.heap.size w z)=>Zq1 L V z (h.below hz) G false V.ad.A V.ad.c _ (h.below hz).ad hna G.ad G.ado);have H5:=Zh (fun z (hz:Below w.heap.size w z)=>Zq1 L V z (h.below hz) G true V.da.A V.da.c _ (h.below hz).da hnd G.da G.dao);have H6:=Zh (fun z (hz:Below w.heap.size w z)=>Zq1 L V z (h.below hz) G false V.ct.A V.ct.c _ (h.below hz).ct hnc G.ct G.cto);rw [<- h.nad] at H4;rw [<- h.nda] at H5;rw [<- h.nct] at H6;have H7:=Zh (fun x e z (hz:Below w.heap.size w z) (hx:Zk0 L x e)=>Z8e L V z x e (h.below hz) G hx);obtain⟨⟨Al,nl,cl⟩,⟨Ai,ni,ci⟩,⟨Ae,ne,ce⟩,⟨Ab,nb,cb⟩,⟨Aa,na,ca⟩,⟨Ad,nd,cd⟩,⟨Ac,nc,cc⟩,⟨At,nt,ct⟩,⟨Ax,nx,cx⟩⟩:=V;simp only [Zd4,Sl.v] at H2 H3 H4 H5 H6 H7 ⊢;have HT:=Zh h;have hn8:nt<=1024:=by have:=h.nth;simp only at this;rw [this];exact G.nth
 have HN8:=Zh (show nt=L.th.length from h.nth);have hn9:nx=nt:=by have h8:=h.nth;have h9:=h.nen;simp only at h8 h9;rw [h8,h9];exact G.nen
 have HG:=Zh G;subst hn9;have HB:=Zh (Zad w (.cells #[.slice Al nl cl,.slice Ai ni ci,.slice Ae ne ce,.slice Ab nb cb,.slice Aa na ca,.slice Ad nd cd,.slice Ac nc cc,.slice At nx ct,.slice Ax nx cx] 41 (0,0)));have HK:=Zh (Blk.new w 41 #[.slice Al nl cl,.slice Ai ni ci,.slice Ae ne ce,.slice Ab nb cb,.slice Aa na ca,.slice Ad nd cd,.slice Ac nc cc,.slice At nx ct,.slice Ax nx cx]);clear h G hna hnd hnc;go_enter Tryz.func9,Tryz.ntmps9
 go_wp2_with first | (go_at_call 36;refine (H2.o _ HB.o).mono ?_;rintro e w' ⟨rfl,hb9⟩;have HK:=Zh (HK.o.go hb9);have HB:=Zh (Zaa HB.o hb9);clear hb9;have k0:=HK.o.cell 0;have k1:=HK.o.cell 1;have k2:=HK.o.cell 2;have k3:=HK.o.cell 3;have k4:=HK.o.cell 4;have k5:=HK.o.cell 5;have k6:=HK.o.cell 6;have k7:=HK.o.cell 7;have k8:=HK.o.cell 8) | (go_at_call 37;refine (H3.o _ HB.o).mono ?_;rintro e w' ⟨rfl,hb9⟩;have HK:=Zh (HK.o.go hb9);have HB:=Zh (Zaa HB.o hb9);clear hb9;have k0:=HK.o.cell 0;have k1:=HK.o.cell 1;have k2:=HK.o.cell 2;have k3:=HK.o.cell 3;have k4:=HK.o.cell 4;have k5:=HK.o.cell 5;have k6:=HK.o.cell 6;have k7:=HK.o.cell 7;have k8:=HK.o.cell 8) | (go_at_call 38;with_reducible refine (H4.o _ HB.o).mono ?_;rintro e w' ⟨rfl,hb9⟩;have HK:=Zh (HK.o.go hb9);have HB:=Zh (Zaa HB.o hb9);clear hb9;have k0:=HK.o.cell 0;have k1:=HK.o.cell 1;have k2:=HK.o.cell 2;have k3:=HK.o.cell 3;have k4:=HK.o.cell 4;have k5:=HK.o.cell 5;have k6:=HK.o.cell 6;have k7:=HK.o.cell 7;have k8:=HK.o.cell 8) | (go_at_call 38;with_reducible refine (H5.o _ HB.o).mono ?_;rintro e w' ⟨rfl,hb9⟩;have HK:=Zh (HK.o.go hb9);have HB:=Zh (Zaa HB.o hb9);clear hb9;have k0:=HK.o.cell 0;have k1:=HK.o.cell 1;have k2:=HK.o.cell 2;have k3:=HK.o.cell 3;have k4:=HK.o.cell 4;have k5:=HK.o.cell 5;have k6:=HK.o.cell 6;have k7:=HK.o.cell 7;have k8:=HK.o.cell 8) | (go_at_call 38;with_reducible refine (H6.o _ HB.o).mono ?_;rintro e w' ⟨rfl,hb9⟩;have HK:=Zh (HK.o.go hb9);have HB:=Zh (Zaa HB.o hb9);clear hb9;have k0:=HK.o.cell 0;have k1:=HK.o.cell 1;have k2:=HK.o.cell 2;have k3:=HK.o.cell 3;have k4:=HK.o.cell 4;have k5:=HK.o.cell 5;have k6:=HK.o.cell 6;have k7:=HK.o.cell 7;have k8:=HK.o.cell 8)
 go_loopw [4,3] (fun v u wr=>∃ i:Nat,i<=nx/\v=.int .i64 i/\u=.bool true/\Below w.heap.size w wr/\Blk wr w.heap.size 41 #[.slice Al nl cl,.slice Ai ni ci,.slice Ae ne ce,.slice Ab nb cb,.slice Aa na ca,.slice Ad nd cd,.slice Ac nc cc,.slice At nx ct,.slice Ax nx cx]) (fun v _ _=>nx - (intOf v).toNat)
 case atStart=>exact⟨0,Nat.zero_le _,rfl,rfl,HB.o,HK.o⟩
 case round=>
  clear k0 k1 k2 k3 k4 k5 k6 k7 k8;obtain⟨i,hi,rfl,rfl,hb,hk⟩:=hrel;have HBR:=Zh hb;have HKR:=Zh hk;have k7:wr.cell? ⟨w.heap.size,7,none⟩=some (.slice At nx ct):=hk.cell 7;have hgw:=hk.lt;have hii:(0:Int)<=(i:Int):=ω;clear hb hk;by_cases hlt:i<nx
  ·obtain⟨x,hx⟩:∃ x,L.th[i]?=some x:=⟨_,List.getElem?_eq_getElem (by rw [<- HN8.o];exact hlt)⟩;obtain⟨e,he⟩:∃ e,L.a.ends[i]?=some e:=⟨_,List.getElem?_eq_getElem (by rw [HG.o.nen,<- HN8.o];exact hlt)⟩;have hok:=HG.o.en i x e hx he;obtain⟨tb,to,eA,c0,c1,c2⟩:=(HT.o.th.go HBR.o) i x hx;simp only at eA;subst eA;obtain⟨eb,eo,eA,d0,d1⟩:=Zg2 (HT.o.en.below HBR.o) he;simp only at eA;subst eA;have HEN:=Zh (fun z (hz:Below w.heap.size w z)=>H7.o x e z hz hok);have HPV:=Zh (fun j y (hy:L.th[j]?=some y) (hj:j+1=i) (z:World)=>Z1u y x z (HG.o.tho j y x hy (by rw [hj];exact hx)) (by obtain⟨q,hq⟩:∃ q,L.a.ends[j]?=some q:=⟨_,List.getElem?_eq_getElem (by rw [HG.o.nen,<- HN8.o];omega)⟩;exact (HG.o.en j y q hy hq).r0) hok.r0);obtain⟨xt,xr,xl⟩:=x;obtain⟨ek,en⟩:=e;simp only at c0 c1 c2 d0 d1 HEN HPV;have hij:(i:Int)<(nx:Int):=ω;clear hx he hok
   go_wp2_with fail
   obtain⟨s0,s1,s2,s3,s4,s5,s6,s7,s8⟩:=HKR.o.c9;clear k7;by_cases h0:i=0
   ·have hd1:(i == 0)=true:=by simpa using h0
    have hd2:((i:Int) == 0)=true:=by simp;omega
    clear h0;have HSS:=Zh (show ∀ y,Below wr.heap.size wr y->(y.cell? ⟨w.heap.size,0,none⟩=some (.slice Al nl cl)/\y.cell? ⟨w.heap.size,1,none⟩=some (.slice Ai ni ci)/\y.cell? ⟨w.heap.size,2,none⟩=some (.slice Ae ne ce)/\y.cell? ⟨w.heap.size,3,none⟩=some (.slice Ab nb cb)/\y.cell? ⟨w.heap.size,4,none⟩=some (.slice Aa na ca)/\y.cell? ⟨w.heap.size,5,none⟩=some (.slice Ad nd cd)/\y.cell? ⟨w.heap.size,6,none⟩=some (.slice Ac nc cc)/\y.cell? ⟨w.heap.size,7,none⟩=some (.slice (some ⟨tb,to,none⟩) nx ct)/\y.cell? ⟨w.heap.size,8,none⟩=some (.slice (some ⟨eb,eo,none⟩) nx cx)/\y.cell? ⟨tb,to+i*3,none⟩=some (.int .i64 xt)/\y.cell? ⟨tb,to+i*3+1,none⟩=some (.int .i64 xr)/\y.cell? ⟨tb,to+i*3+2,none⟩=some (.string ⟨xl.toArray⟩)/\y.cell? ⟨eb,eo+i*2,none⟩=some (.int .i64 ek)/\y.cell? ⟨eb,eo+i*2+1,none⟩=some (.int .i64 en)) from fun y hb=>⟨Zac s0 hb,Zac s1 hb,Zac s2 hb,Zac s3 hb,Zac s4 hb,Zac s5 hb,Zac s6 hb,Zac s7 hb,Zac s8 hb,Zac c0 hb,Zac c1 hb,Zac c2 hb,Zac d0 hb,Zac d1 hb⟩)
    refine wz (fun y:World=>y.cell? ⟨w.heap.size,0,none⟩=some (.slice Al nl cl)/\y.cell? ⟨w.heap.size,1,none⟩=some (.slice Ai ni ci)/\y.cell? ⟨w.heap.size,2,none⟩=some (.slice Ae ne ce)/\y.cell? ⟨w.heap.size,3,none⟩=some (.slice Ab nb cb)/\y.cell? ⟨w.heap.size,4,none⟩=some (.slice Aa na ca)/\y.cell? ⟨w.heap.size,5,none⟩=some (.slice Ad nd cd)/\y.cell? ⟨w.heap.size,6,none⟩=some (.slice Ac nc cc)/\y.cell? ⟨w.heap.size,7,none⟩=some (.slice (some ⟨tb,to,none⟩) nx ct)/\y.cell? ⟨w.heap.size,8,none⟩=some (.slice (some ⟨eb,eo,none⟩) nx cx)/\y.cell? ⟨tb,to+i*3,none⟩=some (.int .i64 xt)/\y.cell? ⟨tb,to+i*3+1,none⟩=some (.int .i64 xr)/\y.cell? ⟨tb,to+i*3+2,none⟩=some (.string ⟨xl.toArray⟩)/\y.cell? ⟨eb,eo+i*2,none⟩=some (.int .i64 ek)/\y.cell? ⟨eb,eo+i*2+1,none⟩=some (.int .i64 en)) [0,2,4,5,7,9,10,11] (HSS.o _ (Below.refl _ _).drew) (fun hHeld=>?_);refine wq 1 ?_;refine wq 3 ?_;refine wq 6 ?_;refine wq 8 ?_;refine wt 0 (by assumption) ?_;refine wt 2 (by assumption) ?_;refine wt 4 (by assumption) ?_;refine wt 5 (by assumption) ?_;refine wt 7 (by assumption) ?_;refine wt 9 (by assumption) ?_;refine wt 10 (by assumption) ?_;refine Zar (i:=11) κ rfl (fun K hK=>?_);go_simp
    (go_at_call 39;refine (HEN.o _ HBR.o.drew).mono ?_)
    rintro r w10 ⟨rfl,hb10⟩;have hS2:=HSS.o w10 (Zag hb10);have HB10:=Zh (Zaa HBR.o (Zag hb10));have HK10:=Zh (HKR.o.go (Zag hb10));refine hK.out _ _ hS2 ?_;clear hK K;refine pu ?_;refine wq 12 ?_;refine wq 13 ?_;refine wq 14 ?_;refine wq 15 ?_;refine ws 16 ?_;refine ws 18 ?_;refine ws 19 ?_;refine ws 22 ?_;refine ws 24 ?_;refine ws 17 ?_;refine ws 20 ?_;refine ws 21 ?_;refine ws 23 ?_;refine ws 25 ?_;refine ws 26 ?_;refine Zar (i:=27) κ rfl (fun K hK=>?_);go_simp;refine hK.out _ _ hS2 ?_;clear hK K;refine pu ?_;refine wq 28 ?_;refine wl 29 ?_;clear hHeld hS2
    go_wp2_with fail
    go_roundw
    case rel=>exact⟨i+1,ω,by go_num,rfl,HB10.o,HK10.o⟩
    case measure=>simp [intOf];omega
   ·obtain⟨j,hji⟩:∃ j,i=j+1:=⟨i - 1,ω⟩;obtain⟨y,hy⟩:∃ x,L.th[j]?=some x:=⟨_,List.getElem?_eq_getElem (by rw [<- HN8.o];omega)⟩;have HAH:=Zh (fun z=>HPV.o j y hy hji.symm z);obtain⟨b3,o3,eA,p0,p1,p2⟩:=(HT.o.th.go HBR.o) j y hy;simp only [Option.some.injEq,Addr.mk.injEq,and_true] at eA;obtain⟨rfl,rfl⟩:=eA;obtain⟨yt,yr,yl⟩:=y;simp only at p0 p1 p2 HAH;have hjm:(i:Int) - 1=(j:Int):=ω;have hj0:(0:Int)<=(j:Int):=ω;have hjl:(j:Int)<(nx:Int):=ω;have hd1:(i == 0)=false:=by simpa using h0
    have hd2:((i:Int) == 0)=false:=by simp;omega
    have hwj:IntKind.i64.wrap (j:Int)=(j:Int):=by unfold IntKind.wrap;simp [IntKind.bits,IntKind.signed];omega
    clear h0 hji hy;have HSS:=Zh (show ∀ y,Below wr.heap.size wr y->(y.cell? ⟨w.heap.size,0,none⟩=some (.slice Al nl cl)/\y.cell? ⟨w.heap.size,1,none⟩=some (.slice Ai ni ci)/\y.cell? ⟨w.heap.size,2,none⟩=some (.slice Ae ne ce)/\y.cell? ⟨w.heap.size,3,none⟩=some (.slice Ab nb cb)/\y.cell? ⟨w.heap.size,4,none⟩=some (.slice Aa na ca)/\y.cell? ⟨w.heap.size,5,none⟩=some (.slice Ad nd cd)/\y.cell? ⟨w.heap.size,6,none⟩=some (.slice Ac nc cc)/\y.cell? ⟨w.heap.size,7,none⟩=some (.slice (some ⟨tb,to,none⟩) nx ct)/\y.cell? ⟨w.heap.size,8,none⟩=some (.slice (some ⟨eb,eo,none⟩) nx cx)/\y.cell? ⟨tb,to+i*3,none⟩=some (.int .i64 xt)/\y.cell? ⟨tb,to+i*3+1,none⟩=some (.int .i64 xr)/\y.cell? ⟨tb,to+i*3+2,none⟩=some (.string ⟨xl.toArray⟩)/\y.cell? ⟨eb,eo+i*2,none⟩=some (.int .i64 ek)/\y.cell? ⟨eb,eo+i*2+1,none⟩=some (.int .i64 en)/\y.cell? ⟨tb,to+j*3,none⟩=some (.int .i64 yt)/\y.cell? ⟨tb,to+j*3+1,none⟩=some (.int .i64 yr)/\y.cell? ⟨tb,to+j*3+2,none⟩=some (.string ⟨yl.toArray⟩)) from fun y hb=>⟨Zac s0 hb,Zac s1 hb,Zac s2 hb,Zac s3 hb,Zac s4 hb,Zac s5 hb,Zac s6 hb,Zac s7 hb,Zac s8 hb,Zac c0 hb,Zac c1 hb,Zac c2 hb,Zac d0 hb,Zac d1 hb,Zac p0 hb,Zac p1 hb,Zac p2 hb⟩);clear s0 s1 s2 s3 s4 s5 s6 s7 s8 c0 c1 c2 d0 d1 p0 p1 p2
    refine wz (fun y:World=>y.cell? ⟨w.heap.size,0,none⟩=some (.slice Al nl cl)/\y.cell? ⟨w.heap.size,1,none⟩=some (.slice Ai ni ci)/\y.cell? ⟨w.heap.size,2,none⟩=some (.slice Ae ne ce)/\y.cell? ⟨w.heap.size,3,none⟩=some (.slice Ab nb cb)/\y.cell? ⟨w.heap.size,4,none⟩=some (.slice Aa na ca)/\y.cell? ⟨w.heap.size,5,none⟩=some (.slice Ad nd cd)/\y.cell? ⟨w.heap.size,6,none⟩=some (.slice Ac nc cc)/\y.cell? ⟨w.heap.size,7,none⟩=some (.slice (some ⟨tb,to,none⟩) nx ct)/\y.cell? ⟨w.heap.size,8,none⟩=some (.slice (some ⟨eb,eo,none⟩) nx cx)/\y.cell? ⟨tb,to+i*3,none⟩=some (.int .i64 xt)/\y.cell? ⟨tb,to+i*3+1,none⟩=some (.int .i64 xr)/\y.cell? ⟨tb,to+i*3+2,none⟩=some (.string ⟨xl.toArray⟩)/\y.cell? ⟨eb,eo+i*2,none⟩=some (.int .i64 ek)/\y.cell? ⟨eb,eo+i*2+1,none⟩=some (.int .i64 en)/\y.cell? ⟨tb,to+j*3,none⟩=some (.int .i64 yt)/\y.cell? ⟨tb,to+j*3+1,none⟩=some (.int .i64 yr)/\y.cell? ⟨tb,to+j*3+2,none⟩=some (.string ⟨yl.toArray⟩)) [0,2,4,5,7,9,10,11,17,20,21,23,25,26,27] (HSS.o _ (Below.refl _ _).drew) (fun hHeld=>?_);refine wq 1 ?_;refine wq 3 ?_;refine wq 6 ?_;refine wq 8 ?_;refine wt 0 (by assumption) ?_;refine wt 2 (by assumption) ?_;refine wt 4 (by assumption) ?_;refine wt 5 (by assumption) ?_;refine wt 7 (by assumption) ?_;refine wt 9 (by assumption) ?_;refine wt 10 (by assumption) ?_;refine Zar (i:=11) κ rfl (fun K hK=>?_);go_simp
    (go_at_call 39;refine (HEN.o _ HBR.o.drew).mono ?_)
    rintro r w10 ⟨rfl,hb10⟩;have hS2:=HSS.o w10 (Zag hb10);have HB10:=Zh (Zaa HBR.o (Zag hb10));have HK10:=Zh (HKR.o.go (Zag hb10));have HZ:=Zh (Zag hb10);refine hK.out _ _ hS2 ?_;clear hK K;refine pu ?_;refine wq 12 ?_;refine wq 13 ?_;refine wq 14 ?_;refine wq 15 ?_;refine wq 16 ?_;refine wq 18 ?_;refine wq 19 ?_;refine wq 22 ?_;refine wq 24 ?_;refine wt 17 (by assumption) ?_;refine wt 20 (by assumption) ?_;refine wt 21 (by assumption) ?_;refine wt 23 (by assumption) ?_;refine wt 25 (by assumption) ?_;refine wt 26 (by assumption) ?_;refine Zar (i:=27) κ rfl (fun K hK=>?_);go_simp
    go_at_call 40
    refine (HAH.o _).mono ?_;rintro r w11 ⟨rfl,hb11⟩;have HB11:=Zh (Zaa HB10.o hb11);have HK11:=Zh (HK10.o.go hb11);refine hK.out _ _ (HSS.o w11 (Zaa HZ.o hb11)) ?_;clear hK K;refine pu ?_;refine wq 28 ?_;refine wl 29 ?_;clear hHeld hS2 hd1 hd2
    go_wp2_with fail
    go_roundw
    case rel=>exact⟨i+1,ω,by go_num,rfl,HB11.o,HK11.o⟩
    case measure=>simp [intOf];omega
  exact m_140
end
end
section
def Zjc:Evt->Evt->Bool:=fun _ _=>true
def Zoc (L:Ze2)(w:World)(e:Ending)(w':World):Prop:=∃ q,e=.returned (.tuple #[.agg #[.int .i64 (L.a.evs.length:Int),.slice (some ⟨q,0,none⟩) L.a.evs.length L.a.evs.length],.int .i64 0])/\Blk w' q 70 (Zjn.flat (Zp8 L.a.evs.length (btw Zjc L.a.evs 0 L.a.evs))).toArray/\w.heap.size<=q/\Below w.heap.size w w'
section
set_option maxHeartbeats 4000000
set_option maxRecDepth 100000
theorem poC (a b:Evt)(w:World):Calls Tryz.prog 29 #[evV a,evV b] w fun e w'=>e=.returned (.bool true)/\Below w.heap.size w w':=by
 obtain⟨at_,ap,ad,al,av,ar⟩:=a;obtain⟨bt,bp,bd,bl,bv,br⟩:=b;simp only [evV];have HBA:=Zh (Zao w (.cells #[.int .i64 at_,.int .i64 ap,.int .i64 ad,.int .i64 al,.int .i64 av,.int .i64 ar] 54 (0,0)) (.cells #[.int .i64 bt,.int .i64 bp,.int .i64 bd,.int .i64 bl,.int .i64 bv,.int .i64 br] 54 (0,0)));go_enter Tryz.func29,Tryz.ntmps29
 go_wp2_with fail
 go_ret;exact⟨rfl,HBA.o⟩
theorem Zx8 (L:Ze2)(V:Ze5)(w:World)(h:Zc1 w L V)(G:Zc5 L)(hna:L.a.addr.length<=1000000)(hnd:L.a.data.length<=1000000)(hnc:L.a.hang.length<=1000000) :
  Calls Tryz.prog 28 #[Zd4 V,.func (.func 29) #[] #[]] w (Zoc L w):=by
 have HB1:=Zh (Zao w (.cells (Zjb V) 41 (0,0)) (.cells #[.int .i64 0,.slice none 0 0] 48 (0,0)));have hck:=Zh (Z4r L V _ (h.below HB1.o) G hna hnd hnc);have HFC:=Zh (fun (a b:Evt) (z:World)=>poC a b z);have hlen:(btw Zjc L.a.evs 0 L.a.evs).length<=1000000:=by
  have h1:=Zqc Zjc L.a.evs L.a.evs 0;have h2:=G.nev;have:L.a.evs.length*L.a.evs.length<=64*64:=Nat.mul_le_mul h2 h2;omega
 have hmem:∀ q∈btw Zjc L.a.evs 0 L.a.evs,0<=q.1/\q.1<L.a.evs.length/\0<=q.2/\q.2<L.a.evs.length:=fun q hq=>by
  obtain⟨m,n,a,b,h1,h2,rfl,_⟩:=(Zis _ _ _ _ _).1 hq;have:=(List.getElem?_eq_some_iff.1 h1).1;have:=(List.getElem?_eq_some_iff.1 h2).1;simp only;omega
 have HMM:=Zh hmem;clear hmem;obtain⟨X,hX⟩:∃ X,btw Zjc L.a.evs 0 L.a.evs=X:=⟨_,rfl⟩;have HX:=Zh hX;unfold Zoc;rw [hX] at hlen HMM ⊢;clear hX;obtain⟨⟨Al,nl,cl⟩,⟨Ai,ni,ci⟩,⟨Ae,ne,ce⟩,⟨Ab,nb,cb⟩,⟨Aa,na,ca⟩,⟨Ad,nd,cd⟩,⟨Ac,nc,cc⟩,⟨At,nt,ct⟩,⟨Ax,nx,cx⟩⟩:=V;simp only [Zd4,Sl.v];have HT:=Zh h;have hn1:=Zh (show nl=L.lo.length from h.nlo);have hn2:=Zh (show ni=L.ini.length from h.nini);have hn3:=Zh (show ne=L.a.evs.length from h.nev);have hn4:=Zh (show nb=L.a.bars.length from h.nbr);have hn8:=Zh (show nt=L.th.length from h.nth);have hn9:=Zh (show nx=L.a.ends.length from h.nen);have HB0:=Zh (Zad w (.cells #[.slice Al nl cl,.slice Ai ni ci,.slice Ae ne ce,.slice Ab nb cb,.slice Aa na ca,.slice Ad nd cd,.slice Ac nc cc,.slice At nt ct,.slice Ax nx cx] 41 (0,0)));have HTB:=Zh (Blk.new w 41 #[.slice Al nl cl,.slice Ai ni ci,.slice Ae ne ce,.slice Ab nb cb,.slice Aa na ca,.slice Ad nd cd,.slice Ac nc cc,.slice At nt ct,.slice Ax nx cx]);have hl1:ne<=64:=by rw [hn3.o];exact G.nev
 rw [<- hn3.o] at HMM ⊢;clear h G HB0 HTB;go_enter Tryz.func28,Tryz.ntmps28
 go_wp2_with (go_at_call 8;refine hck.o.mono ?_;rintro e w2 ⟨rfl,hb⟩;have HB2:=Zh (Zaa HB1.o hb);have HK2:=Zh ((Blk.alloc (Blk.new w 41 #[.slice Al nl cl,.slice Ai ni ci,.slice Ae ne ce,.slice Ab nb cb,.slice Aa na ca,.slice Ad nd cd,.slice Ac nc cc,.slice At nt ct,.slice Ax nx cx]) (.cells #[.int .i64 0,.slice none 0 0] 48 (0,0))).go hb);have HR2:Hid (Blk w2 (w.heap.size+1) 48 #[.int .i64 0,.slice none 0 0]):=Zh ((Zcl w (.cells #[.slice Al nl cl,.slice Ai ni ci,.slice Ae ne ce,.slice Ab nb cb,.slice Aa na ca,.slice Ad nd cd,.slice Ac nc cc,.slice At nt ct,.slice Ax nx cx] 41 (0,0)) 48 #[.int .i64 0,.slice none 0 0]).go hb);clear hb;have k2:w2.cell? ⟨w.heap.size,2,none⟩=some (.slice Ae ne ce):=HK2.o.cell 2)
 go_loopw [21,7] (fun iv vv wr=>∃ (k:Nat) (s:Sl) (q:List (Int×Int)),k<=ne/\iv=.int .i64 k/\vv=s.v/\q++btw Zjc L.a.evs k (L.a.evs.drop k)=X/\Zbf.Own 129 w.heap.size wr s.v q/\Below w.heap.size w wr/\Blk wr w.heap.size 41 #[.slice Al nl cl,.slice Ai ni ci,.slice Ae ne ce,.slice Ab nb cb,.slice Aa na ca,.slice Ad nd cd,.slice Ac nc cc,.slice At nt ct,.slice Ax nx cx]/\Blk wr (w.heap.size+1) 48 #[.int .i64 0,.slice none 0 0]) (fun iv _ _=>ne - (intOf iv).toNat)
 case atStart=>exact⟨0,⟨none,0,0⟩,[],Nat.zero_le _,rfl,rfl,by rw [List.drop_zero];exact HX.o,Enc.Own.nil _ _ _,HB2.o,HK2.o,HR2.o⟩
 case round=>
  obtain⟨k,s,q,hk,rfl,rfl,hac,hown,hb,hkk,hr⟩:=hrel;obtain⟨wk,hwk⟩:∃ z:World,z=wr:=⟨_,rfl⟩;subst hwk;have HAC:=Zh hac;have HOWN:=Zh hown;have HB:=Zh hb;have HK:=Zh hkk;have HR:=Zh hr;have hns:=Zpm hown;have hql:q.length<=1000000:=by rw [<- hac] at hlen;simp at hlen;omega
  have hgr:=hr.lt;have hgv:=hkk.lt;have k2:wk.cell? ⟨w.heap.size,2,none⟩=some (.slice Ae ne ce):=hkk.cell 2;clear hac hown hb hkk hr HB2 HK2 HR2;have hii:(0:Int)<=(k:Int):=ω;by_cases hlt:k<ne
  ·have hij:(k:Int)<(ne:Int):=ω;obtain⟨x,hx⟩:∃ x,L.a.evs[k]?=some x:=⟨_,List.getElem?_eq_getElem (by rw [<- hn3.o];exact hlt)⟩;obtain⟨b,o,eA,c0,c1,c2,c3,c4,c5⟩:=Zc6 (HT.o.ev.below HB.o) hx;simp only at eA;subst eA;have HST:=Zh (show q++(Zjd Zjc k x 0 L.a.evs++btw Zjc L.a.evs (k+1) (L.a.evs.drop (k+1)))=X by
    have:=HAC.o;rw [Zbp hx] at this;exact this)
   obtain⟨at_,ap,ad,al,av,ar⟩:=x;simp only at c0 c1 c2 c3 c4 c5;have HE0:=Zh (Blk.new wk 54 #[.int .i64 at_,.int .i64 ap,.int .i64 ad,.int .i64 al,.int .i64 av,.int .i64 ar]);have HB3:=Zh (Zab HB.o (.cells #[.int .i64 at_,.int .i64 ap,.int .i64 ad,.int .i64 al,.int .i64 av,.int .i64 ar] 54 (0,0)));have HK3:=Zh (HK.o.alloc (.cells #[.int .i64 at_,.int .i64 ap,.int .i64 ad,.int .i64 al,.int .i64 av,.int .i64 ar] 54 (0,0)));have HR3:=Zh (HR.o.alloc (.cells #[.int .i64 at_,.int .i64 ap,.int .i64 ad,.int .i64 al,.int .i64 av,.int .i64 ar] 54 (0,0)));have HO3:=Zh (HOWN.o.below (Zad wk (.cells #[.int .i64 at_,.int .i64 ap,.int .i64 ad,.int .i64 al,.int .i64 av,.int .i64 ar] 54 (0,0))));clear hx HAC
   go_wp2_with fail
   clear c0 c1 c2 c3 c4 c5 k2;go_loopw [29,7] (fun iv vv wr=>∃ (m:Nat) (s:Sl) (acc:List (Int×Int)),m<=ne/\iv=.int .i64 m/\vv=s.v/\acc++(Zjd Zjc k ⟨at_,ap,ad,al,av,ar⟩ m (L.a.evs.drop m)++btw Zjc L.a.evs (k+1) (L.a.evs.drop (k+1)))=X/\Zbf.Own 129 w.heap.size wr s.v acc/\Below w.heap.size w wr/\Blk wr w.heap.size 41 #[.slice Al nl cl,.slice Ai ni ci,.slice (some ⟨b,o,none⟩) ne ce,.slice Ab nb cb,.slice Aa na ca,.slice Ad nd cd,.slice Ac nc cc,.slice At nt ct,.slice Ax nx cx]/\Blk wr (w.heap.size+1) 48 #[.int .i64 0,.slice none 0 0]/\Blk wr wk.heap.size 54 #[.int .i64 at_,.int .i64 ap,.int .i64 ad,.int .i64 al,.int .i64 av,.int .i64 ar]) (fun iv _ _=>ne - (intOf iv).toNat)
   case atStart=>exact⟨0,s,q,Nat.zero_le _,rfl,rfl,by rw [List.drop_zero];exact HST.o,HO3.o,HB3.o,HK3.o,HR3.o,HE0.o⟩
   case round=>
    obtain⟨m,s,acc,hm,rfl,rfl,hac,hown,hb,hkk,hr,he⟩:=hrel;have HAC:=Zh hac;have HOWN2:=Zh hown;have HB4:=Zh hb;have HK4:=Zh hkk;have HR4:=Zh hr;have HE4:=Zh he;have hacl:acc.length<=1000000:=by rw [<- hac] at hlen;simp at hlen;omega
    have g0:=he.cm 0;have g1:=he.cm 1;have g2:=he.cm 2;have g3:=he.cm 3;have g4:=he.cm 4;have g5:=he.cm 5;have hgw:=he.lt;have hgv2:=hkk.lt;have hmm:(0:Int)<=(m:Int):=ω;clear hac hown hb hkk hr he HST HO3 HB3 HK3 HR3 HE0 HOWN HB HK HR;by_cases hlm:m<ne
    ·have hml:(m:Int)<(ne:Int):=ω;obtain⟨y,hy⟩:∃ y,L.a.evs[m]?=some y:=⟨_,List.getElem?_eq_getElem (by rw [<- hn3.o];exact hlm)⟩;obtain⟨b',o',eA,c0,c1,c2,c3,c4,c5⟩:=Zc6 (HT.o.ev.below HB4.o) hy;simp only at eA;simp only [Option.some.injEq,Addr.mk.injEq,and_true] at eA;obtain⟨h1,h2⟩:=eA;subst h1 h2;have HDM:=Zh (Zbp hy);obtain⟨bt,bp,bd,bl,bv,br⟩:=y;simp only at c0 c1 c2 c3 c4 c5;have HBA:=Zh (Zab HB4.o (.cells #[.int .i64 bt,.int .i64 bp,.int .i64 bd,.int .i64 bl,.int .i64 bv,.int .i64 br] 54 (0,0)));have HKA:=Zh (HK4.o.alloc (.cells #[.int .i64 bt,.int .i64 bp,.int .i64 bd,.int .i64 bl,.int .i64 bv,.int .i64 br] 54 (0,0)));have HRA:=Zh (HR4.o.alloc (.cells #[.int .i64 bt,.int .i64 bp,.int .i64 bd,.int .i64 bl,.int .i64 bv,.int .i64 br] 54 (0,0)));have HEA:=Zh (HE4.o.alloc (.cells #[.int .i64 bt,.int .i64 bp,.int .i64 bd,.int .i64 bl,.int .i64 bv,.int .i64 br] 54 (0,0)));clear hy;by_cases h1:at_=bt
     ·by_cases h2:ap<bp
      ·have HF2:=Zh (fun z=>HFC.o ⟨at_,ap,ad,al,av,ar⟩ ⟨bt,bp,bd,bl,bv,br⟩ z);simp only [evV] at HF2;subst h1;have HSN:=Zh (show (acc++[((k:Int),(m:Int))])++(Zjd Zjc k ⟨at_,ap,ad,al,av,ar⟩ (m+1) (L.a.evs.drop (m+1))++btw Zjc L.a.evs (k+1) (L.a.evs.drop (k+1)))=X by
        have:=HAC.o;rw [HDM.o] at this;unfold Zjd at this;rw [if_pos ⟨rfl,h2,rfl⟩] at this;rw [<- this];simp)
       clear HAC HDM
       go_wp2_with first | (go_at_call 29;refine (HF2.o _).mono ?_;rintro e w9 ⟨rfl,hb9⟩;have HB9:=Zh hb9;clear hb9;have HPA:=Zh (Zi7 w9 ((k:Int),(m:Int)));have HBP:=Zh (Zad w9 (.cells #[.int .i64 (k:Int),.int .i64 (m:Int)] 129 (0,0)));have HO9:=Zh (((HOWN2.o.below (Zad _ _)).below HB9.o).below HBP.o);have hz9:=(Zaa HBA.o HB9.o).size) | (at_builtin;refine Enc.appW Zmp _ rfl (.tmp 52) (.tmp 56) rfl [((k:Int),(m:Int))] w.heap.size acc _ w9.heap.size 0 1 rfl rfl HPA.o HO9.o (by simp;omega) (by simp;omega) (by simp;omega) ?_;intro v' w3 hown3 hg3;obtain⟨s3,rfl,_⟩:=Zd7 hown3;have HO5:=Zh hown3;have HG5:=Zh hg3;clear hown3 hg3)
       go_roundw
       case rel=>exact⟨m+1,s3,acc++[((k:Int),(m:Int))],ω,by go_num,rfl,HSN.o,HO5.o,(Zaa (Zaa HBA.o HB9.o) HBP.o).trans HG5.o.below,Zat ((HKA.o.go HB9.o).go HBP.o) HO9.o (by decide) HG5.o,Zat ((HRA.o.go HB9.o).go HBP.o) HO9.o (by decide) HG5.o,Zat ((HEA.o.go HB9.o).go HBP.o) HO9.o (by decide) HG5.o⟩
       case measure=>simp [intOf];omega
      ·have HSN:=Zh (show acc++(Zjd Zjc k ⟨at_,ap,ad,al,av,ar⟩ (m+1) (L.a.evs.drop (m+1))++btw Zjc L.a.evs (k+1) (L.a.evs.drop (k+1)))=X by
        have:=HAC.o;rw [HDM.o] at this;unfold Zjd at this;rw [if_neg (by simp [h2])] at this;exact this)
       subst h1;clear HAC HDM
       go_wp2_with fail
       go_roundw
       case rel=>exact⟨m+1,s,acc,ω,by go_num,rfl,HSN.o,HOWN2.o.below (Zad _ _),HBA.o,HKA.o,HRA.o,HEA.o⟩
       case measure=>simp [intOf];omega
     ·have HSN:=Zh (show acc++(Zjd Zjc k ⟨at_,ap,ad,al,av,ar⟩ (m+1) (L.a.evs.drop (m+1))++btw Zjc L.a.evs (k+1) (L.a.evs.drop (k+1)))=X by
       have:=HAC.o;rw [HDM.o] at this;unfold Zjd at this;rw [if_neg (by simp [h1])] at this;exact this)
      have h1f:(at_ == bt)=false:=by simpa using h1
      clear HAC HDM
      go_wp2_with fail
      go_roundw
      case rel=>exact⟨m+1,s,acc,ω,by go_num,rfl,HSN.o,HOWN2.o.below (Zad _ _),HBA.o,HKA.o,HRA.o,HEA.o⟩
      case measure=>simp [intOf];omega
    ·have hml:¬ (m:Int)<(ne:Int):=ω;have HSN:=Zh (show acc++btw Zjc L.a.evs (k+1) (L.a.evs.drop (k+1))=X by
      have:=HAC.o;rw [List.drop_eq_nil_of_le (by rw [<- hn3.o];omega)] at this;exact this)
     exact m_92
  ·have hij:¬ (k:Int)<(ne:Int):=ω;have HQX:=Zh (show q=X by
    have:=HAC.o;rw [List.drop_eq_nil_of_le (by rw [<- hn3.o];omega)] at this;simpa [btw] using this)
   have HAT:Hid (Zbf.At wk s.A X):=by
    obtain⟨A',cap',e1,hat,_⟩:=HOWN.o.at_;simp only [Sl.v,Value.slice.injEq] at e1;obtain⟨e2,_,_⟩:=e1;rw [e2,<- HQX.o];exact Zh hat
   have HRO:=Zh (Z1e ne s X wk ω hlen HAT.o (by rw [hns,HQX.o]) HMM.o);have r0:=HR.o.cell 0;have r1:=HR.o.cell 1;have fr:=HR.o.frozen;simp only [Sl.v] at HRO;clear HAC
   go_wp2_with (go_at_call 79;refine HRO.o.mono ?_;rintro e w9 ⟨q9,rfl,hq9,hge,hb9⟩;have HQ9:=Zh hq9;have HB9:=Zh hb9;have HR9:=Zh (HR.o.go hb9);clear hq9 hb9;have r0:=HR9.o.cell 0;have r1:=HR9.o.cell 1;have fr:=HR9.o.frozen)
   refine bodyPost_ret (v:=.tuple #[.agg #[.int .i64 (ne:Int),.slice (some ⟨q9,0,none⟩) ne ne],.int .i64 0]) (by simp [results,Tryz.results28,go_sem, *]) rfl ?_;refine⟨q9,rfl,?_,by have:=HB.o.size;omega,?_⟩
   ·exact (HQ9.o.far (p:=⟨w.heap.size+1,0,none⟩) (by simp only [ne_eq];omega) _).far (p:=⟨w.heap.size+1,1,none⟩) (by simp only [ne_eq];omega) _
   exact m_86
theorem poP (L:Ze2)(V:Ze5)(w:World)(h:Zc1 w L V)(G:Zc5 L)(hna:L.a.addr.length<=1000000)(hnd:L.a.data.length<=1000000)(hnc:L.a.hang.length<=1000000) :
  Calls Tryz.prog 7 #[Zd4 V] w (Zoc L w):=by
 have HB1:=Zh (Zao w (.cells (Zjb V) 41 (0,0)) (.cells #[.int .i64 0,.slice none 0 0] 48 (0,0)));have HBW:=Zh (Zx8 L V _ (h.below HB1.o) G hna hnd hnc);obtain⟨⟨Al,nl,cl⟩,⟨Ai,ni,ci⟩,⟨Ae,ne,ce⟩,⟨Ab,nb,cb⟩,⟨Aa,na,ca⟩,⟨Ad,nd,cd⟩,⟨Ac,nc,cc⟩,⟨At,nt,ct⟩,⟨Ax,nx,cx⟩⟩:=V;simp only [Zd4,Zjb,Sl.v] at HB1 HBW ⊢;have HRX:Hid (Blk ((w.alloc (.cells #[.slice Al nl cl,.slice Ai ni ci,.slice Ae ne ce,.slice Ab nb cb,.slice Aa na ca,.slice Ad nd cd,.slice Ac nc cc,.slice At nt ct,.slice Ax nx cx] 41 (0,0))).alloc (.cells #[.int .i64 0,.slice none 0 0] 48 (0,0))) (w.heap.size+1) 48 #[.int .i64 0,.slice none 0 0]):=Zh (by have:=Blk.new (w.alloc (.cells #[.slice Al nl cl,.slice Ai ni ci,.slice Ae ne ce,.slice Ab nb cb,.slice Aa na ca,.slice Ad nd cd,.slice Ac nc cc,.slice At nt ct,.slice Ax nx cx] 41 (0,0))) 48 #[.int .i64 0,.slice none 0 0];rwa [World.size_alloc] at this);unfold Zoc at HBW ⊢;clear h G hna hnd hnc;go_enter Tryz.func7,Tryz.ntmps7
 go_wp2_with (go_at_call 28;refine Hid.o ?_)
 refine Zh ?_;refine HBW.o.mono ?_;rintro e w9 ⟨q9,rfl,hq9,hge,hb9⟩;have HQ9:=Zh hq9;have HB9:=Zh (Zaa HB1.o hb9);have HR9:=Zh (HRX.o.go hb9);have hq0:w.heap.size+2<=q9:=by simp only [World.size_alloc] at hge;omega
 clear hq9 hb9 hge;have r0:=HR9.o.cell 0;have r1:=HR9.o.cell 1;have fr:=HR9.o.frozen;dsimp only
 go_wp2_with fail
 refine bodyPost_ret (v:=.tuple #[.agg #[.int .i64 (L.a.evs.length:Int),.slice (some ⟨q9,0,none⟩) L.a.evs.length L.a.evs.length],.int .i64 0]) (by simp [results,Tryz.results7,go_sem, *]) rfl ?_;refine⟨q9,rfl,?_,ω,?_⟩
 ·exact (HQ9.o.far (p:=⟨w.heap.size+1,0,none⟩) (by simp only [ne_eq];omega) _).far (p:=⟨w.heap.size+1,1,none⟩) (by simp only [ne_eq];omega) _
 ·exact (HB9.o.setCell (p:=⟨w.heap.size+1,0,none⟩) (show w.heap.size<=w.heap.size+1 by omega) _).setCell (p:=⟨w.heap.size+1,1,none⟩) (show w.heap.size<=w.heap.size+1 by omega) _
end
end
theorem Zsm (i j:Nat):∀ (l:List (Int×Int)) (m:List Nat),(∀ p∈l,∃ a b:Nat,p=((a:Int),(b:Int))/\a<m.length)->(((l.foldl Zns m)[i]?).getD 0).testBit j=(((m[i]?).getD 0).testBit j||decide (((i:Int),(j:Int))∈l))
 | [],m,_=>by simp
 | p :: l,m,h=>by
  obtain⟨a,b,rfl,ha⟩:=h p List.mem_cons_self;rw [List.foldl_cons,Zsm i j l _ (fun q hq=>by rw [Znt];exact h q (List.mem_cons_of_mem _ hq))];have e:((Zns m ((a:Int),(b:Int)))[i]?.getD 0).testBit j=(((m[i]?).getD 0).testBit j||decide (((i:Int),(j:Int))=((a:Int),(b:Int)))):=by
   unfold Zns;simp only [Int.toNat_natCast];by_cases hai:a=i
   ·subst hai;rw [List.getElem?_set_self ha];simp only [Option.getD_some,Nat.testBit_or,Nat.testBit_two_pow]
    congr 1
    simp [eq_comm] <;> omega
   ·rw [List.getElem?_set_ne hai];have:¬ (i:Int)=(a:Int):=ω;simp [this]
  rw [e,Bool.or_assoc]
  congr 1
  simp
theorem Zwy (k:Nat):∀ (l:List (Int×Int)) (m:List Nat),(∀ p∈l,∃ a b:Nat,p=((a:Int),(b:Int))/\b<k)->(∀ x∈m,x<2 ^ k)->∀ x∈l.foldl Zns m,x<2 ^ k
 | [],_,_,hm=>hm
 | p :: l,m,h,hm=>by
  rw [List.foldl_cons];refine Zwy k l _ (fun q hq=>h q (List.mem_cons_of_mem _ hq)) (fun x hx=>?_);obtain⟨a,b,rfl,hb⟩:=h p List.mem_cons_self;unfold Zns at hx;rcases List.mem_or_eq_of_mem_set hx with h | rfl
  ·exact hm x h
  ·refine Nat.or_lt_two_pow ?_ ?_
   ·simp only [Int.toNat_natCast];cases h:m[a]? with
    | none=>exact Nat.two_pow_pos k
    | some y=>simpa using hm y (List.mem_of_getElem? h)
   ·simp only [Int.toNat_natCast];exact Nat.pow_lt_pow_right ω hb
theorem Zu8 {l:List Evt}(h:∀ (i:Nat) x y,l[i]?=some x->l[i+1]?=some y->Zri x.th x.pl y.th y.pl):∀ (d i:Nat) x y,l[i]?=some x->l[i+1+d]?=some y->Zri x.th x.pl y.th y.pl
 | 0,i,x,y,hx,hy=>h i x y hx hy
 | d+1,i,x,y,hx,hy=>by
  have hl:=(List.getElem?_eq_some_iff.1 hy).1;obtain⟨z,hz⟩:∃ z,l[i+1+d]?=some z:=⟨_,List.getElem?_eq_getElem ω⟩;have h1:=Zu8 h d i x z hx hz;have h2:=h (i+1+d) z y hz hy;unfold Zri at h1 h2 ⊢;omega
theorem Z3b {L:Ze2}(G:Zc5 L):(Zp8 L.a.evs.length (btw Zjc L.a.evs 0 L.a.evs)).length=L.a.evs.length/\(∀ x∈Zp8 L.a.evs.length (btw Zjc L.a.evs 0 L.a.evs),x<2 ^ L.a.evs.length)/\
  ∀ (i j:Nat) (x y:Evt),L.a.evs[i]?=some x->L.a.evs[j]?=some y->∃ r,(Zp8 L.a.evs.length (btw Zjc L.a.evs 0 L.a.evs))[i]?=some r/\r.testBit j=(decide (i<j)&&decide (x.th=y.th)):=by
 have hm:∀ p∈btw Zjc L.a.evs 0 L.a.evs,∃ a b:Nat,p=((a:Int),(b:Int))/\a<L.a.evs.length/\b<L.a.evs.length:=fun p hp=>by
  obtain⟨m,n,a,b,h1,h2,rfl,_⟩:=(Zis _ _ _ _ _).1 hp;exact⟨m,n,by simp,(List.getElem?_eq_some_iff.1 h1).1,(List.getElem?_eq_some_iff.1 h2).1⟩
 refine⟨Zsn _ _,?_,fun i j x y hx hy=>?_⟩
 ·unfold Zp8;refine Zwy _ _ _ (fun p hp=>?_) (fun x hx=>?_)
  ·obtain⟨a,b,rfl,_,hb⟩:=hm p hp;exact⟨a,b,rfl,hb⟩
  ·rw [List.eq_of_mem_replicate hx];exact Nat.two_pow_pos _
 ·have hi:=(List.getElem?_eq_some_iff.1 hx).1;have hil:i<(Zp8 L.a.evs.length (btw Zjc L.a.evs 0 L.a.evs)).length:=by rw [Zsn];exact hi
  refine⟨_,List.getElem?_eq_getElem hil,?_⟩;have h:=Zsm i j (btw Zjc L.a.evs 0 L.a.evs) (List.replicate L.a.evs.length 0) (fun p hp=>by
   obtain⟨a,b,rfl,ha,_⟩:=hm p hp;exact⟨a,b,rfl,by simpa using ha⟩)
  have e:((List.replicate L.a.evs.length 0)[i]?.getD 0)=0:=by simp [hi]
  rw [e,Nat.zero_testBit,Bool.false_or] at h;have h2:(Zp8 L.a.evs.length (btw Zjc L.a.evs 0 L.a.evs))[i]?.getD 0=(Zp8 L.a.evs.length (btw Zjc L.a.evs 0 L.a.evs))[i]:=by rw [List.getElem?_eq_getElem hil];rfl
  rw [<- h2];unfold Zp8;rw [h];rw [show (decide (i<j)&&decide (x.th=y.th))=decide (i<j/\x.th=y.th) by simp]
  congr 1
  apply propext
  constructor
  ·intro hp;obtain⟨m,n,a,b,h1,h2,e,h3,h4,_⟩:=(Zis _ _ _ _ _).1 hp;simp only [Nat.zero_add,Prod.mk.injEq,Int.natCast_inj] at e;obtain⟨rfl,rfl⟩:=e;rw [hx] at h1;rw [hy] at h2;cases h1
   cases h2
   refine⟨?_,h3⟩;by_cases hlt:i<j
   ·exact hlt
   ·exfalso;by_cases hij:i=j
    ·subst hij;rw [hx] at hy;cases hy
     omega
    ·have:=Zu8 G.evo (i - j - 1) j y x hy (by rw [show j+1+(i - j - 1)=i by omega];exact hx);unfold Zri at this;omega
  ·rintro⟨h1,h2⟩;have:=Zu8 G.evo (j - i - 1) i x y hx (by rw [show i+1+(j - i - 1)=j by omega];exact hy);unfold Zri at this;exact (Zis _ _ _ _ _).2 ⟨i,j,x,y,hx,hy,by simp,h2,ω,rfl⟩
section
def Zeg (B:Nat)(S:RrS)(o:Option Rn)(w:World)(e:Ending)(w':World):Prop:=∃ r1 fl V,e=.returned (rrV S r1 fl V)/\Za7 w' B S r1 V/\Zba B w w'/\((fl=false/\o=some r1)\/(fl=true/\o=none/\r1.full=false))
theorem Ztx {C:Cx}{r:Rn}{c:List Ins}{k:Nat}{x:Ins}{p:Rn×Nat}(h11:x.op≠11)(h:Zbh C r c k x=some p):p.2=k+1:=by
 unfold Zbh at h
 split at h
 ·obtain⟨a,_,rfl⟩:=Option.map_eq_some_iff.1 h;rfl
 split at h
 ·obtain⟨a,_,rfl⟩:=Option.map_eq_some_iff.1 h;rfl
 split at h
 ·simp only [Option.some.injEq] at h;subst h;rfl
 split at h
 ·simp only [Option.some.injEq] at h;subst h;rfl
 split at h
 ·simp only [Option.some.injEq] at h;subst h;rfl
 split at h
 ·simp only [Option.some.injEq] at h;subst h;rfl
 split at h
 ·obtain⟨a,_,rfl⟩:=Option.map_eq_some_iff.1 h;rfl
 split at h
 ·simp only [Option.some.injEq] at h;subst h;rfl
 simp only [Option.some.injEq] at h;subst h;rfl
theorem Zsj {C:Cx}{nr k:Nat}{c:List Ins}{x:Ins}{r0 r1 r2:Rn}{fl2:Bool}(hv:Zoe C nr c k x)(h11:x.op≠11)(hI:Inv C nr k r1)(hx:c[k]?=some x)(hf:r1.full=false)(hgo:goL C c k r1=goL C c 0 r0)
  (hg:(fl2=false/\(Zbh C r1 c k x).map Prod.fst=some r2)\/(fl2=true/\(Zbh C r1 c k x).map Prod.fst=none/\r2.full=false)) :
  (fl2=false/\Inv C nr (k+1) r2/\goL C c (k+1) r2=goL C c 0 r0)\/(fl2=true/\goL C c 0 r0=none/\r2.full=false):=by
 rcases hg with ⟨h1,h2⟩ | ⟨h1,h2,h3⟩
 ·obtain⟨p,hp,rfl⟩:=Option.map_eq_some_iff.1 h2;have hn:=Ztx h11 hp;refine Or.inl ⟨h1,?_,?_⟩
  ·rw [<- hn];exact hI.step hv hp
  ·rw [<- hgo,Zht hx hf hp,hn]
 ·have hs:Zbh C r1 c k x=none:=by
   cases h:Zbh C r1 c k x with
   | none=>rfl
   | some p=>rw [h] at h2;cases h2
  exact Or.inr ⟨h1,by rw [<- hgo,Zhs hx hf hs],h3⟩
theorem Zww {C:Cx}{nr k n2:Nat}{c:List Ins}{x:Ins}{r0 r1 r2:Rn}{fl2:Bool}(hv:Zoe C nr c k x)(h11:x.op=11)(hI:Inv C nr k r1)(hx:c[k]?=some x)(hf:r1.full=false)(hgo:goL C c k r1=goL C c 0 r0)
  (hg:(fl2=false/\brL r1 c k x=some (r2,n2))\/(fl2=true/\brL r1 c k x=none/\r2.full=false)) :
  (fl2=false/\Inv C nr n2 r2/\goL C c n2 r2=goL C c 0 r0)\/(fl2=true/\goL C c 0 r0=none/\r2.full=false):=by
 have e:Zbh C r1 c k x=brL r1 c k x:=by unfold Zbh;simp [h11]
 rcases hg with ⟨h1,h2⟩ | ⟨h1,h2,h3⟩
 ·rw [<- e] at h2;exact Or.inl ⟨h1,hI.step hv h2,by rw [<- hgo,Zht hx hf h2]⟩
 ·rw [<- e] at h2;exact Or.inr ⟨h1,by rw [<- hgo,Zhs hx hf h2],h3⟩
theorem Zeg.of {B:Nat}{S:RrS}{o:Option Rn}{w w':World}{e:Ending}{r1:Rn}{fl:Bool}(h:Ze4 B S r1 fl w e w')(hg:(fl=false/\o=some r1)\/(fl=true/\o=none/\r1.full=false)):Zeg B S o w e w':=by
 obtain⟨V,h1,h2,h3⟩:=h;exact⟨r1,fl,V,h1,h2,h3,hg⟩
set_option maxHeartbeats 4000000
set_option maxRecDepth 100000
theorem Z8c (B:Nat)(S:RrS)(hS:Zeo S)(V:RrV)(Ai Acs Ac:Option Addr)(ci ccs cc nr:Nat)(c:List Ins)(w:World)(hiv:S.iv=⟨Ai,S.T.init.length,ci⟩)(HI:Zjm w Ai S.T.init)(hcv:S.cv=⟨Acs,S.T.code.length,ccs⟩)(hrisc:S.C.risc=decide (S.T.arch=2))(hini:∀ x∈S.T.init,x.th=(S.C.th:Int)->0<=x.rg/\x.rg<((Zfg S.C.risc:Nat):Int))(hil:S.T.init.length<=9223372036854775806)(hvr:V.rg=⟨none,0,0⟩)(hnr:nr=Zfg S.C.risc)
  (hth:S.C.th<S.T.code.length) (hcl:c.length<=256) (hcc:c.length<=cc) (bs os:Nat) (hAcs:Acs=some ⟨bs,os,none⟩) (hbs:bs<B) (hcs:w.cell? ⟨bs,os+S.C.th,none⟩=some (.slice Ac c.length cc)) (hc:Zco w Ac c) (hcB:c≠[]->∀ p,Ac=some p->p.block<B)
  (hval:∀ (k:Nat) (x:Ins),c[k]?=some x->Zoe S.C nr c k x) (h11:∀ (k:Nat) (x:Ins),c[k]?=some x->x.op=11->S.C.risc=true) (hlnk:S.C.risc=true->(Zfm c).1=0) (hinv:Inv S.C nr 0 (rn0 S.C.risc S.T.init S.C.th)) (hR:Za7 w B S rnE V) :
  Calls Tryz.prog 23 #[.agg #[.int .i64 S.T.arch,.string ⟨S.T.name.toArray⟩,.string ⟨S.T.cycle.toArray⟩,S.iv.v,S.cv.v,.int .i64 S.T.q,.int .i64 S.T.k,.int .i64 S.T.t,.int .i64 S.T.r,.string ⟨S.T.l.toArray⟩,.int .i64 S.T.v,S.kv.v],.agg #[S.lo.v,S.ini.v,V.ev.v,V.br.v,V.ad.v,V.da.v,V.ct.v,S.th.v,S.en.v],.int .i64 (S.C.th:Int)] w (Zeg B S (goL S.C c 0 (rn0 S.C.risc S.T.init S.C.th)) w):=by
 have HR:=Zh hR;have HBG:=Zh (fun w hi h=>Z4l B S V Ai ci w hiv hi hrisc hini hil hvr h);obtain⟨r0,hr0⟩:∃ r0,rn0 S.C.risc S.T.init S.C.th=r0:=⟨_,rfl⟩;rw [hr0] at hinv HBG ⊢;clear hr0;have HINV:=Zh hinv;clear hinv;have HCV:=Zh hcv;have HII:=Zh HI;have HRI:=Zh hrisc;obtain⟨tc,htc⟩:∃ c,c=#[.int .i64 S.T.arch,.string ⟨S.T.name.toArray⟩,.string ⟨S.T.cycle.toArray⟩,S.iv.v,S.cv.v,.int .i64 S.T.q,.int .i64 S.T.k,.int .i64 S.T.t,.int .i64 S.T.r,.string ⟨S.T.l.toArray⟩,.int .i64 S.T.v,S.kv.v]:=⟨_,rfl⟩;obtain⟨oc,hoc⟩:∃ c,c=#[S.lo.v,S.ini.v,V.ev.v,V.br.v,V.ad.v,V.da.v,V.ct.v,S.th.v,S.en.v]:=⟨_,rfl⟩;rw [<- htc,<- hoc];have HTC:=Zh htc;have HOC:=Zh hoc;clear htc hoc hR hiv HI hcv hrisc hini hvr;go_enter Tryz.func23,Tryz.ntmps23;apply wp_seq_k;intro K hK;have HK:=Zh hK;clear hK
 go_wp2_with fail
 refine Zhf (P:=fun X=>K _ X) w _ _ _ _ _ _ ?_;intro W b0 b1 b2 hz hbW;refine HK.o _ _ ?_;clear HK K;rw [HTC.o] at b0;rw [HOC.o] at b1;have HT:=Zh b0;have HO:=Zh b1;have HQ:=Zh b2;have HBW:=Zh hbW;clear b0 b1 b2 hbW hz
 repeat (first | ((with_reducible refine Zas ?_);refine Zaw 32 3 w.heap.size rfl rfl HT.o Tryz.underlying32 rfl κ rfl ?_) | ((with_reducible refine Zas ?_);refine Zaw 41 4 (w.heap.size+1) rfl rfl HO.o Tryz.underlying41 rfl κ rfl ?_) | (go_at_call 73;refine Hid.o ?_) | go_step)
 refine Zh ?_;refine (HBG.o W (HII.o.below HBW.o) (HR.o.below HBW.o)).mono ?_;rintro e w1 ⟨V1,rfl,hr1,hk1⟩;dsimp only;have HT1:=Zh (hk1.keep _ _ _ HT.o (by decide) (by decide) (by decide));have HQ1:=Zh (hk1.keep _ _ _ HQ.o (by decide) (by decide) (by decide));have HZ:=Zh (Blk.new w1 83 #[.int .i64 0,.string ⟨#[]⟩,.string ⟨#[]⟩,.slice none 0 0,.slice none 0 0,.int .i64 0,.int .i64 0,.int .i64 0,.int .i64 0,.string ⟨#[]⟩,.int .i64 0,.slice none 0 0,.int .i64 0,.slice none 0 0,.int .u64 0,.slice none 0 0,.slice none 0 0,.slice none 0 0,.slice none 0 0,.slice none 0 0,.slice none 0 0,.slice none 0 0,.slice none 0 0,.slice none 0 0,.bool false,.bool false])
 repeat (first | ((with_reducible refine Zas ?_);refine Zap 83 7 14 w1.heap.size rfl rfl rfl HZ.o (by rfl) κ (Zbg _ _ _ _) rfl rfl ?_;refine Hid.o ?_) | go_step)
 refine Zh ?_;have hal:=Zad w1 (.cells #[.int .i64 0,.string ⟨#[]⟩,.string ⟨#[]⟩,.slice none 0 0,.slice none 0 0,.int .i64 0,.int .i64 0,.int .i64 0,.int .i64 0,.string ⟨#[]⟩,.int .i64 0,.slice none 0 0,.int .i64 0,.slice none 0 0,.int .u64 0,.slice none 0 0,.slice none 0 0,.slice none 0 0,.slice none 0 0,.slice none 0 0,.slice none 0 0,.slice none 0 0,.slice none 0 0,.slice none 0 0,.bool false,.bool false] 83 (0,0));have hww:w.heap.size+1+1<w1.heap.size:=HQ1.o.lt;have HU:=Zh (show Zbz w ((w1.alloc (.cells #[.int .i64 0,.string ⟨#[]⟩,.string ⟨#[]⟩,.slice none 0 0,.slice none 0 0,.int .i64 0,.int .i64 0,.int .i64 0,.int .i64 0,.string ⟨#[]⟩,.int .i64 0,.slice none 0 0,.int .i64 0,.slice none 0 0,.int .u64 0,.slice none 0 0,.slice none 0 0,.slice none 0 0,.slice none 0 0,.slice none 0 0,.slice none 0 0,.slice none 0 0,.slice none 0 0,.slice none 0 0,.bool false,.bool false] 83 (0,0))).setRow w1.heap.size (rrC S r0 false V1)) B w1.heap.size (w.heap.size+1+1) S r0 false V1 from
  ⟨(hr1.below hal).row HZ.o _,(((Zba.of_below HBW.o HR.o.hB).trans hk1).below' hal HR.o.hB).row HR.o.hB (show w.heap.size<=w1.heap.size by omega) _,HR.o.hB,HZ.o.row _,⟨_,(HQ1.o.go hal).farRow (show w.heap.size+1+1≠w1.heap.size by omega) _,rfl⟩,ω,ω,ω⟩)
 have HT2:=Zh ((HT1.o.go hal).farRow (show w.heap.size≠w1.heap.size by omega) (rrC S r0 false V1));clear hal HT HO HQ HZ HT1 HQ1 hr1 hk1 HBW;generalize ((w1.alloc (.cells #[.int .i64 0,.string ⟨#[]⟩,.string ⟨#[]⟩,.slice none 0 0,.slice none 0 0,.int .i64 0,.int .i64 0,.int .i64 0,.int .i64 0,.string ⟨#[]⟩,.int .i64 0,.slice none 0 0,.int .i64 0,.slice none 0 0,.int .u64 0,.slice none 0 0,.slice none 0 0,.slice none 0 0,.slice none 0 0,.slice none 0 0,.slice none 0 0,.slice none 0 0,.slice none 0 0,.slice none 0 0,.bool false,.bool false] 83 (0,0))).setRow w1.heap.size (rrC S r0 false V1))=W2 at *;generalize (rrV S r0 false V1:Value)=x14;generalize (Value.agg #[.int .i64 S.T.arch,.string ⟨S.T.name.toArray⟩,.string ⟨S.T.cycle.toArray⟩,S.iv.v,S.cv.v,.int .i64 S.T.q,.int .i64 S.T.k,.int .i64 S.T.t,.int .i64 S.T.r,.string ⟨S.T.l.toArray⟩,.int .i64 S.T.v,S.kv.v])=x12;generalize (Value.agg #[S.lo.v,S.ini.v,V.ev.v,V.br.v,V.ad.v,V.da.v,V.ct.v,S.th.v,S.en.v])=x13;generalize hG:w1.heap.size=G at *;have t4:W2.cell? ⟨w.heap.size,4,none⟩=some (.slice (some ⟨bs,os,none⟩) S.T.code.length ccs):=by have:=HT2.o.cell 4;rw [this];show some S.cv.v=_;rw [HCV.o,hAcs]
 have tc1:W2.cell? ⟨bs,os+S.C.th,none⟩=some (.slice Ac c.length cc):=Zcx hcs HU.o.keep.below hbs;have hi1:(0:Int)<=(S.C.th:Int):=ω;have hi2:(S.C.th:Int)<(S.T.code.length:Int):=ω;have hmk:=fun w=>Znj c.length ω w
 subst hAcs;have hwz:w.heap.size<W2.heap.size:=HT2.o.lt;by_cases ha:S.T.arch=2
 ·have t0:W2.cell? ⟨w.heap.size,0,none⟩=some (.int .i64 2):=by rw [<- ha];exact HT2.o.cell 0
  have hri:S.C.risc=true:=by rw [HRI.o,ha];rfl
  have hE:=hlnk hri;clear hri
  go_wp2_with (go_at_call 74;refine Hid.o ?_)
  refine Zh ?_;have hal:=Zad W2 (.cells (Zbo (List.replicate c.length 0)) 3 (0,0));have HU3:=Zh (HU.o.below hal);refine (Zvu c Ac cc _ hcl (hc.keep hcB HU3.o.keep.below)).mono ?_;rintro e w4 ⟨hres,hb4⟩;rcases hres with ⟨hne,_⟩ | ⟨_,Al,cl,rfl,_,hown⟩
  ·exact absurd hE hne
  dsimp only;have HU4:=Zh (HU3.o.below hb4);have HLK:Hid (S.C.risc=true->∃ Bx,Zfd.Own 3 Bx w4 (.slice Al c.length cl) (Zm5 c)):=Zh (fun _=>⟨_,hown⟩);clear hown hal hb4 HU HU3 hE t0 t4 tc1 hmk hwz
  go_wp2_with fail
  go_loopw [10] (fun v wr=>∃ k:Nat,k<=c.length/\v=.int .i64 (k:Int)/\∃ (r1:Rn) (fl:Bool) (V2:RrV),Zbz w wr B G (w.heap.size+1+1) S r1 fl V2/\(S.C.risc=true->∃ Bx,Zfd.Own 3 Bx wr (.slice (Al) c.length (cl)) (Zm5 c))/\((fl=false/\Inv S.C nr k r1/\goL S.C c k r1=goL S.C c 0 r0)\/(fl=true/\goL S.C c 0 r0=none/\r1.full=false))) (fun v _=>c.length - (intOf v).toNat)
  case atStart=>exact⟨0,ω,rfl,r0,false,V1,HU4.o,HLK.o,Or.inl ⟨rfl,HINV.o,rfl⟩⟩
  case round=>
   obtain⟨k,hk,rfl,r1,fl,V2,hu,hlk,hgo⟩:=hrel;have HU:=Zh hu;have HLK2:=Zh hlk;have HGO:=Zh hgo;have k24:=hu.blk.cm 24;have k25:=hu.blk.cm 25;obtain⟨z,hz,hzs⟩:=hu.out;clear hu hlk hgo HU4 HINV HLK;by_cases hend:k<c.length/\fl=false/\r1.full=false
   ·obtain⟨hlt,hf1,hf2⟩:=hend;have hgo1:Inv S.C nr k r1/\goL S.C c k r1=goL S.C c 0 r0:=by
     rcases HGO.o with ⟨_,h⟩ | ⟨h,_⟩
     ·exact h
     ·rw [hf1] at h;cases h
    have HGI:=Zh hgo1;subst hf1;rw [hf2] at k25;have hki:(k:Int)<(c.length:Int):=ω;have hk0:(0:Int)<=(k:Int):=ω;obtain⟨x,hx⟩:∃ x,c[k]?=some x:=⟨_,List.getElem?_eq_getElem hlt⟩;have hins:=hc.keep hcB HU.o.keep.below;obtain⟨bc,oc,hAc,m0,m1,m2,m3,m4,m5,m6,m7,_⟩:=hins k x hx;have HX:=Zh hx;have HIN2:=Zh hins;clear HGO hgo1 hx hins hz hzs;by_cases h11x:x.op=11
    ·have hri1:=h11 k x HX.o h11x;obtain⟨Bx,hlo⟩:=HLK2.o hri1;obtain⟨A',cap',e,hat,_⟩:=Enc.Own.at_ hlo;simp only [Value.slice.injEq] at e;have hlk:(Zm5 c)[k]?=some ((Zhv c k x:Nat):Int):=by
      unfold Zm5;rw [if_pos (hlnk hri1),List.getElem?_map,List.getElem?_range hlt];show some (Zqu c k)=_;unfold Zqu;rw [HX.o];simp [h11x,Zhv]
     obtain⟨bl,ol,e2,hcl9⟩:=hat k _ hlk;have l0:wr.cell? ⟨bl,ol+k,none⟩=some (.int .i64 ((Zhv c k x:Nat):Int)):=by have:=hcl9 0 _ rfl;rwa [Nat.mul_one,Nat.add_zero] at this
     have e3:=e.1;rw [e2] at e3;subst e3;have hv:=hval k x HX.o;obtain⟨d',hd'⟩:=Int.eq_ofNat_of_zero_le hv.d.1;obtain⟨a',ha'⟩:=Int.eq_ofNat_of_zero_le hv.a.1;obtain⟨b',hb'⟩:=Int.eq_ofNat_of_zero_le hv.b.1;obtain⟨oka,hxa⟩:=HGI.o.1.rg hv.a.1 hv.a.2;obtain⟨okb,hxb⟩:=HGI.o.1.rg hv.b.1 hv.b.2;have hxe:(⟨x.op,(d':Int),(a':Int),(b':Int),x.imm,x.loc,x.label,x.fence⟩:Ins)=x:=by rw [<- hd',<- ha',<- hb']
     have hxa2:r1.regs[a']?=some (rgA r1 x.a):=by rw [<- hxa,ha',Int.toNat_natCast]
     have hxb2:r1.regs[b']?=some (rgA r1 x.b):=by rw [<- hxb,hb',Int.toNat_natCast]
     have HBRN:=Zh (fun W (h:Za7 W B S r1 V2) (hi:Zco W Ac c)=>Z1x B S r1 V2 nr k HGI.o.1 hf2 c Ac cc k x.op x.imm x.fence d' a' b' x.loc x.label W hi hcB hcl hcc (by rw [hxe];exact HX.o) (by rw [hxe];exact hv.lab h11x) (rgA r1 x.a) (rgA r1 x.b) hxa2 hxb2 oka okb h);rw [hxe] at HBRN;have HL0:=Zh (show ∀ W,Zba B wr W->W.cell? ⟨bl,ol+k,none⟩=some (.int .i64 ((Zhv c k x:Nat):Int)) from fun W hkk=>by
      obtain⟨A9,c9,e9,hat9,_⟩:=Enc.Own.at_ (hkk.own hlo (by decide) (by decide) (by decide));simp only [Value.slice.injEq] at e9;obtain⟨b9,o9,e8,hc9⟩:=hat9 k _ hlk;rw [<- e9.1] at e8;simp only [Option.some.injEq,Addr.mk.injEq,and_true] at e8;obtain⟨rfl,rfl⟩:=e8;have:=hc9 0 _ rfl
      rwa [Nat.mul_one,Nat.add_zero] at this)
     have HGOES:=Zh (fun r2 fl2 n2 (hg:(fl2=false/\brL r1 c k x=some (r2,n2))\/(fl2=true/\brL r1 c k x=none/\r2.full=false))=>Zww hv h11x HGI.o.1 HX.o hf2 HGI.o.2 hg);clear hd' ha' hb' hxe hxa hxb hxa2 hxb2 oka okb hv e2 hat hcl9 e;subst hAc
     go_wp2_with fail
     refine wz (fun y:World=>Blk y G 83 (rrC S r1 false V2)/\y.cell? ⟨bl,ol+k,none⟩=some (.int .i64 ((Zhv c k x:Nat):Int))) [0,6] ⟨HU.o.drew.blk,l0⟩ (fun hHeld=>?_);refine wq 1 ?_;refine wq 2 ?_;refine wq 3 ?_;refine wq 4 ?_;refine wq 5 ?_;refine wv 0 ((rrV S r1 false V2)) rfl (fun x' hS=>Zaz rfl rfl (Zez hS.1)) (by assumption) ?_;refine wt 6 (by assumption) ?_;clear hHeld;refine Zar (i:=7) κ rfl (fun K hK=>?_);go_simp
     go_at_call 75
     refine (HBRN.o _ HU.o.drew.ref (HIN2.o.below (Below.refl _ _).drew)).mono ?_;rintro e w5 ⟨r2,fl2,V3,n2,rfl,hr2,hk2,hn1,hn2,hg2⟩;have hb5:=hk2.keep _ _ _ HU.o.drew.blk (by decide) (by decide) (by decide);refine hK.out _ _ ⟨hb5,HL0.o w5 ((Zba.refl B wr).drew.trans hk2)⟩ ?_;clear hK K;refine pu ?_;refine wq 8 ?_;refine wq 9 ?_;refine wq 10 ?_;refine wl 11 ?_;have HU5:=Zh (HU.o.drew.row (fl':=fl2) hr2 hk2);have HG5:=Zh (HGOES.o r2 fl2 n2 hg2);have HLK5:Hid (S.C.risc=true->∃ Bx,Zfd.Own 3 Bx (w5.setRow G (rrC S r2 fl2 V3)) (.slice (some ⟨bl,ol,none⟩) c.length cl) (Zm5 c)):=Zh (fun h=>by
      obtain⟨Bx,ho⟩:=HLK2.o h;exact⟨Bx,Zck (hk2.own (show wr.drew.ownsRow _ _ _ _ _ _ from ho) (by decide) (by decide) (by decide)) hb5 (by decide) _⟩)
     clear hr2 hk2 hg2 HU HBRN HL0 HGOES HGI l0 k24 k25 m0 m1 m2 m3 m4 m5 m6 m7 hlk hlo
     go_wp2_with ((with_reducible refine Zas ?_);refine Zap 83 7 61 G rfl rfl rfl hb5 (by exact rfl) κ (Zbg _ _ _ _) rfl rfl ?_)
     go_roundw
     case rel=>exact⟨n2,ω,by first | rfl | go_num | omega,r2,fl2,V3,HU5.o,HLK5.o,by have h:=HG5.o;first | exact h | simpa using h⟩
     case measure=>exact msr
    ·have HST:=Zh (fun W (h:Za7 W B S r1 V2)=>Z52 B S hS HRI.o r1 V2 nr k HGI.o.1 (by rw [hnr];unfold Zfg;split <;> omega) hf2 ω c k x (hval k x HX.o) h11x W h);have HGOES:=Zh (fun r2 fl2 (hg:(fl2=false/\(Zbh S.C r1 c k x).map Prod.fst=some r2)\/(fl2=true/\(Zbh S.C r1 c k x).map Prod.fst=none/\r2.full=false))=>Zsj (hval k x HX.o) h11x HGI.o.1 HX.o hf2 HGI.o.2 hg);subst hAc
     go_wp2_with fail
     refine wz (fun y:World=>Zbz w y B G (w.heap.size+1+1) S r1 false V2/\y.cell? ⟨bc,oc+k*8,none⟩=some (.int .i64 x.op)/\y.cell? ⟨bc,oc+k*8+1,none⟩=some (.int .i64 x.d)/\y.cell? ⟨bc,oc+k*8+2,none⟩=some (.int .i64 x.a)/\y.cell? ⟨bc,oc+k*8+3,none⟩=some (.int .i64 x.b)/\y.cell? ⟨bc,oc+k*8+4,none⟩=some (.int .i64 x.imm)/\y.cell? ⟨bc,oc+k*8+5,none⟩=some (.string ⟨x.loc.toArray⟩)/\y.cell? ⟨bc,oc+k*8+6,none⟩=some (.string ⟨x.label.toArray⟩)/\y.cell? ⟨bc,oc+k*8+7,none⟩=some (.int .i64 x.fence)) [0,5] ⟨HU.o.drew,m0,m1,m2,m3,m4,m5,m6,m7⟩ (fun hHeld=>?_);refine wq 1 ?_;refine wq 2 ?_;refine wq 3 ?_;refine wq 4 ?_;refine wv 0 ((rrV S r1 false V2)) rfl (fun x' hS=>Zaz rfl rfl (Zez hS.1.blk)) (by assumption) ?_;refine wt 5 (by assumption) ?_;refine wl 6 ?_;have HU1:=Zh hHeld.1;clear hHeld m0 m1 m2 m3 m4 m5 m6 m7 k24 k25
     repeat (first | (go_at_call 76;refine Hid.o ?_) | go_step)
     refine Zh ?_;refine (HST.o _ HU1.o.ref).mono ?_;rintro e w5 ⟨r2,fl2,V3,rfl,hr2,hk2,hg2⟩;dsimp only;have hb5:=hk2.keep _ _ _ HU1.o.blk (by decide) (by decide) (by decide);have HU5:=Zh (HU1.o.row (fl':=fl2) hr2 hk2);have HG5:=Zh (HGOES.o r2 fl2 hg2);have HLK5:Hid (S.C.risc=true->∃ Bx,Zfd.Own 3 Bx (w5.setRow G (rrC S r2 fl2 V3)) (.slice (Al) c.length (cl)) (Zm5 c)):=Zh (fun h=>by
      obtain⟨Bx,ho⟩:=HLK2.o h;exact⟨Bx,Zck (hk2.own (show wr.drew.ownsRow _ _ _ _ _ _ from ho) (by decide) (by decide) (by decide)) hb5 (by decide) _⟩)
     clear hr2 hk2 hg2 HU HU1 HST HGOES HGI
     go_wp2_with ((with_reducible refine Zas ?_);refine Zap 83 7 69 G rfl rfl rfl hb5 (by exact rfl) κ (Zbg _ _ _ _) rfl rfl ?_)
     go_roundw
     case rel=>exact⟨k+1,ω,by first | go_num | omega,r2,fl2,V3,HU5.o,HLK5.o,by have h:=HG5.o;first | exact h | simpa using h⟩
     case measure=>exact msr
   exact m_6
 ·have t0:W2.cell? ⟨w.heap.size,0,none⟩=some (.int .i64 S.T.arch):=HT2.o.cell 0;have hri:¬ S.C.risc=true:=by rw [HRI.o];simpa using ha
  go_wp2_with fail
  have hal:=Zad W2 (.cells (Zbo (List.replicate c.length 0)) 3 (0,0));have HU4:=Zh (HU.o.below hal);have HLK:Hid (S.C.risc=true->∃ Bx,Zfd.Own 3 Bx (W2.alloc (.cells (Zbo (List.replicate c.length 0)) 3 (0,0))) (.slice (some ⟨W2.heap.size,0,none⟩) c.length c.length) (Zm5 c)):=Zh (fun h=>absurd h hri);have HNR:=Zh hri;clear hri hal HU t0 t4 tc1 hmk hwz;generalize (W2.alloc (.cells (Zbo (List.replicate c.length 0)) 3 (0,0)))=w4 at *;go_loopw [10] (fun v wr=>∃ k:Nat,k<=c.length/\v=.int .i64 (k:Int)/\∃ (r1:Rn) (fl:Bool) (V2:RrV),Zbz w wr B G (w.heap.size+1+1) S r1 fl V2/\(S.C.risc=true->∃ Bx,Zfd.Own 3 Bx wr (.slice (some ⟨W2.heap.size,0,none⟩) c.length (c.length)) (Zm5 c))/\((fl=false/\Inv S.C nr k r1/\goL S.C c k r1=goL S.C c 0 r0)\/(fl=true/\goL S.C c 0 r0=none/\r1.full=false))) (fun v _=>c.length - (intOf v).toNat)
  case atStart=>exact⟨0,ω,rfl,r0,false,V1,HU4.o,HLK.o,Or.inl ⟨rfl,HINV.o,rfl⟩⟩
  case round=>
   obtain⟨k,hk,rfl,r1,fl,V2,hu,hlk,hgo⟩:=hrel;have HU:=Zh hu;have HLK2:=Zh hlk;have HGO:=Zh hgo;have k24:=hu.blk.cm 24;have k25:=hu.blk.cm 25;obtain⟨z,hz,hzs⟩:=hu.out;clear hu hlk hgo HU4 HINV HLK;by_cases hend:k<c.length/\fl=false/\r1.full=false
   ·obtain⟨hlt,hf1,hf2⟩:=hend;have hgo1:Inv S.C nr k r1/\goL S.C c k r1=goL S.C c 0 r0:=by
     rcases HGO.o with ⟨_,h⟩ | ⟨h,_⟩
     ·exact h
     ·rw [hf1] at h;cases h
    have HGI:=Zh hgo1;subst hf1;rw [hf2] at k25;have hki:(k:Int)<(c.length:Int):=ω;have hk0:(0:Int)<=(k:Int):=ω;obtain⟨x,hx⟩:∃ x,c[k]?=some x:=⟨_,List.getElem?_eq_getElem hlt⟩;have hins:=hc.keep hcB HU.o.keep.below;obtain⟨bc,oc,hAc,m0,m1,m2,m3,m4,m5,m6,m7,_⟩:=hins k x hx;have HX:=Zh hx;have HIN2:=Zh hins;clear HGO hgo1 hx hins hz hzs;by_cases h11x:x.op=11
    ·have hri1:=h11 k x HX.o h11x;obtain⟨Bx,hlo⟩:=HLK2.o hri1;obtain⟨A',cap',e,hat,_⟩:=Enc.Own.at_ hlo;simp only [Value.slice.injEq] at e;have hlk:(Zm5 c)[k]?=some ((Zhv c k x:Nat):Int):=by
      unfold Zm5;rw [if_pos (hlnk hri1),List.getElem?_map,List.getElem?_range hlt];show some (Zqu c k)=_;unfold Zqu;rw [HX.o];simp [h11x,Zhv]
     obtain⟨bl,ol,e2,hcl9⟩:=hat k _ hlk;have l0:wr.cell? ⟨bl,ol+k,none⟩=some (.int .i64 ((Zhv c k x:Nat):Int)):=by have:=hcl9 0 _ rfl;rwa [Nat.mul_one,Nat.add_zero] at this
     have e3:=e.1;rw [e2] at e3;exact absurd hri1 HNR.o
    ·have HST:=Zh (fun W (h:Za7 W B S r1 V2)=>Z52 B S hS HRI.o r1 V2 nr k HGI.o.1 (by rw [hnr];unfold Zfg;split <;> omega) hf2 ω c k x (hval k x HX.o) h11x W h);have HGOES:=Zh (fun r2 fl2 (hg:(fl2=false/\(Zbh S.C r1 c k x).map Prod.fst=some r2)\/(fl2=true/\(Zbh S.C r1 c k x).map Prod.fst=none/\r2.full=false))=>Zsj (hval k x HX.o) h11x HGI.o.1 HX.o hf2 HGI.o.2 hg);subst hAc
     go_wp2_with fail
     refine wz (fun y:World=>Zbz w y B G (w.heap.size+1+1) S r1 false V2/\y.cell? ⟨bc,oc+k*8,none⟩=some (.int .i64 x.op)/\y.cell? ⟨bc,oc+k*8+1,none⟩=some (.int .i64 x.d)/\y.cell? ⟨bc,oc+k*8+2,none⟩=some (.int .i64 x.a)/\y.cell? ⟨bc,oc+k*8+3,none⟩=some (.int .i64 x.b)/\y.cell? ⟨bc,oc+k*8+4,none⟩=some (.int .i64 x.imm)/\y.cell? ⟨bc,oc+k*8+5,none⟩=some (.string ⟨x.loc.toArray⟩)/\y.cell? ⟨bc,oc+k*8+6,none⟩=some (.string ⟨x.label.toArray⟩)/\y.cell? ⟨bc,oc+k*8+7,none⟩=some (.int .i64 x.fence)) [0,5] ⟨HU.o.drew,m0,m1,m2,m3,m4,m5,m6,m7⟩ (fun hHeld=>?_);refine wq 1 ?_;refine wq 2 ?_;refine wq 3 ?_;refine wq 4 ?_;refine wv 0 ((rrV S r1 false V2)) rfl (fun x' hS=>Zaz rfl rfl (Zez hS.1.blk)) (by assumption) ?_;refine wt 5 (by assumption) ?_;refine wl 6 ?_;have HU1:=Zh hHeld.1;clear hHeld m0 m1 m2 m3 m4 m5 m6 m7 k24 k25
     repeat (first | (go_at_call 76;refine Hid.o ?_) | go_step)
     refine Zh ?_;refine (HST.o _ HU1.o.ref).mono ?_;rintro e w5 ⟨r2,fl2,V3,rfl,hr2,hk2,hg2⟩;dsimp only;have hb5:=hk2.keep _ _ _ HU1.o.blk (by decide) (by decide) (by decide);have HU5:=Zh (HU1.o.row (fl':=fl2) hr2 hk2);have HG5:=Zh (HGOES.o r2 fl2 hg2);have HLK5:Hid (S.C.risc=true->∃ Bx,Zfd.Own 3 Bx (w5.setRow G (rrC S r2 fl2 V3)) (.slice (some ⟨W2.heap.size,0,none⟩) c.length (c.length)) (Zm5 c)):=Zh (fun h=>by
      obtain⟨Bx,ho⟩:=HLK2.o h;exact⟨Bx,Zck (hk2.own (show wr.drew.ownsRow _ _ _ _ _ _ from ho) (by decide) (by decide) (by decide)) hb5 (by decide) _⟩)
     clear hr2 hk2 hg2 HU HU1 HST HGOES HGI
     go_wp2_with ((with_reducible refine Zas ?_);refine Zap 83 7 69 G rfl rfl rfl hb5 (by exact rfl) κ (Zbg _ _ _ _) rfl rfl ?_)
     go_roundw
     case rel=>exact⟨k+1,ω,by first | go_num | omega,r2,fl2,V3,HU5.o,HLK5.o,by have h:=HG5.o;first | exact h | simpa using h⟩
     case measure=>exact msr
   exact m_6
end
section
theorem Zoi (l:List (Int×Int)):∀ k,(Zfa k l).length<=k*l.length
 | 0=>by simp [Zfa]
 | k+1=>by
  rw [Zed,List.length_append,Nat.succ_mul];have:=Zoi l k;have:=List.length_filter_le (fun p:Int×Int=>decide (p.1=(k:Int))) l;omega
theorem Zos {l:List (Int×Int)}{i:Nat}{x:Int×Int}(k:Int)(hx:l[i]?=some x):(l.take (i+1)).filter (fun p=>decide (p.1=k))=(l.take i).filter (fun p=>decide (p.1=k))++(if x.1=k then [x] else []):=by
 rw [List.take_add_one,hx,List.filter_append];simp only [Option.toList_some,List.filter_cons,List.filter_nil,decide_eq_true_eq]
set_option maxHeartbeats 4000000
set_option maxRecDepth 100000
theorem Z3i (A:Option Addr)(cap:Nat)(l:List (Int×Int))(w:World)(h:Zbf.At w A l)(hl:l.length<=1000000) :
  Calls Tryz.prog 25 #[.slice A l.length cap] w fun e w'=>∃ s:Sl,e=.returned s.v/\Zbf.Own 129 w.heap.size w' s.v (Zf0 l)/\Below w.heap.size w w':=by
 have HA:=Zh h;go_enter Tryz.func25,Tryz.ntmps25
 go_wp2_with fail
 go_loopw [4,3] (fun ii vv wr=>∃ (k:Nat) (s:Sl),k<=64/\ii=.int .i64 k/\vv=s.v/\Zbf.Own 129 w.heap.size wr s.v (Zfa k l)/\Below w.heap.size w wr) (fun ii _ _=>64 - (intOf ii).toNat)
 case atStart=>exact⟨0,⟨none,0,0⟩,Nat.zero_le _,rfl,rfl,Enc.Own.nil _ _ _,Below.refl _ _⟩
 case round=>
  obtain⟨k,s,hk,rfl,rfl,ho,hb⟩:=hrel;obtain⟨wk,hwk⟩:∃ z:World,z=wr:=⟨_,rfl⟩;subst hwk;have HO:=Zh ho;have HB:=Zh hb;have hql:=Zoi l k;have hq2:k*l.length<=64*l.length:=Nat.mul_le_mul_right _ hk;by_cases hlt:k<64
  ·have hki:(k:Int)<64:=ω
   go_wp2_with fail
   go_loopw [5,3] (fun ii vv wr=>∃ (i:Nat) (s:Sl) (q:List (Int×Int)),i<=l.length/\ii=.int .i64 i/\vv=s.v/\q=Zfa k l++(l.take i).filter (fun p=>decide (p.1=(k:Int)))/\Zbf.Own 129 w.heap.size wr s.v q/\Below w.heap.size w wr) (fun ii _ _=>l.length - (intOf ii).toNat)
   case atStart=>exact⟨0,s,_,Nat.zero_le _,rfl,rfl,by simp,HO.o,HB.o⟩
   case round=>
    obtain⟨i,s,q,hi,rfl,rfl,hq,ho,hb⟩:=hrel;have HQ:=Zh hq;have HO:=Zh ho;have HB:=Zh hb;have hqq:q.length<=65*l.length:=by
     rw [hq,List.length_append];have h1:=List.length_filter_le (fun p:Int×Int=>decide (p.1=(k:Int))) (l.take i);rw [List.length_take] at h1;omega
    have hii:(0:Int)<=(i:Int):=ω;by_cases hli:i<l.length
    ·obtain⟨x,hx⟩:∃ x,l[i]?=some x:=⟨_,List.getElem?_eq_getElem hli⟩;obtain⟨b,o,rfl,c0,c1⟩:=Zg2 (HA.o.below HB.o) hx;have hij:(i:Int)<(l.length:Int):=ω;obtain⟨x1,x2⟩:=x;simp only at c0 c1;by_cases hxk:x1=(k:Int)
     ·subst hxk;have HS:=Zh (show q++[((k:Int),x2)]=Zfa k l++(l.take (i+1)).filter (fun p=>decide (p.1=(k:Int))) by rw [Zos _ hx,if_pos rfl,HQ.o,List.append_assoc]);have HPA:=Zh (Zi7 wr ((k:Int),x2));have HBA:=Zh (Zad wr (.cells #[.int .i64 (k:Int),.int .i64 x2] 129 (0,0)));have hzr:=HB.o.size
      go_wp2_with (at_builtin;refine Enc.appW Zmp _ rfl (.tmp 23) (.tmp 28) rfl [((k:Int),x2)] w.heap.size q _ wr.heap.size 0 1 rfl rfl HPA.o (HO.o.below HBA.o) (by simp;omega) (by simp;omega) (by simp;omega) ?_;intro v' w3 hown3 hg3;obtain⟨s3,rfl,hs3⟩:=Zd7 hown3;clear hs3;have HO3:=Zh hown3;have HG3:=Zh hg3;clear hown3 hg3)
      go_roundw
      case rel=>exact⟨i+1,s3,_,ω,by go_num,rfl,HS.o,HO3.o,(HB.o.trans (HBA.o.mono hzr)).trans HG3.o.below⟩
      case measure=>exact msr
     ·have HS:=Zh (show q=Zfa k l++(l.take (i+1)).filter (fun p=>decide (p.1=(k:Int))) by rw [Zos _ hx,if_neg hxk,HQ.o,List.append_nil])
      go_wp2_with fail
      go_roundw
      case rel=>exact⟨i+1,s,_,ω,by go_num,rfl,HS.o,HO.o,HB.o⟩
      case measure=>exact msr
    ·have hil:i=l.length:=ω;subst hil
     go_wp2_with fail
     go_roundw
     case rel=>exact⟨k+1,s,ω,by go_num,rfl,by rw [Zed];have:=HQ.o;rw [List.take_length] at this;rw [<- this];exact HO.o,HB.o⟩
     case measure=>exact msr
  ·have hk64:k=64:=ω;subst hk64
   go_wp2_with fail
   go_ret;exact⟨s,rfl,HO.o,HB.o⟩
end
abbrev Z39 (V:Ze5):Zs2:=⟨V.lo.v,V.ini.v,V.ev.v,V.br.v,V.ad.v,V.da.v,V.ct.v,V.th.v,V.en.v⟩
theorem Zb3.sl {w:World}{B O:Nat}{L:Ze2}{V:Zs2}(h:Zb3 w B O L V):∃ V':Ze5,V=Z39 V'/\V'.lo.n=L.lo.length/\V'.th.n=L.th.length/\V'.en.n=L.a.ends.length:=by
 obtain⟨lo,ini,ev,br,ad,da,ct,th,en⟩:=V;obtain⟨s1,h1,n1⟩:=Zd7 h.lo;obtain⟨s2,h2,n2,_⟩:=Znw h.ini;obtain⟨s3,h3,n3⟩:=Zd7 h.ev;obtain⟨s4,h4,n4⟩:=Zd7 h.br;obtain⟨s5,h5,n5⟩:=Zd7 h.ad;obtain⟨s6,h6,n6⟩:=Zd7 h.da;obtain⟨s7,h7,n7⟩:=Zd7 h.ct;obtain⟨s8,h8,n8⟩:=Zd7 h.th;obtain⟨s9,h9,n9,_⟩:=Znw h.en;simp only at h1 h2 h3 h4 h5 h6 h7 h8 h9;subst h1 h2 h3 h4 h5 h6 h7 h8 h9;exact⟨⟨s1,s2,s3,s4,s5,s6,s7,s8,s9⟩,rfl,n1,n8,n9⟩
theorem Zb3.refAt {w:World}{B O:Nat}{L:Ze2}{V:Ze5}(h:Zb3 w B O L (Z39 V))(hB:B<=w.heap.size){S:RrS}(h0:S.lo=V.lo)(h1:S.C.locs=L.lo)(h2:S.a=L.a) :
  Za7 w B S rnE ⟨⟨none,0,0⟩,V.ev,V.br,V.ad,V.da,V.ct⟩:=by
 refine⟨hB,?_,Enc.Own.nil _ _ _,?_,?_,?_,?_,?_,h.a1,h.a2,h.a3⟩
 ·rw [h0,h1];exact h.lo
 ·show Zqm.Own _ B w V.ev.v (S.a.evs++[]);rw [List.append_nil,h2];exact h.ev
 ·show Zmq.Own _ B w V.br.v (S.a.bars++[]);rw [List.append_nil,h2];exact h.br
 ·show Zbf.Own _ B w V.ad.v (S.a.addr++[]);rw [List.append_nil,h2];exact h.ad
 ·show Zbf.Own _ B w V.da.v (S.a.data++[]);rw [List.append_nil,h2];exact h.da
 ·show Zbf.Own _ B w V.ct.v (S.a.hang++[]);rw [List.append_nil,h2];exact h.ct
theorem Zba.heap {B q:Nat}{w w1:World}{t:TypeId}{cs:Array Value}(h:Zba B w w1)(hb:Blk w q t cs)(h1:t≠54)(h2:t≠123)(h3:t≠129):w1.heap[q]?=w.heap[q]?:=(h.keep q t cs hb h1 h2 h3).trans hb.symm
theorem Za7.setO {w:World}{B q:Nat}{S:RrS}{r:Rn}{V:RrV}(h:Za7 w B S r V){cs:Array Value}(hq:Blk w q 76 cs)(i:Nat)(u:Value):Za7 (w.setCell ⟨q,i,none⟩ u) B S r V:=
 ⟨by simpa [World.setCell] using h.hB,Zaf h.lo hq (by decide) _ _,Zaf h.rg hq (by decide) _ _,Zaf h.ev hq (by decide) _ _,Zaf h.br hq (by decide) _ _,Zaf h.ad hq (by decide) _ _,Zaf h.da hq (by decide) _ _,Zaf h.ct hq (by decide) _ _,h.a1,h.a2,h.a3⟩
structure OfS (w wr:World) (O:Nat) (L:Ze2) (V:Ze5) (tc:Array Value):Prop where
 out:Zb3 wr w.heap.size O L (Z39 V)
 tst:Blk wr w.heap.size 32 tc
 res:Blk wr (w.heap.size+1) 41 #[.slice none 0 0,.slice none 0 0,.slice none 0 0,.slice none 0 0,.slice none 0 0,.slice none 0 0,.slice none 0 0,.slice none 0 0,.slice none 0 0]
 bel:Below w.heap.size w wr
 hO:w.heap.size+1<O
structure Zs1 (w wq:World) (O G:Nat) (S:RrS) (r:Rn) (fl:Bool) (V:RrV) (I:List Int) (ths:List Th) (m:List (Int×Int)) (tc:Array Value):Prop where
 ref:Za7 wq w.heap.size S r V
 blk:Blk wq G 83 (rrC S r fl V)
 out:∃ z,Blk wq O 41 z/\z.size=9/\z[7]?=some S.th.v
 ini:Zxx Zfd 3 w.heap.size wq S.ini.v I
 en:Zxx Zbf 76 w.heap.size wq S.en.v m
 th:wq.ownsRow w.heap.size 25 3 S.th.v ths.length (Zay ths)
 tst:Blk wq w.heap.size 32 tc
 res:Blk wq (w.heap.size+1) 41 #[.slice none 0 0,.slice none 0 0,.slice none 0 0,.slice none 0 0,.slice none 0 0,.slice none 0 0,.slice none 0 0,.slice none 0 0,.slice none 0 0]
 bel:Below w.heap.size w wq
 hO:w.heap.size+1<O
namespace OfS
variable {w wr w1:World} {O:Nat} {L:Ze2} {V:Ze5} {tc:Array Value}
theorem below (h:OfS w wr O L V tc)(hb:Below wr.heap.size wr w1):OfS w w1 O L V tc:=
 ⟨h.out.below hb,h.tst.go hb,h.res.go hb,Zaa h.bel hb,h.hO⟩
theorem en_ (h:OfS w wr O L V tc){i q n:Nat}(x:Int×Int)(hn:L.a.ends.length=n)(hi:i<n)(hq:V.en=⟨some ⟨q,0,none⟩,n,n⟩) :
  OfS w ((wr.setCell ⟨q,i*2,none⟩ (.int .i64 x.1)).setCell ⟨q,i*2+1,none⟩ (.int .i64 x.2)) O { L with a:={ L.a with ends:=L.a.ends.set i x } } V tc:=by
 subst hn;have hv:(Z39 V).en=.slice (some ⟨q,0,none⟩) L.a.ends.length L.a.ends.length:=by show V.en.v=_;rw [hq]
 obtain⟨hb,hB⟩:=h.out.en_blk hv;exact⟨h.out.en_ hi hv,(h.tst.far (Za4 h.tst hb (by decide)) _).far (Za4 h.tst hb (by decide)) _,
  (h.res.far (Za4 h.res hb (by decide)) _).far (Za4 h.res hb (by decide)) _,
  (h.bel.setCell (p:=⟨q,i*2,none⟩) hB _).setCell (p:=⟨q,i*2+1,none⟩) hB _,h.hO⟩
theorem pr_ (h:OfS w wr O L V tc){s:Sl}{l:List (Int×Int)}(ho:Zbf.Own 129 wr.heap.size w1 s.v l)(hb:Below wr.heap.size wr w1) :
  OfS w (w1.setCell ⟨O,4,none⟩ s.v) O { L with a:={ L.a with addr:=l } } { V with ad:=s } tc/\OfS w (w1.setCell ⟨O,5,none⟩ s.v) O { L with a:={ L.a with data:=l } } { V with da:=s } tc/\OfS w (w1.setCell ⟨O,6,none⟩ s.v) O { L with a:={ L.a with hang:=l } } { V with ct:=s } tc:=by
 have hz:=h.bel.size;have hg:∀ v:Value,Zbm wr w1 w.heap.size v s.v:=fun v=>⟨hb.mono hz,fun i hi _=>hb.block i hi,fun b e=>Or.inr (ho.lt b e).1⟩
 have ho2:=Zdx ho hz;have ht:=h.tst.go hb;have hO:=h.hO;have hr:=h.res.go hb;have hbl:=Zaa h.bel hb;have k:∀ i,Blk (w1.setCell ⟨O,i,none⟩ s.v) w.heap.size 32 tc/\Blk (w1.setCell ⟨O,i,none⟩ s.v) (w.heap.size+1) 41 #[.slice none 0 0,.slice none 0 0,.slice none 0 0,.slice none 0 0,.slice none 0 0,.slice none 0 0,.slice none 0 0,.slice none 0 0,.slice none 0 0]/\Below w.heap.size w (w1.setCell ⟨O,i,none⟩ s.v):=fun i=>
  ⟨ht.far (p:=⟨O,i,none⟩) (show w.heap.size≠O by omega) _,hr.far (p:=⟨O,i,none⟩) (show w.heap.size+1≠O by omega) _,hbl.setCell (p:=⟨O,i,none⟩) (show w.heap.size<=O by omega) _⟩
 exact⟨⟨h.out.ad_ (hg _) ho2,(k 4).1,(k 4).2.1,(k 4).2.2,hO⟩,⟨h.out.da_ (hg _) ho2,(k 5).1,(k 5).2.1,(k 5).2.2,hO⟩,⟨h.out.ct_ (hg _) ho2,(k 6).1,(k 6).2.1,(k 6).2.2,hO⟩⟩
theorem ret (h:OfS w wr O L V tc)(u0 u1 u2 u3 u4 u5 u6 u7 u8:Value):∃ V':Ze5,(.agg #[V.lo.v,V.ini.v,V.ev.v,V.br.v,V.ad.v,V.da.v,V.ct.v,V.th.v,V.en.v]:Value)=Zd4 V'/\Zc1 (((((((((wr.setCell ⟨w.heap.size+1,0,none⟩ u0).setCell ⟨w.heap.size+1,1,none⟩ u1).setCell ⟨w.heap.size+1,2,none⟩ u2).setCell ⟨w.heap.size+1,3,none⟩ u3).setCell ⟨w.heap.size+1,4,none⟩ u4).setCell ⟨w.heap.size+1,5,none⟩ u5).setCell ⟨w.heap.size+1,6,none⟩ u6).setCell ⟨w.heap.size+1,7,none⟩ u7).setCell ⟨w.heap.size+1,8,none⟩ u8) L V':=
 (h.out.off9 h.res (by have:=h.hO;omega) u0 u1 u2 u3 u4 u5 u6 u7 u8).trc
theorem ran (h:OfS w wr O L V tc){w5:World}{S:RrS}{r:Rn}{fl:Bool}{W:RrV}(hr:Za7 w5 w.heap.size S r W)(hk:Zba w.heap.size wr w5)(e1:S.ini=V.ini)(e2:S.th=V.th)(e3:S.en=V.en)(z:Array Value) :
  Zs1 w ((w5.alloc (.cells z 83 (0,0))).setRow w5.heap.size (rrC S r fl W)) O w5.heap.size S r fl W L.ini L.th L.a.ends tc:=by
 have hal:=Zad w5 (.cells z 83 (0,0));have hZ:=Blk.new w5 83 z;have hz:=hk.size;have hb0:=h.bel.size;have hy:=h.res;have hO1:=hk.keep _ _ _ h.out.blk (by decide) (by decide) (by decide);have ht1:=hk.keep _ _ _ h.tst (by decide) (by decide) (by decide);have hy1:=hk.keep _ _ _ hy (by decide) (by decide) (by decide);have n1:=hO1.lt;have n2:=ht1.lt;have n3:=hy1.lt;refine⟨(hr.below hal).row hZ _,hZ.row _,⟨_,(hO1.go hal).farRow ω _,rfl,by rw [e2];rfl⟩,?_,?_,?_,(ht1.go hal).farRow ω _,(hy1.go hal).farRow ω _,below_setRow ((h.bel.trans hk.below).trans (hal.mono ω)) ω _,h.hO⟩
 ·rw [e1];exact ((h.out.ini.keep (fun q hq=>hk.heap hq (by decide) (by decide) (by decide))).keep (fun q hq=>hal.block q hq.lt)).keep (fun q hq=>setRow_other _ _ _ _ (Za4 hq hZ (by decide)))
 ·rw [e3];exact ((h.out.en.keep (fun q hq=>hk.heap hq (by decide) (by decide) (by decide))).keep (fun q hq=>hal.block q hq.lt)).keep (fun q hq=>setRow_other _ _ _ _ (Za4 hq hZ (by decide)))
 ·rw [e2];exact Zck (Zav (hk.own h.out.th (by decide) (by decide) (by decide)) hal) hZ (by decide) _
end OfS
namespace Zs1
variable {w wq w1:World} {O G:Nat} {S:RrS} {r:Rn} {fl:Bool} {V:RrV} {I:List Int} {ths:List Th} {m:List (Int×Int)} {tc:Array Value}
theorem below (h:Zs1 w wq O G S r fl V I ths m tc)(hb:Below wq.heap.size wq w1):Zs1 w w1 O G S r fl V I ths m tc:=
 ⟨h.ref.below hb,h.blk.go hb,h.out.imp fun _ hz=>⟨hz.1.go hb,hz.2⟩,h.ini.keep (fun _ hq=>hb.block _ hq.lt),h.en.keep (fun _ hq=>hb.block _ hq.lt),Zav h.th hb,h.tst.go hb,h.res.go hb,Zaa h.bel hb,h.hO⟩
theorem en_blk (h:Zs1 w wq O G S r fl V I ths m tc){q n:Nat}(hq:S.en=⟨some ⟨q,0,none⟩,n,n⟩):Blk wq q 76 (Zbf.flat m).toArray/\w.heap.size<=q/\m.length=n:=by
 obtain⟨q',e,hb,hB⟩:=h.en;rw [hq] at e;simp only [Sl.v,Value.slice.injEq,Option.some.injEq,Addr.mk.injEq,and_true] at e;obtain⟨rfl,rfl,_⟩:=e;exact⟨hb,hB,rfl⟩
theorem put (h:Zs1 w wq O G S r fl V I ths m tc){i q n:Nat}(x y:Int)(hi:i<n)(hq:S.en=⟨some ⟨q,0,none⟩,n,n⟩) :
  Zs1 w ((wq.setCell ⟨q,i*2,none⟩ (.int .i64 x)).setCell ⟨q,i*2+1,none⟩ (.int .i64 y)) O G S r fl V I ths (m.set i (x,y)) tc:=by
 obtain⟨hb,hB,rfl⟩:=h.en_blk hq;have k0:=hb.set_ (i*2) (.int .i64 x);have k1:=k0.set_ (i*2+1) (.int .i64 y);rw [Zov m i (x,y) hi] at k1;exact⟨(h.ref.setO hb _ _).setO k0 _ _,(h.blk.far (Za4 h.blk hb (by decide)) _).far (Za4 h.blk hb (by decide)) _,
  h.out.imp fun _ hz=>⟨(hz.1.far (Za4 hz.1 hb (by decide)) _).far (Za4 hz.1 hb (by decide)) _,hz.2⟩,
  (h.ini.keep (fun _ hq2=>Below.heap_setCell wq _ _ _ (Za4 hq2 hb (by decide)))).keep (fun _ hq2=>Below.heap_setCell _ _ _ _ (Za4 hq2 k0 (by decide))),
  ⟨q,by rw [hq,List.length_set],k1,hB⟩,Zaf (Zaf h.th hb (by decide) _ _) k0 (by decide) _ _,
  (h.tst.far (Za4 h.tst hb (by decide)) _).far (Za4 h.tst hb (by decide)) _,
  (h.res.far (Za4 h.res hb (by decide)) _).far (Za4 h.res hb (by decide)) _,
  (h.bel.setCell (p:=⟨q,i*2,none⟩) hB _).setCell (p:=⟨q,i*2+1,none⟩) hB _,h.hO⟩
theorem fin (h:Zs1 w wq O G S r fl V I ths m tc)(ha:S.C.ahead=S.a.evs.length) :
  OfS w (wq.setRow O (Zjb ⟨S.lo,S.ini,V.ev,V.br,V.ad,V.da,V.ct,S.th,S.en⟩)) O ⟨S.C.locs,I,ths,Z2t S.a r m⟩ ⟨S.lo,S.ini,V.ev,V.br,V.ad,V.da,V.ct,S.th,S.en⟩ tc:=by
 obtain⟨z,hz,hzs,_⟩:=h.out;have hO:=h.hO;have hr:=h.ref;refine⟨⟨hz.row _,ω,Zck hr.lo hz (by decide) _,h.ini.keep (fun _ hq2=>setRow_other wq O _ _ (Za4 hq2 hz (by decide))),Zck hr.ev hz (by decide) _,Zck hr.br hz (by decide) _,?_,?_,?_,Zck h.th hz (by decide) _,h.en.keep (fun _ hq2=>setRow_other wq O _ _ (Za4 hq2 hz (by decide))),hr.a1,hr.a2,hr.a3⟩,
  h.tst.farRow ω _,h.res.farRow ω _,below_setRow h.bel ω _,hO⟩
 ·have:=Zck hr.ad hz (by decide) (Zjb ⟨S.lo,S.ini,V.ev,V.br,V.ad,V.da,V.ct,S.th,S.en⟩);rw [ha] at this;exact this
 ·have:=Zck hr.da hz (by decide) (Zjb ⟨S.lo,S.ini,V.ev,V.br,V.ad,V.da,V.ct,S.th,S.en⟩);rw [ha] at this;exact this
 ·have:=Zck hr.ct hz (by decide) (Zjb ⟨S.lo,S.ini,V.ev,V.br,V.ad,V.da,V.ct,S.th,S.en⟩);rw [ha] at this;exact this
end Zs1
theorem Zb3.enS {w:World}{B O:Nat}{L:Ze2}{V:Ze5}(h:Zb3 w B O L (Z39 V)):∃ q,V.en=⟨some ⟨q,0,none⟩,L.a.ends.length,L.a.ends.length⟩:=by
 obtain⟨q,e,_,_⟩:=h.en;obtain⟨_,_,_,_,_,_,_,_,⟨A,n,c⟩⟩:=V;simp only [Sl.v,Value.slice.injEq] at e;obtain⟨rfl,rfl,rfl⟩:=e;exact⟨q,rfl⟩
theorem Z5t {α:Type}{E:Enc α}{t:TypeId}{w:World}{B:Nat}{s:Sl}{l:List α}(h:E.Own t B w s.v l):s=⟨s.A,l.length,s.c⟩:=by
 have:=Zpm h;obtain⟨A,n,c⟩:=s;simp only at this;subst this;rfl
theorem Zra (s:Sl)(l:List (Int×Int))(B:Nat)(w:World)(h:Zbf.Own 129 B w s.v l)(hl:l.length<=1000000) :
  Calls Tryz.prog 25 #[s.v] w fun e w'=>∃ s':Sl,e=.returned s'.v/\Zbf.Own 129 w.heap.size w' s'.v (Zf0 l)/\Below w.heap.size w w':=by
 obtain⟨s',e1,e2,hat⟩:=Zha h;have e3:=Z5t h;obtain⟨A,n,c⟩:=s;obtain⟨A',n',c'⟩:=s';simp only [Sl.v,Value.slice.injEq] at e1;obtain⟨rfl,rfl,rfl⟩:=e1;simp only at e2;subst e2;exact Z3i A c l w hat hl
theorem Zod.fin {k:Nat}{a' a:Tr}(h:Zod k a' a)(m:List (Int×Int)):(⟨a'.evs,a'.bars,Zf0 a'.addr,Zf0 a'.data,Zf0 a'.hang,m⟩:Tr)={ a with ends:=m }:=by
 rw [h.evs,h.bars,h.addr,h.data,h.hang]
abbrev rrS (T:Tst)(Ai:Option Addr)(bs os ci cc:Nat)(A0:Option Addr)(l0 q0 k:Nat)(V:Ze5)(a':Tr):RrS:=⟨T,⟨Ai,T.init.length,ci⟩,⟨some ⟨bs,os,none⟩,T.code.length,cc⟩,⟨A0,l0,q0⟩,⟨k,isR T,a'.evs.length,Zaq T⟩,V.lo,V.ini,V.th,V.en,a'⟩
theorem Z7d {T:Tst}(hE:Za6 T=0){Ai:Option Addr}{bs os ci cc l0 q0 k nt O:Nat}{A0:Option Addr}{c:List Ins}{a' a:Tr}{V:Ze5}{w y:World}{I:List Int}{ths:List Th}{tc:Array Value}
  (hT:Zcb w T Ai (some ⟨bs,os,none⟩) (.slice A0 l0 q0)) (hc:T.code[k]?=some c) (hraw:Zod k a' a) (hok:Zxq nt k a) (hof:OfS w y O ⟨Zaq T,I,ths,a'⟩ V tc) :
  Calls Tryz.prog 23 #[.agg #[.int .i64 T.arch,.string ⟨T.name.toArray⟩,.string ⟨T.cycle.toArray⟩,.slice Ai T.init.length ci,.slice (some ⟨bs,os,none⟩) T.code.length cc,.int .i64 T.q,.int .i64 T.k,.int .i64 T.t,.int .i64 T.r,.string ⟨T.l.toArray⟩,.int .i64 T.v,.slice A0 l0 q0],.agg (Zjb V),.int .i64 (k:Int)] y
   (Zeg w.heap.size (rrS T Ai bs os ci cc A0 l0 q0 k V a') (goL ⟨k,isR T,a'.evs.length,Zaq T⟩ c 0 (rn0 (isR T) T.init k)) y):=by
 obtain⟨hk,_⟩:=List.getElem?_eq_some_iff.1 hc;obtain⟨_,hlo,_,hcod,_⟩:=Za8 hE;obtain⟨h16,_,hthr⟩:=Zb9 hcod;obtain⟨b,o,A2,c2,e,hc0,hins,_,hcc⟩:=hT.code k c hc;simp only [Option.some.injEq,Addr.mk.injEq,and_true] at e;obtain⟨rfl,rfl⟩:=e;have hbs:bs<w.heap.size:=World.block_lt_of_cell? w _ hc0;have hbel:=hof.bel;have l1:=hraw.n1;have l2:=hraw.n2;have l3:=hraw.n3;have l4:=hok.bars;have l5:=hok.evs;have l6:a'.bars.length=a.bars.length:=by rw [hraw.bars]
 have l7:a'.evs.length=a.evs.length:=by rw [hraw.evs]
 have hS:Zeo (rrS T Ai bs os ci cc A0 l0 q0 k V a'):=⟨rfl,by show a'.addr.length<=_;omega,by show a'.data.length<=_;omega,by show a'.hang.length<=_;omega,by show a'.bars.length<=_;omega,hlo⟩;exact Z8c w.heap.size (rrS T Ai bs os ci cc A0 l0 q0 k V a') hS ⟨⟨none,0,0⟩,V.ev,V.br,V.ad,V.da,V.ct⟩ Ai (some ⟨bs,os,none⟩) A2 ci cc c2 (Zfg (isR T)) c y rfl (hT.below hbel).init rfl rfl
  (fun x hx hth=>((Zly hE hx).reg (by simp only at hth;omega)).2.1) hT.ilen rfl rfl hk (hthr k c hc).1 hcc bs os rfl hbs (Zac hc0 hbel) (hins.below hbel)
  (fun hne p hp=>by
    obtain⟨x,hx⟩:∃ x,c[0]?=some x:=⟨_,List.getElem?_eq_getElem (List.length_pos_iff.2 hne)⟩;obtain⟨b,o,e,h0,_⟩:=hins 0 x hx;rw [hp] at e;cases e
    exact World.block_lt_of_cell? w _ h0)
  (fun j x hx=>Zhd hE rfl hc hx) (fun j x hx h11=>Z3d hE hc hx h11) (fun hr=>Z48 hE hc hr) (Z2s hE rfl (by show a'.evs.length<=64;omega) k)
  (hof.out.refAt hof.bel.size rfl rfl rfl)
section
theorem Zw1 {w:World}{g:Nat}{v0 v1 v2 v3 v4 v5 v6 v7 v8:Value}(h:Blk w g 41 #[v0,v1,v2,v3,v4,v5,v6,v7,v8]):(loadVar 41 ⟨g,0,none⟩).run Tryz.prog w=.ok (.agg #[v0,v1,v2,v3,v4,v5,v6,v7,v8]) w:=
 run_loadVar_row w g 41 41 #[v0,v1,v2,v3,v4,v5,v6,v7,v8] (0,0) _ h Tryz.underlying41 rfl κ
theorem Zzk {P:Program}{ops:Array Oper}{rest:List Oper}{o:Oper}{a:Act}{W:World}{Q:Exit->Act->World->Prop}(T:TypeId)(tp:Nat){A:Addr}{v:Value}
  (h1:o.op=.load T (.tmp tp)) (g1:o.guard=none) (ha:a.tmps.getD tp undef=.pointer (some A)) (hl:(loadVar T A).run P W=.ok v W) (hK:wpList P ops Q rest (a.put o.dst v) W):wpList P ops Q (o :: rest) a W:=
 wpList_plain g1 fun K1 hK1=>by
  unfold Oper.wp execOp;simp only [h1,Act.eval,ha,Instr.loadAt,Instr.sureAddr,Sem.run_bind,Sem.run_pure,Result.andThen_ok,hl];exact hK1 _ _ hK
theorem Zj3 {P:Program}{ops:Array Oper}{rest:List Oper}{o:Oper}{a:Act}{W:World}{Q:Exit->Act->World->Prop}(sl:Nat)
  (h1:o.op=.assign (.tmp sl)) (g1:o.guard=none) (hK:wpList P ops Q rest (a.put o.dst (a.tmps.getD sl undef)) W):wpList P ops Q (o :: rest) a W:=
 wpList_plain g1 fun K1 hK1=>by
  unfold Oper.wp execOp;simp only [h1,Act.eval,Sem.run_pure];exact hK1 _ _ hK
theorem Z29 {P:Program}{ops:Array Oper}{rest:List Oper}{o:Oper}{a:Act}{W:World}{Q:Exit->Act->World->Prop}(op:Op)(_:o.op=op)(h:Hid (wpList P ops Q (o :: rest) a W)):wpList P ops Q (o :: rest) a W:=h.out
theorem Zny (V:Ze5):(Zjb V).all (·.oneCell')=true:=by simp [Zjb,Value.oneCell']
def OfR (T:Tst)(w:World)(e:Ending)(w':World):Prop:=(match Zcv T with
 | .error (c,k)=>e=.returned (.tuple #[.agg #[.slice none 0 0,.slice none 0 0,.slice none 0 0,.slice none 0 0,.slice none 0 0,.slice none 0 0,.slice none 0 0,.slice none 0 0,.slice none 0 0],.int .i64 c,.int .i64 (k:Int)])
 | .ok a=>∃ V:Ze5,e=.returned (.tuple #[Zd4 V,.int .i64 0,.int .i64 0])/\Zc1 w' ⟨Zaq T,Ziw (Zaq T) T.init,Za5 T,a⟩ V)/\Below w.heap.size w w'
theorem OfR.bad {T:Tst}{w w':World}{c:Int}{k:Nat}(h:Zcv T=.error (c,k))(hb:Below w.heap.size w w'):OfR T w (.returned (.tuple #[.agg #[.slice none 0 0,.slice none 0 0,.slice none 0 0,.slice none 0 0,.slice none 0 0,.slice none 0 0,.slice none 0 0,.slice none 0 0,.slice none 0 0],.int .i64 c,.int .i64 (k:Int)])) w':=by
 unfold OfR;rw [h];exact⟨rfl,hb⟩
theorem OfR.ok {T:Tst}{w w':World}{a:Tr}{v:Value}{V:Ze5}(h:Zcv T=.ok a)(e:v=Zd4 V)(ht:Zc1 w' ⟨Zaq T,Ziw (Zaq T) T.init,Za5 T,a⟩ V)(hb:Below w.heap.size w w'):OfR T w (.returned (.tuple #[v,.int .i64 0,.int .i64 0])) w':=by
 unfold OfR;rw [h];exact⟨⟨V,by rw [e],ht⟩,hb⟩
theorem Z2p (o:Option (Int×Int)):∃ p1 p2 okb,Zu7 o=.tuple #[.agg #[.int .i64 p1,.int .i64 p2],.bool okb]/\((okb=true/\o=some (p1,p2))\/(okb=false/\o=none)):=by
 cases o with
 | none=>exact⟨0,0,false,rfl,Or.inr ⟨rfl,rfl⟩⟩
 | some p=>exact⟨p.1,p.2,true,rfl,Or.inl ⟨rfl,rfl⟩⟩
section
set_option maxHeartbeats 100000000
set_option maxRecDepth 100000
theorem ofR (T:Tst)(Ai Ac:Option Addr)(ci cc:Nat)(kv:Value)(w:World)(hT:Zcb w T Ai Ac kv) :
  Calls Tryz.prog 5 #[Zbr T (.slice Ai T.init.length ci) (.slice Ac T.code.length cc) kv] w (OfR T w):=by
 obtain⟨A0,l0,q0,rfl⟩:∃ A n c,kv=.slice A n c:=by obtain⟨A,cap,e,_⟩:=hT.kids;exact⟨A,_,cap,e⟩
 have HT0:=Zh hT;obtain⟨tc,htc⟩:∃ c:Array Value,c=#[.int .i64 T.arch,.string ⟨T.name.toArray⟩,.string ⟨T.cycle.toArray⟩,.slice Ai T.init.length ci,.slice Ac T.code.length cc,.int .i64 T.q,.int .i64 T.k,.int .i64 T.t,.int .i64 T.r,.string ⟨T.l.toArray⟩,.int .i64 T.v,.slice A0 l0 q0]:=⟨_,rfl⟩;have HCK:Hid (∀ y,Zcb y T Ai Ac (.slice A0 l0 q0)->Calls Tryz.prog 19 #[.agg tc] y fun e y'=>e=.returned (.int .i64 (Za6 T))/\Below y.heap.size y y'):=Zh (fun y h=>by rw [htc];exact Zuk ci cc h);have HLO:Hid (∀ y,Zcb y T Ai Ac (.slice A0 l0 q0)->Calls Tryz.prog 20 #[.agg tc] y (Z4e T y)):=Zh (fun y h=>by rw [htc];exact Z65 ci cc h);rw [show Zbr T (.slice Ai T.init.length ci) (.slice Ac T.code.length cc) (.slice A0 l0 q0)=.agg tc by rw [htc]];have HTC:=Zh htc;have HTZ:=Zh (show tc.size=12 by rw [htc];rfl);have hil:=hT.ilen;have hcl:=hT.clen;clear hT htc;go_enter Tryz.func5,Tryz.ntmps5;apply wp_seq_k;intro K hK;have HK:=Zh hK;clear hK
 go_wp2_with fail
 refine Z6l (P:=fun X=>K _ X) w _ _ _ _ ?_;intro W b0 b1 hz hbW;refine HK.o _ _ ?_;clear HK K;have HTB:=Zh b0;have HRB:=Zh b1;have HBW:=Zh hbW;clear b0 b1 hbW hz
 repeat (first | ((with_reducible refine Zas ?_);refine Zaw 32 1 w.heap.size rfl rfl HTB.o Tryz.underlying32 rfl (by rw [HTZ.o];kernel_rfl) rfl ?_) | (go_at_call 19;refine Hid.o ?_) | go_step)
 refine Zh ?_;refine (HCK.o W (HT0.o.below HBW.o)).mono ?_;rintro e w2 ⟨rfl,hb⟩;dsimp only;have HB2:=Zh (Zaa HBW.o hb);have HTB2:=Zh (HTB.o.go hb);have HRB2:=Zh (HRB.o.go hb);have hz2:w.heap.size+1<w2.heap.size:=HRB2.o.lt;clear hb HTB HRB HBW HCK;by_cases hE:Za6 T=0
 ·have HE:=Zh hE;have f1:(Za6 T != 0)=false:=by simpa using hE
  have HSM:=Zh (Za8 hE);have HB3:=Zh (Zad w2 (.cells #[.slice none 0 0,.slice none 0 0,.slice none 0 0,.slice none 0 0,.slice none 0 0,.slice none 0 0,.slice none 0 0,.slice none 0 0,.slice none 0 0] 41 (0,0)));have HTB3:=Zh (HTB2.o.alloc (.cells #[.slice none 0 0,.slice none 0 0,.slice none 0 0,.slice none 0 0,.slice none 0 0,.slice none 0 0,.slice none 0 0,.slice none 0 0,.slice none 0 0] 41 (0,0)));clear hE
  go_wp2_with (first | ((with_reducible refine Zas ?_);refine Zaw 32 1 w.heap.size rfl rfl HTB3.o Tryz.underlying32 rfl (by rw [HTZ.o];kernel_rfl) rfl ?_) | (go_at_call 20;refine Hid.o ?_))
  refine Zh ?_;refine (HLO.o _ (HT0.o.below (Zaa HB2.o HB3.o))).mono ?_;rintro e w3 ⟨hor,hb⟩;rcases hor with ⟨hne,_⟩ | ⟨hz0,Al,cl,rfl,hown⟩
  ·exact absurd HE.o hne
  clear hz0;dsimp only;obtain⟨nl,hnl⟩:∃ n,(Zdp (Zel T)).length=n:=⟨_,rfl⟩;have HNL:=Zh hnl;have HLW:Hid (Zcy.Own 9 w.heap.size w3 (.slice Al nl cl) (Zaq T)):=by
   rw [<- hnl];exact Zh (Zdx hown (show w.heap.size<=(w2.alloc (.cells #[.slice none 0 0,.slice none 0 0,.slice none 0 0,.slice none 0 0,.slice none 0 0,.slice none 0 0,.slice none 0 0,.slice none 0 0,.slice none 0 0] 41 (0,0))).heap.size by simp;omega))
  rw [hnl];have hnl64:nl<=64:=by have:=HSM.o.2.1;omega
  have HTB4:=Zh (HTB3.o.go hb);have HRB4:=Zh ((HRB2.o.alloc (.cells #[.slice none 0 0,.slice none 0 0,.slice none 0 0,.slice none 0 0,.slice none 0 0,.slice none 0 0,.slice none 0 0,.slice none 0 0,.slice none 0 0] 41 (0,0))).go hb);have HOB4:=Zh ((Blk.new w2 41 #[.slice none 0 0,.slice none 0 0,.slice none 0 0,.slice none 0 0,.slice none 0 0,.slice none 0 0,.slice none 0 0,.slice none 0 0,.slice none 0 0]).go hb);have HB4:=Zh (Zaa HB2.o (Zaa HB3.o hb));have hz4:w2.heap.size<w3.heap.size:=HOB4.o.lt;clear hb hown hnl HTB2 HTB3 HRB2 HB2 HB3 HLO;have o0:=HOB4.o.cell 0;have o1:=HOB4.o.cell 1;have fo:=HOB4.o.frozen;have hmk:=Znj nl ω
  go_wp2_with fail
  have HOX:=Zh (show Blk (((w3.setCell ⟨w2.heap.size,0,none⟩ (.slice Al nl cl)).setCell ⟨w2.heap.size,1,none⟩ (.slice (some ⟨w3.heap.size,0,none⟩) nl nl)).alloc (.cells (Zbo (List.replicate nl 0)) 3 (0,0))) w2.heap.size 41 #[.slice Al nl cl,.slice (some ⟨w3.heap.size,0,none⟩) nl nl,.slice none 0 0,.slice none 0 0,.slice none 0 0,.slice none 0 0,.slice none 0 0,.slice none 0 0,.slice none 0 0] from ((HOB4.o.set_ 0 (.slice Al nl cl)).set_ 1 (.slice (some ⟨w3.heap.size,0,none⟩) nl nl)).alloc _);have HQX:Hid (Blk (((w3.setCell ⟨w2.heap.size,0,none⟩ (.slice Al nl cl)).setCell ⟨w2.heap.size,1,none⟩ (.slice (some ⟨w3.heap.size,0,none⟩) nl nl)).alloc (.cells (Zbo (List.replicate nl 0)) 3 (0,0))) w3.heap.size 3 (Zfd.flat (List.replicate nl 0)).toArray):=by
   have:=Blk.new ((w3.setCell ⟨w2.heap.size,0,none⟩ (.slice Al nl cl)).setCell ⟨w2.heap.size,1,none⟩ (.slice (some ⟨w3.heap.size,0,none⟩) nl nl)) 3 (Zbo (List.replicate nl 0));simp only [World.size_setCell] at this;rw [Zkb] at this ⊢;exact Zh this
  have HLX:=Zh (Zav (Zaf (Zaf HLW.o HOB4.o (by decide) 0 (.slice Al nl cl)) (HOB4.o.set_ 0 (.slice Al nl cl)) (by decide) 1 (.slice (some ⟨w3.heap.size,0,none⟩) nl nl)) (Zad _ (.cells (Zbo (List.replicate nl 0)) 3 (0,0))));have HTX:=Zh (((HTB4.o.far (p:=⟨w2.heap.size,0,none⟩) (show w.heap.size≠w2.heap.size by omega) (.slice Al nl cl)).far (p:=⟨w2.heap.size,1,none⟩) (show w.heap.size≠w2.heap.size by omega) (.slice (some ⟨w3.heap.size,0,none⟩) nl nl)).alloc (.cells (Zbo (List.replicate nl 0)) 3 (0,0)));have HRX:=Zh (((HRB4.o.far (p:=⟨w2.heap.size,0,none⟩) (show w.heap.size+1≠w2.heap.size by omega) (.slice Al nl cl)).far (p:=⟨w2.heap.size,1,none⟩) (show w.heap.size+1≠w2.heap.size by omega) (.slice (some ⟨w3.heap.size,0,none⟩) nl nl)).alloc (.cells (Zbo (List.replicate nl 0)) 3 (0,0)));have HBX:=Zh (Zab ((HB4.o.setCell (p:=⟨w2.heap.size,0,none⟩) (show w.heap.size<=w2.heap.size by omega) (.slice Al nl cl)).setCell (p:=⟨w2.heap.size,1,none⟩) (show w.heap.size<=w2.heap.size by omega) (.slice (some ⟨w3.heap.size,0,none⟩) nl nl)) (.cells (Zbo (List.replicate nl 0)) 3 (0,0)));generalize ((w3.setCell ⟨w2.heap.size,0,none⟩ (.slice Al nl cl)).setCell ⟨w2.heap.size,1,none⟩ (.slice (some ⟨w3.heap.size,0,none⟩) nl nl)).alloc (.cells (Zbo (List.replicate nl 0)) 3 (0,0))=w4 at *;clear o0 o1 fo hmk HOB4 HTB4 HRB4 HB4 HLW
  go_loopw [9] (fun v wr=>∃ (i:Nat) (I:List Int),i<=T.init.length/\v=.int .i64 i/\I=(T.init.take i).foldl (Zot (Zaq T)) (List.replicate nl 0)/\I.length=nl/\Blk wr w2.heap.size 41 #[.slice Al nl cl,.slice (some ⟨w3.heap.size,0,none⟩) nl nl,.slice none 0 0,.slice none 0 0,.slice none 0 0,.slice none 0 0,.slice none 0 0,.slice none 0 0,.slice none 0 0]/\Blk wr w3.heap.size 3 (Zfd.flat I).toArray/\Zcy.Own 9 w.heap.size wr (.slice Al nl cl) (Zaq T)/\Blk wr w.heap.size 32 tc/\Blk wr (w.heap.size+1) 41 #[.slice none 0 0,.slice none 0 0,.slice none 0 0,.slice none 0 0,.slice none 0 0,.slice none 0 0,.slice none 0 0,.slice none 0 0,.slice none 0 0]/\Below w.heap.size w wr) (fun v _=>T.init.length - (intOf v).toNat)
  case atStart=>exact⟨0,_,Nat.zero_le _,rfl,rfl,by simp,HOX.o,HQX.o,HLX.o,HTX.o,HRX.o,HBX.o⟩
  case round=>
   obtain⟨i,I,hi,rfl,hI,hIl,ho,hq,hlo,ht,hr,hb⟩:=hrel;have HII:=Zh hI;have HO:=Zh ho;have HQ:=Zh hq;have HLO:=Zh hlo;have HTB:=Zh ht;have HRB:=Zh hr;have HB:=Zh hb;have b3:wr.cell? ⟨w.heap.size,3,none⟩=some (.slice Ai T.init.length ci):=(by have:=ht.cell 3;rw [this,HTC.o];rfl);clear hI ho hq hlo ht hr hb HOX HQX HLX HTX HRX HBX;by_cases hlt:i<T.init.length
   ·have ex:=List.getElem?_eq_getElem hlt;obtain⟨x,hx⟩:∃ x,T.init[i]=x:=⟨_,rfl⟩;rw [hx] at ex;have HNX:=Zh (show (T.init.take (i+1)).foldl (Zot (Zaq T)) (List.replicate nl 0)=Zot (Zaq T) I x by
     obtain⟨h1,h2⟩:=List.getElem?_eq_some_iff.1 ex;rw [List.take_succ_eq_append_getElem h1,List.foldl_append,<- HII.o,h2];rfl)
    have hok:=Zly HE.o (List.mem_of_getElem? ex);obtain⟨b,o,hA,c0,c1,c2,c3,c4,_⟩:=(HT0.o.below HB.o).init i x ex;subst hA;have hii:(0:Int)<=(i:Int):=ω;have hij:(i:Int)<(T.init.length:Int):=ω;clear ex hx;by_cases hth:x.th=-1
    ·obtain⟨hm,_⟩:=hok.mem hth;obtain⟨k,hk⟩:∃ k,(Zaq T).idxOf x.loc=k:=⟨_,rfl⟩;have hkn:k<nl:=by have h1:=List.idxOf_lt_length_of_mem hm;have h2:(Zaq T).length=nl:=HNL.o;omega
     rw [hth] at c0;have HPL:Hid (∀ y:World,Zcy.At y Al (Zaq T)->Calls Tryz.prog 21 #[.agg #[.slice Al nl cl,.slice (some ⟨w3.heap.size,0,none⟩) nl nl,.slice none 0 0,.slice none 0 0,.slice none 0 0,.slice none 0 0,.slice none 0 0,.slice none 0 0,.slice none 0 0],.string ⟨x.loc.toArray⟩] y fun e y'=>e=.returned (.int .i64 (k:Int))/\Below y.heap.size y y'):=Zh (fun y hy=>by rw [<- hk];exact Zkl ⟨⟨Al,nl,cl⟩,⟨some ⟨w3.heap.size,0,none⟩,nl,nl⟩,⟨none,0,0⟩,⟨none,0,0⟩,⟨none,0,0⟩,⟨none,0,0⟩,⟨none,0,0⟩,⟨none,0,0⟩,⟨none,0,0⟩⟩ (Zaq T) x.loc y hy HNL.o.symm (by have:(Zaq T).length=nl:=HNL.o;omega) hm);have HFS:=Zh (show Zot (Zaq T) I x=I.set k x.vn by unfold Zot;rw [if_pos hth,hk]);have HAT:Hid (Zcy.At wr Al (Zaq T)):=by
      obtain⟨A',cap',e,hat,_⟩:=Enc.Own.at_ (E:=Zcy) HLO.o;simp only [Value.slice.injEq] at e;obtain⟨rfl,_⟩:=e;exact Zh hat
     have HS:=Zh (And.intro HO.o.drew (And.intro (HO.o.drew.cell 1) (And.intro (show wr.drew.cell? ⟨w.heap.size,3,none⟩=_ from b3) (And.intro (show wr.drew.cell? ⟨b,o+i*5+2,none⟩=_ from c2) (show wr.drew.cell? ⟨b,o+i*5+4,none⟩=_ from c4)))));clear hok hth hm hk
     go_wp2_with fail
     refine wz (fun y:World=>Blk y w2.heap.size 41 #[.slice Al nl cl,.slice (some ⟨w3.heap.size,0,none⟩) nl nl,.slice none 0 0,.slice none 0 0,.slice none 0 0,.slice none 0 0,.slice none 0 0,.slice none 0 0,.slice none 0 0]/\y.cell? ⟨w2.heap.size,1,none⟩=some (.slice (some ⟨w3.heap.size,0,none⟩) nl nl)/\y.cell? ⟨w.heap.size,3,none⟩=some (.slice (some ⟨b,o,none⟩) T.init.length ci)/\y.cell? ⟨b,o+i*5+2,none⟩=some (.string ⟨x.loc.toArray⟩)/\y.cell? ⟨b,o+i*5+4,none⟩=some (.int .i64 x.vn)) [1,2,4,6,7,8,9,11,13,14,15,16] HS.o (fun hHeld=>?_);refine wq 0 ?_;refine wq 3 ?_;refine wq 5 ?_;refine wq 10 ?_;refine wq 12 ?_;refine wt 1 (by assumption) ?_;refine wv 2 ((.agg #[.slice Al nl cl,.slice (some ⟨w3.heap.size,0,none⟩) nl nl,.slice none 0 0,.slice none 0 0,.slice none 0 0,.slice none 0 0,.slice none 0 0,.slice none 0 0,.slice none 0 0])) rfl (fun x' hS=>Zaz rfl rfl (Zw1 hS.1)) (by assumption) ?_;refine wt 4 (by assumption) ?_;refine wt 6 (by assumption) ?_;refine wt 7 (by assumption) ?_;refine wt 8 (by assumption) ?_;refine wt 11 (by assumption) ?_;refine wt 13 (by assumption) ?_;refine wt 14 (by assumption) ?_;refine wt 15 (by assumption) ?_;refine wt 16 (by assumption) ?_;refine Zar (i:=9) κ rfl (fun K hK=>?_);go_simp
     go_at_call 21
     refine (HPL.o _ (show Zcy.At wr.drew Al (Zaq T) from HAT.o)).mono ?_;rintro e w6 ⟨rfl,hb6⟩;have HB6:=Zh (Zag hb6);refine hK.out _ _ ⟨hHeld.1.go hb6,Zac hHeld.2.1 hb6,Zac hHeld.2.2.1 hb6,Zac hHeld.2.2.2.1 hb6,Zac hHeld.2.2.2.2 hb6⟩ ?_;clear hK K hHeld hb6 HS HAT HPL;refine pu ?_;refine wl 17 ?_;have HQ6:=Zh (HQ.o.go HB6.o);have hki:(k:Int)<(nl:Int):=ω;have hki0:(0:Int)<=(k:Int):=ω;obtain⟨n0,hn0⟩:∃ n0,I[k]?=some n0:=⟨_,List.getElem?_eq_getElem ω⟩;have z0:w6.cell? ⟨w3.heap.size,k,none⟩=some (.int .i64 n0):=(by have h1:=Zfd.flat_at hn0 (show 0<1 by omega);rw [show k*Zfd.size+0=k by show k*1+0=k;omega] at h1;rw [HQ6.o.cell,List.getElem?_toArray];exact h1);have f0:=HQ6.o.frozen k;clear hn0
     go_wp2_with fail
     have HW:=Zh (show Blk (w6.setCell ⟨w3.heap.size,k,none⟩ (.int .i64 x.vn)) w3.heap.size 3 (Zfd.flat (I.set k x.vn)).toArray by
      have:=HQ6.o.set_ k (.int .i64 x.vn);rw [Zou _ _ _ ω] at this;exact this)
     go_roundw
     case rel=>
      exact⟨i+1,I.set k x.vn,ω,by go_num,by rw [HNX.o,HFS.o],by simp [hIl],(HO.o.go HB6.o).far (by simp;omega) _,HW.o,Zaf (Zav HLO.o HB6.o) HQ6.o (by decide) _ _,(HTB.o.go HB6.o).far (by simp;omega) _,(HRB.o.go HB6.o).far (by simp;omega) _,(Zaa HB.o HB6.o).setCell (p:=⟨w3.heap.size,k,none⟩) (show w.heap.size<=w3.heap.size by omega) _⟩
     case measure=>simp [intOf];omega
    ·have HSM2:=Zh (show Zot (Zaq T) I x=I from if_neg hth);have htf:(x.th == -1)=false:=by simpa using hth
     clear hok
     go_wp2_with fail
     go_roundw
     case rel=>exact⟨i+1,I,ω,by go_num,by rw [HNX.o,HSM2.o],hIl,HO.o,HQ.o,HLO.o,HTB.o,HRB.o,HB.o⟩
     case measure=>simp [intOf];omega
   ·have hie:i=T.init.length:=ω;have hij:¬ (i:Int)<(T.init.length:Int):=ω;have HFI:=Zh (show I=Ziw (Zaq T) T.init by
     rw [HII.o,hie,List.take_length];unfold Ziw;rw [show (Zaq T).length=nl from HNL.o])
    have b5:wr.cell? ⟨w.heap.size,5,none⟩=some (.int .i64 T.q):=(by have:=HTB.o.cell 5;rw [this,HTC.o];rfl);have b6:wr.cell? ⟨w.heap.size,6,none⟩=some (.int .i64 T.k):=(by have:=HTB.o.cell 6;rw [this,HTC.o];rfl);have b7:wr.cell? ⟨w.heap.size,7,none⟩=some (.int .i64 T.t):=(by have:=HTB.o.cell 7;rw [this,HTC.o];rfl);have b8:wr.cell? ⟨w.heap.size,8,none⟩=some (.int .i64 T.r):=(by have:=HTB.o.cell 8;rw [this,HTC.o];rfl);have b9:wr.cell? ⟨w.heap.size,9,none⟩=some (.string ⟨T.l.toArray⟩):=(by have:=HTB.o.cell 9;rw [this,HTC.o];rfl);have b10:wr.cell? ⟨w.heap.size,10,none⟩=some (.int .i64 T.v):=(by have:=HTB.o.cell 10;rw [this,HTC.o];rfl);have b11:wr.cell? ⟨w.heap.size,11,none⟩=some (.slice A0 l0 q0):=(by have:=HTB.o.cell 11;rw [this,HTC.o];rfl);have HK:=Zh (Zec.below HT0.o.kids (Nat.le_refl _) HB.o);have HL:=Zh HT0.o.llen;have hbz:=HB.o.size
    go_wp2_with (go_at_call 22;refine Hid.o ?_)
    refine Zh ?_;refine (Z7j w.heap.size _ hbz HK.o HL.o).mono ?_;rw [show Zk4 T.q T.k T.t T.r T.l T.v T.kids=Za5 T from rfl];rintro e w5 ⟨At,ct,rfl,hths,hb⟩;dsimp only;obtain⟨nt,hnt⟩:∃ n,(Za5 T).length=n:=⟨_,rfl⟩;have HTO:Hid (w5.ownsRow w.heap.size 25 3 (.slice At nt ct) (Za5 T).length (Zay (Za5 T))):=by
     rw [<- hnt];exact Zh (Zdx hths.2.2 hbz)
    rw [hnt];have HNT:=Zh hnt;have hnt3:nt<=1024:=by rw [<- hnt];exact Zeb T
    have HO5:=Zh (HO.o.go hb);have HQ5:=Zh (HQ.o.go hb);have HLO5:=Zh (Zav HLO.o hb);have HTB5:=Zh (HTB.o.go hb);have HRB5:=Zh (HRB.o.go hb);have HB5:=Zh (Zaa HB.o hb);have hqo:=Za4 HO.o HQ.o (by decide);have hwo:w2.heap.size<w5.heap.size:=HO5.o.lt;have hwt:w.heap.size<w5.heap.size:=HTB5.o.lt;clear hb hths hnt b3 b5 b6 b7 b8 b9 b10 b11 HO HQ HLO HTB HRB HB HK HL;have o7:=HO5.o.cell 7;have o8:=HO5.o.cell 8;have fo:=HO5.o.frozen;have hmk:=Zv7 nt ω
    go_wp2_with fail
    have HOS:=Zh (HO5.o.set_ 7 (.slice At nt ct));have HOF:Hid (OfS w (((w5.setCell ⟨w2.heap.size,7,none⟩ (.slice At nt ct)).setCell ⟨w2.heap.size,8,none⟩ (.slice (some ⟨w5.heap.size,0,none⟩) nt nt)).alloc (.cells (Zbf.flat (List.replicate nt ((0:Int),(0:Int)))).toArray 76 (0,0))) w2.heap.size ⟨Zaq T,Ziw (Zaq T) T.init,Za5 T,tr0 (Za5 T)⟩ ⟨⟨Al,nl,cl⟩,⟨some ⟨w3.heap.size,0,none⟩,nl,nl⟩,⟨none,0,0⟩,⟨none,0,0⟩,⟨none,0,0⟩,⟨none,0,0⟩,⟨none,0,0⟩,⟨At,nt,ct⟩,⟨some ⟨w5.heap.size,0,none⟩,nt,nt⟩⟩ tc):=by
     have hb:=Blk.new ((w5.setCell ⟨w2.heap.size,7,none⟩ (.slice At nt ct)).setCell ⟨w2.heap.size,8,none⟩ (.slice (some ⟨w5.heap.size,0,none⟩) nt nt)) 76 (Zbf.flat (List.replicate nt ((0:Int),(0:Int)))).toArray;simp only [World.size_setCell] at hb;have hq:=((HQ5.o.far (p:=⟨w2.heap.size,7,none⟩) (Ne.symm hqo) (.slice At nt ct)).far (p:=⟨w2.heap.size,8,none⟩) (Ne.symm hqo) (.slice (some ⟨w5.heap.size,0,none⟩) nt nt)).alloc (.cells (Zbf.flat (List.replicate nt ((0:Int),(0:Int)))).toArray 76 (0,0));rw [HFI.o] at hq;refine Zh ⟨⟨(HOS.o.set_ 8 (.slice (some ⟨w5.heap.size,0,none⟩) nt nt)).alloc _,ω,Zav (Zaf (Zaf HLO5.o HO5.o (by decide) _ _) HOS.o (by decide) _ _) (Zad _ _),⟨w3.heap.size,?_,hq,ω⟩,Enc.Own.nil _ _ _,Enc.Own.nil _ _ _,Enc.Own.nil _ _ _,Enc.Own.nil _ _ _,Enc.Own.nil _ _ _,Zav (Zaf (Zaf HTO.o HO5.o (by decide) _ _) HOS.o (by decide) _ _) (Zad _ _),⟨w5.heap.size,?_,?_,ω⟩,(fun x hx=>by cases hx),(fun x hx=>by cases hx),(fun x hx=>by cases hx)⟩,
      (((HTB5.o.far (p:=⟨w2.heap.size,7,none⟩) (show w.heap.size≠w2.heap.size by omega) (.slice At nt ct)).far (p:=⟨w2.heap.size,8,none⟩) (show w.heap.size≠w2.heap.size by omega) (.slice (some ⟨w5.heap.size,0,none⟩) nt nt)).alloc (.cells (Zbf.flat (List.replicate nt ((0:Int),(0:Int)))).toArray 76 (0,0))),
      (((HRB5.o.far (p:=⟨w2.heap.size,7,none⟩) (show w.heap.size+1≠w2.heap.size by omega) (.slice At nt ct)).far (p:=⟨w2.heap.size,8,none⟩) (show w.heap.size+1≠w2.heap.size by omega) (.slice (some ⟨w5.heap.size,0,none⟩) nt nt)).alloc (.cells (Zbf.flat (List.replicate nt ((0:Int),(0:Int)))).toArray 76 (0,0))),
      (Zab ((HB5.o.setCell (p:=⟨w2.heap.size,7,none⟩) (show w.heap.size<=w2.heap.size by omega) (.slice At nt ct)).setCell (p:=⟨w2.heap.size,8,none⟩) (show w.heap.size<=w2.heap.size by omega) (.slice (some ⟨w5.heap.size,0,none⟩) nt nt)) (.cells (Zbf.flat (List.replicate nt ((0:Int),(0:Int)))).toArray 76 (0,0))),hz2⟩
     ·show (.slice (some ⟨w3.heap.size,0,none⟩) nl nl:Value)=_;rw [<- HFI.o,hIl]
     ·show (.slice (some ⟨w5.heap.size,0,none⟩) nt nt:Value)=_;simp only [tr0,List.length_replicate,HNT.o]
     ·simp only [tr0,HNT.o];exact hb
    generalize ((w5.setCell ⟨w2.heap.size,7,none⟩ (.slice At nt ct)).setCell ⟨w2.heap.size,8,none⟩ (.slice (some ⟨w5.heap.size,0,none⟩) nt nt)).alloc (.cells (Zbf.flat (List.replicate nt ((0:Int),(0:Int)))).toArray 76 (0,0))=w6 at *;clear HO5 HQ5 HLO5 HTB5 HRB5 HB5 HTO HOS o7 o8 fo hmk hqo hij;obtain⟨X,hX⟩:∃ X,Zgh (isR T) (Zaq T) T.init (Za5 T) 0 T.code (tr0 (Za5 T))=X:=⟨_,rfl⟩;have HX:=Zh hX;have HTR:=Zh (Zku HE.o hX);clear hX;go_loopw [12] (fun v wr=>∃ (k:Nat) (a' a:Tr) (V:Ze5),k<=T.code.length/\v=.int .i64 k/\Zgh (isR T) (Zaq T) T.init (Za5 T) k (T.code.drop k) a=X/\Zod k a' a/\Zxq nt k a/\OfS w wr w2.heap.size ⟨Zaq T,Ziw (Zaq T) T.init,Za5 T,a'⟩ V tc) (fun v _=>T.code.length - (intOf v).toNat)
    case atStart=>exact⟨0,tr0 (Za5 T),tr0 (Za5 T),_,Nat.zero_le _,rfl,by rw [List.drop_zero];exact HX.o,Z5u _,by have:=Z0i T;rw [HNT.o] at this;exact this,HOF.o⟩
    case round=>
     obtain⟨k,a',a,V,hk,rfl,hgo,hraw,hok,hof⟩:=hrel;obtain⟨wk,hwk⟩:∃ z:World,z=wr:=⟨_,rfl⟩;subst hwk;clear HOF;have HGO:=Zh hgo;have HRW:=Zh hraw;have HTK:=Zh hok;have HOF:=Zh hof;obtain⟨qe,hqe⟩:=hof.out.enS;simp only [hraw.ends,hok.ends] at hqe;have HQE:=Zh hqe;obtain⟨oc,hoc⟩:∃ c,c=Zjb V:=⟨_,rfl⟩;have HOC:=Zh hoc;have HOZ:=Zh (show oc.size=9 by rw [hoc];rfl);have HOB:=Zh (show Blk wk w2.heap.size 41 oc by rw [hoc];exact hof.out.blk);have HTB:=Zh hof.tst;have b4:wk.cell? ⟨w.heap.size,4,none⟩=some (.slice Ac T.code.length cc):=(by have:=hof.tst.cell 4;rw [this,HTC.o];rfl);have hwk1:w2.heap.size<wk.heap.size:=hof.out.blk.lt;clear hgo hraw hok hof hqe hoc;by_cases hlt:k<T.code.length
     ·obtain⟨c,hc⟩:∃ c,T.code[k]?=some c:=⟨_,List.getElem?_eq_getElem hlt⟩;have HC:=Zh hc;have HDC:=Zh (show T.code.drop k=c :: T.code.drop (k+1) from Zbp hc);have hii:(0:Int)<=(k:Int):=ω;have hij:(k:Int)<(T.code.length:Int):=ω;obtain⟨bs,os,_,_,hAc,_⟩:=HT0.o.code k c hc;subst hAc;obtain⟨S,hS⟩:∃ S,S=rrS T Ai bs os ci cc A0 l0 q0 k V a':=⟨_,rfl⟩;have HSD:=Zh hS;have HRN:Hid (Calls Tryz.prog 23 #[.agg tc,.agg oc,.int .i64 (k:Int)] wk (Zeg w.heap.size S (goL ⟨k,isR T,a.evs.length,Zaq T⟩ c 0 (rn0 (isR T) T.init k)) wk)):=by
       have:=Z7d HE.o HT0.o hc HRW.o HTK.o HOF.o (ci:=ci) (cc:=cc);rw [<- hS,HRW.o.evs] at this;rw [HTC.o,HOC.o];exact Zh this
      clear hc hS
      go_wp2_with (first | ((with_reducible refine Zas ?_);refine Zaw 32 1 w.heap.size rfl rfl HTB.o Tryz.underlying32 rfl (by rw [HTZ.o];kernel_rfl) rfl ?_) | ((with_reducible refine Zas ?_);refine Zaw 41 6 w2.heap.size rfl rfl HOB.o Tryz.underlying41 rfl (by rw [HOZ.o];kernel_rfl) rfl ?_) | (go_at_call 23;refine Hid.o ?_))
      refine Zh ?_;refine HRN.o.mono ?_;rintro e w5 ⟨r1,fl,V1,rfl,hr1,hk1,hg1⟩;dsimp only;have HZ:=Zh (Blk.new w5 83 #[.int .i64 0,.string ⟨#[]⟩,.string ⟨#[]⟩,.slice none 0 0,.slice none 0 0,.int .i64 0,.int .i64 0,.int .i64 0,.int .i64 0,.string ⟨#[]⟩,.int .i64 0,.slice none 0 0,.int .i64 0,.slice none 0 0,.int .u64 0,.slice none 0 0,.slice none 0 0,.slice none 0 0,.slice none 0 0,.slice none 0 0,.slice none 0 0,.slice none 0 0,.slice none 0 0,.slice none 0 0,.bool false,.bool false])
      repeat (first | ((with_reducible refine Zas ?_);refine Zap 83 13 92 w5.heap.size rfl rfl rfl HZ.o (by rfl) κ (Zbg _ _ _ _) rfl rfl ?_;refine Hid.o ?_) | go_step)
      refine Zh ?_;have HE9:=Zh (HOF.o.ran (fl:=fl) hr1 hk1 (by rw [HSD.o]) (by rw [HSD.o]) (by rw [HSD.o]) #[.int .i64 0,.string ⟨#[]⟩,.string ⟨#[]⟩,.slice none 0 0,.slice none 0 0,.int .i64 0,.int .i64 0,.int .i64 0,.int .i64 0,.string ⟨#[]⟩,.int .i64 0,.slice none 0 0,.int .i64 0,.slice none 0 0,.int .u64 0,.slice none 0 0,.slice none 0 0,.slice none 0 0,.slice none 0 0,.slice none 0 0,.slice none 0 0,.slice none 0 0,.slice none 0 0,.slice none 0 0,.bool false,.bool false]);have HG1:=Zh hg1;generalize ((w5.alloc (.cells #[.int .i64 0,.string ⟨#[]⟩,.string ⟨#[]⟩,.slice none 0 0,.slice none 0 0,.int .i64 0,.int .i64 0,.int .i64 0,.int .i64 0,.string ⟨#[]⟩,.int .i64 0,.slice none 0 0,.int .i64 0,.slice none 0 0,.int .u64 0,.slice none 0 0,.slice none 0 0,.slice none 0 0,.slice none 0 0,.slice none 0 0,.slice none 0 0,.slice none 0 0,.slice none 0 0,.slice none 0 0,.bool false,.bool false] 83 (0,0))).setRow w5.heap.size (rrC S r1 fl V1))=W9 at *;generalize w5.heap.size=G at *;generalize (rrV S r1 fl V1:Value)=x92;generalize (Value.agg oc)=x90;clear hr1 hk1 hg1 HZ HRN HOB HTB b4;have k25:=HE9.o.blk.cm 25;have k24:=HE9.o.blk.cm 24;have HRR:=Zh HE9.o.res;cases hfl:r1.full with
      | true=>
       rw [hfl] at k25;have HXE:=Zh (show X=.error (2,k) by
        rcases HG1.o with ⟨_,h⟩ | ⟨_,_,h⟩
        ·exact Ze0 HGO.o HDC.o (Zpx rfl h hfl)
        ·rw [hfl] at h;cases h)
       have HTX:=Zh (show Zcv T=.error (2,k) by rw [HTR.o,HXE.o];rfl);clear hfl;have r0:=HRR.o.cell 0;have r1:=HRR.o.cell 1;have r2:=HRR.o.cell 2;have r3:=HRR.o.cell 3;have r4:=HRR.o.cell 4;have r5:=HRR.o.cell 5;have r6:=HRR.o.cell 6;have r7:=HRR.o.cell 7;have r8':=HRR.o.cell 8;have fr:=HRR.o.frozen
       go_wp2_with fail
       refine bodyPost_ret (v:=.tuple #[.agg #[.slice none 0 0,.slice none 0 0,.slice none 0 0,.slice none 0 0,.slice none 0 0,.slice none 0 0,.slice none 0 0,.slice none 0 0,.slice none 0 0],.int .i64 2,.int .i64 (k:Int)]) (by simp [results,Tryz.results5,go_sem, *]) rfl ?_;exact OfR.bad HTX.o (Zfv (HE9.o.bel) (Nat.le_succ _) _ _ _ _ _ _ _ _ _)
      | false=>
       rw [hfl] at k25;have HFL:=Zh hfl;clear hfl;obtain⟨Y,hY⟩:∃ Y,Zdk k a.evs.length r1 0 (Za5 T) a.ends=Y:=⟨_,rfl⟩;have HY:=Zh hY;have HP0:=Zh (show ((!fl)=true/\goL ⟨k,isR T,a.evs.length,Zaq T⟩ c 0 (rn0 (isR T) T.init k)=some r1/\Zdk k a.evs.length r1 0 ((Za5 T).drop 0) a'.ends=Y)\/((!fl)=false/\X=.error (150,k)) by
        rcases HG1.o with ⟨h0,h⟩ | ⟨h0,h,_⟩
        ·exact Or.inl ⟨by rw [h0];rfl,h,by rw [List.drop_zero,HRW.o.ends];exact hY⟩
        ·exact Or.inr ⟨by rw [h0];rfl,Ze0 HGO.o HDC.o (Zpy rfl h)⟩)
       clear hY HRR HG1
       go_wp2_with fail
       clear k24 k25;go_loopw [15,14] (fun v u wq=>∃ (i:Nat) (m:List (Int×Int)) (ok:Bool),i<=nt/\v=.int .i64 i/\u=.bool ok/\((ok=true/\goL ⟨k,isR T,a.evs.length,Zaq T⟩ c 0 (rn0 (isR T) T.init k)=some r1/\Zdk k a.evs.length r1 i ((Za5 T).drop i) m=Y)\/(ok=false/\X=.error (150,k)))/\Zs1 w wq w2.heap.size G S r1 fl V1 (Ziw (Zaq T) T.init) (Za5 T) m tc) (fun v _ _=>nt - (intOf v).toNat)
       case atStart=>exact⟨0,_,!fl,Nat.zero_le _,rfl,rfl,HP0.o,HE9.o⟩
       case round=>
        obtain⟨i,m,ok,hi,rfl,rfl,hpp,hes⟩:=hrel;have HPP:=Zh hpp;have HES:=Zh hes;obtain⟨zo,hzo,hzo9,hzo7⟩:=hes.out;obtain⟨At1,ct1,hth0,hth⟩:=Zey hes.th;have o7:wr.cell? ⟨w2.heap.size,7,none⟩=some (.slice At1 nt ct1):=by rw [hzo.cell,hzo7,hth0,HNT.o]
        have HZO:=Zh hzo;have HZN:=Zh hzo9;have HRR:=Zh hes.res;have HEQ:Hid (S.en=⟨some ⟨qe,0,none⟩,nt,nt⟩):=Zh (by rw [HSD.o];exact HQE.o);have hgw:G<wr.heap.size:=hes.blk.lt;have how:w2.heap.size<wr.heap.size:=hzo.lt;clear hpp hes HE9 HP0 hzo hzo9 hzo7 hth0;by_cases hgo:i<nt/\ok=true
        ·obtain⟨hlt2,hok1⟩:=hgo;subst hok1;have HEN:=Zh (show goL ⟨k,isR T,a.evs.length,Zaq T⟩ c 0 (rn0 (isR T) T.init k)=some r1/\Zdk k a.evs.length r1 i ((Za5 T).drop i) m=Y by
          rcases HPP.o with ⟨_,h⟩ | ⟨h,_⟩
          ·exact h
          ·cases h)
         obtain⟨x,hx⟩:∃ x,(Za5 T)[i]?=some x:=⟨_,List.getElem?_eq_getElem (by rw [HNT.o];exact hlt2)⟩;obtain⟨tb,to,hA,c0,c1,c2⟩:=hth i x hx;subst hA;obtain⟨xt,xr,xl⟩:=x;simp only at c0 c1 c2;have HXM:=Zh (List.mem_of_getElem? hx);have HDX:=Zh (show (Za5 T).drop i=(xt,xr,xl) :: (Za5 T).drop (i+1) from Zbp hx);clear hx hth HPP;have hii2:(0:Int)<=(i:Int):=ω;have hij2:(i:Int)<(nt:Int):=ω;by_cases hxt:xt=(k:Int)
         ·have hI8:=Zmv (fun j x hx=>Zhd HE.o rfl HC.o hx) c.length 0 _ _ (Nat.sub_le _ _) (Nat.zero_le _) (Z2s HE.o rfl HTK.o.evs k) HEN.o.1;obtain⟨_,hx1,hx2⟩:=Zrc HE.o HXM.o (show xt≠-1 by omega);simp only at hx1 hx2;obtain⟨d,rfl⟩:=Int.eq_ofNat_of_zero_le hx1;have hdl:d<r1.regs.length:=by have:=hI8.rlen;omega
          obtain⟨y,hy⟩:∃ y,r1.regs[d]?=some y:=⟨_,List.getElem?_eq_getElem hdl⟩;subst hxt;obtain⟨q1,cp,hvr,hrat⟩:=HES.o.ref.rgAt ω;have HST:=Zh (show Zu6 k a.evs.length r1 m i ((k:Int),(d:Int),xl)=(Zp6 a.evs.length y.h).map fun e=>m.set i e by unfold Zu6;rw [if_pos rfl];simp only [Zh4 hy]);have HEI:=Zh (show (Zu6 k a.evs.length r1 m i ((k:Int),(d:Int),xl)).bind (fun m'=>Zdk k a.evs.length r1 (i+1) ((Za5 T).drop (i+1)) m')=Y by
           have:=HEN.o.2;rw [HDX.o] at this;exact this)
          obtain⟨p1,p2,okb,hev,hpo⟩:=Z2p (Zp6 a.evs.length y.h);have HP2:=Zh (show (okb=true/\goL ⟨k,isR T,a.evs.length,Zaq T⟩ c 0 (rn0 (isR T) T.init k)=some r1/\Zdk k a.evs.length r1 (i+1) ((Za5 T).drop (i+1)) (m.set i (p1,p2))=Y)\/(okb=false/\X=.error (150,k)) by
           have h:=HEI.o;rw [HST.o] at h;rcases hpo with ⟨h0,h1⟩ | ⟨h0,h1⟩
           ·rw [h1] at h;exact Or.inl ⟨h0,HEN.o.1,h⟩
           ·rw [h1] at h;exact Or.inr ⟨h0,Ze0 HGO.o HDC.o (Zih rfl HEN.o.1 HFL.o (HY.o.trans h.symm))⟩)
          have HEP:Hid (∀ z,Calls Tryz.prog 24 #[Za2 S.C.ahead y] z fun e w'=>e=.returned (.tuple #[.agg #[.int .i64 p1,.int .i64 p2],.bool okb])/\Below z.heap.size z w'):=Zh (fun z=>by
           have:=Z4y S.C.ahead y z;rw [show S.C.ahead=a.evs.length by rw [HSD.o,<- HRW.o.evs],hev] at this;rw [show S.C.ahead=a.evs.length by rw [HSD.o,<- HRW.o.evs]];exact this)
          have k13:wr.cell? ⟨G,13,none⟩=some (.slice (some ⟨q1,0,none⟩) r1.regs.length cp):=by rw [<- hvr];exact HES.o.blk.cell 13
          have HSS:=Zh (show ∀ z,Below wr.heap.size wr z->(fun z:World=>(Zdj S.C.ahead).At z (some ⟨q1,0,none⟩) r1.regs/\z.cell? ⟨G,13,none⟩=some (.slice (some ⟨q1,0,none⟩) r1.regs.length cp)/\z.cell? ⟨w2.heap.size,7,none⟩=some (.slice (some ⟨tb,to,none⟩) nt ct1)/\z.cell? ⟨tb,to+i*3+1,none⟩=some (.int .i64 (d:Int))) z from fun z hb=>⟨hrat.below hb,Zac k13 hb,Zac o7 hb,Zac c1 hb⟩);have hd1:(0:Int)<=(d:Int):=ω;have hd2:(d:Int)<(r1.regs.length:Int):=ω;have htk:((k:Int) == (k:Int))=true:=by simp
          have HYY:=Zh hy;clear hI8 hx1 hx2 hdl hrat hvr hpo hev HRR k13
          go_wp2_with fail
          rename_i K hK;have HK:=Zh hK;clear hK;apply Zxg (K:=K) (F:=fun la _ W3=>Zs1 w W3 w2.heap.size G S r1 fl V1 (Ziw (Zaq T) T.init) (Za5 T) m tc/\Blk W3 la 76 #[.int .i64 p1,.int .i64 p2])
          ·intro HM;have HM:=Zh HM;refine wz (fun z:World=>(Zdj S.C.ahead).At z (some ⟨q1,0,none⟩) r1.regs/\z.cell? ⟨G,13,none⟩=some (.slice (some ⟨q1,0,none⟩) r1.regs.length cp)/\z.cell? ⟨w2.heap.size,7,none⟩=some (.slice (some ⟨tb,to,none⟩) nt ct1)/\z.cell? ⟨tb,to+i*3+1,none⟩=some (.int .i64 (d:Int))) [1,3,5,6,7,9,14] (HSS.o _ (Below.refl _ _).drew) (fun hHeld=>?_);refine wq 0 ?_;refine wq 2 ?_;refine wq 4 ?_;refine wt 1 (by assumption) ?_;refine wt 3 (by assumption) ?_;refine wt 5 (by assumption) ?_;refine wt 6 (by assumption) ?_;refine wt 7 (by assumption) ?_;refine wq 8 ?_;refine wv 9 ((Za2 S.C.ahead y)) rfl (fun x' hS=>Zaz rfl rfl (Zdt hS.1 HYY.o)) (by assumption) ?_;clear hHeld;refine Zd5 (i:=10) (j:=14) κ rfl rfl (fun K hK=>?_) (fun K hK=>?_)
           ·go_simp
            go_at_call 24
            refine (HEP.o _).mono ?_;rintro e w10 ⟨rfl,hb10⟩;have HB10:=Zh (Zag hb10);refine hK.out _ _ (HSS.o _ HB10.o) ?_;clear hK K hb10;refine pu ?_;refine wq 11 ?_;refine wq 12 ?_;refine wq 13 ?_;refine Zar (i:=14) κ rfl (fun K hK=>?_);go_simp;refine hK.out _ _ (HSS.o _ (Zab HB10.o _)) ?_;clear hK K;refine pu ?_;refine wl 15 ?_;refine Zap 76 16 130 w10.heap.size rfl rfl rfl (Blk.new w10 76 #[.int .i64 0,.int .i64 0]) (by rfl) κ κ rfl rfl ?_;have hF:Zs1 w ((w10.alloc (.cells #[.int .i64 0,.int .i64 0] 76 (0,0))).setRow w10.heap.size #[.int .i64 p1,.int .i64 p2]) w2.heap.size G S r1 fl V1 (Ziw (Zaq T) T.init) (Za5 T) m tc/\Blk ((w10.alloc (.cells #[.int .i64 0,.int .i64 0] 76 (0,0))).setRow w10.heap.size #[.int .i64 p1,.int .i64 p2]) w10.heap.size 76 #[.int .i64 p1,.int .i64 p2]:=
             ⟨HES.o.below (below_setRow (Zab HB10.o _) HB10.o.size _),(Blk.new w10 76 #[.int .i64 0,.int .i64 0]).row _⟩
            generalize ((w10.alloc (.cells #[.int .i64 0,.int .i64 0] 76 (0,0))).setRow w10.heap.size #[.int .i64 p1,.int .i64 p2])=W3 at hF ⊢;generalize w10.heap.size=l1 at hF ⊢;exact m_97
           ·go_simp;refine hK.out _ _ (HSS.o _ (Zab (Below.refl _ _).drew _)) ?_;clear hK K;refine pu ?_;have HZ:=Zh (Blk.new wr.drew 76 #[.int .i64 0,.int .i64 0]);have HBZ:=Zh (Zab (Below.refl wr.heap.size wr).drew (.cells #[.int .i64 0,.int .i64 0] 76 (0,0)));refine Zar (i:=10) κ rfl (fun K hK=>?_);go_simp
            go_at_call 24
            refine (HEP.o _).mono ?_;rintro e w10 ⟨rfl,hb10⟩;have HB10:=Zh (Zaa HBZ.o hb10);have HZ10:=Zh (HZ.o.go hb10);refine hK.out _ _ (HSS.o _ HB10.o) ?_;clear hK K hb10 HZ;refine pu ?_;refine wq 11 ?_;refine wq 12 ?_;refine wq 13 ?_;refine wl 15 ?_;refine Zap 76 16 130 wr.heap.size rfl rfl rfl HZ10.o (by rfl) κ κ rfl rfl ?_;have hF:Zs1 w (w10.setRow wr.heap.size #[.int .i64 p1,.int .i64 p2]) w2.heap.size G S r1 fl V1 (Ziw (Zaq T) T.init) (Za5 T) m tc/\Blk (w10.setRow wr.heap.size #[.int .i64 p1,.int .i64 p2]) wr.heap.size 76 #[.int .i64 p1,.int .i64 p2]:=
             ⟨HES.o.below (below_setRow HB10.o (Nat.le_refl _) _),HZ10.o.row _⟩
            clear HZ10 HB10 HBZ;generalize (w10.setRow wr.heap.size #[.int .i64 p1,.int .i64 p2])=W3 at hF ⊢;generalize wr.heap.size=l1 at hF ⊢;exact m_97
          ·intro la lb W3 ⟨hE3,hL3⟩;refine HK.o _ _ ?_;clear HK K HSS HEP;have HE3:=Zh hE3;have HL3:=Zh hL3;have k23:W3.cell? ⟨G,23,none⟩=some (.slice (some ⟨qe,0,none⟩) nt nt):=by have:=hE3.blk.cell 23;rw [this];show some S.en.v=_;rw [HEQ.o]
           obtain⟨hEB,hqB,hml⟩:=hE3.en_blk HEQ.o;obtain⟨e9,he9⟩:∃ e9,m[i]?=some e9:=⟨_,List.getElem?_eq_getElem ω⟩;have hcc:=Zhp hEB he9;have d0:=hcc.1;have d1:=hcc.2;have fz0:=hEB.frozen (i*2);have fz1:=hEB.frozen (i*2+1);have l0:=hL3.cell 0;have l1:=hL3.cell 1;have HE4:=Zh (hE3.put p1 p2 hlt2 HEQ.o);clear hE3 hL3 hEB hcc he9 o7 c0 c1 c2
           go_wp2_with fail
           go_roundw
           case rel=>exact⟨i+1,m.set i (p1,p2),okb,ω,by go_num,rfl,HP2.o,HE4.o⟩
           case measure=>simp [intOf];omega
         ·have hxf:(xt == (k:Int))=false:=by simpa using hxt
          have HNE:=Zh (show Zdk k a.evs.length r1 (i+1) ((Za5 T).drop (i+1)) m=Y by
           have:=HEN.o.2;rw [HDX.o] at this;unfold Zdk Zu6 at this;rw [if_neg hxt] at this;exact this)
          clear hxt
          go_wp2_with fail
          go_roundw
          case rel=>exact⟨i+1,m,true,ω,by go_num,rfl,Or.inl ⟨rfl,HEN.o.1,HNE.o⟩,HES.o⟩
          case measure=>simp [intOf];omega
        ·cases ok with
         | true=>
          have hie:i=nt:=by
           refine Decidable.byContradiction fun h=>hgo ⟨ω,rfl⟩
          have hij2:¬ (i:Int)<(nt:Int):=ω;have HYM:=Zh (show goL ⟨k,isR T,a.evs.length,Zaq T⟩ c 0 (rn0 (isR T) T.init k)=some r1/\Y=some m by
           rcases HPP.o with ⟨_,h1,h2⟩ | ⟨h,_⟩
           ·refine⟨h1,?_⟩;rw [List.drop_eq_nil_of_le (by rw [HNT.o];omega)] at h2;rw [<- h2];rfl
           ·cases h)
          have HXO:=Zh (Zxa rfl HYM.o.1 HFL.o (HY.o.trans HYM.o.2));have HGN:=Zh (Zxc HGO.o HDC.o HXO.o);have hcl2:=((Zb9 HSM.o.2.2.2.1).2.2 k c HC.o).1;have hml:m.length=nt:=(HES.o.en_blk HEQ.o).2.2;have HI8:=Zh (Zmv (fun j x hx=>Zhd HE.o rfl HC.o hx) c.length 0 _ _ (Nat.sub_le _ _) (Nat.zero_le _) (Z2s HE.o rfl HTK.o.evs k) HYM.o.1);have HTJ:=Zh (HTK.o.join (C:=⟨k,isR T,a.evs.length,Zaq T⟩) rfl HI8.o hcl2 hml);have HRJ:=Zh (HRW.o.join (C:=⟨k,isR T,a.evs.length,Zaq T⟩) rfl HI8.o (es:=m));have HFN:=Zh (HES.o.fin (by rw [HSD.o]));rw [show S.C.locs=Zaq T by rw [HSD.o],show S.a=a' by rw [HSD.o]] at HFN;have hlo:=Zkp HES.o.blk;clear hcl2 hth hgo HPP
          go_wp2_with ((with_reducible refine Zas ?_);refine Z29 (.fieldAddr 83 (.tmp 13) 4) rfl ?_)
          refine Zh ?_
          repeat (first | ((with_reducible refine Zas ?_);refine Zzk 41 143 (A:=⟨G,15,none⟩) rfl rfl rfl hlo ?_;refine Hid.o ?_) | go_step)
          refine Zh ?_;go_simp;refine Zap 41 6 144 w2.heap.size rfl rfl rfl HZO.o (by exact HZN.o) κ (Zny ⟨S.lo,S.ini,V1.ev,V1.br,V1.ad,V1.da,V1.ct,S.th,S.en⟩) rfl rfl ?_
          repeat go_step
          go_roundw
          case rel=>exact⟨k+1,Z2t a' r1 m,Zg8 a r1 m,_,ω,by go_num,HGN.o,HRJ.o,HTJ.o,HFN.o⟩
          case measure=>simp [intOf];omega
         | false=>
          have HTX:=Zh (show Zcv T=.error (150,k) by
           rcases HPP.o with ⟨h,_⟩ | ⟨_,h⟩
           ·cases h
           ·rw [HTR.o,h];rfl)
          clear hth hgo HPP;by_cases hlt2:i<nt
          ·have hij2:(i:Int)<(nt:Int):=ω;exact m_22
          ·have hij2:¬ (i:Int)<(nt:Int):=ω;exact m_22
     ·have hke:k=T.code.length:=ω;have hij:¬ (k:Int)<(T.code.length:Int):=ω;have HXA:=Zh (show X=.ok a by have:=HGO.o;rw [hke,List.drop_length] at this;rw [<- this];rfl);obtain⟨Z,hZ⟩:∃ Z,Zjt (Zaq T) 0 (Za5 T) a.ends=Z:=⟨_,rfl⟩;have HZ:=Zh hZ;clear hZ HOB HTB HOC HGO
      go_wp2_with fail
      clear b4;go_loopw [18] (fun v wq=>∃ (i:Nat) (m:List (Int×Int)),i<=nt/\v=.int .i64 i/\Zjt (Zaq T) i ((Za5 T).drop i) m=Z/\m.length=nt/\OfS w wq w2.heap.size ⟨Zaq T,Ziw (Zaq T) T.init,Za5 T,{ a' with ends:=m }⟩ V tc) (fun v _=>nt - (intOf v).toNat)
      case atStart=>exact⟨0,a'.ends,Nat.zero_le _,rfl,by rw [List.drop_zero,HRW.o.ends];exact HZ.o,by rw [HRW.o.ends];exact HTK.o.ends,HOF.o⟩
      case round=>
       obtain⟨i,m,hi,rfl,hfin,hml,hoq⟩:=hrel;have HFN:=Zh hfin;have HOQ:=Zh hoq;obtain⟨At1,ct1,hth0,hth⟩:=Zey hoq.out.th;have o7:wr.cell? ⟨w2.heap.size,7,none⟩=some (.slice At1 nt ct1):=by rw [hoq.out.blk.cell 7,<- HNT.o,<- hth0];rfl
       have how:w2.heap.size<wr.heap.size:=hoq.out.blk.lt;clear hfin hoq HOF hth0;by_cases hlt2:i<nt
       ·obtain⟨x,hx⟩:∃ x,(Za5 T)[i]?=some x:=⟨_,List.getElem?_eq_getElem (by rw [HNT.o];exact hlt2)⟩;obtain⟨tb,to,hA,c0,c1,c2⟩:=hth i x hx;subst hA;obtain⟨xt,xr,xl⟩:=x;simp only at c0 c1 c2;have HXM:=Zh (List.mem_of_getElem? hx);have HFX:=Zh (show Zjt (Zaq T) (i+1) ((Za5 T).drop (i+1)) (Zru (Zaq T) m i (xt,xr,xl))=Z by
         have:=HFN.o;rw [Zbp hx] at this;exact this)
        clear hx hth;have hii2:(0:Int)<=(i:Int):=ω;have hij2:(i:Int)<(nt:Int):=ω;by_cases hxt:xt=-1
        ·have HLC:=Zh (Zrb HE.o HXM.o hxt);subst hxt;obtain⟨j,hj⟩:∃ j,(Zaq T).idxOf xl=j:=⟨_,rfl⟩;have HFY:=Zh (show Zjt (Zaq T) (i+1) ((Za5 T).drop (i+1)) (m.set i (3,(j:Int)))=Z by
          have:=HFX.o;unfold Zru at this;rw [if_pos rfl,hj] at this;exact this)
         have HPL:Hid (∀ y:World,Zcy.At y V.lo.A (Zaq T)->Calls Tryz.prog 21 #[.agg #[V.lo.v,V.ini.v,V.ev.v,V.br.v,V.ad.v,V.da.v,V.ct.v,V.th.v,V.en.v],.string ⟨xl.toArray⟩] y fun e y'=>e=.returned (.int .i64 (j:Int))/\Below y.heap.size y y'):=Zh (fun y hy=>by rw [<- hj];exact Zkl V (Zaq T) xl y hy (Zpm HOQ.o.out.lo) HSM.o.2.1 HLC.o);have HAT:Hid (Zcy.At wr V.lo.A (Zaq T)):=by
          obtain⟨A',cap',e,hat,_⟩:=Enc.Own.at_ (E:=Zcy) HOQ.o.out.lo;simp only [Value.slice.injEq] at e;rw [<- e.1] at hat;exact Zh hat
         have o8:wr.cell? ⟨w2.heap.size,8,none⟩=some (.slice (some ⟨qe,0,none⟩) nt nt):=by have:=HOQ.o.out.blk.cell 8;rw [this];show some V.en.v=_;rw [HQE.o]
         have HS:=Zh (show (fun z:World=>Blk z w2.heap.size 41 #[V.lo.v,V.ini.v,V.ev.v,V.br.v,V.ad.v,V.da.v,V.ct.v,V.th.v,V.en.v]/\z.cell? ⟨w2.heap.size,8,none⟩=some (.slice (some ⟨qe,0,none⟩) nt nt)/\z.cell? ⟨w2.heap.size,7,none⟩=some (.slice (some ⟨tb,to,none⟩) nt ct1)/\z.cell? ⟨tb,to+i*3+2,none⟩=some (.string ⟨xl.toArray⟩)) wr.drew from⟨HOQ.o.out.blk,o8,o7,c2⟩);clear hj o8
         go_wp2_with fail
         refine wz (fun z:World=>Blk z w2.heap.size 41 #[V.lo.v,V.ini.v,V.ev.v,V.br.v,V.ad.v,V.da.v,V.ct.v,V.th.v,V.en.v]/\z.cell? ⟨w2.heap.size,8,none⟩=some (.slice (some ⟨qe,0,none⟩) nt nt)/\z.cell? ⟨w2.heap.size,7,none⟩=some (.slice (some ⟨tb,to,none⟩) nt ct1)/\z.cell? ⟨tb,to+i*3+2,none⟩=some (.string ⟨xl.toArray⟩)) [1,3,5,7,8,9,10,11] HS.o (fun hHeld=>?_);refine wq 0 ?_;refine wq 2 ?_;refine wq 4 ?_;refine wq 6 ?_;refine wt 1 (by assumption) ?_;refine wv 3 ((.agg #[V.lo.v,V.ini.v,V.ev.v,V.br.v,V.ad.v,V.da.v,V.ct.v,V.th.v,V.en.v])) rfl (fun x' hS=>Zaz rfl rfl (Zw1 hS.1)) (by assumption) ?_;refine wt 5 (by assumption) ?_;refine wt 7 (by assumption) ?_;refine wt 8 (by assumption) ?_;refine wt 9 (by assumption) ?_;refine Zar (i:=10) κ rfl (fun K hK=>?_);go_simp
         go_at_call 21
         refine (HPL.o _ (show Zcy.At wr.drew V.lo.A (Zaq T) from HAT.o)).mono ?_;rintro e w6 ⟨rfl,hb6⟩;have HB6:=Zh (Zag hb6);have hHeld6:=show (fun z:World=>Blk z w2.heap.size 41 #[V.lo.v,V.ini.v,V.ev.v,V.br.v,V.ad.v,V.da.v,V.ct.v,V.th.v,V.en.v]/\z.cell? ⟨w2.heap.size,8,none⟩=some (.slice (some ⟨qe,0,none⟩) nt nt)/\z.cell? ⟨w2.heap.size,7,none⟩=some (.slice (some ⟨tb,to,none⟩) nt ct1)/\z.cell? ⟨tb,to+i*3+2,none⟩=some (.string ⟨xl.toArray⟩)) w6 from⟨hHeld.1.go hb6,Zac hHeld.2.1 hb6,Zac hHeld.2.2.1 hb6,Zac hHeld.2.2.2 hb6⟩;refine hK.out _ _ hHeld6 ?_;clear hK K hHeld hb6 HS HAT HPL;refine pu ?_;refine Zar (i:=11) κ rfl (fun K hK=>?_);go_simp;refine hK.out _ _ hHeld6 ?_;clear hK K;refine pu ?_;refine wl 12 ?_;have HO6:=Zh (HOQ.o.below HB6.o);obtain⟨hEB,hqB⟩:=HO6.o.out.en_blk (show (Z39 V).en=.slice (some ⟨qe,0,none⟩) nt nt by show V.en.v=_;rw [HQE.o]);obtain⟨e9,he9⟩:∃ e9,m[i]?=some e9:=⟨_,List.getElem?_eq_getElem ω⟩;have hcc:=Zhp hEB he9;have d0:=hcc.1;have d1:=hcc.2;have fz0:=hEB.frozen (i*2);have fz1:=hEB.frozen (i*2+1);have HO7:=Zh (HO6.o.en_ (3,(j:Int)) hml hlt2 HQE.o);clear hEB hcc he9 hHeld6 o7 c0 c1 c2
         go_wp2_with fail
         go_roundw
         case rel=>exact⟨i+1,m.set i (3,(j:Int)),ω,by go_num,HFY.o,by simp [hml],HO7.o⟩
         case measure=>simp [intOf];omega
        ·have hxf:(xt == -1)=false:=by simpa using hxt
         have HFY:=Zh (show Zjt (Zaq T) (i+1) ((Za5 T).drop (i+1)) m=Z by
          have:=HFX.o;unfold Zru at this;rw [if_neg hxt] at this;exact this)
         clear hxt
         go_wp2_with fail
         go_roundw
         case rel=>exact⟨i+1,m,ω,by go_num,HFY.o,hml,HOQ.o⟩
         case measure=>simp [intOf];omega
       ·have hie:i=nt:=ω;have hij2:¬ (i:Int)<(nt:Int):=ω;have HMZ:=Zh (show m=Z by
         have:=HFN.o;rw [List.drop_eq_nil_of_le (by rw [HNT.o];omega)] at this;exact this)
        have hk16:k<=16:=by have:=(Zb9 HSM.o.2.2.2.1).1;omega
        have n1:a'.addr.length<=1000000:=by have:=HRW.o.n1;omega
        have n2:a'.data.length<=1000000:=by have:=HRW.o.n2;omega
        have n3:a'.hang.length<=1000000:=by have:=HRW.o.n3;omega
        have k4:wr.cell? ⟨w2.heap.size,4,none⟩=some (.slice V.ad.A V.ad.n V.ad.c):=HOQ.o.out.blk.cell 4;clear hth
        go_wp2_with (go_at_call 25;refine Hid.o ?_)
        refine Zh ?_;refine (Zra V.ad a'.addr _ _ HOQ.o.out.ad n1).mono ?_;rintro e w6 ⟨s6,rfl,ho6,hb6⟩;dsimp only;have HO6:=Zh (HOQ.o.pr_ ho6 hb6).1;have HB6:=Zh (HOQ.o.below hb6);have j4:w6.cell? ⟨w2.heap.size,4,none⟩=some (.slice V.ad.A V.ad.n V.ad.c):=HB6.o.out.blk.cell 4;have j5:w6.cell? ⟨w2.heap.size,5,none⟩=some (.slice V.da.A V.da.n V.da.c):=HB6.o.out.blk.cell 5;have f4:=HB6.o.out.blk.frozen 4;clear ho6 hb6 k4 o7
        go_wp2_with (go_at_call 25;refine Hid.o ?_)
        refine Zh ?_;generalize w6.setCell ⟨w2.heap.size,4,none⟩ (.slice s6.A s6.n s6.c)=w7 at *;refine (Zra V.da a'.data _ _ HO6.o.out.da n2).mono ?_;rintro e w8 ⟨s8,rfl,ho8,hb8⟩;dsimp only;have HO8:=Zh (HO6.o.pr_ ho8 hb8).2.1;have HB8:=Zh (HO6.o.below hb8);clear j4 j5 f4;have j5:w8.cell? ⟨w2.heap.size,5,none⟩=some (.slice V.da.A V.da.n V.da.c):=HB8.o.out.blk.cell 5;have j6:w8.cell? ⟨w2.heap.size,6,none⟩=some (.slice V.ct.A V.ct.n V.ct.c):=HB8.o.out.blk.cell 6;have f5:=HB8.o.out.blk.frozen 5;clear ho8 hb8
        go_wp2_with (go_at_call 25;refine Hid.o ?_)
        refine Zh ?_;generalize w8.setCell ⟨w2.heap.size,5,none⟩ (.slice s8.A s8.n s8.c)=w9 at *;refine (Zra V.ct a'.hang _ _ HO8.o.out.ct n3).mono ?_;rintro e w10 ⟨s10,rfl,ho10,hb10⟩;dsimp only;have HOA:=Zh (HO8.o.pr_ ho10 hb10).2.2;have HBA:=Zh (HO8.o.below hb10);clear j5 j6 f5;have j6:w10.cell? ⟨w2.heap.size,6,none⟩=some (.slice V.ct.A V.ct.n V.ct.c):=HBA.o.out.blk.cell 6;have f6:=HBA.o.out.blk.frozen 6;have HFR:=HBA.o.out.blk.frozen;have fr:=HBA.o.res.frozen;have p0:w10.cell? ⟨w2.heap.size,0,none⟩=some (.slice V.lo.A V.lo.n V.lo.c):=HBA.o.out.blk.cell 0;have p1:w10.cell? ⟨w2.heap.size,1,none⟩=some (.slice V.ini.A V.ini.n V.ini.c):=HBA.o.out.blk.cell 1;have p2:w10.cell? ⟨w2.heap.size,2,none⟩=some (.slice V.ev.A V.ev.n V.ev.c):=HBA.o.out.blk.cell 2;have p3:w10.cell? ⟨w2.heap.size,3,none⟩=some (.slice V.br.A V.br.n V.br.c):=HBA.o.out.blk.cell 3;have p4:w10.cell? ⟨w2.heap.size,4,none⟩=some (.slice s6.A s6.n s6.c):=HBA.o.out.blk.cell 4;have p5:w10.cell? ⟨w2.heap.size,5,none⟩=some (.slice s8.A s8.n s8.c):=HBA.o.out.blk.cell 5;have p7:w10.cell? ⟨w2.heap.size,7,none⟩=some (.slice V.th.A V.th.n V.th.c):=HBA.o.out.blk.cell 7;have p8:w10.cell? ⟨w2.heap.size,8,none⟩=some (.slice V.en.A V.en.n V.en.c):=HBA.o.out.blk.cell 8;have r0:=HBA.o.res.cell 0;have r1:=HBA.o.res.cell 1;have r2:=HBA.o.res.cell 2;have r3:=HBA.o.res.cell 3;have r4:=HBA.o.res.cell 4;have r5:=HBA.o.res.cell 5;have r6:=HBA.o.res.cell 6;have r7:=HBA.o.res.cell 7;have r8':=HBA.o.res.cell 8
        have hno:¬ w2.heap.size=w.heap.size+1:=ω;have hno2:¬ w.heap.size+1=w2.heap.size:=ω;clear ho10 hb10 HFR
        go_wp2_with fail
        refine bodyPost_ret (v:=.tuple #[.agg #[.slice V.lo.A V.lo.n V.lo.c,.slice V.ini.A V.ini.n V.ini.c,.slice V.ev.A V.ev.n V.ev.c,.slice V.br.A V.br.n V.br.c,.slice s6.A s6.n s6.c,.slice s8.A s8.n s8.c,.slice s10.A s10.n s10.c,.slice V.th.A V.th.n V.th.c,.slice V.en.A V.en.n V.en.c],.int .i64 0,.int .i64 0]) (by simp [results,Tryz.results5,go_sem, *]) rfl ?_;obtain⟨V',e,ht⟩:=HOA.o.ret (.slice V.lo.A V.lo.n V.lo.c) (.slice V.ini.A V.ini.n V.ini.c) (.slice V.ev.A V.ev.n V.ev.c) (.slice V.br.A V.br.n V.br.c) (.slice s6.A s6.n s6.c) (.slice s8.A s8.n s8.c) (.slice s10.A s10.n s10.c) (.slice V.th.A V.th.n V.th.c) (.slice V.en.A V.en.n V.en.c);rw [show (⟨a'.evs,a'.bars,Zf0 a'.addr,Zf0 a'.data,Zf0 a'.hang,m⟩:Tr)={ a with ends:=Z } by rw [HRW.o.fin m,HMZ.o]] at ht;exact OfR.ok (by rw [HTR.o,HXA.o];show Except.ok _=_;rw [HZ.o]) e ht (Zfv (HOA.o.bel) (Nat.le_succ _) _ _ _ _ _ _ _ _ _)
 ·have HE:=Zh hE;have f1:(Za6 T != 0)=true:=by simpa using hE
  have HTR:=Zh (show Zcv T=.error (Za6 T,0) by unfold Zcv;rw [if_pos hE]);clear hE;have r0:=HRB2.o.cell 0;have r1:=HRB2.o.cell 1;have r2:=HRB2.o.cell 2;have r3:=HRB2.o.cell 3;have r4:=HRB2.o.cell 4;have r5:=HRB2.o.cell 5;have r6:=HRB2.o.cell 6;have r7:=HRB2.o.cell 7;have r8':=HRB2.o.cell 8;have fr:=HRB2.o.frozen
  go_wp2_with fail
  refine bodyPost_ret (v:=.tuple #[.agg #[.slice none 0 0,.slice none 0 0,.slice none 0 0,.slice none 0 0,.slice none 0 0,.slice none 0 0,.slice none 0 0,.slice none 0 0,.slice none 0 0],.int .i64 (Za6 T),.int .i64 ((0:Nat):Int)]) (by simp [results,Tryz.results5,go_sem, *]) rfl ?_;exact OfR.bad HTR.o (Zfv (HB2.o) (Nat.le_succ _) _ _ _ _ _ _ _ _ _)
end
end
end Go.Proofs.YtdfmcfppoohckaaGreatDoor
