/- Layer 15: a thing's end that may be: the program's ended. -/
import Derived.Test.YtdfmcfppoohckaaGreatDoorTm38

namespace Go.Proofs.YtdfmcfppoohckaaGreatDoor
open Go.RowKit
section
theorem Zug (w:World)(a b c:Obj):Below w.heap.size w (((w.alloc a).alloc b).alloc c):=Zab (Zab (Zab (Below.refl _ _) _) _) _
section
set_option maxHeartbeats 4000000
set_option maxRecDepth 100000
theorem Z0y (L:Ze2)(V:Ze5)(w:World)(x:Th)(e:Int×Int)(h:Zc1 w L V)(G:Zc5 L)(hx:Zk0 L x e) :
  Calls Tryz.prog 34 #[Zd4 V,.agg #[.int .i64 x.1,.int .i64 x.2.1,.string ⟨x.2.2.toArray⟩],.agg #[.int .i64 e.1,.int .i64 e.2]] w fun r w'=>r=.returned (.bool true)/\Below w.heap.size w w':=by
 obtain⟨⟨Al,nl,cl⟩,⟨Ai,ni,ci⟩,⟨Ae,ne,ce⟩,⟨Ab,nb,cb⟩,⟨Aa,na,ca⟩,⟨Ad,nd,cd⟩,⟨Ac,nc,cc⟩,⟨At,nt,ct⟩,⟨Ax,nx,cx⟩⟩:=V;simp only [Zd4,Sl.v];have HT:=Zh h;have hn1:=Zh (show nl=L.lo.length from h.nlo);have hn2:=Zh (show ni=L.ini.length from h.nini);have hn3:=Zh (show ne=L.a.evs.length from h.nev);have hn4:=Zh (show nb=L.a.bars.length from h.nbr);have hn8:=Zh (show nt=L.th.length from h.nth);have hn9:=Zh (show nx=L.a.ends.length from h.nen);have HB0:=Zh (Zad w (.cells #[.slice Al nl cl,.slice Ai ni ci,.slice Ae ne ce,.slice Ab nb cb,.slice Aa na ca,.slice Ad nd cd,.slice Ac nc cc,.slice At nt ct,.slice Ax nx cx] 41 (0,0)));have HTB:=Zh (Blk.new w 41 #[.slice Al nl cl,.slice Ai ni ci,.slice Ae ne ce,.slice Ab nb cb,.slice Aa na ca,.slice Ad nd cd,.slice Ac nc cc,.slice At nt ct,.slice Ax nx cx]);have hl3:ne<=64:=by rw [hn3.o];exact G.nev
 have hl1:nl<=64:=by rw [hn1.o];exact G.nlo
 have HG:=Zh G;obtain⟨xt,xr,xl⟩:=x;obtain⟨ek,en⟩:=e;unfold Zk0 at hx;simp only at hx ⊢;have HBA:=Zh (Zug w (.cells #[.slice Al nl cl,.slice Ai ni ci,.slice Ae ne ce,.slice Ab nb cb,.slice Aa na ca,.slice Ad nd cd,.slice Ac nc cc,.slice At nt ct,.slice Ax nx cx] 41 (0,0)) (.cells #[.int .i64 xt,.int .i64 xr,.string ⟨xl.toArray⟩] 25 (0,0)) (.cells #[.int .i64 ek,.int .i64 en] 76 (0,0)));rcases hx with ⟨h1,h2,h3,h4,h5⟩ | ⟨h1,h2,h3,h4,h5,h6⟩
 ·subst h1 h2 h4 h5;have HS:=Zh (fun (y:World) (hy:Zcy.At y Al L.lo)=>Zq6 Al cl L.lo xl y hy (by have:=HG.o.nlo;omega) HG.o.str h3);rw [<- hn1.o] at HS;have HLA:=Zh HT.o.lo;obtain⟨j,hj⟩:∃ j,L.lo.idxOf xl=j:=⟨_,rfl⟩;rw [hj] at HS ⊢;rw [hj] at HBA;go_enter Tryz.func34,Tryz.ntmps34
  go_wp2_with (go_at_call 13;refine (HS.o _ (HLA.o.below HBA.o)).mono ?_;rintro r w' ⟨rfl,q,rfl⟩)
  go_ret;exact⟨rfl,Zam HBA.o q⟩
 ·subst h5;have hxf:(xt == -1)=false:=by simp;omega
  rcases h6 with ⟨rfl,h7⟩ | ⟨rfl,i,y,rfl,hy,h8,h9⟩
  ·have HNU:=Zh (fun (z:World)=>show Calls Tryz.prog 81 #[.int .i64 en] z fun r w'=>r=.returned (.bool true)/\z=w' by
    have:=Z7a z en;rw [h7] at this;exact this)
   go_enter Tryz.func34,Tryz.ntmps34
   go_wp2_with (go_at_call 81;refine (HNU.o _).mono ?_;rintro r w' ⟨rfl,rfl⟩)
   go_ret;exact⟨rfl,HBA.o⟩
  ·obtain⟨b,o,eA,c0,c1,c2,c3,c4,c5⟩:=Zc6 (HT.o.ev.below HBA.o) hy;simp only at eA;subst eA;obtain⟨yt,yp,yd,yl,yv,yr⟩:=y;simp only at c0 c1 c2 c3 c4 c5 h8 h9;subst h8 h9;have hil:=(List.getElem?_eq_some_iff.1 hy).1;rw [<- hn3.o] at hil;have hii:(0:Int)<=(i:Int):=ω;have hij:(i:Int)<(ne:Int):=ω;have hd1:decide ((i:Int)<(ne:Int))=true:=decide_eq_true hij;have hd2:decide (i<ne)=true:=decide_eq_true hil;go_enter Tryz.func34,Tryz.ntmps34
   go_wp2_with fail
   generalize hw9:((w.alloc (.cells #[.slice Al nl cl,.slice Ai ni ci,.slice (some ⟨b,o,none⟩) ne ce,.slice Ab nb cb,.slice Aa na ca,.slice Ad nd cd,.slice Ac nc cc,.slice At nt ct,.slice Ax nx cx] 41 (0,0))).alloc (.cells #[.int .i64 yt,.int .i64 xr,.string ⟨#[]⟩] 25 (0,0))).alloc (.cells #[.int .i64 2,.int .i64 (i:Int)] 76 (0,0))=w9 at *;have k2:w9.cell? ⟨w.heap.size,2,none⟩=some (.slice (some ⟨b,o,none⟩) ne ce):=by rw [<- hw9];exact (Blk.alloc (Blk.alloc (Blk.new w 41 #[.slice Al nl cl,.slice Ai ni ci,.slice (some ⟨b,o,none⟩) ne ce,.slice Ab nb cb,.slice Aa na ca,.slice Ad nd cd,.slice Ac nc cc,.slice At nt ct,.slice Ax nx cx]) _) _).cell 2
   have k3:w9.cell? ⟨w.heap.size+1+1,1,none⟩=some (.int .i64 (i:Int)):=by
    rw [<- hw9];have:=(Blk.new ((w.alloc (.cells #[.slice Al nl cl,.slice Ai ni ci,.slice (some ⟨b,o,none⟩) ne ce,.slice Ab nb cb,.slice Aa na ca,.slice Ad nd cd,.slice Ac nc cc,.slice At nt ct,.slice Ax nx cx] 41 (0,0))).alloc (.cells #[.int .i64 yt,.int .i64 xr,.string ⟨#[]⟩] 25 (0,0))) 76 #[.int .i64 2,.int .i64 (i:Int)]).cell 1;simpa using this
   have k4:w9.cell? ⟨w.heap.size+1,0,none⟩=some (.int .i64 yt):=by
    rw [<- hw9];have:=(Blk.alloc (Blk.new (w.alloc (.cells #[.slice Al nl cl,.slice Ai ni ci,.slice (some ⟨b,o,none⟩) ne ce,.slice Ab nb cb,.slice Aa na ca,.slice Ad nd cd,.slice Ac nc cc,.slice At nt ct,.slice Ax nx cx] 41 (0,0))) 25 #[.int .i64 yt,.int .i64 xr,.string ⟨#[]⟩]) (.cells #[.int .i64 2,.int .i64 (i:Int)] 76 (0,0))).cell 0;simpa using this
   refine wz (fun y:World=>y.cell? ⟨w.heap.size,2,none⟩=some (.slice (some ⟨b,o,none⟩) ne ce)/\y.cell? ⟨w.heap.size+1+1,1,none⟩=some (.int .i64 (i:Int))/\y.cell? ⟨w.heap.size+1,0,none⟩=some (.int .i64 yt)/\y.cell? ⟨b,o+i*6,none⟩=some (.int .i64 yt)/\y.cell? ⟨b,o+i*6+2,none⟩=some (.int .i64 1)) [1,5,7,8,13,15,18,23,25,28,30] ⟨k2,k3,k4,c0,c2⟩ (fun hHeld=>?_);refine wq 0 ?_;refine wt 1 (by assumption) ?_;refine wq 2 ?_;refine wq 3 ?_;refine wq 4 ?_;refine wq 6 ?_;refine wt 5 (by assumption) ?_;refine wt 7 (by assumption) ?_;refine Zar (i:=8) κ rfl (fun K hK=>?_);go_simp;refine hK.out _ _ hHeld ?_;refine pu ?_;refine wq 9 ?_;refine wq 10 ?_;refine wq 11 ?_;refine wq 12 ?_;refine wq 14 ?_;refine wt 13 (by assumption) ?_;refine wt 15 (by assumption) ?_;refine wq 16 ?_;refine wq 17 ?_;refine wt 18 (by assumption) ?_;refine wq 19 ?_;refine wq 20 ?_;refine wq 21 ?_;refine wq 22 ?_;refine wq 24 ?_;refine wq 29 ?_;refine wt 23 (by assumption) ?_;refine wt 25 (by assumption) ?_;refine wq 26 ?_;refine wq 27 ?_;refine wt 28 (by assumption) ?_;refine wt 30 (by assumption) ?_;refine wq 31 ?_;refine wq 32 ?_;refine wl 33 ?_;have HB9:=Zh HBA.o.drew
   go_wp2_with fail
   go_ret;exact⟨rfl,HB9.o⟩
end
end
end Go.Proofs.YtdfmcfppoohckaaGreatDoor
