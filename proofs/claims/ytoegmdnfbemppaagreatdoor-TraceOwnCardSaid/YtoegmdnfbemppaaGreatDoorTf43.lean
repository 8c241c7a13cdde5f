/- - -/
import Derived.Test.YtoegmdnfbemppaaGreatDoorTf40

namespace Go.Proofs.YtoegmdnfbemppaaGreatDoor
open Go.RowKit
section
theorem Z12 (w:World)(a b c:Obj):Below w.heap.size w (((w.alloc a).alloc b).alloc c):=Zab (Zab (Zab (Below.refl _ _) _) _) _
section
set_option maxHeartbeats 4000000
set_option maxRecDepth 100000
theorem Z3u (L:Zgv)(V:Zfl)(w:World)(x:Th)(e:Int×Int)(h:Zc0 w L V)(G:Ziw L)(hx:Zx7 L x e) :
  Calls Tryz.prog 61 #[Zgj V,.agg #[.int .i64 x.1,.int .i64 x.2.1,.string ⟨x.2.2.toArray⟩],.agg #[.int .i64 e.1,.int .i64 e.2]] w fun r w'=>r=.returned (.bool true)/\Below w.heap.size w w':=by
 obtain⟨⟨Al,nl,cl⟩,⟨Ai,ni,ci⟩,⟨Ae,ne,ce⟩,⟨Ab,nb,cb⟩,⟨Aa,na,ca⟩,⟨Ad,nd,cd⟩,⟨Ac,nc,cc⟩,⟨At,nt,ct⟩,⟨Ax,nx,cx⟩⟩:=V
 simp only [Zgj,Sl.v]
 have HT:=Zh h
 have hn1:=Zh (show nl=L.lo.length from h.nlo)
 have hn2:=Zh (show ni=L.ini.length from h.nini)
 have hn3:=Zh (show ne=L.a.evs.length from h.nev)
 have hn4:=Zh (show nb=L.a.bars.length from h.nbr)
 have hn8:=Zh (show nt=L.th.length from h.nth)
 have hn9:=Zh (show nx=L.a.ends.length from h.nen)
 have HB0:=Zh (Zad w (.cells #[.slice Al nl cl,.slice Ai ni ci,.slice Ae ne ce,.slice Ab nb cb,.slice Aa na ca,.slice Ad nd cd,.slice Ac nc cc,.slice At nt ct,.slice Ax nx cx] 41 (0,0)))
 have HTB:=Zh (Blk.new w 41 #[.slice Al nl cl,.slice Ai ni ci,.slice Ae ne ce,.slice Ab nb cb,.slice Aa na ca,.slice Ad nd cd,.slice Ac nc cc,.slice At nt ct,.slice Ax nx cx])
 have hl3:ne<=64:=by rw [hn3.out];exact G.nev
 have hl1:nl<=64:=by rw [hn1.out];exact G.nlo
 have HG:=Zh G
 clear h G
 obtain⟨xt,xr,xl⟩:=x
 obtain⟨ek,en⟩:=e
 unfold Zx7 at hx
 simp only at hx ⊢
 have HBA:=Zh (Z12 w (.cells #[.slice Al nl cl,.slice Ai ni ci,.slice Ae ne ce,.slice Ab nb cb,.slice Aa na ca,.slice Ad nd cd,.slice Ac nc cc,.slice At nt ct,.slice Ax nx cx] 41 (0,0)) (.cells #[.int .i64 xt,.int .i64 xr,.string ⟨xl.toArray⟩] 25 (0,0)) (.cells #[.int .i64 ek,.int .i64 en] 54 (0,0)))
 rcases hx with ⟨h1,h2,h3,h4,h5⟩ | ⟨h1,h2,h3,h4,h5,h6⟩
 ·subst h1 h2 h4 h5
  have HS:=Zh (fun (y:World) (hy:Zcx.At y Al L.lo)=>Zpr Al cl L.lo xl y hy (by have:=HG.out.nlo;omega) HG.out.str h3)
  rw [<- hn1.out] at HS
  have HLA:=Zh HT.out.lo
  obtain⟨j,hj⟩:∃ j,L.lo.idxOf xl=j:=⟨_,rfl⟩
  rw [hj] at HS ⊢
  rw [hj] at HBA
  clear hj h3
  go_enter Tryz.func61,Tryz.ntmps61
  go_wp2_with (go_at_call 30;refine (HS.out _ (HLA.out.below HBA.out)).mono ?_;rintro r w' ⟨rfl,q,rfl⟩)
  go_ret
  exact⟨rfl,Zan HBA.out q⟩
 ·subst h5
  have hxf:(xt == -1)=false:=by simp;omega
  rcases h6 with ⟨rfl,h7⟩ | ⟨rfl,i,y,rfl,hy,h8,h9⟩
  ·have HNU:=Zh (fun (z:World)=>show Calls Tryz.prog 109 #[.int .i64 en] z fun r w'=>r=.returned (.bool true)/\z=w' by
    have:=Z6h z en
    rw [h7] at this
    exact this)
   clear h7
   go_enter Tryz.func61,Tryz.ntmps61
   go_wp2_with (go_at_call 109;refine (HNU.out _).mono ?_;rintro r w' ⟨rfl,rfl⟩)
   go_ret
   exact⟨rfl,HBA.out⟩
  ·obtain⟨b,o,eA,c0,c1,c2,c3,c4,c5⟩:=Zgu (HT.out.ev.below HBA.out) hy
   simp only at eA
   subst eA
   obtain⟨yt,yp,yd,yl,yv,yr⟩:=y
   simp only at c0 c1 c2 c3 c4 c5 h8 h9
   subst h8 h9
   have hil:=(List.getElem?_eq_some_iff.1 hy).1
   rw [<- hn3.out] at hil
   have hii:(0:Int)<=(i:Int):=by omega
   have hij:(i:Int)<(ne:Int):=by omega
   have hd1:decide ((i:Int)<(ne:Int))=true:=decide_eq_true hij
   have hd2:decide (i<ne)=true:=decide_eq_true hil
   clear hy hn1 hn2 hn3 hn4 hn8 hn9 HB0 HTB HT HG c1 c3 c4 c5
   go_enter Tryz.func61,Tryz.ntmps61
   go_wp2_with fail
   generalize hw9:((w.alloc (.cells #[.slice Al nl cl,.slice Ai ni ci,.slice (some ⟨b,o,none⟩) ne ce,.slice Ab nb cb,.slice Aa na ca,.slice Ad nd cd,.slice Ac nc cc,.slice At nt ct,.slice Ax nx cx] 41 (0,0))).alloc (.cells #[.int .i64 yt,.int .i64 xr,.string ⟨#[]⟩] 25 (0,0))).alloc (.cells #[.int .i64 2,.int .i64 (i:Int)] 54 (0,0))=w9 at *
   have k2:w9.cell? ⟨w.heap.size,2,none⟩=some (.slice (some ⟨b,o,none⟩) ne ce):=by rw [<- hw9];exact (Blk.alloc (Blk.alloc (Blk.new w 41 #[.slice Al nl cl,.slice Ai ni ci,.slice (some ⟨b,o,none⟩) ne ce,.slice Ab nb cb,.slice Aa na ca,.slice Ad nd cd,.slice Ac nc cc,.slice At nt ct,.slice Ax nx cx]) _) _).cell 2
   have k3:w9.cell? ⟨w.heap.size+1+1,1,none⟩=some (.int .i64 (i:Int)):=by
    rw [<- hw9]
    have:=(Blk.new ((w.alloc (.cells #[.slice Al nl cl,.slice Ai ni ci,.slice (some ⟨b,o,none⟩) ne ce,.slice Ab nb cb,.slice Aa na ca,.slice Ad nd cd,.slice Ac nc cc,.slice At nt ct,.slice Ax nx cx] 41 (0,0))).alloc (.cells #[.int .i64 yt,.int .i64 xr,.string ⟨#[]⟩] 25 (0,0))) 54 #[.int .i64 2,.int .i64 (i:Int)]).cell 1
    simpa using this
   have k4:w9.cell? ⟨w.heap.size+1,0,none⟩=some (.int .i64 yt):=by
    rw [<- hw9]
    have:=(Blk.alloc (Blk.new (w.alloc (.cells #[.slice Al nl cl,.slice Ai ni ci,.slice (some ⟨b,o,none⟩) ne ce,.slice Ab nb cb,.slice Aa na ca,.slice Ad nd cd,.slice Ac nc cc,.slice At nt ct,.slice Ax nx cx] 41 (0,0))) 25 #[.int .i64 yt,.int .i64 xr,.string ⟨#[]⟩]) (.cells #[.int .i64 2,.int .i64 (i:Int)] 54 (0,0))).cell 0
    simpa using this
   clear hw9
   refine wz (fun y:World=>y.cell? ⟨w.heap.size,2,none⟩=some (.slice (some ⟨b,o,none⟩) ne ce)/\y.cell? ⟨w.heap.size+1+1,1,none⟩=some (.int .i64 (i:Int))/\y.cell? ⟨w.heap.size+1,0,none⟩=some (.int .i64 yt)/\y.cell? ⟨b,o+i*6,none⟩=some (.int .i64 yt)/\y.cell? ⟨b,o+i*6+2,none⟩=some (.int .i64 1)) [1,5,7,8,13,15,18,23,25,28,30] ⟨k2,k3,k4,c0,c2⟩ (fun hHeld=>?_)
   refine wq 0 ?_
   refine wt 1 (by assumption) ?_
   refine wq 2 ?_
   refine wq 3 ?_
   refine wq 4 ?_
   refine wq 6 ?_
   refine wt 5 (by assumption) ?_
   refine wt 7 (by assumption) ?_
   refine Zav (i:=8) (by kernel_rfl) rfl (fun K hK=>?_)
   go_simp
   refine hK.out _ _ hHeld ?_
   clear hK K
   refine pu ?_
   refine wq 9 ?_
   refine wq 10 ?_
   refine wq 11 ?_
   refine wq 12 ?_
   refine wq 14 ?_
   refine wt 13 (by assumption) ?_
   refine wt 15 (by assumption) ?_
   refine wq 16 ?_
   refine wq 17 ?_
   refine wt 18 (by assumption) ?_
   refine wq 19 ?_
   refine wq 20 ?_
   refine wq 21 ?_
   refine wq 22 ?_
   refine wq 24 ?_
   refine wq 29 ?_
   refine wt 23 (by assumption) ?_
   refine wt 25 (by assumption) ?_
   refine wq 26 ?_
   refine wq 27 ?_
   refine wt 28 (by assumption) ?_
   refine wt 30 (by assumption) ?_
   refine wq 31 ?_
   refine wq 32 ?_
   refine wl 33 ?_
   have HB9:=Zh HBA.out.drew
   go_wp2_with fail
   go_ret
   exact⟨rfl,HB9.out⟩
end
end
end Go.Proofs.YtoegmdnfbemppaaGreatDoor
