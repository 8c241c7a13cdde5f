/- - -/
import Derived.Test.YtoegmdnfbemppaaGreatDoorTf41
import Derived.Test.YtoegmdnfbemppaaGreatDoorTf42
import Derived.Test.YtoegmdnfbemppaaGreatDoorTf43

namespace Go.Proofs.YtoegmdnfbemppaaGreatDoor
open Go.RowKit
section
set_option maxHeartbeats 4000000
set_option maxRecDepth 100000
theorem Zzl (V:Zfl)(A:Option Addr)(c:Nat)(b:Bool)(w:World):Calls Tryz.prog 60 #[Zgj V,.slice A 0 c,.bool b] w fun e w'=>e=.returned (.bool true)/\Below w.heap.size w w':=by
 obtain⟨⟨Al,nl,cl⟩,⟨Ai,ni,ci⟩,⟨Ae,ne,ce⟩,⟨Ab,nb,cb⟩,⟨Aa,na,ca⟩,⟨Ad,nd,cd⟩,⟨Ac,nc,cc⟩,⟨At,nt,ct⟩,⟨Ax,nx,cx⟩⟩:=V
 simp only [Zgj,Sl.v]
 have HB0:=Zh (Zad w (.cells #[.slice Al nl cl,.slice Ai ni ci,.slice Ae ne ce,.slice Ab nb cb,.slice Aa na ca,.slice Ad nd cd,.slice Ac nc cc,.slice At nt ct,.slice Ax nx cx] 41 (0,0)))
 go_enter Tryz.func60,Tryz.ntmps60
 go_wp2_with fail
 go_loopw [15] (fun v wr=>v=.int .i64 0/\Below w.heap.size w wr) (fun _ _=>0)
 case atStart=>exact⟨rfl,HB0.out⟩
 case round=>
  obtain⟨rfl,hb⟩:=hrel
  have HB:=Zh hb
  clear hb HB0
  go_wp2_with fail
  go_ret
  exact⟨rfl,HB.out⟩
theorem Z2d (L:Zgv)(V:Zfl)(w:World)(h:Zc0 w L V)(G:Ziw L)(h0:L.a.addr=[])(h1:L.a.data=[])(h2:L.a.hang=[])(hth:L.th.length<=1):Calls Tryz.prog 17 #[Zgj V] w fun e w'=>e=.returned (.int .i64 0)/\Below w.heap.size w w':=by
 have hna:V.ad.n=0:=by rw [h.nad,h0];rfl
 have hnd:V.da.n=0:=by rw [h.nda,h1];rfl
 have hnc:V.ct.n=0:=by rw [h.nct,h2];rfl
 have H1:=Zh (fun z (hz:Below w.heap.size w z)=>Zxo L V z (h.below hz) G)
 have H2:=Zh (fun z (hz:Below w.heap.size w z)=>Zyh L V z (h.below hz) G)
 have H3:=Zh (fun z (hz:Below w.heap.size w z)=>Z1x L V z (h.below hz) G)
 have H4:=Zh (fun A c b z=>Zzl V A c b z)
 have H5:=Zh (fun x e z (hz:Below w.heap.size w z) (hx:Zx7 L x e)=>Z3u L V z x e (h.below hz) G hx)
 obtain⟨⟨Al,nl,cl⟩,⟨Ai,ni,ci⟩,⟨Ae,ne,ce⟩,⟨Ab,nb,cb⟩,⟨Aa,na,ca⟩,⟨Ad,nd,cd⟩,⟨Ac,nc,cc⟩,⟨At,nt,ct⟩,⟨Ax,nx,cx⟩⟩:=V
 simp only at hna hnd hnc
 subst hna hnd hnc
 simp only [Zgj,Sl.v] at H1 H2 H3 H4 H5 ⊢
 have HT:=Zh h
 have hn8:nt<=1:=by have:=h.nth;simp only at this;omega
 have HN8:=Zh (show nt=L.th.length from h.nth)
 have hn9:nx=nt:=by have h8:=h.nth;have h9:=h.nen;simp only at h8 h9;rw [h8,h9];exact G.nen
 have HG:=Zh G
 subst hn9
 have HB:=Zh (Zad w (.cells #[.slice Al nl cl,.slice Ai ni ci,.slice Ae ne ce,.slice Ab nb cb,.slice Aa 0 ca,.slice Ad 0 cd,.slice Ac 0 cc,.slice At nx ct,.slice Ax nx cx] 41 (0,0)))
 have HK:=Zh (Blk.new w 41 #[.slice Al nl cl,.slice Ai ni ci,.slice Ae ne ce,.slice Ab nb cb,.slice Aa 0 ca,.slice Ad 0 cd,.slice Ac 0 cc,.slice At nx ct,.slice Ax nx cx])
 clear h G h0 h1 h2 hth
 go_enter Tryz.func17,Tryz.ntmps17
 go_wp2_with first | (go_at_call 57;refine (H1.out _ HB.out).mono ?_;rintro e w' ⟨rfl,hb9⟩;have HK:=Zh (HK.out.go hb9);have HB:=Zh (Zaa HB.out hb9);clear hb9;have k0:=HK.out.cell 0;have k1:=HK.out.cell 1;have k2:=HK.out.cell 2;have k3:=HK.out.cell 3;have k4:=HK.out.cell 4;have k5:=HK.out.cell 5;have k6:=HK.out.cell 6;have k7:=HK.out.cell 7;have k8:=HK.out.cell 8) | (go_at_call 58;refine (H2.out _ HB.out).mono ?_;rintro e w' ⟨rfl,hb9⟩;have HK:=Zh (HK.out.go hb9);have HB:=Zh (Zaa HB.out hb9);clear hb9;have k0:=HK.out.cell 0;have k1:=HK.out.cell 1;have k2:=HK.out.cell 2;have k3:=HK.out.cell 3;have k4:=HK.out.cell 4;have k5:=HK.out.cell 5;have k6:=HK.out.cell 6;have k7:=HK.out.cell 7;have k8:=HK.out.cell 8) | (go_at_call 59;refine (H3.out _ HB.out).mono ?_;rintro e w' ⟨rfl,hb9⟩;have HK:=Zh (HK.out.go hb9);have HB:=Zh (Zaa HB.out hb9);clear hb9;have k0:=HK.out.cell 0;have k1:=HK.out.cell 1;have k2:=HK.out.cell 2;have k3:=HK.out.cell 3;have k4:=HK.out.cell 4;have k5:=HK.out.cell 5;have k6:=HK.out.cell 6;have k7:=HK.out.cell 7;have k8:=HK.out.cell 8) | (go_at_call 60;refine (H4.out _ _ _ _).mono ?_;rintro e w' ⟨rfl,hb9⟩;have HK:=Zh (HK.out.go hb9);have HB:=Zh (Zaa HB.out hb9);clear hb9;have k0:=HK.out.cell 0;have k1:=HK.out.cell 1;have k2:=HK.out.cell 2;have k3:=HK.out.cell 3;have k4:=HK.out.cell 4;have k5:=HK.out.cell 5;have k6:=HK.out.cell 6;have k7:=HK.out.cell 7;have k8:=HK.out.cell 8)
 go_loopw [55] (fun v wr=>∃ i:Nat,i<=nx/\v=.int .i64 i/\Below w.heap.size w wr/\Blk wr w.heap.size 41 #[.slice Al nl cl,.slice Ai ni ci,.slice Ae ne ce,.slice Ab nb cb,.slice Aa 0 ca,.slice Ad 0 cd,.slice Ac 0 cc,.slice At nx ct,.slice Ax nx cx]) (fun v _=>nx - (intOf v).toNat)
 case atStart=>exact⟨0,Nat.zero_le _,rfl,HB.out,HK.out⟩
 case round=>
  obtain⟨i,hi,rfl,hb,hk⟩:=hrel
  have HBR:=Zh hb
  have HKR:=Zh hk
  have k0:=hk.cell 0
  have k7:wr.cell? ⟨w.heap.size,7,none⟩=some (.slice At nx ct):=hk.cell 7
  have hgw:=hk.lt
  clear hb hk
  by_cases hlt:i<nx
  ·have hi0:i=0:=by omega
   subst hi0
   obtain⟨x,hx⟩:∃ x,L.th[0]?=some x:=⟨_,List.getElem?_eq_getElem (by rw [<- HN8.out];exact hlt)⟩
   obtain⟨e,he⟩:∃ e,L.a.ends[0]?=some e:=⟨_,List.getElem?_eq_getElem (by rw [HG.out.nen,<- HN8.out];exact hlt)⟩
   have hok:=HG.out.en 0 x e hx he
   obtain⟨tb,to,eA,c0,c1,c2⟩:=(HT.out.th.go HBR.out) 0 x hx
   simp only at eA
   subst eA
   obtain⟨eb,eo,eA,d0,d1⟩:=Zk9 (HT.out.en.below HBR.out) he
   simp only at eA
   subst eA
   have HEN:=Zh (fun z (hz:Below w.heap.size w z)=>H5.out x e z hz hok)
   obtain⟨xt,xr,xl⟩:=x
   obtain⟨ek,en⟩:=e
   simp only [Nat.zero_mul,Nat.add_zero] at c0 c1 c2 d0 d1 HEN
   have hij:(0:Int)<(nx:Int):=by omega
   have HT9:=Zh (Blk.new wr 25 #[.int .i64 xt,.int .i64 xr,.string ⟨xl.toArray⟩])
   have HK9:=Zh (HKR.out.alloc (.cells #[.int .i64 xt,.int .i64 xr,.string ⟨xl.toArray⟩] 25 (0,0)))
   have HB9:=Zh (Zab HBR.out (.cells #[.int .i64 xt,.int .i64 xr,.string ⟨xl.toArray⟩] 25 (0,0)))
   have s12:=Zal d0 (.cells #[.int .i64 xt,.int .i64 xr,.string ⟨xl.toArray⟩] 25 (0,0))
   have s13:=Zal d1 (.cells #[.int .i64 xt,.int .i64 xr,.string ⟨xl.toArray⟩] 25 (0,0))
   clear hx he hok d0 d1
   go_wp2_with fail
   generalize wr.alloc (.cells #[.int .i64 xt,.int .i64 xr,.string ⟨xl.toArray⟩] 25 (0,0))=w9 at *
   have s0:w9.cell? ⟨w.heap.size,0,none⟩=some (.slice Al nl cl):=HK9.out.cell 0
   have s1:w9.cell? ⟨w.heap.size,1,none⟩=some (.slice Ai ni ci):=HK9.out.cell 1
   have s2:w9.cell? ⟨w.heap.size,2,none⟩=some (.slice Ae ne ce):=HK9.out.cell 2
   have s3:w9.cell? ⟨w.heap.size,3,none⟩=some (.slice Ab nb cb):=HK9.out.cell 3
   have s4:w9.cell? ⟨w.heap.size,4,none⟩=some (.slice Aa 0 ca):=HK9.out.cell 4
   have s5:w9.cell? ⟨w.heap.size,5,none⟩=some (.slice Ad 0 cd):=HK9.out.cell 5
   have s6:w9.cell? ⟨w.heap.size,6,none⟩=some (.slice Ac 0 cc):=HK9.out.cell 6
   have s7:w9.cell? ⟨w.heap.size,7,none⟩=some (.slice (some ⟨tb,to,none⟩) nx ct):=HK9.out.cell 7
   have s8:w9.cell? ⟨w.heap.size,8,none⟩=some (.slice (some ⟨eb,eo,none⟩) nx cx):=HK9.out.cell 8
   have s9:=HT9.out.cm 0
   have s10:=HT9.out.cm 1
   have s11:=HT9.out.cm 2
   clear c0 c1 c2 k0 k7
   refine wz (fun y:World=>y.cell? ⟨w.heap.size,0,none⟩=some (.slice Al nl cl)/\y.cell? ⟨w.heap.size,1,none⟩=some (.slice Ai ni ci)/\y.cell? ⟨w.heap.size,2,none⟩=some (.slice Ae ne ce)/\y.cell? ⟨w.heap.size,3,none⟩=some (.slice Ab nb cb)/\y.cell? ⟨w.heap.size,4,none⟩=some (.slice Aa 0 ca)/\y.cell? ⟨w.heap.size,5,none⟩=some (.slice Ad 0 cd)/\y.cell? ⟨w.heap.size,6,none⟩=some (.slice Ac 0 cc)/\y.cell? ⟨w.heap.size,7,none⟩=some (.slice (some ⟨tb,to,none⟩) nx ct)/\y.cell? ⟨w.heap.size,8,none⟩=some (.slice (some ⟨eb,eo,none⟩) nx cx)/\y.cell? ⟨wr.heap.size,0,none⟩=some (.int .i64 xt)/\y.cell? ⟨wr.heap.size,1,none⟩=some (.int .i64 xr)/\y.cell? ⟨wr.heap.size,2,none⟩=some (.string ⟨xl.toArray⟩)/\y.cell? ⟨eb,eo,none⟩=some (.int .i64 ek)/\y.cell? ⟨eb,eo+1,none⟩=some (.int .i64 en)) [0,1,3,5,6,7] ⟨s0,s1,s2,s3,s4,s5,s6,s7,s8,s9,s10,s11,s12,s13⟩ (fun hHeld=>?_)
   refine wq 2 ?_
   refine wq 4 ?_
   refine wt 0 (by assumption) ?_
   refine wt 1 (by assumption) ?_
   refine wt 3 (by assumption) ?_
   refine wt 5 (by assumption) ?_
   refine wt 6 (by assumption) ?_
   refine Zav (i:=7) (by kernel_rfl) rfl (fun K hK=>?_)
   go_simp
   go_at_call 61
   refine (HEN.out _ HB9.out.drew).mono ?_
   rintro r w10 ⟨rfl,hb10⟩
   have hHeld10:=(And.intro (Zac hHeld.1 hb10) (And.intro (Zac hHeld.2.1 hb10) (And.intro (Zac hHeld.2.2.1 hb10) (And.intro (Zac hHeld.2.2.2.1 hb10) (And.intro (Zac hHeld.2.2.2.2.1 hb10) (And.intro (Zac hHeld.2.2.2.2.2.1 hb10) (And.intro (Zac hHeld.2.2.2.2.2.2.1 hb10) (And.intro (Zac hHeld.2.2.2.2.2.2.2.1 hb10) (And.intro (Zac hHeld.2.2.2.2.2.2.2.2.1 hb10) (And.intro (Zac hHeld.2.2.2.2.2.2.2.2.2.1 hb10) (And.intro (Zac hHeld.2.2.2.2.2.2.2.2.2.2.1 hb10) (And.intro (Zac hHeld.2.2.2.2.2.2.2.2.2.2.2.1 hb10) (And.intro (Zac hHeld.2.2.2.2.2.2.2.2.2.2.2.2.1 hb10) (Zac hHeld.2.2.2.2.2.2.2.2.2.2.2.2.2 hb10))))))))))))))
   have HB10:=Zh (Zaa HB9.out.drew hb10)
   have HK10:=Zh (show Blk w10 w.heap.size 41 _ from (show Blk w9.drew w.heap.size 41 _ from HK9.out).go hb10)
   refine hK.out _ _ hHeld10 ?_
   clear hK K hHeld hb10
   refine pu ?_
   refine wq 8 ?_
   refine wq 9 ?_
   refine wq 10 ?_
   refine wq 11 ?_
   refine wq 12 ?_
   refine ws 13 ?_
   refine ws 15 ?_
   refine ws 16 ?_
   refine ws 14 ?_
   refine ws 17 ?_
   refine ws 18 ?_
   refine ws 19 ?_
   refine Zav (i:=20) (by kernel_rfl) rfl (fun K hK=>?_)
   go_simp
   refine hK.out _ _ hHeld10 ?_
   clear hK K
   refine pu ?_
   refine ws 21 ?_
   refine wq 22 ?_
   refine wl 23 ?_
   clear hHeld10
   go_wp2_with fail
   go_roundw
   case rel=>exact⟨0+1,by omega,by go_num,HB10.out,HK10.out⟩
   case measure=>simp [intOf];omega
  ·have hij:¬ (i:Int)<(nx:Int):=by omega
   go_wp2_with fail
   go_ret
   exact⟨rfl,HBR.out⟩
end
section
def Zmq (L:Zgv)(w:World)(e:Ending)(w':World):Prop:=∃ q,e=.returned (.tuple #[.agg #[.int .i64 (L.a.evs.length:Int),.slice (some ⟨q,0,none⟩) L.a.evs.length L.a.evs.length],.int .i64 0])/\Blk w' q 110 (Zkp.flat (Z5k L.a.evs.length (btw (Zju Zcu L.a.bars) L.a.evs 0 L.a.evs))).toArray/\Below w.heap.size w w'
section
set_option maxHeartbeats 4000000
set_option maxRecDepth 100000
theorem Zw0 (L:Zgv)(V:Zfl)(p:Nat)(w:World)(h:Zc0 w L V)(G:Ziw L)(hp0:L.a.addr=[])(hp1:L.a.data=[])(hp2:L.a.hang=[])(hth:L.th.length<=1)(hp:w.cell? ⟨p,3,none⟩=some V.br.v) :
  Calls Tryz.prog 55 #[Zgj V,.func (.func 76) #[] #[.pointer (some ⟨p,0,none⟩)]] w (Zmq L w):=by
 have HCK:=Zh (fun (z:World) (hz:Zc0 z L V)=>Z2d L V z hz G hp0 hp1 hp2 hth)
 have HB1:=Zh (Zap w (.cells (Zek V) 41 (0,0)) (.cells #[.int .i64 0,.slice none 0 0] 58 (0,0)))
 have hck:=Zh (HCK.out _ (h.below HB1.out))
 clear HCK
 have HFC:=Zh (fun (a b:Evt) (z:World) (hz:Below w.heap.size w z)=>Z6w L.a.bars V.br.A V.br.c p a b z (h.br.below hz) G.nbr (by rw [<- h.nbr];exact Zac hp hz))
 have hlen:(btw (Zju Zcu L.a.bars) L.a.evs 0 L.a.evs).length<=1000000:=by
  have h1:=Zuu (Zju Zcu L.a.bars) L.a.evs L.a.evs 0
  have h2:=G.nev
  have:L.a.evs.length*L.a.evs.length<=64*64:=Nat.mul_le_mul h2 h2
  omega
 have hmem:∀ q∈btw (Zju Zcu L.a.bars) L.a.evs 0 L.a.evs,0<=q.1/\q.1<L.a.evs.length/\0<=q.2/\q.2<L.a.evs.length:=fun q hq=>by
  obtain⟨m,n,a,b,h1,h2,rfl,_⟩:=(Zuv _ _ _ _ _).1 hq
  have:=(List.getElem?_eq_some_iff.1 h1).1
  have:=(List.getElem?_eq_some_iff.1 h2).1
  simp only;omega
 have HMM:=Zh hmem
 clear hmem hp
 obtain⟨X,hX⟩:∃ X,btw (Zju Zcu L.a.bars) L.a.evs 0 L.a.evs=X:=⟨_,rfl⟩
 have HX:=Zh hX
 unfold Zmq
 rw [hX] at hlen HMM ⊢
 clear hX
 obtain⟨⟨Al,nl,cl⟩,⟨Ai,ni,ci⟩,⟨Ae,ne,ce⟩,⟨Ab,nb,cb⟩,⟨Aa,na,ca⟩,⟨Ad,nd,cd⟩,⟨Ac,nc,cc⟩,⟨At,nt,ct⟩,⟨Ax,nx,cx⟩⟩:=V
 simp only [Zgj,Sl.v]
 have HT:=Zh h
 have hn1:=Zh (show nl=L.lo.length from h.nlo)
 have hn2:=Zh (show ni=L.ini.length from h.nini)
 have hn3:=Zh (show ne=L.a.evs.length from h.nev)
 have hn4:=Zh (show nb=L.a.bars.length from h.nbr)
 have hn8:=Zh (show nt=L.th.length from h.nth)
 have hn9:=Zh (show nx=L.a.ends.length from h.nen)
 have HB0:=Zh (Zad w (.cells #[.slice Al nl cl,.slice Ai ni ci,.slice Ae ne ce,.slice Ab nb cb,.slice Aa na ca,.slice Ad nd cd,.slice Ac nc cc,.slice At nt ct,.slice Ax nx cx] 41 (0,0)))
 have HTB:=Zh (Blk.new w 41 #[.slice Al nl cl,.slice Ai ni ci,.slice Ae ne ce,.slice Ab nb cb,.slice Aa na ca,.slice Ad nd cd,.slice Ac nc cc,.slice At nt ct,.slice Ax nx cx])
 have hl1:ne<=64:=by rw [hn3.out];exact G.nev
 rw [<- hn3.out] at HMM ⊢
 clear h G HB0 HTB
 go_enter Tryz.func55,Tryz.ntmps55
 go_wp2_with (go_at_call 17;refine hck.out.mono ?_;rintro e w2 ⟨rfl,hb⟩;have HB2:=Zh (Zaa HB1.out hb);have HK2:=Zh ((Blk.alloc (Blk.new w 41 #[.slice Al nl cl,.slice Ai ni ci,.slice Ae ne ce,.slice Ab nb cb,.slice Aa na ca,.slice Ad nd cd,.slice Ac nc cc,.slice At nt ct,.slice Ax nx cx]) (.cells #[.int .i64 0,.slice none 0 0] 58 (0,0))).go hb);have HR2:Hid (Blk w2 (w.heap.size+1) 58 #[.int .i64 0,.slice none 0 0]):=Zh ((Zcw w (.cells #[.slice Al nl cl,.slice Ai ni ci,.slice Ae ne ce,.slice Ab nb cb,.slice Aa na ca,.slice Ad nd cd,.slice Ac nc cc,.slice At nt ct,.slice Ax nx cx] 41 (0,0)) 58 #[.int .i64 0,.slice none 0 0]).go hb);clear hb;have k2:w2.cell? ⟨w.heap.size,2,none⟩=some (.slice Ae ne ce):=HK2.out.cell 2)
 go_loopw [21,7] (fun iv vv wr=>∃ (k:Nat) (s:Sl) (q:List (Int×Int)),k<=ne/\iv=.int .i64 k/\vv=s.v/\q++btw (Zju Zcu L.a.bars) L.a.evs k (L.a.evs.drop k)=X/\Zbg.Own 52 w.heap.size wr s.v q/\Below w.heap.size w wr/\Blk wr w.heap.size 41 #[.slice Al nl cl,.slice Ai ni ci,.slice Ae ne ce,.slice Ab nb cb,.slice Aa na ca,.slice Ad nd cd,.slice Ac nc cc,.slice At nt ct,.slice Ax nx cx]/\Blk wr (w.heap.size+1) 58 #[.int .i64 0,.slice none 0 0]) (fun iv _ _=>ne - (intOf iv).toNat)
 case atStart=>exact⟨0,⟨none,0,0⟩,[],Nat.zero_le _,rfl,rfl,by rw [List.drop_zero];exact HX.out,Enc.Own.nil _ _ _,HB2.out,HK2.out,HR2.out⟩
 case round=>
  obtain⟨k,s,q,hk,rfl,rfl,hac,hown,hb,hkk,hr⟩:=hrel
  obtain⟨wk,hwk⟩:∃ z:World,z=wr:=⟨_,rfl⟩
  subst hwk
  have HAC:=Zh hac
  have HOWN:=Zh hown
  have HB:=Zh hb
  have HK:=Zh hkk
  have HR:=Zh hr
  have hns:=Zpw hown
  have hql:q.length<=1000000:=by rw [<- hac] at hlen;simp at hlen;omega
  have hgr:=hr.lt
  have hgv:=hkk.lt
  have k2:wk.cell? ⟨w.heap.size,2,none⟩=some (.slice Ae ne ce):=hkk.cell 2
  clear hac hown hb hkk hr HB2 HK2 HR2
  have hii:(0:Int)<=(k:Int):=by omega
  by_cases hlt:k<ne
  ·have hij:(k:Int)<(ne:Int):=by omega
   obtain⟨x,hx⟩:∃ x,L.a.evs[k]?=some x:=⟨_,List.getElem?_eq_getElem (by rw [<- hn3.out];exact hlt)⟩
   obtain⟨b,o,eA,c0,c1,c2,c3,c4,c5⟩:=Zgu (HT.out.ev.below HB.out) hx
   simp only at eA
   subst eA
   have HST:=Zh (show q++(Zns (Zju Zcu L.a.bars) k x 0 L.a.evs++btw (Zju Zcu L.a.bars) L.a.evs (k+1) (L.a.evs.drop (k+1)))=X by
    have:=HAC.out
    rw [Zbx hx] at this
    exact this)
   obtain⟨at_,ap,ad,al,av,ar⟩:=x
   simp only at c0 c1 c2 c3 c4 c5
   have HE0:=Zh (Blk.new wk 50 #[.int .i64 at_,.int .i64 ap,.int .i64 ad,.int .i64 al,.int .i64 av,.int .i64 ar])
   have HB3:=Zh (Zab HB.out (.cells #[.int .i64 at_,.int .i64 ap,.int .i64 ad,.int .i64 al,.int .i64 av,.int .i64 ar] 50 (0,0)))
   have HK3:=Zh (HK.out.alloc (.cells #[.int .i64 at_,.int .i64 ap,.int .i64 ad,.int .i64 al,.int .i64 av,.int .i64 ar] 50 (0,0)))
   have HR3:=Zh (HR.out.alloc (.cells #[.int .i64 at_,.int .i64 ap,.int .i64 ad,.int .i64 al,.int .i64 av,.int .i64 ar] 50 (0,0)))
   have HO3:=Zh (HOWN.out.below (Zad wk (.cells #[.int .i64 at_,.int .i64 ap,.int .i64 ad,.int .i64 al,.int .i64 av,.int .i64 ar] 50 (0,0))))
   clear hx HAC
   go_wp2_with fail
   clear c0 c1 c2 c3 c4 c5 k2
   go_loopw [29,7] (fun iv vv wr=>∃ (m:Nat) (s:Sl) (acc:List (Int×Int)),m<=ne/\iv=.int .i64 m/\vv=s.v/\acc++(Zns (Zju Zcu L.a.bars) k ⟨at_,ap,ad,al,av,ar⟩ m (L.a.evs.drop m)++btw (Zju Zcu L.a.bars) L.a.evs (k+1) (L.a.evs.drop (k+1)))=X/\Zbg.Own 52 w.heap.size wr s.v acc/\Below w.heap.size w wr/\Blk wr w.heap.size 41 #[.slice Al nl cl,.slice Ai ni ci,.slice (some ⟨b,o,none⟩) ne ce,.slice Ab nb cb,.slice Aa na ca,.slice Ad nd cd,.slice Ac nc cc,.slice At nt ct,.slice Ax nx cx]/\Blk wr (w.heap.size+1) 58 #[.int .i64 0,.slice none 0 0]/\Blk wr wk.heap.size 50 #[.int .i64 at_,.int .i64 ap,.int .i64 ad,.int .i64 al,.int .i64 av,.int .i64 ar]) (fun iv _ _=>ne - (intOf iv).toNat)
   case atStart=>exact⟨0,s,q,Nat.zero_le _,rfl,rfl,by rw [List.drop_zero];exact HST.out,HO3.out,HB3.out,HK3.out,HR3.out,HE0.out⟩
   case round=>
    obtain⟨m,s,acc,hm,rfl,rfl,hac,hown,hb,hkk,hr,he⟩:=hrel
    have HAC:=Zh hac
    have HOWN2:=Zh hown
    have HB4:=Zh hb
    have HK4:=Zh hkk
    have HR4:=Zh hr
    have HE4:=Zh he
    have hacl:acc.length<=1000000:=by rw [<- hac] at hlen;simp at hlen;omega
    have g0:=he.cm 0
    have g1:=he.cm 1
    have g2:=he.cm 2
    have g3:=he.cm 3
    have g4:=he.cm 4
    have g5:=he.cm 5
    have hgw:=he.lt
    have hgv2:=hkk.lt
    have hmm:(0:Int)<=(m:Int):=by omega
    clear hac hown hb hkk hr he HST HO3 HB3 HK3 HR3 HE0 HOWN HB HK HR
    by_cases hlm:m<ne
    ·have hml:(m:Int)<(ne:Int):=by omega
     obtain⟨y,hy⟩:∃ y,L.a.evs[m]?=some y:=⟨_,List.getElem?_eq_getElem (by rw [<- hn3.out];exact hlm)⟩
     obtain⟨b',o',eA,c0,c1,c2,c3,c4,c5⟩:=Zgu (HT.out.ev.below HB4.out) hy
     simp only at eA
     simp only [Option.some.injEq,Addr.mk.injEq,and_true] at eA
     obtain⟨h1,h2⟩:=eA
     subst h1 h2
     have HDM:=Zh (Zbx hy)
     obtain⟨bt,bp,bd,bl,bv,br⟩:=y
     simp only at c0 c1 c2 c3 c4 c5
     have HBA:=Zh (Zab HB4.out (.cells #[.int .i64 bt,.int .i64 bp,.int .i64 bd,.int .i64 bl,.int .i64 bv,.int .i64 br] 50 (0,0)))
     have HKA:=Zh (HK4.out.alloc (.cells #[.int .i64 bt,.int .i64 bp,.int .i64 bd,.int .i64 bl,.int .i64 bv,.int .i64 br] 50 (0,0)))
     have HRA:=Zh (HR4.out.alloc (.cells #[.int .i64 bt,.int .i64 bp,.int .i64 bd,.int .i64 bl,.int .i64 bv,.int .i64 br] 50 (0,0)))
     have HEA:=Zh (HE4.out.alloc (.cells #[.int .i64 bt,.int .i64 bp,.int .i64 bd,.int .i64 bl,.int .i64 bv,.int .i64 br] 50 (0,0)))
     clear hy
     by_cases h1:at_=bt
     ·by_cases h2:ap<bp
      ·obtain⟨r,hr⟩:∃ r,Zju Zcu L.a.bars ⟨at_,ap,ad,al,av,ar⟩ ⟨bt,bp,bd,bl,bv,br⟩=r:=⟨_,rfl⟩
       have HF2:=Zh (fun z (hz:Below w.heap.size w z)=>HFC.out ⟨at_,ap,ad,al,av,ar⟩ ⟨bt,bp,bd,bl,bv,br⟩ z hz)
       rw [hr] at HF2
       simp only [evV] at HF2
       subst h1
       cases r
       ·have HSN:=Zh (show acc++(Zns (Zju Zcu L.a.bars) k ⟨at_,ap,ad,al,av,ar⟩ (m+1) (L.a.evs.drop (m+1))++btw (Zju Zcu L.a.bars) L.a.evs (k+1) (L.a.evs.drop (k+1)))=X by
         have:=HAC.out
         rw [HDM.out] at this
         unfold Zns at this
         rw [if_neg (by simp [hr])] at this
         exact this)
        clear hr HAC HDM
        go_wp2_with (go_at_call 76;refine (HF2.out _ HBA.out).mono ?_;rintro e w9 ⟨rfl,hb9⟩;have HB9:=Zh hb9;clear hb9)
        go_roundw
        case rel=>exact⟨m+1,s,acc,by omega,by go_num,rfl,HSN.out,(HOWN2.out.below (Zad _ _)).below HB9.out,Zaa HBA.out HB9.out,HKA.out.go HB9.out,HRA.out.go HB9.out,HEA.out.go HB9.out⟩
        case measure=>simp [intOf];omega
       ·have HSN:=Zh (show (acc++[((k:Int),(m:Int))])++(Zns (Zju Zcu L.a.bars) k ⟨at_,ap,ad,al,av,ar⟩ (m+1) (L.a.evs.drop (m+1))++btw (Zju Zcu L.a.bars) L.a.evs (k+1) (L.a.evs.drop (k+1)))=X by
         have:=HAC.out
         rw [HDM.out] at this
         unfold Zns at this
         rw [if_pos ⟨rfl,h2,hr⟩] at this
         rw [<- this];simp)
        clear hr HAC HDM
        go_wp2_with first | (go_at_call 76;refine (HF2.out _ HBA.out).mono ?_;rintro e w9 ⟨rfl,hb9⟩;have HB9:=Zh hb9;clear hb9;have HPA:=Zh (Zj5 w9 ((k:Int),(m:Int)));have HBP:=Zh (Zad w9 (.cells #[.int .i64 (k:Int),.int .i64 (m:Int)] 52 (0,0)));have HO9:=Zh (((HOWN2.out.below (Zad _ _)).below HB9.out).below HBP.out);have hz9:=(Zaa HBA.out HB9.out).size) | (at_builtin;refine Enc.appW Zor _ rfl (.tmp 52) (.tmp 56) rfl [((k:Int),(m:Int))] w.heap.size acc _ w9.heap.size 0 1 rfl rfl HPA.out HO9.out (by simp;omega) (by simp;omega) (by simp;omega) ?_;intro v' w3 hown3 hg3;obtain⟨s3,rfl,_⟩:=Zee hown3;have HO5:=Zh hown3;have HG5:=Zh hg3;clear hown3 hg3)
        go_roundw
        case rel=>exact⟨m+1,s3,acc++[((k:Int),(m:Int))],by omega,by go_num,rfl,HSN.out,HO5.out,(Zaa (Zaa HBA.out HB9.out) HBP.out).trans HG5.out.below,Zat ((HKA.out.go HB9.out).go HBP.out) HO9.out (by decide) HG5.out,Zat ((HRA.out.go HB9.out).go HBP.out) HO9.out (by decide) HG5.out,Zat ((HEA.out.go HB9.out).go HBP.out) HO9.out (by decide) HG5.out⟩
        case measure=>simp [intOf];omega
      ·have HSN:=Zh (show acc++(Zns (Zju Zcu L.a.bars) k ⟨at_,ap,ad,al,av,ar⟩ (m+1) (L.a.evs.drop (m+1))++btw (Zju Zcu L.a.bars) L.a.evs (k+1) (L.a.evs.drop (k+1)))=X by
        have:=HAC.out
        rw [HDM.out] at this
        unfold Zns at this
        rw [if_neg (by simp [h2])] at this
        exact this)
       subst h1
       clear HAC HDM
       go_wp2_with fail
       go_roundw
       case rel=>exact⟨m+1,s,acc,by omega,by go_num,rfl,HSN.out,HOWN2.out.below (Zad _ _),HBA.out,HKA.out,HRA.out,HEA.out⟩
       case measure=>simp [intOf];omega
     ·have HSN:=Zh (show acc++(Zns (Zju Zcu L.a.bars) k ⟨at_,ap,ad,al,av,ar⟩ (m+1) (L.a.evs.drop (m+1))++btw (Zju Zcu L.a.bars) L.a.evs (k+1) (L.a.evs.drop (k+1)))=X by
       have:=HAC.out
       rw [HDM.out] at this
       unfold Zns at this
       rw [if_neg (by simp [h1])] at this
       exact this)
      have h1f:(at_ == bt)=false:=by simpa using h1
      clear HAC HDM
      go_wp2_with fail
      go_roundw
      case rel=>exact⟨m+1,s,acc,by omega,by go_num,rfl,HSN.out,HOWN2.out.below (Zad _ _),HBA.out,HKA.out,HRA.out,HEA.out⟩
      case measure=>simp [intOf];omega
    ·have hml:¬ (m:Int)<(ne:Int):=by omega
     have HSN:=Zh (show acc++btw (Zju Zcu L.a.bars) L.a.evs (k+1) (L.a.evs.drop (k+1))=X by
      have:=HAC.out
      rw [List.drop_eq_nil_of_le (by rw [<- hn3.out];omega)] at this
      exact this)
     clear HAC g0 g1 g2 g3 g4 g5
     go_wp2_with fail
     go_roundw
     case rel=>exact⟨k+1,s,acc,by omega,by go_num,rfl,HSN.out,HOWN2.out,HB4.out,HK4.out,HR4.out⟩
     case measure=>simp [intOf];omega
  ·have hij:¬ (k:Int)<(ne:Int):=by omega
   have HQX:=Zh (show q=X by
    have:=HAC.out
    rw [List.drop_eq_nil_of_le (by rw [<- hn3.out];omega)] at this
    simpa [btw] using this)
   have HAT:Hid (Zbg.At wk s.A X):=by
    obtain⟨A',cap',e1,hat,_⟩:=HOWN.out.at_
    simp only [Sl.v,Value.slice.injEq] at e1
    obtain⟨e2,_,_⟩:=e1
    rw [e2,<- HQX.out]
    exact Zh hat
   have HRO:=Zh (Z34 ne s X wk (by omega) hlen HAT.out (by rw [hns,HQX.out]) HMM.out)
   have r0:=HR.out.cell 0
   have r1:=HR.out.cell 1
   have fr:=HR.out.frozen
   simp only [Sl.v] at HRO
   clear HAC
   go_wp2_with (go_at_call 77;refine HRO.out.mono ?_;rintro e w9 ⟨q9,rfl,hq9,hge,hb9⟩;have HQ9:=Zh hq9;have HB9:=Zh hb9;have HR9:=Zh (HR.out.go hb9);clear hq9 hb9;have r0:=HR9.out.cell 0;have r1:=HR9.out.cell 1;have fr:=HR9.out.frozen)
   refine bodyPost_ret (v:=.tuple #[.agg #[.int .i64 (ne:Int),.slice (some ⟨q9,0,none⟩) ne ne],.int .i64 0]) (by simp [results,Tryz.results55,go_sem, *]) rfl ?_
   refine⟨q9,rfl,?_,?_⟩
   ·exact (HQ9.out.far (p:=⟨w.heap.size+1,0,none⟩) (by simp only [ne_eq];omega) _).far (p:=⟨w.heap.size+1,1,none⟩) (by simp only [ne_eq];omega) _
   ·exact ((Zaa HB.out HB9.out).setCell (p:=⟨w.heap.size+1,0,none⟩) (show w.heap.size<=w.heap.size+1 by omega) _).setCell (p:=⟨w.heap.size+1,1,none⟩) (show w.heap.size<=w.heap.size+1 by omega) _
end
end
end Go.Proofs.YtoegmdnfbemppaaGreatDoor
