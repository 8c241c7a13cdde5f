/- Layer 15: what must come, whatever the arguments are: awake. -/
import Derived.Test.YtdfmcfppoohckaaGreatDoorTm46
import Derived.Test.YtdfmcfppoohckaaGreatDoorTm48

namespace Go.Proofs.YtdfmcfppoohckaaGreatDoor
open Go.RowKit
section
theorem Zw4:Zp8 2 (btw (Zke Zcz Zct.bars) Zct.evs 0 Zct.evs)=[2,0]:=by decide
theorem Zw3:Ziw (Zaq Zbw) Zbw.init=[0,0]:=by rw [Zgv];rfl
theorem Zz6 (w:World)(Ac:Option Addr)(h:Zcb w Zbw none Ac (.slice none 0 0)) :
  Calls Tryz.prog 4 #[Zbr Zbw (.slice none 0 0) (.slice Ac 1 1) (.slice none 0 0)] w fun e w'=>∃ V:Ze5,e=.returned (.tuple #[Zd4 V,.int .i64 0,.int .i64 0])/\Zc1 w' ⟨[[120],[121]],[0,0],[(0,1,[])],Zct⟩ V/\Below w.heap.size w w':=by
 refine (ofP Zbw none Ac 0 1 _ w h).mono ?_;rintro e w' ⟨h1,hb⟩;rw [Zz7] at h1;obtain⟨O,V,rfl,ho⟩:=h1;rw [Zw3,Zgv,Zh8] at ho;obtain⟨V',e1,hV⟩:=ho.trc;exact⟨V',by rw [e1],hV,hb⟩
section
set_option maxHeartbeats 4000000
set_option maxRecDepth 100000
theorem Z0t (w:World):Calls Tryz.prog 6 #[] w fun e w'=>e=.returned (.bool true)/\Below w.heap.size w w':=by
 go_enter Tryz.func6,Tryz.ntmps6
 go_wp2_with fail
 refine (Z50 w).mono ?_;rintro e w1 ⟨Ac,rfl,hT,hb1⟩;have HT:=Zh hT;have HB1:=Zh hb1;clear hT hb1;simp only [Zbw]
 go_wp2_with fail
 refine (Zz6 w1 Ac HT.o).mono ?_;rintro e w2 ⟨V,rfl,hV,hb2⟩;have HB2:=Zh (Zaa HB1.o hb2);have hn3:V.ev.n=2:=hV.nev;have hn4:V.br.n=1:=hV.nbr;have hn9:V.en.n=1:=hV.nen;obtain⟨eb,eo,eA,d0,d1⟩:=Zg2 hV.en (show Zct.ends[0]?=some (2,1) from rfl);have HF:=Zh (fun z (hz:Below w2.heap.size w2 z)=>show Calls Tryz.prog 27 #[Zd4 V] z fun e w'=>∃ q,e=.returned (.tuple #[.agg #[.int .i64 2,.slice (some ⟨q,0,none⟩) 2 2],.int .i64 0])/\Blk w' q 70 #[.int .u64 2,.int .u64 0]/\Below z.heap.size z w' by
  refine (Z2q _ V z (hV.below hz) Zts rfl rfl rfl (by decide)).mono ?_;rintro e w' ⟨q,rfl,hq,hb⟩;refine⟨q,rfl,?_,hb⟩;have:=hq;rw [show (⟨[[120],[121]],[0,0],[(0,1,[])],Zct⟩:Ze2).a.evs.length=2 from rfl,show (⟨[[120],[121]],[0,0],[(0,1,[])],Zct⟩:Ze2).a=Zct from rfl,Zw4] at this;exact this)
 obtain⟨⟨Al,nl,cl⟩,⟨Ai,ni,ci⟩,⟨Ae,ne,ce⟩,⟨Ab,nb,cb⟩,⟨Aa,na,ca⟩,⟨Ad,nd,cd⟩,⟨Aj,nj,cj⟩,⟨At,nt,ct⟩,⟨Ax,nx,cx⟩⟩:=V;simp only at hn3 hn4 hn9 eA;subst hn3 hn4 hn9 eA;simp only [Nat.zero_mul,Nat.add_zero] at d0 d1;simp only [Zd4,Sl.v] at HF ⊢;have HK:=Zh (Blk.new w2 41 #[.slice Al nl cl,.slice Ai ni ci,.slice Ae 2 ce,.slice Ab 1 cb,.slice Aa na ca,.slice Ad nd cd,.slice Aj nj cj,.slice At nt ct,.slice (some ⟨eb,eo,none⟩) 1 cx]);have HB3:=Zh (Zad w2 (.cells #[.slice Al nl cl,.slice Ai ni ci,.slice Ae 2 ce,.slice Ab 1 cb,.slice Aa na ca,.slice Ad nd cd,.slice Aj nj cj,.slice At nt ct,.slice (some ⟨eb,eo,none⟩) 1 cx] 41 (0,0)));have HD0:=Zh d0;have HD1:=Zh d1;clear hV hb2 d0 d1
 go_wp2_with (go_at_call 27;refine (HF.o _ HB3.o).mono ?_;rintro e w9 ⟨q,rfl,hq,hb9⟩;have HQ:=Zh hq;have HB9:=Zh (Zaa HB3.o hb9);have HK9:=Zh (HK.o.go hb9);clear hq hb9;have k2:=HK9.o.cell 2;have k3:=HK9.o.cell 3;have k8:=HK9.o.cell 8;have d0:=Zac HD0.o HB9.o;have d1:=Zac HD1.o HB9.o;have q0:=HQ.o.cell 0;have hg1:=HK9.o.lt;have hg2:=HQ.o.lt;have hg3:=World.block_lt_of_cell? w9 _ d0)
 go_ret;exact⟨rfl,Zab (Zaa HB2.o HB9.o) _⟩
end
end
end Go.Proofs.YtdfmcfppoohckaaGreatDoor
