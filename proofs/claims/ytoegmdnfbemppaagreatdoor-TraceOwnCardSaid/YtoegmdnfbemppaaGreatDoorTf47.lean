/- - -/
import Derived.Test.YtoegmdnfbemppaaGreatDoorTf44
import Derived.Test.YtoegmdnfbemppaaGreatDoorTf46

namespace Go.Proofs.YtoegmdnfbemppaaGreatDoor
open Go.RowKit
section
theorem Zt7:Z5k 2 (btw (Zju Zcu Zcq.bars) Zcq.evs 0 Zcq.evs)=[2,0]:=by decide
theorem Zvq:Zjg (Zas Zbu) Zbu.init=[0,0]:=by rw [Zgf];rfl
theorem Zza (w:World)(Ac:Option Addr)(h:Zb4 w Zbu none Ac (.slice none 0 0)) :
  Calls Tryz.prog 9 #[Zbm Zbu (.slice none 0 0) (.slice Ac 1 1) (.slice none 0 0)] w fun e w'=>∃ V:Zfl,e=.returned (.tuple #[Zgj V,.int .i64 0,.int .i64 0])/\Zc0 w' ⟨[[120],[121]],[0,0],[(0,1,[])],Zcq⟩ V/\Below w.heap.size w w':=by
 refine (ofP Zbu none Ac 0 1 _ w h).mono ?_
 rintro e w' ⟨h1,hb⟩
 rw [Zy3] at h1
 obtain⟨O,V,rfl,ho⟩:=h1
 rw [Zvq,Zgf,Zhw] at ho
 obtain⟨V',e1,hV⟩:=ho.trc
 exact⟨V',by rw [e1],hV,hb⟩
section
set_option maxHeartbeats 4000000
set_option maxRecDepth 100000
theorem Zvk (w:World):Calls Tryz.prog 12 #[] w fun e w'=>e=.returned (.bool true)/\Below w.heap.size w w':=by
 go_enter Tryz.func12,Tryz.ntmps12
 go_wp2_with fail
 refine (Z4u w).mono ?_
 rintro e w1 ⟨Ac,rfl,hT,hb1⟩
 have HT:=Zh hT
 have HB1:=Zh hb1
 clear hT hb1
 simp only [Zbu]
 go_wp2_with fail
 refine (Zza w1 Ac HT.out).mono ?_
 rintro e w2 ⟨V,rfl,hV,hb2⟩
 have HB2:=Zh (Zaa HB1.out hb2)
 have hn3:V.ev.n=2:=hV.nev
 have hn4:V.br.n=1:=hV.nbr
 have hn9:V.en.n=1:=hV.nen
 obtain⟨eb,eo,eA,d0,d1⟩:=Zk9 hV.en (show Zcq.ends[0]?=some (2,1) from rfl)
 have HF:=Zh (fun z (hz:Below w2.heap.size w2 z)=>show Calls Tryz.prog 24 #[Zgj V] z fun e w'=>∃ q,e=.returned (.tuple #[.agg #[.int .i64 2,.slice (some ⟨q,0,none⟩) 2 2],.int .i64 0])/\Blk w' q 110 #[.int .u64 2,.int .u64 0]/\Below z.heap.size z w' by
  refine (Z2r _ V z (hV.below hz) Zr4 rfl rfl rfl (by decide)).mono ?_
  rintro e w' ⟨q,rfl,hq,hb⟩
  refine⟨q,rfl,?_,hb⟩
  have:=hq
  rw [show (⟨[[120],[121]],[0,0],[(0,1,[])],Zcq⟩:Zgv).a.evs.length=2 from rfl,show (⟨[[120],[121]],[0,0],[(0,1,[])],Zcq⟩:Zgv).a=Zcq from rfl,Zt7] at this
  exact this)
 obtain⟨⟨Al,nl,cl⟩,⟨Ai,ni,ci⟩,⟨Ae,ne,ce⟩,⟨Ab,nb,cb⟩,⟨Aa,na,ca⟩,⟨Ad,nd,cd⟩,⟨Aj,nj,cj⟩,⟨At,nt,ct⟩,⟨Ax,nx,cx⟩⟩:=V
 simp only at hn3 hn4 hn9 eA
 subst hn3 hn4 hn9 eA
 simp only [Nat.zero_mul,Nat.add_zero] at d0 d1
 simp only [Zgj,Sl.v] at HF ⊢
 have HK:=Zh (Blk.new w2 41 #[.slice Al nl cl,.slice Ai ni ci,.slice Ae 2 ce,.slice Ab 1 cb,.slice Aa na ca,.slice Ad nd cd,.slice Aj nj cj,.slice At nt ct,.slice (some ⟨eb,eo,none⟩) 1 cx])
 have HB3:=Zh (Zad w2 (.cells #[.slice Al nl cl,.slice Ai ni ci,.slice Ae 2 ce,.slice Ab 1 cb,.slice Aa na ca,.slice Ad nd cd,.slice Aj nj cj,.slice At nt ct,.slice (some ⟨eb,eo,none⟩) 1 cx] 41 (0,0)))
 have HD0:=Zh d0
 have HD1:=Zh d1
 clear hV hb2 d0 d1
 go_wp2_with (go_at_call 24;refine (HF.out _ HB3.out).mono ?_;rintro e w9 ⟨q,rfl,hq,hb9⟩;have HQ:=Zh hq;have HB9:=Zh (Zaa HB3.out hb9);have HK9:=Zh (HK.out.go hb9);clear hq hb9;have k2:=HK9.out.cell 2;have k3:=HK9.out.cell 3;have k8:=HK9.out.cell 8;have d0:=Zac HD0.out HB9.out;have d1:=Zac HD1.out HB9.out;have q0:=HQ.out.cell 0;have hg1:=HK9.out.lt;have hg2:=HQ.out.lt;have hg3:=World.block_lt_of_cell? w9 _ d0)
 go_ret
 exact⟨rfl,Zab (Zaa HB2.out HB9.out) _⟩
end
end
end Go.Proofs.YtoegmdnfbemppaaGreatDoor
