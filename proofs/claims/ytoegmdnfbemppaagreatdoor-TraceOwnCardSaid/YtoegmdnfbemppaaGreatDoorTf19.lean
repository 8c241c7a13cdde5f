/- Layer 15: the runner's put, write, read: the program's. -/
import Derived.Test.YtoegmdnfbemppaaGreatDoorTf16

namespace Go.Proofs.YtoegmdnfbemppaaGreatDoor
open Go.RowKit
section
theorem Zbq {w:World}{q:Nat}{l:List Rg}(h:Blk w q 163 (Zde.flat l).toArray){i:Nat}{x:Rg}(hx:l[i]?=some x) :
  w.cell? ⟨q,i*5,none⟩=some (Zag x.h)/\w.cell? ⟨q,i*5+1,none⟩=some (.int .u64 (x.on:Int))/\w.cell? ⟨q,i*5+2,none⟩=some (.int .u64 0)/\w.cell? ⟨q,i*5+3,none⟩=some (.int .u64 0)/\w.cell? ⟨q,i*5+4,none⟩=some (.int .u64 0):=by
 have hc:∀ j,j<5->w.cell? ⟨q,i*5+j,none⟩=(Zde.enc x)[j]?:=fun j hj=>by
  rw [h.cell,List.getElem?_toArray]
  exact Zde.flat_at hx hj
 exact⟨hc 0 (by omega),hc 1 (by omega),hc 2 (by omega),hc 3 (by omega),hc 4 (by omega)⟩
theorem Zlu {w:World}{q:Nat}{l:List Rg}(h:Blk w q 163 (Zde.flat l).toArray){i:Nat}(hi:i<l.length):w.there q (i*5) 5:=fun j hj=>by
 refine⟨?_,h.frozen _⟩
 rw [h.cell,List.getElem?_toArray,Option.isSome_iff_exists]
 have hl:(Zde.flat l).length=l.length*5:=Zde.flat_len l
 exact⟨_,List.getElem?_eq_getElem (by omega)⟩
section
set_option maxHeartbeats 4000000
set_option maxRecDepth 100000
variable {w0 w:World} {g nr k:Nat} {S:Zgi} {r:Rn} {V:Zd3}
theorem Z5l (d:Nat)(x:Rg)(HS:Zrb w0 S)(hb:Below w0.heap.size w0 w)(hd:d<r.regs.length)(_hl:r.regs.length<=32)(hR:Za1 w w0.heap.size g S r V) :
  Calls Tryz.prog 93 #[.pointer (some ⟨g,0,none⟩),.int .i64 (d:Int),rgV x] w (Zb1 w0.heap.size g S V (Zgr S.C r (d:Int) x) (.tuple #[]) w):=by
 have HR:=Zh hR
 have hgw:g<w.heap.size:=hR.blk.lt
 have hgB:=hR.hg
 obtain⟨q,hvr,hqb,hqB⟩:=hR.regs
 have hqw:=hqb.lt
 have k0:=hR.blk.cm 0
 have k14:w.cell? ⟨g,14,none⟩=some (.slice (some ⟨q,0,none⟩) r.regs.length r.regs.length):=by rw [<- hvr];exact hR.blk.cell 14
 have hrisc:=HS.risc
 have HB0:=Zh (Zad w (.cells #[Zag x.h,.int .u64 (x.on:Int),.int .u64 0,.int .u64 0,.int .u64 0] 163 (0,0)))
 have HQ:=Zh hqb
 have one:=Znx x.h
 clear hR hqb
 by_cases hz:S.C.risc=true/\(d:Int)=0
 ·have HV:=Zh (show Zgr S.C r (d:Int) x=r from if_pos hz)
  have ha:S.T.arch=2:=by have:=hrisc.symm.trans hz.1;simpa using this
  obtain⟨_,hz2⟩:=hz
  have hd0:d=0:=by omega
  subst hd0
  rw [ha] at k0
  go_enter Tryz.func93,Tryz.ntmps93
  go_wp2_with fail
  go_end0
  rw [HV.out]
  exact⟨_,rfl,HR.out.below HB0.out,HB0.out.mono hb.size,FrV.of_below HB0.out⟩
 ·have HV:=Zh (show Zgr S.C r (d:Int) x={ r with regs:=r.regs.set d x } by unfold Zgr;rw [if_neg hz];simp)
  have hbs:=hb.size
  have c0:=Z5f w #[Zag x.h,.int .u64 (x.on:Int),.int .u64 0,.int .u64 0,.int .u64 0] 163
  have hi1:(0:Int)<=(d:Int):=by omega
  have hi2:(d:Int)<(r.regs.length:Int):=by omega
  have HBX:=Zh (Blk.new w 163 #[Zag x.h,.int .u64 (x.on:Int),.int .u64 0,.int .u64 0,.int .u64 0])
  have HRA:=Zh (HR.out.below HB0.out)
  have HQA:=Zh (HQ.out.go HB0.out)
  have hor:d≠0\/(d=0/\S.T.arch≠2):=by
   by_cases h0:d=0
   ·exact Or.inr ⟨h0,fun ha=>hz ⟨by rw [hrisc];simpa using ha,by omega⟩⟩
   ·exact Or.inl h0
  clear hz hrisc
  have k14a:(w.alloc (.cells #[Zag x.h,.int .u64 (x.on:Int),.int .u64 0,.int .u64 0,.int .u64 0] 163 (0,0))).cell? ⟨g,14,none⟩=some (.slice (some ⟨q,0,none⟩) r.regs.length r.regs.length):=Zac k14 HB0.out
  have x0:=HBX.out.cell 0
  have x1:=HBX.out.cell 1
  have x2:=HBX.out.cell 2
  have x3:=HBX.out.cell 3
  have x4:=HBX.out.cell 4
  rcases hor with hd0 | ⟨hd0,ha⟩
  ·have hd1:¬ (d:Int)=0:=by omega
   go_enter Tryz.func93,Tryz.ntmps93
   go_wp2_with fail
   generalize hw1:w.alloc (.cells #[Zag x.h,.int .u64 (x.on:Int),.int .u64 0,.int .u64 0,.int .u64 0] 163 (0,0))=w1 at *
   refine wz (fun y:World=>y.cell? ⟨g,14,none⟩=some (.slice (some ⟨q,0,none⟩) r.regs.length r.regs.length)/\y.cell? ⟨w.heap.size,0,none⟩=some (Zag x.h)/\y.cell? ⟨w.heap.size,1,none⟩=some (.int .u64 (x.on:Int))/\y.cell? ⟨w.heap.size,2,none⟩=some (.int .u64 0)/\y.cell? ⟨w.heap.size,3,none⟩=some (.int .u64 0)/\y.cell? ⟨w.heap.size,4,none⟩=some (.int .u64 0)) [3,5,6] ⟨k14a,x0,x1,x2,x3,x4⟩ (fun hHeld=>?_)
   refine wq 0 ?_
   refine wq 1 ?_
   refine wq 2 ?_
   refine wq 4 ?_
   refine wt 3 (by assumption) ?_
   refine wt 5 (by assumption) ?_
   refine wt 6 (by assumption) ?_
   refine wl 7 ?_
   obtain⟨x0',hx0⟩:∃ x0',r.regs[d]?=some x0':=⟨_,List.getElem?_eq_getElem hd⟩
   obtain⟨y0,y1,y2,y3,y4⟩:=Zbq (HQA.out.drew) hx0
   have HRD:=Zh (HRA.out.drew.reg (x:=x) hd hvr)
   have HBD:=Zh ((HB0.out.mono hbs).drew)
   have HTH:=Zh (Zlu HQA.out.drew hd)
   clear hx0 y0 y1 y2 y3 y4
   refine wpList_store_mid rfl _ _ _ rfl q (d*5) #[Zag x.h,.int .u64 (x.on:Int),.int .u64 0,.int .u64 0,.int .u64 0] rfl rfl HTH.out (by kernel_rfl) (all_oneCell_toArray (cs:=Zde.enc x) (Zde.one x)) ?_
   go_end0
   rw [HV.out]
   refine⟨_,rfl,HRD.out,?_,?_⟩
   ·exact (((((HBD.out.setCell (p:=⟨q,d*5,none⟩) hqB _).setCell (p:=⟨q,d*5+1,none⟩) hqB _).setCell (p:=⟨q,d*5+2,none⟩) hqB _).setCell (p:=⟨q,d*5+3,none⟩) hqB _).setCell (p:=⟨q,d*5+4,none⟩) hqB _)
   exact m_104
  ·subst hd0
   have ha1:¬ S.T.arch=2:=ha
   go_enter Tryz.func93,Tryz.ntmps93
   go_wp2_with fail
   generalize hw1:w.alloc (.cells #[Zag x.h,.int .u64 (x.on:Int),.int .u64 0,.int .u64 0,.int .u64 0] 163 (0,0))=w1 at *
   refine wz (fun y:World=>y.cell? ⟨g,14,none⟩=some (.slice (some ⟨q,0,none⟩) r.regs.length r.regs.length)/\y.cell? ⟨w.heap.size,0,none⟩=some (Zag x.h)/\y.cell? ⟨w.heap.size,1,none⟩=some (.int .u64 (x.on:Int))/\y.cell? ⟨w.heap.size,2,none⟩=some (.int .u64 0)/\y.cell? ⟨w.heap.size,3,none⟩=some (.int .u64 0)/\y.cell? ⟨w.heap.size,4,none⟩=some (.int .u64 0)) [3,5,6] ⟨k14a,x0,x1,x2,x3,x4⟩ (fun hHeld=>?_)
   refine wq 0 ?_
   refine wq 1 ?_
   refine wq 2 ?_
   refine wq 4 ?_
   refine wt 3 (by assumption) ?_
   refine wt 5 (by assumption) ?_
   refine wt 6 (by assumption) ?_
   refine wl 7 ?_
   obtain⟨x0',hx0⟩:∃ x0',r.regs[0]?=some x0':=⟨_,List.getElem?_eq_getElem hd⟩
   obtain⟨y0,y1,y2,y3,y4⟩:=Zbq (HQA.out.drew) hx0
   have HRD:=Zh (HRA.out.drew.reg (x:=x) hd hvr)
   have HBD:=Zh ((HB0.out.mono hbs).drew)
   have HTH:=Zh (Zlu HQA.out.drew hd)
   clear hx0 y0 y1 y2 y3 y4
   refine wpList_store_mid rfl _ _ _ rfl q (0*5) #[Zag x.h,.int .u64 (x.on:Int),.int .u64 0,.int .u64 0,.int .u64 0] rfl rfl HTH.out (by kernel_rfl) (all_oneCell_toArray (cs:=Zde.enc x) (Zde.one x)) ?_
   go_end0
   rw [HV.out]
   refine⟨_,rfl,HRD.out,?_,?_⟩
   ·exact (((((HBD.out.setCell (p:=⟨q,0*5,none⟩) hqB _).setCell (p:=⟨q,0*5+1,none⟩) hqB _).setCell (p:=⟨q,0*5+2,none⟩) hqB _).setCell (p:=⟨q,0*5+3,none⟩) hqB _).setCell (p:=⟨q,0*5+4,none⟩) hqB _)
   exact m_104
end
end
section
def Znb:Zd6->Int
 | .num n=>n
 | _=>0
def Zl5:Zd6->Bool
 | .num _=>true
 | _=>false
def Zsn:Zd6->Nm
 | .adr s=>s
 | _=>[]
def Zs1:Zd6->Bool
 | .adr _=>true
 | _=>false
theorem taN (w:World):∀ h:Zd6,(Instr.typeAssert (Zag h) 161 159 true).run Tryz.prog w=.ok (.tuple #[.int .i64 (Znb h),.bool (Zl5 h)]) w
 | .num _=>Zdv _ w
 | .adr _=>Zds _ w
 | .rd _=>Zdy _ w
 | .non=>Zdw _ w
theorem taA (w:World):∀ h:Zd6,(Instr.typeAssert (Zag h) 161 164 true).run Tryz.prog w=.ok (.tuple #[.string ⟨(Zsn h).toArray⟩,.bool (Zs1 h)]) w
 | .num _=>Zhl _ w
 | .adr _=>Zh7 _ w
 | .rd _=>Zhn _ w
 | .non=>Zh0 _ w
def Zcn (B g:Nat)(S:Zgi)(V:Zd3)(r:Rn)(o:Option Rn)(w:World)(e:Ending)(w':World):Prop:=match o with
 | some r'=>Zb1 B g S V r' (.bool true) w e w'
 | none=>Zb1 B g S V r (.bool false) w e w'
theorem Zsv {C:Cx}{r:Rn}{pl:Nat}{loc:Nm}{on xo:Nat}{n:Int}:Zcr C r pl loc on ⟨.num n,xo⟩=some (Zi9 (Zi8 C r pl 2 loc n 0 on) xo r.evs.length):=rfl
section
set_option maxHeartbeats 4000000
set_option maxRecDepth 100000
variable {w0 w:World} {g nr k:Nat} {S:Zgi} {r:Rn} {V:Zd3}
theorem Zv4 (pl:Nat)(loc:Nm)(on:Nat)(x:Rg)(HS:Zrb w0 S)(hb:Below w0.heap.size w0 w)(hI:Inv S.C nr k r)(hf:r.full=false)(hR:Za1 w w0.heap.size g S r V)(hloc:loc∈S.C.locs)(hon:Rds r.evs on)(hx:Zid S.C r.evs x) :
  Calls Tryz.prog 91 #[.pointer (some ⟨g,0,none⟩),.int .i64 (pl:Int),.string ⟨loc.toArray⟩,Zta on,rgV x] w (Zcn w0.heap.size g S V r (Zcr S.C r pl loc on x) w):=by
 obtain⟨xh,xo⟩:=x
 have HR:=Zh hR
 have hbs:=hb.size
 have HB0:=Zh (Zap w (.cells #[.int .u64 (on:Int),.int .u64 0,.int .u64 0,.int .u64 0] 112 (0,0)) (.cells #[Zag xh,.int .u64 (xo:Int),.int .u64 0,.int .u64 0,.int .u64 0] 163 (0,0)))
 have HX:=Zh (Zcw w (.cells #[.int .u64 (on:Int),.int .u64 0,.int .u64 0,.int .u64 0] 112 (0,0)) 163 #[Zag xh,.int .u64 (xo:Int),.int .u64 0,.int .u64 0,.int .u64 0])
 have HXO:=Zh (hx.2.lt64 (show r.evs.length<=64 by have:=hI.room;omega))
 have hdl:=hI.data.len
 have room:=hI.room
 cases xh with
 | num n=>
  rw [Zsv]
  have q1:=fun w=>taN w (.num n)
  simp only [Znb,Zl5] at q1
  have HEV:=Zh (Zzu (w:=(w.alloc (.cells #[.int .u64 (on:Int),.int .u64 0,.int .u64 0,.int .u64 0] 112 (0,0))).alloc (.cells #[Zag (.num n),.int .u64 (xo:Int),.int .u64 0,.int .u64 0,.int .u64 0] 163 (0,0))) pl 2 n 0 loc on HS (hb.trans (HB0.out.mono hbs)) hI (hR.below HB0.out) hloc hon)
  clear hR hI hx hon hloc HS
  by_cases hfull:64<=S.C.ahead+r.evs.length
  ·have HV:=Zh (show Zi9 (Zi8 S.C r pl 2 loc n 0 on) xo r.evs.length={ r with full:=true } by rw [Zc2 hfull];rfl)
   rw [Zc2 hfull] at HEV
   rw [HV.out]
   go_enter Tryz.func91,Tryz.ntmps91
   go_wp2_with (go_at_call 158;refine HEV.out.mono ?_;rintro e w2 ⟨V2,rfl,hR2,hb2,hf2⟩;have HR2:=Zh hR2;have HB2:=Zh hb2;have HF2:=Zh hf2;have k25:w2.cell? ⟨g,25,none⟩=some (.bool true):=hR2.blk.cell 25;clear hR2 hb2 hf2)
   go_ret
   exact m_131
  ·have HV:=Zh (show Zi9 (Zi8 S.C r pl 2 loc n 0 on) xo r.evs.length={ (Zi8 S.C r pl 2 loc n 0 on) with data:=r.data++Zbl xo r.evs.length 64 } by unfold Zi9;rw [Zc3 hfull];simp [hf])
   have HE25:=Zh (show (Zi8 S.C r pl 2 loc n 0 on).full=false by rw [Zc3 hfull];exact hf)
   have HED:=Zh (show (Zi8 S.C r pl 2 loc n 0 on).data=r.data by rw [Zc3 hfull])
   rw [if_neg hfull] at HEV
   rw [HV.out]
   obtain⟨r1,hr1⟩:∃ r1,Zi8 S.C r pl 2 loc n 0 on=r1:=⟨_,rfl⟩
   rw [hr1] at HEV HV HE25 HED ⊢
   clear hr1
   have HNM:=Zh (show ¬ Zq6 g V (w.heap.size+1) from fun hm=>by have:=(HR.out.mine hm).1;omega)
   have hgB:=HR.out.hg
   go_enter Tryz.func91,Tryz.ntmps91
   go_wp2_with (go_at_call 158;refine HEV.out.mono ?_;rintro e w2 ⟨V2,rfl,hR2,hb2,hf2⟩;have HX2:=Zh (HX.out.frv hf2 HNM.out);have HR2:=Zh hR2;have HB2:=Zh ((HB0.out.mono hbs).trans hb2);have HF2:=Zh ((FrV.of_below (g:=g) (V:=V) HB0.out).trans hf2);have k25:w2.cell? ⟨g,25,none⟩=some (.bool r1.full):=hR2.blk.cell 25;rw [HE25.out] at k25;clear hR2 hb2 hf2)
   clear HX HEV
   have hz2:=HB2.out.size
   obtain⟨v1,v2,v3,v4,vda,v6⟩:=V2
   obtain⟨Ad,cd,hvd⟩:=HR2.out.data.shp
   simp only at hvd
   subst hvd
   have k22:w2.cell? ⟨g,22,none⟩=some (.slice Ad r1.data.length cd):=HR2.out.blk.cell 22
   have o0:=HX2.out.cm 1
   have o1:=HX2.out.cm 2
   have o2:=HX2.out.cm 3
   have o3:=HX2.out.cm 4
   refine wz (fun y:World=>y.cell? ⟨g,22,none⟩=some (.slice Ad r1.data.length cd)/\y.cell? ⟨w.heap.size+1,1,none⟩=some (.int .u64 (xo:Int))/\y.cell? ⟨w.heap.size+1,2,none⟩=some (.int .u64 0)/\y.cell? ⟨w.heap.size+1,3,none⟩=some (.int .u64 0)/\y.cell? ⟨w.heap.size+1,4,none⟩=some (.int .u64 0)) [4,6] ⟨k22,o0,o1,o2,o3⟩ (fun hHeld=>?_)
   refine wq 0 ?_
   refine wq 1 ?_
   refine wq 2 ?_
   refine wq 3 ?_
   refine wq 5 ?_
   refine wq 7 ?_
   refine wt 4 (by assumption) ?_
   refine wt 6 (by assumption) ?_
   refine wl 8 ?_
   have HRd:=Zh HR2.out.drew
   have HBd:=Zh HB2.out.drew
   have HFd:=Zh HF2.out.drew
   have HOA:=Zh HRd.out.data
   have hrl:r1.data.length<=1000000:=by rw [HED.out];omega
   clear hHeld k22 k25 o0 o1 o2 o3 HR2 HB2 HF2 HX2
   generalize hwd:w2.drew=wd at *
   clear hwd
   have hzd:=HBd.out.size
   go_wp2_with (go_at_call 159;refine (Zwd _ r1.data xo r.evs.length w0.heap.size _ HXO.out hrl (by omega) HOA.out).mono ?_;rintro e w6 ⟨v',rfl,hown6,hg6⟩;obtain⟨A6,n6,c6,rfl⟩:=Zca hown6;have HO6:=Zh hown6;have HG6:=Zh hg6;have HB6:=Zh (Zat HRd.out.blk HOA.out (by decide) hg6);clear hown6 hg6;have k22:w6.cell? ⟨g,22,none⟩=some (.slice Ad r1.data.length cd):=HB6.out.cell 22;have f22:=HB6.out.frozen 22)
   have HR7:=Zh (HRd.out.da HG6.out HO6.out)
   go_ret
   rw [<- HED.out]
   exact⟨_,rfl,HR7.out,(HBd.out.trans HG6.out.below).setCell (p:=⟨g,22,none⟩) hgB _,HFd.out.trans (FrV.da HG6.out)⟩
 | adr s=>
  have q1:=fun w=>taN w (.adr s)
  exact m_77
 | rd i=>
  have q1:=fun w=>taN w (.rd i)
  exact m_77
 | non=>
  have q1:=fun w=>taN w .non
  exact m_77
end
end
section
set_option maxHeartbeats 4000000
set_option maxRecDepth 100000
variable {w0 w:World} {g nr k:Nat} {S:Zgi} {r:Rn} {V:Zd3}
theorem Z32 (pl:Nat)(loc:Nm)(on d:Nat)(HS:Zrb w0 S)(hb:Below w0.heap.size w0 w)(hI:Inv S.C nr k r)(hf:r.full=false)(hR:Za1 w w0.heap.size g S r V)(hloc:loc∈S.C.locs)(hon:Rds r.evs on)(hd:d<r.regs.length)(hl:r.regs.length<=32) :
  Calls Tryz.prog 92 #[.pointer (some ⟨g,0,none⟩),.int .i64 (pl:Int),.string ⟨loc.toArray⟩,Zta on,.int .i64 (d:Int)] w (Zb1 w0.heap.size g S V (Zfa S.C r pl loc on (d:Int)) (.tuple #[]) w):=by
 have HR:=Zh hR
 have hbs:=hb.size
 have HB0:=Zh (Zad w (.cells #[.int .u64 (on:Int),.int .u64 0,.int .u64 0,.int .u64 0] 112 (0,0)))
 have room:=hI.room
 have HEV:=Zh (Zzu (w:=w.alloc (.cells #[.int .u64 (on:Int),.int .u64 0,.int .u64 0,.int .u64 0] 112 (0,0))) pl 1 0 (d:Int) loc on HS (hb.trans (HB0.out.mono hbs)) hI (hR.below HB0.out) hloc hon)
 by_cases hfull:64<=S.C.ahead+r.evs.length
 ·have HV:=Zh (show Zfa S.C r pl loc on (d:Int)={ r with full:=true } by unfold Zfa;rw [Zc2 hfull];rfl)
  rw [Zc2 hfull] at HEV
  rw [HV.out]
  clear hR hI hon hloc HS
  go_enter Tryz.func92,Tryz.ntmps92
  go_wp2_with (go_at_call 158;refine HEV.out.mono ?_;rintro e w2 ⟨V2,rfl,hR2,hb2,hf2⟩;have HR2:=Zh hR2;have HB2:=Zh hb2;have HF2:=Zh hf2;have k25:w2.cell? ⟨g,25,none⟩=some (.bool true):=hR2.blk.cell 25;clear hR2 hb2 hf2)
  go_end0
  exact m_131
 ·obtain⟨r1,hr1⟩:∃ r1,Zi8 S.C r pl 1 loc 0 (d:Int) on=r1:=⟨_,rfl⟩
  have HE25:=Zh (show r1.full=false by rw [<- hr1,Zc3 hfull];exact hf)
  have HREG:=Zh (show r1.regs=r.regs by rw [<- hr1,Zc3 hfull])
  have HV:=Zh (show Zfa S.C r pl loc on (d:Int)=Zgr S.C r1 (d:Int) ⟨.rd r.evs.length,2 ^ r.evs.length⟩ by unfold Zfa;rw [hr1,HE25.out];rfl)
  rw [if_neg hfull,hr1] at HEV
  rw [HV.out]
  clear hr1
  have HPUT:=Zh (fun (w:World) (V:Zd3)=>Z5l (w:=w) (V:=V) (g:=g) (r:=r1) d ⟨.rd r.evs.length,2 ^ r.evs.length⟩ HS)
  have hd1:d<r1.regs.length:=by rw [HREG.out];exact hd
  have hl1:r1.regs.length<=32:=by rw [HREG.out];exact hl
  have HB00:=Zh hb
  have HWI:=Zh (fun (w:World)=>Z6a 0 r.evs.length w (by omega) (by omega))
  have hz0:(0:Nat)|||2 ^ r.evs.length=2 ^ r.evs.length:=Nat.zero_or _
  rw [hz0] at HWI
  clear hR hI hon hloc HS hb
  go_enter Tryz.func92,Tryz.ntmps92
  go_wp2_with (first
   | (go_at_call 158;refine HEV.out.mono ?_;rintro e w2 ⟨V2,rfl,hR2,hb2,hf2⟩;have HR2:=Zh hR2;have HB2:=Zh ((HB0.out.mono hbs).trans hb2);have HF2:=Zh ((FrV.of_below (g:=g) (V:=V) HB0.out).trans hf2);have k25:w2.cell? ⟨g,25,none⟩=some (.bool r1.full):=hR2.blk.cell 25;rw [HE25.out] at k25;clear hR2 hb2 hf2)
   | (go_at_call 160;refine (HWI.out _).mono ?_;rintro e w3 ⟨rfl,hb3⟩;have HB3:=Zh (HB2.out.trans (hb3.mono (show w0.heap.size<=w2.heap.size from Nat.le_trans hbs HB2.out.size)));have HR3:=Zh (HR2.out.below hb3);have HF3:=Zh (HF2.out.trans (FrV.of_below hb3));clear hb3)
   | (go_at_call 93;refine (HPUT.out _ _ (HB00.out.trans HB3.out) hd1 hl1 HR3.out).mono ?_;rintro e w4 ⟨V4,rfl,hR4,hb4,hf4⟩;have HR4:=Zh hR4;have HB4:=Zh (HB3.out.trans hb4);have HF4:=Zh (HF3.out.trans hf4);clear hR4 hb4 hf4))
  go_end0
  exact⟨_,rfl,HR4.out,HB4.out,HF4.out⟩
end
end Go.Proofs.YtoegmdnfbemppaaGreatDoor
