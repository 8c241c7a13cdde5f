/- Layer 15: the runner's put, write, read: the program's. -/
import Derived.Test.YtdfmcfppoohckaaGreatDoorTm16

namespace Go.Proofs.YtdfmcfppoohckaaGreatDoor
open Go.RowKit
section
theorem Zbq {w:World}{q:Nat}{l:List Rg}(h:Blk w q 114 (Zdh.flat l).toArray){i:Nat}{x:Rg}(hx:l[i]?=some x) :
  w.cell? ⟨q,i*5,none⟩=some (Zah x.h)/\w.cell? ⟨q,i*5+1,none⟩=some (.int .u64 (x.on:Int))/\w.cell? ⟨q,i*5+2,none⟩=some (.int .u64 0)/\w.cell? ⟨q,i*5+3,none⟩=some (.int .u64 0)/\w.cell? ⟨q,i*5+4,none⟩=some (.int .u64 0):=by
 have hc:∀ j,j<5->w.cell? ⟨q,i*5+j,none⟩=(Zdh.enc x)[j]?:=fun j hj=>by
  rw [h.cell,List.getElem?_toArray];exact Zdh.flat_at hx hj
 exact⟨hc 0 ω,hc 1 ω,hc 2 ω,hc 3 ω,hc 4 ω⟩
theorem Zl3 {w:World}{q:Nat}{l:List Rg}(h:Blk w q 114 (Zdh.flat l).toArray){i:Nat}(hi:i<l.length):w.there q (i*5) 5:=fun j hj=>by
 refine⟨?_,h.frozen _⟩;rw [h.cell,List.getElem?_toArray,Option.isSome_iff_exists];have hl:(Zdh.flat l).length=l.length*5:=Zdh.flat_len l;exact⟨_,List.getElem?_eq_getElem ω⟩
section
set_option maxHeartbeats 4000000
set_option maxRecDepth 100000
variable {w0 w:World} {g nr k:Nat} {S:Zgk} {r:Rn} {V:Zd6}
theorem Z6m (d:Nat)(x:Rg)(HS:Zrg w0 S)(hb:Below w0.heap.size w0 w)(hd:d<r.regs.length)(_hl:r.regs.length<=32)(hR:Za0 w w0.heap.size g S r V) :
  Calls Tryz.prog 58 #[.pointer (some ⟨g,0,none⟩),.int .i64 (d:Int),rgV x] w (Zb1 w0.heap.size g S V (Zfz S.C r (d:Int) x) (.tuple #[]) w):=by
 have HR:=Zh hR;have hgw:g<w.heap.size:=hR.blk.lt;have hgB:=hR.hg;obtain⟨q,hvr,hqb,hqB⟩:=hR.regs;have hqw:=hqb.lt;have k0:=hR.blk.k0;have k14:w.cell? ⟨g,14,none⟩=some (.slice (some ⟨q,0,none⟩) r.regs.length r.regs.length):=by rw [<- hvr];exact hR.blk.cell 14
 have hrisc:=HS.risc;have HB0:=Zh (Zad w (.cells #[Zah x.h,.int .u64 (x.on:Int),.int .u64 0,.int .u64 0,.int .u64 0] 114 (0,0)));have HQ:=Zh hqb;have one:=Zo2 x.h;by_cases hz:S.C.risc=true/\(d:Int)=0
 ·have HV:=Zh (show Zfz S.C r (d:Int) x=r from if_pos hz);have ha:S.T.arch=2:=by have:=hrisc.symm.trans hz.1;simpa using this
  obtain⟨_,hz2⟩:=hz;have hd0:d=0:=ω;subst hd0;rw [ha] at k0;go_enter Tryz.func58,Tryz.ntmps58
  go_wp2_with fail
  go_end0
  rw [HV.o];exact⟨_,rfl,HR.o.below HB0.o,HB0.o.mono hb.size,FrV.of_below HB0.o⟩
 ·have HV:=Zh (show Zfz S.C r (d:Int) x={ r with regs:=r.regs.set d x } by unfold Zfz;rw [if_neg hz];simp);have hbs:=hb.size;have c0:=Z40 w #[Zah x.h,.int .u64 (x.on:Int),.int .u64 0,.int .u64 0,.int .u64 0] 114;have hi1:(0:Int)<=(d:Int):=ω;have hi2:(d:Int)<(r.regs.length:Int):=ω;have HBX:=Zh (Blk.new w 114 #[Zah x.h,.int .u64 (x.on:Int),.int .u64 0,.int .u64 0,.int .u64 0]);have HRA:=Zh (HR.o.below HB0.o);have HQA:=Zh (HQ.o.go HB0.o);have hor:d≠0\/(d=0/\S.T.arch≠2):=by
   by_cases h0:d=0
   ·exact Or.inr ⟨h0,fun ha=>hz ⟨by rw [hrisc];simpa using ha,ω⟩⟩
   ·exact Or.inl h0
  have k14a:(w.alloc (.cells #[Zah x.h,.int .u64 (x.on:Int),.int .u64 0,.int .u64 0,.int .u64 0] 114 (0,0))).cell? ⟨g,14,none⟩=some (.slice (some ⟨q,0,none⟩) r.regs.length r.regs.length):=Zac k14 HB0.o;obtain⟨x0,x1,x2,x3,x4⟩:=HBX.o.c5;rcases hor with hd0 | ⟨hd0,ha⟩
  ·have hd1:¬ (d:Int)=0:=ω;go_enter Tryz.func58,Tryz.ntmps58
   go_wp2_with fail
   generalize hw1:w.alloc (.cells #[Zah x.h,.int .u64 (x.on:Int),.int .u64 0,.int .u64 0,.int .u64 0] 114 (0,0))=w1 at *;refine wz (fun y:World=>y.cell? ⟨g,14,none⟩=some (.slice (some ⟨q,0,none⟩) r.regs.length r.regs.length)/\y.cell? ⟨w.heap.size,0,none⟩=some (Zah x.h)/\y.cell? ⟨w.heap.size,1,none⟩=some (.int .u64 (x.on:Int))/\y.cell? ⟨w.heap.size,2,none⟩=some (.int .u64 0)/\y.cell? ⟨w.heap.size,3,none⟩=some (.int .u64 0)/\y.cell? ⟨w.heap.size,4,none⟩=some (.int .u64 0)) [3,5,6] ⟨k14a,x0,x1,x2,x3,x4⟩ (fun hHeld=>?_);refine wq 0 ?_;refine wq 1 ?_;refine wq 2 ?_;refine wq 4 ?_;refine wt 3 (by assumption) ?_;refine wt 5 (by assumption) ?_;refine wt 6 (by assumption) ?_;refine wl 7 ?_;obtain⟨x0',hx0⟩:∃ x0',r.regs[d]?=some x0':=⟨_,List.getElem?_eq_getElem hd⟩;obtain⟨y0,y1,y2,y3,y4⟩:=Zbq (HQA.o.drew) hx0;have HRD:=Zh (HRA.o.drew.reg (x:=x) hd hvr);have HBD:=Zh ((HB0.o.mono hbs).drew);have HTH:=Zh (Zl3 HQA.o.drew hd);refine wpList_store_mid rfl _ _ _ rfl q (d*5) #[Zah x.h,.int .u64 (x.on:Int),.int .u64 0,.int .u64 0,.int .u64 0] rfl rfl HTH.o κ (all_oneCell_toArray (cs:=Zdh.enc x) (Zdh.one x)) ?_;go_end0
   rw [HV.o];refine⟨_,rfl,HRD.o,?_,?_⟩
   ·exact (((((HBD.o.setCell (p:=⟨q,d*5,none⟩) hqB _).setCell (p:=⟨q,d*5+1,none⟩) hqB _).setCell (p:=⟨q,d*5+2,none⟩) hqB _).setCell (p:=⟨q,d*5+3,none⟩) hqB _).setCell (p:=⟨q,d*5+4,none⟩) hqB _)
   exact m_102
  ·subst hd0;have ha1:¬ S.T.arch=2:=ha;go_enter Tryz.func58,Tryz.ntmps58
   go_wp2_with fail
   generalize hw1:w.alloc (.cells #[Zah x.h,.int .u64 (x.on:Int),.int .u64 0,.int .u64 0,.int .u64 0] 114 (0,0))=w1 at *;refine wz (fun y:World=>y.cell? ⟨g,14,none⟩=some (.slice (some ⟨q,0,none⟩) r.regs.length r.regs.length)/\y.cell? ⟨w.heap.size,0,none⟩=some (Zah x.h)/\y.cell? ⟨w.heap.size,1,none⟩=some (.int .u64 (x.on:Int))/\y.cell? ⟨w.heap.size,2,none⟩=some (.int .u64 0)/\y.cell? ⟨w.heap.size,3,none⟩=some (.int .u64 0)/\y.cell? ⟨w.heap.size,4,none⟩=some (.int .u64 0)) [3,5,6] ⟨k14a,x0,x1,x2,x3,x4⟩ (fun hHeld=>?_);refine wq 0 ?_;refine wq 1 ?_;refine wq 2 ?_;refine wq 4 ?_;refine wt 3 (by assumption) ?_;refine wt 5 (by assumption) ?_;refine wt 6 (by assumption) ?_;refine wl 7 ?_;obtain⟨x0',hx0⟩:∃ x0',r.regs[0]?=some x0':=⟨_,List.getElem?_eq_getElem hd⟩;obtain⟨y0,y1,y2,y3,y4⟩:=Zbq (HQA.o.drew) hx0;have HRD:=Zh (HRA.o.drew.reg (x:=x) hd hvr);have HBD:=Zh ((HB0.o.mono hbs).drew);have HTH:=Zh (Zl3 HQA.o.drew hd);refine wpList_store_mid rfl _ _ _ rfl q (0*5) #[Zah x.h,.int .u64 (x.on:Int),.int .u64 0,.int .u64 0,.int .u64 0] rfl rfl HTH.o κ (all_oneCell_toArray (cs:=Zdh.enc x) (Zdh.one x)) ?_;go_end0
   rw [HV.o];refine⟨_,rfl,HRD.o,?_,?_⟩
   ·exact (((((HBD.o.setCell (p:=⟨q,0*5,none⟩) hqB _).setCell (p:=⟨q,0*5+1,none⟩) hqB _).setCell (p:=⟨q,0*5+2,none⟩) hqB _).setCell (p:=⟨q,0*5+3,none⟩) hqB _).setCell (p:=⟨q,0*5+4,none⟩) hqB _)
   exact m_102
end
end
section
def Znl:Zd8->Int
 | .num n=>n
 | _=>0
def Zmy:Zd8->Bool
 | .num _=>true
 | _=>false
def Zs4:Zd8->Nm
 | .adr s=>s
 | _=>[]
def Ztg:Zd8->Bool
 | .adr _=>true
 | _=>false
theorem taN (w:World):∀ h:Zd8,(Instr.typeAssert (Zah h) 112 110 true).run Tryz.prog w=.ok (.tuple #[.int .i64 (Znl h),.bool (Zmy h)]) w
 | .num _=>Zd0 _ w
 | .adr _=>Zdy _ w
 | .rd _=>Zd1 _ w
 | .non=>Zdz _ w
theorem taA (w:World):∀ h:Zd8,(Instr.typeAssert (Zah h) 112 115 true).run Tryz.prog w=.ok (.tuple #[.string ⟨(Zs4 h).toArray⟩,.bool (Ztg h)]) w
 | .num _=>Zid _ w
 | .adr _=>Zib _ w
 | .rd _=>Zie _ w
 | .non=>Zic _ w
def Zcq (B g:Nat)(S:Zgk)(V:Zd6)(r:Rn)(o:Option Rn)(w:World)(e:Ending)(w':World):Prop:=match o with
 | some r'=>Zb1 B g S V r' (.bool true) w e w'
 | none=>Zb1 B g S V r (.bool false) w e w'
theorem Zt1 {C:Cx}{r:Rn}{pl:Nat}{loc:Nm}{on xo:Nat}{n:Int}:Zcj C r pl loc on ⟨.num n,xo⟩=some (Zg6 (Ziv C r pl 2 loc n 0 on) xo r.evs.length):=rfl
section
set_option maxHeartbeats 4000000
set_option maxRecDepth 100000
variable {w0 w:World} {g nr k:Nat} {S:Zgk} {r:Rn} {V:Zd6}
theorem Zxm (pl:Nat)(loc:Nm)(on:Nat)(x:Rg)(HS:Zrg w0 S)(hb:Below w0.heap.size w0 w)(hI:Inv S.C nr k r)(hf:r.full=false)(hR:Za0 w w0.heap.size g S r V)(hloc:loc∈S.C.locs)(hon:Rds r.evs on)(hx:Zil S.C r.evs x) :
  Calls Tryz.prog 56 #[.pointer (some ⟨g,0,none⟩),.int .i64 (pl:Int),.string ⟨loc.toArray⟩,Zt7 on,rgV x] w (Zcq w0.heap.size g S V r (Zcj S.C r pl loc on x) w):=by
 obtain⟨xh,xo⟩:=x;have HR:=Zh hR;have hbs:=hb.size;have HB0:=Zh (Zao w (.cells #[.int .u64 (on:Int),.int .u64 0,.int .u64 0,.int .u64 0] 72 (0,0)) (.cells #[Zah xh,.int .u64 (xo:Int),.int .u64 0,.int .u64 0,.int .u64 0] 114 (0,0)));have HX:=Zh (Zcl w (.cells #[.int .u64 (on:Int),.int .u64 0,.int .u64 0,.int .u64 0] 72 (0,0)) 114 #[Zah xh,.int .u64 (xo:Int),.int .u64 0,.int .u64 0,.int .u64 0]);have HXO:=Zh (hx.2.lt64 (show r.evs.length<=64 by have:=hI.room;omega));have hdl:=hI.data.len;have room:=hI.room;cases xh with
 | num n=>
  rw [Zt1];have q1:=fun w=>taN w (.num n)
  simp only [Znl,Zmy] at q1;have HEV:=Zh (Z0z (w:=(w.alloc (.cells #[.int .u64 (on:Int),.int .u64 0,.int .u64 0,.int .u64 0] 72 (0,0))).alloc (.cells #[Zah (.num n),.int .u64 (xo:Int),.int .u64 0,.int .u64 0,.int .u64 0] 114 (0,0))) pl 2 n 0 loc on HS (hb.trans (HB0.o.mono hbs)) hI (hR.below HB0.o) hloc hon);by_cases hfull:64<=S.C.ahead+r.evs.length
  ·have HV:=Zh (show Zg6 (Ziv S.C r pl 2 loc n 0 on) xo r.evs.length={ r with full:=true } by rw [Zcr hfull];rfl);rw [Zcr hfull] at HEV;rw [HV.o];go_enter Tryz.func56,Tryz.ntmps56
   go_wp2_with (go_at_call 107;refine HEV.o.mono ?_;rintro e w2 ⟨V2,rfl,hR2,hb2,hf2⟩;have HR2:=Zh hR2;have HB2:=Zh hb2;have HF2:=Zh hf2;have k25:w2.cell? ⟨g,25,none⟩=some (.bool true):=hR2.blk.cell 25;clear hR2 hb2 hf2)
   go_ret;exact m_137
  ·have HV:=Zh (show Zg6 (Ziv S.C r pl 2 loc n 0 on) xo r.evs.length={ (Ziv S.C r pl 2 loc n 0 on) with data:=r.data++Zbk xo r.evs.length 64 } by unfold Zg6;rw [Zcs hfull];simp [hf]);have HE25:=Zh (show (Ziv S.C r pl 2 loc n 0 on).full=false by rw [Zcs hfull];exact hf);have HED:=Zh (show (Ziv S.C r pl 2 loc n 0 on).data=r.data by rw [Zcs hfull]);rw [if_neg hfull] at HEV;rw [HV.o];obtain⟨r1,hr1⟩:∃ r1,Ziv S.C r pl 2 loc n 0 on=r1:=⟨_,rfl⟩;rw [hr1] at HEV HV HE25 HED ⊢;have HNM:=Zh (show ¬ Zrf g V (w.heap.size+1) from fun hm=>by have:=(HR.o.mine hm).1;omega);have hgB:=HR.o.hg;go_enter Tryz.func56,Tryz.ntmps56
   go_wp2_with (go_at_call 107;refine HEV.o.mono ?_;rintro e w2 ⟨V2,rfl,hR2,hb2,hf2⟩;have HX2:=Zh (HX.o.frv hf2 HNM.o);have HR2:=Zh hR2;have HB2:=Zh ((HB0.o.mono hbs).trans hb2);have HF2:=Zh ((FrV.of_below (g:=g) (V:=V) HB0.o).trans hf2);have k25:w2.cell? ⟨g,25,none⟩=some (.bool r1.full):=hR2.blk.cell 25;rw [HE25.o] at k25;clear hR2 hb2 hf2)
   have hz2:=HB2.o.size;obtain⟨v1,v2,v3,v4,vda,v6⟩:=V2;obtain⟨Ad,cd,hvd⟩:=HR2.o.data.shp;simp only at hvd;subst hvd;have k22:w2.cell? ⟨g,22,none⟩=some (.slice Ad r1.data.length cd):=HR2.o.blk.cell 22;obtain⟨-,o0,o1,o2,o3⟩:=HX2.o.c5;refine wz (fun y:World=>y.cell? ⟨g,22,none⟩=some (.slice Ad r1.data.length cd)/\y.cell? ⟨w.heap.size+1,1,none⟩=some (.int .u64 (xo:Int))/\y.cell? ⟨w.heap.size+1,2,none⟩=some (.int .u64 0)/\y.cell? ⟨w.heap.size+1,3,none⟩=some (.int .u64 0)/\y.cell? ⟨w.heap.size+1,4,none⟩=some (.int .u64 0)) [4,6] ⟨k22,o0,o1,o2,o3⟩ (fun hHeld=>?_);refine wq 0 ?_;refine wq 1 ?_;refine wq 2 ?_;refine wq 3 ?_;refine wq 5 ?_;refine wq 7 ?_;refine wt 4 (by assumption) ?_;refine wt 6 (by assumption) ?_;refine wl 8 ?_;have HRd:=Zh HR2.o.drew;have HBd:=Zh HB2.o.drew;have HFd:=Zh HF2.o.drew;have HOA:=Zh HRd.o.data;have hrl:r1.data.length<=1000000:=by rw [HED.o];omega
   generalize hwd:w2.drew=wd at *;have hzd:=HBd.o.size
   go_wp2_with (go_at_call 108;refine (Zwo _ r1.data xo r.evs.length w0.heap.size _ HXO.o hrl ω HOA.o).mono ?_;rintro e w6 ⟨v',rfl,hown6,hg6⟩;obtain⟨A6,n6,c6,rfl⟩:=Zb8 hown6;have HO6:=Zh hown6;have HG6:=Zh hg6;have HB6:=Zh (Zat HRd.o.blk HOA.o (by decide) hg6);clear hown6 hg6;have k22:w6.cell? ⟨g,22,none⟩=some (.slice Ad r1.data.length cd):=HB6.o.cell 22;have f22:=HB6.o.frozen 22)
   have HR7:=Zh (HRd.o.da HG6.o HO6.o);go_ret;rw [<- HED.o];exact⟨_,rfl,HR7.o,(HBd.o.trans HG6.o.below).setCell (p:=⟨g,22,none⟩) hgB _,HFd.o.trans (FrV.da HG6.o)⟩
 | adr s=>
  have q1:=fun w=>taN w (.adr s)
  exact m_83
 | rd i=>
  have q1:=fun w=>taN w (.rd i)
  exact m_83
 | non=>
  have q1:=fun w=>taN w .non
  exact m_83
end
end
section
set_option maxHeartbeats 4000000
set_option maxRecDepth 100000
variable {w0 w:World} {g nr k:Nat} {S:Zgk} {r:Rn} {V:Zd6}
theorem Z5v (pl:Nat)(loc:Nm)(on d:Nat)(HS:Zrg w0 S)(hb:Below w0.heap.size w0 w)(hI:Inv S.C nr k r)(hf:r.full=false)(hR:Za0 w w0.heap.size g S r V)(hloc:loc∈S.C.locs)(hon:Rds r.evs on)(hd:d<r.regs.length)(hl:r.regs.length<=32) :
  Calls Tryz.prog 57 #[.pointer (some ⟨g,0,none⟩),.int .i64 (pl:Int),.string ⟨loc.toArray⟩,Zt7 on,.int .i64 (d:Int)] w (Zb1 w0.heap.size g S V (Zej S.C r pl loc on (d:Int)) (.tuple #[]) w):=by
 have HR:=Zh hR;have hbs:=hb.size;have HB0:=Zh (Zad w (.cells #[.int .u64 (on:Int),.int .u64 0,.int .u64 0,.int .u64 0] 72 (0,0)));have room:=hI.room;have HEV:=Zh (Z0z (w:=w.alloc (.cells #[.int .u64 (on:Int),.int .u64 0,.int .u64 0,.int .u64 0] 72 (0,0))) pl 1 0 (d:Int) loc on HS (hb.trans (HB0.o.mono hbs)) hI (hR.below HB0.o) hloc hon);by_cases hfull:64<=S.C.ahead+r.evs.length
 ·have HV:=Zh (show Zej S.C r pl loc on (d:Int)={ r with full:=true } by unfold Zej;rw [Zcr hfull];rfl);rw [Zcr hfull] at HEV;rw [HV.o];go_enter Tryz.func57,Tryz.ntmps57
  go_wp2_with (go_at_call 107;refine HEV.o.mono ?_;rintro e w2 ⟨V2,rfl,hR2,hb2,hf2⟩;have HR2:=Zh hR2;have HB2:=Zh hb2;have HF2:=Zh hf2;have k25:w2.cell? ⟨g,25,none⟩=some (.bool true):=hR2.blk.cell 25;clear hR2 hb2 hf2)
  go_end0
  exact m_137
 ·obtain⟨r1,hr1⟩:∃ r1,Ziv S.C r pl 1 loc 0 (d:Int) on=r1:=⟨_,rfl⟩;have HE25:=Zh (show r1.full=false by rw [<- hr1,Zcs hfull];exact hf);have HREG:=Zh (show r1.regs=r.regs by rw [<- hr1,Zcs hfull]);have HV:=Zh (show Zej S.C r pl loc on (d:Int)=Zfz S.C r1 (d:Int) ⟨.rd r.evs.length,2 ^ r.evs.length⟩ by unfold Zej;rw [hr1,HE25.o];rfl);rw [if_neg hfull,hr1] at HEV;rw [HV.o];have HPUT:=Zh (fun (w:World) (V:Zd6)=>Z6m (w:=w) (V:=V) (g:=g) (r:=r1) d ⟨.rd r.evs.length,2 ^ r.evs.length⟩ HS);have hd1:d<r1.regs.length:=by rw [HREG.o];exact hd
  have hl1:r1.regs.length<=32:=by rw [HREG.o];exact hl
  have HB00:=Zh hb;have HWI:=Zh (fun (w:World)=>Z7k 0 r.evs.length w ω ω);have hz0:(0:Nat)|||2 ^ r.evs.length=2 ^ r.evs.length:=Nat.zero_or _
  rw [hz0] at HWI;go_enter Tryz.func57,Tryz.ntmps57
  go_wp2_with (first
   | (go_at_call 107;refine HEV.o.mono ?_;rintro e w2 ⟨V2,rfl,hR2,hb2,hf2⟩;have HR2:=Zh hR2;have HB2:=Zh ((HB0.o.mono hbs).trans hb2);have HF2:=Zh ((FrV.of_below (g:=g) (V:=V) HB0.o).trans hf2);have k25:w2.cell? ⟨g,25,none⟩=some (.bool r1.full):=hR2.blk.cell 25;rw [HE25.o] at k25;clear hR2 hb2 hf2)
   | (go_at_call 109;refine (HWI.o _).mono ?_;rintro e w3 ⟨rfl,hb3⟩;have HB3:=Zh (HB2.o.trans (hb3.mono (show w0.heap.size<=w2.heap.size from Nat.le_trans hbs HB2.o.size)));have HR3:=Zh (HR2.o.below hb3);have HF3:=Zh (HF2.o.trans (FrV.of_below hb3));clear hb3)
   | (go_at_call 58;refine (HPUT.o _ _ (HB00.o.trans HB3.o) hd1 hl1 HR3.o).mono ?_;rintro e w4 ⟨V4,rfl,hR4,hb4,hf4⟩;have HR4:=Zh hR4;have HB4:=Zh (HB3.o.trans hb4);have HF4:=Zh (HF3.o.trans hf4);clear hR4 hb4 hf4))
  go_end0
  exact⟨_,rfl,HR4.o,HB4.o,HF4.o⟩
end
end Go.Proofs.YtdfmcfppoohckaaGreatDoor
