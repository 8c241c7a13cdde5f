/- Layer 15: the runner's write and read: the program's. -/
import Derived.Test.YtgjefdaaihgliaaGreatDoorMn18

namespace Go.Proofs.YtgjefdaaihgliaaGreatDoor
open Go.RowKit
section
def Zne:Zeb->Int
 | .num n=>n
 | _=>0
def Zmr:Zeb->Bool
 | .num _=>true
 | _=>false
def Zsc:Zeb->Nm
 | .adr s=>s
 | _=>[]
def Zss:Zeb->Bool
 | .adr _=>true
 | _=>false
theorem taN (w:World):∀ h:Zeb,(Instr.typeAssert (Zai h) 161 159 true).run Tryz.prog w=.ok (.tuple #[.int .i64 (Zne h),.bool (Zmr h)]) w
 | .num _=>Zew _ w
 | .adr _=>Zev _ w
 | .rd _=>Zex _ w
 | .non=>Zff _ w
theorem taA (w:World):∀ h:Zeb,(Instr.typeAssert (Zai h) 161 164 true).run Tryz.prog w=.ok (.tuple #[.string ⟨(Zsc h).toArray⟩,.bool (Zss h)]) w
 | .num _=>Z00 _ w
 | .adr _=>Zl2 _ w
 | .rd _=>Zl4 _ w
 | .non=>Zl3 _ w
def Zcv (B g:Nat)(S:Zgk)(V:Zd8)(r:Rn)(o:Option Rn)(w:World)(e:Ending)(w':World):Prop:=match o with
 | some r'=>Zb4 B g S V r' (.bool true) w e w'
 | none=>Zb4 B g S V r (.bool false) w e w'
theorem Ztd {C:Cx}{r:Rn}{pl:Nat}{loc:Nm}{on xo:Nat}{n:Int}:Zcz C r pl loc on ⟨.num n,xo⟩=some (Zi4 (Zi5 C r pl 2 loc n 0 on) xo r.evs.length):=rfl
section
set_option maxHeartbeats 4000000
set_option maxRecDepth 100000
variable {w0 w:World} {g nr k:Nat} {S:Zgk} {r:Rn} {V:Zd8}
theorem Zxa (pl:Nat)(loc:Nm)(on:Nat)(x:Rg)(HS:Zqx w0 S)(hb:Below w0.heap.size w0 w)(hI:Inv S.C nr k r)(hf:r.full=false)(hR:Za7 w w0.heap.size g S r V)(hloc:loc∈S.C.locs)(hon:Rds r.evs on)(hx:Zid S.C r.evs x) :
  Calls Tryz.prog 72 #[.pointer (some ⟨g,0,none⟩),.int .i64 (pl:Int),.string ⟨loc.toArray⟩,Ztl on,rgV x] w (Zcv w0.heap.size g S V r (Zcz S.C r pl loc on x) w):=by
 obtain⟨xh,xo⟩:=x;have HR:=Zh hR;have hbs:=hb.size;have HB0:=Zh (Zau w (.cells #[.int .u64 (on:Int),.int .u64 0,.int .u64 0,.int .u64 0] 126 (0,0)) (.cells #[Zai xh,.int .u64 (xo:Int),.int .u64 0,.int .u64 0,.int .u64 0] 163 (0,0)));have HX:=Zh (Zd9 w (.cells #[.int .u64 (on:Int),.int .u64 0,.int .u64 0,.int .u64 0] 126 (0,0)) 163 #[Zai xh,.int .u64 (xo:Int),.int .u64 0,.int .u64 0,.int .u64 0]);have HXO:=Zh (hx.2.lt64 (show r.evs.length<=64 by have:=hI.room;omega));have hdl:=hI.data.len;cases xh with
 | num n=>
  rw [Ztd];have q1:=fun w=>taN w (.num n)
  simp only [Zne,Zmr] at q1;have HEV:=Zh (Z0h (w:=(w.alloc (.cells #[.int .u64 (on:Int),.int .u64 0,.int .u64 0,.int .u64 0] 126 (0,0))).alloc (.cells #[Zai (.num n),.int .u64 (xo:Int),.int .u64 0,.int .u64 0,.int .u64 0] 163 (0,0))) pl 2 n 0 loc on HS (hb.trans (HB0.o.mono hbs)) hI (hR.below HB0.o) hloc hon);by_cases hfull:64<=S.C.ahead+r.evs.length
  ·have HV:=Zh (show Zi4 (Zi5 S.C r pl 2 loc n 0 on) xo r.evs.length={ r with full:=true } by rw [Zc7 hfull];rfl);rw [Zc7 hfull] at HEV;rw [HV.o];go_enter Tryz.func72,Tryz.ntmps72
   go_wp2_with (go_at_call 122;refine HEV.o.mono ?_;rintro e w2 ⟨V2,rfl,hR2,hb2,hf2⟩;have HR2:=Zh hR2;have HB2:=Zh hb2;have HF2:=Zh hf2;have k25:w2.cell? ⟨g,25,none⟩=some (.bool true):=hR2.blk.cell 25;clear hR2 hb2 hf2)
   go_ret;exact m_101
  ·have HV:=Zh (show Zi4 (Zi5 S.C r pl 2 loc n 0 on) xo r.evs.length={ (Zi5 S.C r pl 2 loc n 0 on) with data:=r.data++Zbm xo r.evs.length 64 } by unfold Zi4;rw [Zc8 hfull];simp [hf]);have HE25:=Zh (show (Zi5 S.C r pl 2 loc n 0 on).full=false by rw [Zc8 hfull];exact hf);have HED:=Zh (show (Zi5 S.C r pl 2 loc n 0 on).data=r.data by rw [Zc8 hfull]);rw [if_neg hfull] at HEV;rw [HV.o];obtain⟨r1,hr1⟩:∃ r1,Zi5 S.C r pl 2 loc n 0 on=r1:=⟨_,rfl⟩;rw [hr1] at HEV HV HE25 HED ⊢;have HNM:=Zh (show ¬ Zqw g V (w.heap.size+1) from fun hm=>by have:=(HR.o.mine hm).1;omega);have hgB:=HR.o.hg;go_enter Tryz.func72,Tryz.ntmps72
   go_wp2_with (go_at_call 122;refine HEV.o.mono ?_;rintro e w2 ⟨V2,rfl,hR2,hb2,hf2⟩;have HX2:=Zh (HX.o.frv hf2 HNM.o);have HR2:=Zh hR2;have HB2:=Zh ((HB0.o.mono hbs).trans hb2);have HF2:=Zh ((FrV.of_below (g:=g) (V:=V) HB0.o).trans hf2);have k25:w2.cell? ⟨g,25,none⟩=some (.bool r1.full):=hR2.blk.cell 25;rw [HE25.o] at k25;clear hR2 hb2 hf2)
   obtain⟨v1,v2,v3,v4,vda,v6⟩:=V2;obtain⟨Ad,cd,hvd⟩:=HR2.o.data.shp;simp only at hvd;subst hvd;have k22:w2.cell? ⟨g,22,none⟩=some (.slice Ad r1.data.length cd):=HR2.o.blk.cell 22;obtain⟨-,o0,o1,o2,o3⟩:=HX2.o.c5;refine wz (fun y:World=>y.cell? ⟨g,22,none⟩=some (.slice Ad r1.data.length cd)/\y.cell? ⟨w.heap.size+1,1,none⟩=some (.int .u64 (xo:Int))/\y.cell? ⟨w.heap.size+1,2,none⟩=some (.int .u64 0)/\y.cell? ⟨w.heap.size+1,3,none⟩=some (.int .u64 0)/\y.cell? ⟨w.heap.size+1,4,none⟩=some (.int .u64 0)) [4,6] ⟨k22,o0,o1,o2,o3⟩ (fun hHeld=>?_);refine wq 0 ?_;refine wq 1 ?_;refine wq 2 ?_;refine wq 3 ?_;refine wq 5 ?_;refine wq 7 ?_;refine wt 4 (by assumption) ?_;refine wt 6 (by assumption) ?_;refine wl 8 ?_;have HRd:=Zh HR2.o.drew;have HBd:=Zh HB2.o.drew;have HFd:=Zh HF2.o.drew;have HOA:=Zh HRd.o.data;have hrl:r1.data.length<=1000000:=by rw [HED.o];omega
   generalize hwd:w2.drew=wd at *;have hzd:=HBd.o.size
   go_wp2_with (go_at_call 123;refine (Zv8 _ r1.data xo r.evs.length w0.heap.size _ HXO.o hrl ω HOA.o).mono ?_;rintro e w6 ⟨v',rfl,hown6,hg6⟩;obtain⟨A6,n6,c6,rfl⟩:=Zav hown6;have HO6:=Zh hown6;have HG6:=Zh hg6;have HB6:=Zh (Zax HRd.o.blk HOA.o (by decide) hg6);clear hown6 hg6;have k22:w6.cell? ⟨g,22,none⟩=some (.slice Ad r1.data.length cd):=HB6.o.cell 22;have f22:=HB6.o.frozen 22)
   have HR7:=Zh (HRd.o.da HG6.o HO6.o);go_ret;rw [<- HED.o];exact⟨_,rfl,HR7.o,(HBd.o.trans HG6.o.below).setCell (p:=⟨g,22,none⟩) hgB _,HFd.o.trans (FrV.da HG6.o)⟩
 | adr s=>
  have q1:=fun w=>taN w (.adr s)
  exact m_50
 | rd i=>
  have q1:=fun w=>taN w (.rd i)
  exact m_50
 | non=>
  have q1:=fun w=>taN w .non
  exact m_50
end
end
section
set_option maxHeartbeats 4000000
set_option maxRecDepth 100000
variable {w0 w:World} {g nr k:Nat} {S:Zgk} {r:Rn} {V:Zd8}
theorem Z58 (pl:Nat)(loc:Nm)(on d:Nat)(HS:Zqx w0 S)(hb:Below w0.heap.size w0 w)(hI:Inv S.C nr k r)(hf:r.full=false)(hR:Za7 w w0.heap.size g S r V)(hloc:loc∈S.C.locs)(hon:Rds r.evs on)(hd:d<r.regs.length)(hl:r.regs.length<=32) :
  Calls Tryz.prog 73 #[.pointer (some ⟨g,0,none⟩),.int .i64 (pl:Int),.string ⟨loc.toArray⟩,Ztl on,.int .i64 (d:Int)] w (Zb4 w0.heap.size g S V (Zfd S.C r pl loc on (d:Int)) (.tuple #[]) w):=by
 have hbs:=hb.size;have HB0:=Zh (Zad w (.cells #[.int .u64 (on:Int),.int .u64 0,.int .u64 0,.int .u64 0] 126 (0,0)));have HEV:=Zh (Z0h (w:=w.alloc (.cells #[.int .u64 (on:Int),.int .u64 0,.int .u64 0,.int .u64 0] 126 (0,0))) pl 1 0 (d:Int) loc on HS (hb.trans (HB0.o.mono hbs)) hI (hR.below HB0.o) hloc hon);by_cases hfull:64<=S.C.ahead+r.evs.length
 ·have HV:=Zh (show Zfd S.C r pl loc on (d:Int)={ r with full:=true } by unfold Zfd;rw [Zc7 hfull];rfl);rw [Zc7 hfull] at HEV;rw [HV.o];go_enter Tryz.func73,Tryz.ntmps73
  go_wp2_with (go_at_call 122;refine HEV.o.mono ?_;rintro e w2 ⟨V2,rfl,hR2,hb2,hf2⟩;have HR2:=Zh hR2;have HB2:=Zh hb2;have HF2:=Zh hf2;have k25:w2.cell? ⟨g,25,none⟩=some (.bool true):=hR2.blk.cell 25;clear hR2 hb2 hf2)
  go_end0
  exact m_101
 ·obtain⟨r1,hr1⟩:∃ r1,Zi5 S.C r pl 1 loc 0 (d:Int) on=r1:=⟨_,rfl⟩;have HE25:=Zh (show r1.full=false by rw [<- hr1,Zc8 hfull];exact hf);have HREG:=Zh (show r1.regs=r.regs by rw [<- hr1,Zc8 hfull]);have HV:=Zh (show Zfd S.C r pl loc on (d:Int)=Zg1 S.C r1 (d:Int) ⟨.rd r.evs.length,2 ^ r.evs.length⟩ by unfold Zfd;rw [hr1,HE25.o];rfl);rw [if_neg hfull,hr1] at HEV;rw [HV.o];have HPUT:=Zh (fun (w:World) (V:Zd8)=>Z7a (w:=w) (V:=V) (g:=g) (r:=r1) d ⟨.rd r.evs.length,2 ^ r.evs.length⟩ HS);have hd1:d<r1.regs.length:=by rw [HREG.o];exact hd
  have hl1:r1.regs.length<=32:=by rw [HREG.o];exact hl
  have HB00:=Zh hb;have HWI:=Zh (fun (w:World)=>Z8o 0 r.evs.length w ω ω);have hz0:(0:Nat)|||2 ^ r.evs.length=2 ^ r.evs.length:=Nat.zero_or _
  rw [hz0] at HWI;go_enter Tryz.func73,Tryz.ntmps73
  go_wp2_with (first
   | (go_at_call 122;refine HEV.o.mono ?_;rintro e w2 ⟨V2,rfl,hR2,hb2,hf2⟩;have HR2:=Zh hR2;have HB2:=Zh ((HB0.o.mono hbs).trans hb2);have HF2:=Zh ((FrV.of_below (g:=g) (V:=V) HB0.o).trans hf2);have k25:w2.cell? ⟨g,25,none⟩=some (.bool r1.full):=hR2.blk.cell 25;rw [HE25.o] at k25;clear hR2 hb2 hf2)
   | (go_at_call 124;refine (HWI.o _).mono ?_;rintro e w3 ⟨rfl,hb3⟩;have HB3:=Zh (HB2.o.trans (hb3.mono (show w0.heap.size<=w2.heap.size from Nat.le_trans hbs HB2.o.size)));have HR3:=Zh (HR2.o.below hb3);have HF3:=Zh (HF2.o.trans (FrV.of_below hb3));clear hb3)
   | (go_at_call 74;refine (HPUT.o _ _ (HB00.o.trans HB3.o) hd1 hl1 HR3.o).mono ?_;rintro e w4 ⟨V4,rfl,hR4,hb4,hf4⟩;have HR4:=Zh hR4;have HB4:=Zh (HB3.o.trans hb4);have HF4:=Zh (HF3.o.trans hf4);clear hR4 hb4 hf4))
  go_end0
  exact⟨_,rfl,HR4.o,HB4.o,HF4.o⟩
end
end Go.Proofs.YtgjefdaaihgliaaGreatDoor
