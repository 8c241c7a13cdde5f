/- Layer 15: the runner's run: the program's. -/
import Derived.Test.YtgjefdaaihgliaaGreatDoorMn37

namespace Go.Proofs.YtgjefdaaihgliaaGreatDoor
open Go.RowKit
section
theorem Z0b (w:World)(a b c:Int):Zoe.At (w.alloc (.cells #[.int .i64 a,.int .i64 b,.int .i64 c] 169 (0,0))) (some ⟨w.heap.size,0,none⟩) [⟨a,b,c⟩]:=by
 have hB:=Blk.new w 169 #[.int .i64 a,.int .i64 b,.int .i64 c];intro i x hx;refine⟨w.heap.size,0,rfl,fun j u hj=>?_⟩
 match i,hx with
 | 0,hx=>
  simp at hx;subst hx;rw [show 0+0*Zoe.size+j=j by omega,hB.cell];rw [<- hj];simp
section
set_option maxHeartbeats 40000000
set_option maxRecDepth 100000
variable {w0 w:World} {g nr:Nat} {S:Zgk} {r:Rn} {V:Zd8}
theorem Z9l (c:List Ins)(HS:Zqx w0 S)(hb:Below w0.heap.size w0 w)(hc:S.T.code[S.C.th]?=some c)(hval:∀ k x,c[k]?=some x->Zpw S.C nr c k x)(hcl:c.length<=256)(hI:Inv S.C nr 0 r)(hR:Za7 w w0.heap.size g S r V)(hnr:nr<=32) :
  Calls Tryz.prog 45 #[.pointer (some ⟨g,0,none⟩)] w (Zhg w0.heap.size g S V (goL S.C c 0 r) w):=by
 obtain⟨X,hX⟩:∃ X,goL S.C c 0 r=X:=⟨_,rfl⟩;have HRN0:=Zh (show Rnd w0 w g nr S c X V 0 r V w from⟨hI,hR,hX,Below.refl _ _,FrV.refl _ _ _⟩);rw [hX];have HB00:=Zh hb;have hbs:=hb.size;have HVAL:=Zh hval;have HSS:=Zh HS;obtain⟨Ai,Ac,ci,cc,hiv,hcv,hT⟩:=HS.tst;obtain⟨b,o,A2,c2,rfl,hcc0,hins,hl1,hl2⟩:=hT.code _ _ hc;have hcc:=Zac hcc0 hb;have k4:w.cell? ⟨g,4,none⟩=some (.slice (some ⟨b,o,none⟩) S.T.code.length cc):=by rw [<- hcv];exact hR.blk.cell 4
 have k12:=hR.blk.cm 12;have hth:=(List.getElem?_eq_some_iff.1 hc).1;have hi1:(0:Int)<=(S.C.th:Int):=ω;have hi2:(S.C.th:Int)<(S.T.code.length:Int):=ω;have d4:=Zc9 k4;have d12:=Zc9 k12;have dcc:=Zc9 hcc;have HC0:=Zh (show Zcj w0 A2 c from hins);clear hX hI hR hval HS hT hins hc hiv hcv hb hcc0;go_enter Tryz.func45,Tryz.ntmps45
 go_wp2_with fail
 refine Zh3 κ κ ?_
 repeat still_step
 refine wpStill_nil ?_
 go_wp2_with fail
 have HR0:=Zh (show Rnd w0 w g nr S c X V 0 r V w.drew from⟨HRN0.o.inv,HRN0.o.run.drew,HRN0.o.go,HRN0.o.below.drew,HRN0.o.fr.drew⟩);clear HRN0 d4 d12 dcc k4 k12 hcc;go_loopw [4] (fun v wr=>∃ (k:Nat) (r1:Rn) (V1:Zd8),v=.int .i64 k/\Rnd w0 w g nr S c X V k r1 V1 wr) (fun v _=>c.length - (intOf v).toNat)
 case atStart=>exact⟨0,r,V,rfl,HR0.o⟩
 case round=>
  obtain⟨k,r1,V1,rfl,hrn⟩:=hrel;have HRN:=Zh hrn;have hbw:=hrn.below.size;have hbs2:w0.heap.size<=wr.heap.size:=Nat.le_trans hbs hbw;have HBW:=Zh (HB00.o.trans hrn.below);have HCR:=Zh (HC0.o.below HBW.o);have k25:=hrn.run.blk.cm 25;clear hrn HR0;by_cases hk:k<c.length
  ·have hki:(k:Int)<(c.length:Int):=ω;have hki0:(0:Int)<=(k:Int):=ω;cases hf:r1.full with
   | true=>
    rw [hf] at k25;have HV:=Zh (show X=some r1 by rw [<- HRN.o.go,Zje hf]);clear hf;exact m_99
   | false=>
    rw [hf] at k25;have HF:=Zh hf;have HKL:=Zh hk;obtain⟨x,hx⟩:∃ x,c[k]?=some x:=⟨_,List.getElem?_eq_getElem hk⟩;have hv:=HVAL.o k x hx;obtain⟨op,d,a,b2,imm,loc,label,fence⟩:=x;obtain⟨kd,rfl⟩:=Int.eq_ofNat_of_zero_le hv.d.1;obtain⟨ka,rfl⟩:=Int.eq_ofNat_of_zero_le hv.a.1;obtain⟨kb,rfl⟩:=Int.eq_ofNat_of_zero_le hv.b.1;have HX:=Zh hx;have HV:=Zh hv;have hrl:=HRN.o.inv.rlen;have hd1:kd<r1.regs.length:=by have:=hv.d.2;simp only at this;omega
    have ha1:ka<r1.regs.length:=by have:=hv.a.2;simp only at this;omega
    have hb1:kb<r1.regs.length:=by have:=hv.b.2;simp only at this;omega
    have hl1':r1.regs.length<=32:=ω;have hop:=hv.op;simp only at hop;obtain⟨b',o',rfl,c0,c1,c2',c3,c4,c5,c6,c7⟩:=HCR.o.cells hx;simp only at c0 c1 c2' c3 c4 c5 c6 c7;have HB1:=Zh (Zad wr (.cells #[.int .i64 op,.int .i64 (kd:Int),.int .i64 (ka:Int),.int .i64 (kb:Int),.int .i64 imm,.string ⟨loc.toArray⟩,.string ⟨label.toArray⟩,.int .i64 fence] 92 (0,0)));have HBI:=Zh (Blk.new wr 92 #[.int .i64 op,.int .i64 (kd:Int),.int .i64 (ka:Int),.int .i64 (kb:Int),.int .i64 imm,.string ⟨loc.toArray⟩,.string ⟨label.toArray⟩,.int .i64 fence]);have HR1:=Zh (HRN.o.run.below HB1.o);have HBC:=Zh (HBW.o.trans (HB1.o.mono hbs2));have hloc:=hv.loc;have himm:=hv.imm;have hlab:=hv.lab;have hfen:=hv.fen;simp only at hloc himm hlab hfen;have HLOC:=Zh hloc;have HLAB:=Zh hlab;clear hx hv hf hk hloc hlab HVAL;have h13:op=1\/op=2\/op=3\/op=4\/op=5\/op=6\/op=7\/op=8\/op=9\/op=10\/op=11\/op=12\/op=13:=ω;clear hop;rcases h13 with rfl | rfl | rfl | rfl | rfl | rfl | rfl | rfl | rfl | rfl | rfl | rfl | rfl
    ·have HWR:=Zh (fun (w:World) (hb:Below w0.heap.size w0 w) (hR:Za7 w w0.heap.size g S r1 V1)=>Z3x (w:=w) k loc imm HSS.o hb HRN.o.inv HF.o hR (HLOC.o ω) himm);cases hw:Zcz S.C r1 k loc 0 ⟨.num imm,0⟩ with
     | none=>
      have HW:=Zh (fun (w:World) (hb:Below w0.heap.size w0 w) (hR:Za7 w w0.heap.size g S r1 V1)=>by have:=HWR.o w hb hR;rw [hw] at this;exact this);have HS0:=Zh (show Zbn S.C r1 c k ⟨1,(kd:Int),(ka:Int),(kb:Int),imm,loc,label,fence⟩=none by rw [Z0w,hw];rfl);clear hw HWR
      go_wp2_with (go_at_call 72;refine (HW.o _ HBC.o HR1.o).mono ?_;rintro e w8 ⟨V8,rfl,hR8,hb8,hf8⟩;have HR8:=Zh hR8;have HB8:=Zh hb8;have HF8:=Zh hf8;clear hR8 hb8 hf8)
      exact m_93
     | some r2=>
      have HW:=Zh (fun (w:World) (hb:Below w0.heap.size w0 w) (hR:Za7 w w0.heap.size g S r1 V1)=>by have:=HWR.o w hb hR;rw [hw] at this;exact this);have HS0:=Zh (show Zbn S.C r1 c k ⟨1,(kd:Int),(ka:Int),(kb:Int),imm,loc,label,fence⟩=some (r2,k+1) by rw [Z0w,hw];rfl);clear hw HWR
      go_wp2_with (go_at_call 72;refine (HW.o _ HBC.o HR1.o).mono ?_;rintro e w8 ⟨V8,rfl,hR8,hb8,hf8⟩;have HR8:=Zh hR8;have HB8:=Zh hb8;have HF8:=Zh hf8;clear hR8 hb8 hf8)
      go_roundw
      case rel=>exact⟨k+1,_,_,by go_num,HRN.o.step HX.o HF.o HV.o HS0.o HR8.o ((HB1.o.mono hbs2).trans HB8.o) ((FrV.of_below HB1.o).trans HF8.o)⟩
      case measure=>have hkl:=HKL.o;simp [intOf];omega
    ·have hae:=List.getElem?_eq_getElem ha1;obtain⟨ra,hra⟩:∃ x,r1.regs[ka]=x:=⟨_,rfl⟩;rw [hra] at hae;have hga:=Zhz hae;have HWR:=Zh (fun (w:World) (hb:Below w0.heap.size w0 w) (hR:Za7 w w0.heap.size g S r1 V1)=>Z3w (w:=w) k loc ra HSS.o hb HRN.o.inv HF.o hR (HLOC.o ω) (HRN.o.inv.regs ra (List.mem_of_getElem? hae)));obtain⟨q,hvr,hqb,hqB⟩:=HR1.o.regs;have HQ:=Zh hqb;have hi5:(0:Int)<=(ka:Int):=ω;have hi6:(ka:Int)<(r1.regs.length:Int):=ω;have HAE:=Zh hae;have HGA:=Zh hga;have hgw:g<(wr.alloc (.cells #[.int .i64 2,.int .i64 (kd:Int),.int .i64 (ka:Int),.int .i64 (kb:Int),.int .i64 imm,.string ⟨loc.toArray⟩,.string ⟨label.toArray⟩,.int .i64 fence] 92 (0,0))).heap.size:=HR1.o.blk.lt;have hqw:q<(wr.alloc (.cells #[.int .i64 2,.int .i64 (kd:Int),.int .i64 (ka:Int),.int .i64 (kb:Int),.int .i64 imm,.string ⟨loc.toArray⟩,.string ⟨label.toArray⟩,.int .i64 fence] 92 (0,0))).heap.size:=hqb.lt;clear hra hqb hae hga hrl
     go_wp2_with fail
     generalize hw1:(wr.alloc (.cells #[.int .i64 2,.int .i64 (kd:Int),.int .i64 (ka:Int),.int .i64 (kb:Int),.int .i64 imm,.string ⟨loc.toArray⟩,.string ⟨label.toArray⟩,.int .i64 fence] 92 (0,0)))=w1 at *;clear hw1;have i2:=HBI.o.cm 2;have i5:=HBI.o.cm 5;have k14:w1.cell? ⟨g,14,none⟩=some (.slice (some ⟨q,0,none⟩) r1.regs.length r1.regs.length):=by rw [<- hvr];exact HR1.o.blk.cell 14
     obtain⟨e0,e1,e2,e3,e4⟩:=Zb0 HQ.o HAE.o;refine wz (fun y:World=>(y.cell? ⟨wr.heap.size,2,none⟩=some (.int .i64 (ka:Int))/\y.cell? ⟨wr.heap.size,5,none⟩=some (.string ⟨loc.toArray⟩))/\y.cell? ⟨g,14,none⟩=some (.slice (some ⟨q,0,none⟩) r1.regs.length r1.regs.length)/\y.cell? ⟨q,ka*5,none⟩=some (Zai ra.h)/\y.cell? ⟨q,ka*5+1,none⟩=some (.int .u64 (ra.on:Int))/\y.cell? ⟨q,ka*5+2,none⟩=some (.int .u64 0)/\y.cell? ⟨q,ka*5+3,none⟩=some (.int .u64 0)/\y.cell? ⟨q,ka*5+4,none⟩=some (.int .u64 0)) [3,8,10,11,12] ⟨⟨i2,i5⟩,k14,e0,e1,e2,e3,e4⟩ (fun hHeld=>?_);refine wq 0 ?_;refine wq 1 ?_;refine wq 2 ?_;refine wq 4 ?_;refine wq 5 ?_;refine wq 6 ?_;refine wq 7 ?_;refine wq 9 ?_;refine wt 3 (by assumption) ?_;refine wt 8 (by assumption) ?_;refine wt 10 (by assumption) ?_;refine wt 11 (by assumption) ?_;refine wt 12 (by assumption) ?_;refine wl 13 ?_;have HB1D:=Zh HB1.o.drew;have HRD:=Zh HR1.o.drew;have HBD:=Zh (HBC.o.drew);clear hHeld i2 i5 k14 e0 e1 e2 e3 e4;cases hw:Zcz S.C r1 k loc 0 ra with
     | none=>
      have HW:=Zh (fun (w:World) (hb:Below w0.heap.size w0 w) (hR:Za7 w w0.heap.size g S r1 V1)=>by have:=HWR.o w hb hR;rw [hw] at this;exact this);have HS0:=Zh (show Zbn S.C r1 c k ⟨2,(kd:Int),(ka:Int),(kb:Int),imm,loc,label,fence⟩=none by rw [Z0x,HGA.o,hw];rfl);clear hw HWR
      go_wp2_with (go_at_call 72;refine (HW.o _ HBD.o HRD.o).mono ?_;rintro e w8 ⟨V8,rfl,hR8,hb8,hf8⟩;have HR8:=Zh hR8;have HB8:=Zh hb8;have HF8:=Zh hf8;clear hR8 hb8 hf8)
      go_ret;exact HRN.o.fell HX.o HF.o HS0.o rfl HR8.o ((HB1D.o.mono hbs2).trans HB8.o) ((FrV.of_below HB1D.o).trans HF8.o)
     | some r2=>
      have HW:=Zh (fun (w:World) (hb:Below w0.heap.size w0 w) (hR:Za7 w w0.heap.size g S r1 V1)=>by have:=HWR.o w hb hR;rw [hw] at this;exact this);have HS0:=Zh (show Zbn S.C r1 c k ⟨2,(kd:Int),(ka:Int),(kb:Int),imm,loc,label,fence⟩=some (r2,k+1) by rw [Z0x,HGA.o,hw];rfl);clear hw HWR
      go_wp2_with (go_at_call 72;refine (HW.o _ HBD.o HRD.o).mono ?_;rintro e w8 ⟨V8,rfl,hR8,hb8,hf8⟩;have HR8:=Zh hR8;have HB8:=Zh hb8;have HF8:=Zh hf8;clear hR8 hb8 hf8)
      go_roundw
      case rel=>exact⟨k+1,_,_,by go_num,HRN.o.step HX.o HF.o HV.o HS0.o HR8.o ((HB1D.o.mono hbs2).trans HB8.o) ((FrV.of_below HB1D.o).trans HF8.o)⟩
      case measure=>have hkl:=HKL.o;simp [intOf];omega
    ·have HRD:=Zh (fun (w:World) (hb:Below w0.heap.size w0 w) (hR:Za7 w w0.heap.size g S r1 V1)=>Z59 (w:=w) k loc kd HSS.o hb HRN.o.inv HF.o hR (HLOC.o ω) hd1 hl1')
     go_wp2_with (go_at_call 73;refine (HRD.o _ HBC.o HR1.o).mono ?_;rintro e w8 ⟨V8,rfl,hR8,hb8,hf8⟩;have HR8:=Zh hR8;have HB8:=Zh hb8;have HF8:=Zh hf8;clear hR8 hb8 hf8)
     go_roundw
     case rel=>exact⟨k+1,_,_,by go_num,HRN.o.step HX.o HF.o HV.o Z6j HR8.o ((HB1.o.mono hbs2).trans HB8.o) ((FrV.of_below HB1.o).trans HF8.o)⟩
     case measure=>have hkl:=HKL.o;simp [intOf];omega
    ·have HPT:=Zh (fun (w:World) (hb:Below w0.heap.size w0 w) (hR:Za7 w w0.heap.size g S r1 V1)=>Z8c (w:=w) kd imm HSS.o hb hd1 hl1' hR)
     go_wp2_with (go_at_call 74;refine (HPT.o _ HBC.o HR1.o).mono ?_;rintro e w8 ⟨V8,rfl,hR8,hb8,hf8⟩;have HR8:=Zh hR8;have HB8:=Zh hb8;have HF8:=Zh hf8;clear hR8 hb8 hf8)
     go_roundw
     case rel=>exact⟨k+1,_,_,by go_num,HRN.o.step HX.o HF.o HV.o Z6k HR8.o ((HB1.o.mono hbs2).trans HB8.o) ((FrV.of_below HB1.o).trans HF8.o)⟩
     case measure=>have hkl:=HKL.o;simp [intOf];omega
    ·go_wp2_with fail
     generalize hw1:(wr.alloc (.cells #[.int .i64 5,.int .i64 (kd:Int),.int .i64 (ka:Int),.int .i64 (kb:Int),.int .i64 imm,.string ⟨loc.toArray⟩,.string ⟨label.toArray⟩,.int .i64 fence] 92 (0,0)))=w1 at *;clear hw1;obtain⟨v1,v2,vbr,v4,v5,v6⟩:=V1;obtain⟨Ab,cb,hvb⟩:=HR1.o.bars.shp;simp only at hvb;subst hvb;have k20:w1.cell? ⟨g,20,none⟩=some (.slice Ab r1.bars.length cb):=HR1.o.blk.cell 20;have k12:=HR1.o.blk.cm 12;have hbl:=HRN.o.inv.bars;have hgB:=HR1.o.hg;refine wz (fun y:World=>y.cell? ⟨g,20,none⟩=some (.slice Ab r1.bars.length cb)/\y.cell? ⟨g,12,none⟩=some (.int .i64 (S.C.th:Int))) [4,8,10,11] ⟨k20,k12⟩ (fun hHeld=>?_);refine wq 0 ?_;refine wq 1 ?_;refine wq 2 ?_;refine wq 3 ?_;refine wq 5 ?_;refine wq 6 ?_;refine wq 7 ?_;refine wq 9 ?_;refine wt 4 (by assumption) ?_;refine wt 8 (by assumption) ?_;refine wt 10 (by assumption) ?_;refine Zan (i:=11) κ rfl (fun K hK=>?_);go_simp;refine hK.out _ _ ⟨Zao hHeld.1 _,Zao hHeld.2 _⟩ ?_;clear hK K;refine pu ?_;refine wl 12 ?_;have HPA:=Zh (Z0b w1 (S.C.th:Int) (k:Int) 1);have HP2:=Zh ((Zad w1 (.cells #[.int .i64 (S.C.th:Int),.int .i64 (k:Int),.int .i64 1] 169 (0,0))).drew);have HRD:=Zh (HR1.o.below HP2.o);have HOB:=Zh HRD.o.bars;have hz1:=HB1.o.size;have HPD:Hid (Zoe.At (w1.alloc (.cells #[.int .i64 (S.C.th:Int),.int .i64 (k:Int),.int .i64 1] 169 (0,0))).drew (some ⟨w1.heap.size,0,none⟩) [⟨(S.C.th:Int),(k:Int),1⟩]):=HPA
     have hzd:w1.heap.size<(w1.alloc (.cells #[.int .i64 (S.C.th:Int),.int .i64 (k:Int),.int .i64 1] 169 (0,0))).drew.heap.size:=by simp
     clear hHeld k20 k12 HPA;generalize (w1.alloc (.cells #[.int .i64 (S.C.th:Int),.int .i64 (k:Int),.int .i64 1] 169 (0,0))).drew=wd at *
     go_wp2_with (at_builtin;refine Enc.appW Zum _ rfl (.tmp 92) (.tmp 99) rfl [⟨(S.C.th:Int),(k:Int),1⟩] w0.heap.size r1.bars _ w1.heap.size 0 1 rfl rfl HPD.o HOB.o (by simp;omega) (by simp;omega) ω ?_;intro v' w4 hown4 hg4;obtain⟨A4,n4,c4,rfl⟩:=Zav hown4;have HO4:=Zh hown4;have HG4:=Zh hg4;have HB4:=Zh (Zax HRD.o.blk HOB.o (by decide) hg4);clear hown4 hg4;have k20:w4.cell? ⟨g,20,none⟩=some (.slice Ab r1.bars.length cb):=HB4.o.cell 20;have f20:=HB4.o.frozen 20)
     have HR8:=Zh (HRD.o.br HG4.o HO4.o);have HB8:Hid (Below w0.heap.size w1 _):=Zh (((HP2.o.mono ω).trans HG4.o.below).setCell (p:=⟨g,20,none⟩) hgB (.slice A4 n4 c4));have HF8:=Zh ((FrV.of_below HP2.o).trans (FrV.br (g:=g) (V:=⟨v1,v2,.slice Ab r1.bars.length cb,v4,v5,v6⟩) HG4.o));go_roundw
     case rel=>exact⟨k+1,_,_,by go_num,HRN.o.step HX.o HF.o HV.o Z6l HR8.o ((HB1.o.mono hbs2).trans HB8.o) ((FrV.of_below HB1.o).trans HF8.o)⟩
     case measure=>have hkl:=HKL.o;simp [intOf];omega
    ·have HMM:=Zh (fun (w:World) (hb:Below w0.heap.size w0 w) (hR:Za7 w w0.heap.size g S r1 V1)=>Z8z (w:=w) k kd ka kb 6 imm ω loc label fence HSS.o hb HRN.o.inv HF.o hR hd1 hl1' ha1 hb1);cases hw:Zit S.C r1 k ⟨6,(kd:Int),(ka:Int),(kb:Int),imm,loc,label,fence⟩ with
     | none=>
      have HW:=Zh (fun (w:World) (hb:Below w0.heap.size w0 w) (hR:Za7 w w0.heap.size g S r1 V1)=>by have:=HMM.o w hb hR;rw [hw] at this;exact this);have HS0:=Zh (show Zbn S.C r1 c k ⟨6,(kd:Int),(ka:Int),(kb:Int),imm,loc,label,fence⟩=none by rw [Z0y,hw];rfl);exact m_34
     | some r2=>
      have HW:=Zh (fun (w:World) (hb:Below w0.heap.size w0 w) (hR:Za7 w w0.heap.size g S r1 V1)=>by have:=HMM.o w hb hR;rw [hw] at this;exact this);have HS0:=Zh (show Zbn S.C r1 c k ⟨6,(kd:Int),(ka:Int),(kb:Int),imm,loc,label,fence⟩=some (r2,k+1) by rw [Z0y,hw];rfl);exact m_23
    ·have HMM:=Zh (fun (w:World) (hb:Below w0.heap.size w0 w) (hR:Za7 w w0.heap.size g S r1 V1)=>Z8z (w:=w) k kd ka kb 7 imm ω loc label fence HSS.o hb HRN.o.inv HF.o hR hd1 hl1' ha1 hb1);cases hw:Zit S.C r1 k ⟨7,(kd:Int),(ka:Int),(kb:Int),imm,loc,label,fence⟩ with
     | none=>
      have HW:=Zh (fun (w:World) (hb:Below w0.heap.size w0 w) (hR:Za7 w w0.heap.size g S r1 V1)=>by have:=HMM.o w hb hR;rw [hw] at this;exact this);have HS0:=Zh (show Zbn S.C r1 c k ⟨7,(kd:Int),(ka:Int),(kb:Int),imm,loc,label,fence⟩=none by rw [Z0z,hw];rfl);exact m_34
     | some r2=>
      have HW:=Zh (fun (w:World) (hb:Below w0.heap.size w0 w) (hR:Za7 w w0.heap.size g S r1 V1)=>by have:=HMM.o w hb hR;rw [hw] at this;exact this);have HS0:=Zh (show Zbn S.C r1 c k ⟨7,(kd:Int),(ka:Int),(kb:Int),imm,loc,label,fence⟩=some (r2,k+1) by rw [Z0z,hw];rfl);exact m_23
    ·have HRK:=Zh (fun (w:World) (hb:Below w0.heap.size w0 w) (hR:Za7 w w0.heap.size g S r1 V1)=>Z21 (w:=w) 8 ω kd ka kb imm loc label fence HSS.o hb HRN.o.inv hR hd1 hl1' ha1 hb1 himm)
     go_wp2_with (go_at_call 76;refine (HRK.o _ HBC.o HR1.o).mono ?_;rintro e w8 ⟨V8,rfl,hR8,hb8,hf8⟩;have HR8:=Zh hR8;have HB8:=Zh hb8;have HF8:=Zh hf8;clear hR8 hb8 hf8)
     go_roundw
     case rel=>exact⟨k+1,_,_,by go_num,HRN.o.step HX.o HF.o HV.o Z6m HR8.o ((HB1.o.mono hbs2).trans HB8.o) ((FrV.of_below HB1.o).trans HF8.o)⟩
     case measure=>have hkl:=HKL.o;simp [intOf];omega
    ·have HRK:=Zh (fun (w:World) (hb:Below w0.heap.size w0 w) (hR:Za7 w w0.heap.size g S r1 V1)=>Z21 (w:=w) 9 ω kd ka kb imm loc label fence HSS.o hb HRN.o.inv hR hd1 hl1' ha1 hb1 himm)
     go_wp2_with (go_at_call 76;refine (HRK.o _ HBC.o HR1.o).mono ?_;rintro e w8 ⟨V8,rfl,hR8,hb8,hf8⟩;have HR8:=Zh hR8;have HB8:=Zh hb8;have HF8:=Zh hf8;clear hR8 hb8 hf8)
     go_roundw
     case rel=>exact⟨k+1,_,_,by go_num,HRN.o.step HX.o HF.o HV.o Z6n HR8.o ((HB1.o.mono hbs2).trans HB8.o) ((FrV.of_below HB1.o).trans HF8.o)⟩
     case measure=>have hkl:=HKL.o;simp [intOf];omega
    ·have HRK:=Zh (fun (w:World) (hb:Below w0.heap.size w0 w) (hR:Za7 w w0.heap.size g S r1 V1)=>Z21 (w:=w) 10 ω kd ka kb imm loc label fence HSS.o hb HRN.o.inv hR hd1 hl1' ha1 hb1 himm)
     go_wp2_with (go_at_call 76;refine (HRK.o _ HBC.o HR1.o).mono ?_;rintro e w8 ⟨V8,rfl,hR8,hb8,hf8⟩;have HR8:=Zh hR8;have HB8:=Zh hb8;have HF8:=Zh hf8;clear hR8 hb8 hf8)
     go_roundw
     case rel=>exact⟨k+1,_,_,by go_num,HRN.o.step HX.o HF.o HV.o Z3n HR8.o ((HB1.o.mono hbs2).trans HB8.o) ((FrV.of_below HB1.o).trans HF8.o)⟩
     case measure=>have hkl:=HKL.o;simp [intOf];omega
    ·have hae:=List.getElem?_eq_getElem ha1;have hbe:=List.getElem?_eq_getElem hb1;obtain⟨ra,hra⟩:∃ x,r1.regs[ka]=x:=⟨_,rfl⟩;obtain⟨rb,hrb⟩:∃ x,r1.regs[kb]=x:=⟨_,rfl⟩;rw [hra] at hae;rw [hrb] at hbe;have HBRN:=Zh (fun (w:World) (hb:Below w0.heap.size w0 w) (hR:Za7 w w0.heap.size g S r1 V1)=>Z1g (w:=w) c _ c2 k 11 imm fence kd ka kb loc label ra rb hb HRN.o.inv hR HC0.o hcl hl2 HX.o (HLAB.o rfl) hae hbe (HRN.o.inv.regs ra (List.mem_of_getElem? hae)) (HRN.o.inv.regs rb (List.mem_of_getElem? hbe)));clear hra hrb hae hbe;cases hw:brL r1 c k ⟨11,(kd:Int),(ka:Int),(kb:Int),imm,loc,label,fence⟩ with
     | none=>
      have HW:=Zh (fun (w:World) (hb:Below w0.heap.size w0 w) (hR:Za7 w w0.heap.size g S r1 V1)=>by have:=HBRN.o w hb hR;rw [hw] at this;exact this);have HS0:=Zh (show Zbn S.C r1 c k ⟨11,(kd:Int),(ka:Int),(kb:Int),imm,loc,label,fence⟩=none by rw [Zwr,hw]);clear hw HBRN
      go_wp2_with (go_at_call 77;refine (HW.o _ HBC.o HR1.o).mono ?_;rintro e w8 ⟨r8,V8,rfl,hR8,hb8,hf8⟩;have HR8:=Zh hR8;have HB8:=Zh hb8;have HF8:=Zh hf8;clear hR8 hb8 hf8)
      exact m_93
     | some p=>
      obtain⟨r2,n⟩:=p;have HGT:=Zh (Z0e hw);have HW:=Zh (fun (w:World) (hb:Below w0.heap.size w0 w) (hR:Za7 w w0.heap.size g S r1 V1)=>by have:=HBRN.o w hb hR;rw [hw] at this;exact this);have HS0:=Zh (show Zbn S.C r1 c k ⟨11,(kd:Int),(ka:Int),(kb:Int),imm,loc,label,fence⟩=some (r2,n) by rw [Zwr,hw]);clear hw HBRN
      go_wp2_with (go_at_call 77;refine (HW.o _ HBC.o HR1.o).mono ?_;rintro e w8 ⟨V8,rfl,hR8,hb8,hf8⟩;have HR8:=Zh hR8;have HB8:=Zh hb8;have HF8:=Zh hf8;clear hR8 hb8 hf8)
      go_roundw
      case rel=>exact⟨n,_,_,by go_num,HRN.o.step HX.o HF.o HV.o HS0.o HR8.o ((HB1.o.mono hbs2).trans HB8.o) ((FrV.of_below HB1.o).trans HF8.o)⟩
      case measure=>have hkl:=HKL.o;have hgt:=HGT.o;simp [intOf];omega
    ·go_wp2_with fail
     have HR8:=HR1;have HB8:=Zh (Below.refl w0.heap.size (wr.alloc (.cells #[.int .i64 12,.int .i64 (kd:Int),.int .i64 (ka:Int),.int .i64 (kb:Int),.int .i64 imm,.string ⟨loc.toArray⟩,.string ⟨label.toArray⟩,.int .i64 fence] 92 (0,0))));have HF8:=Zh (FrV.refl (wr.alloc (.cells #[.int .i64 12,.int .i64 (kd:Int),.int .i64 (ka:Int),.int .i64 (kb:Int),.int .i64 imm,.string ⟨loc.toArray⟩,.string ⟨label.toArray⟩,.int .i64 fence] 92 (0,0))) g V1);go_roundw
     case rel=>exact⟨k+1,_,_,by go_num,HRN.o.step HX.o HF.o HV.o Z3o HR8.o ((HB1.o.mono hbs2).trans HB8.o) ((FrV.of_below HB1.o).trans HF8.o)⟩
     case measure=>have hkl:=HKL.o;simp [intOf];omega
    ·go_wp2_with fail
     generalize hw1:(wr.alloc (.cells #[.int .i64 13,.int .i64 (kd:Int),.int .i64 (ka:Int),.int .i64 (kb:Int),.int .i64 imm,.string ⟨loc.toArray⟩,.string ⟨label.toArray⟩,.int .i64 fence] 92 (0,0)))=w1 at *;clear hw1;obtain⟨v1,v2,vbr,v4,v5,v6⟩:=V1;obtain⟨Ab,cb,hvb⟩:=HR1.o.bars.shp;simp only at hvb;subst hvb;have k20:w1.cell? ⟨g,20,none⟩=some (.slice Ab r1.bars.length cb):=HR1.o.blk.cell 20;have k12:=HR1.o.blk.cm 12;have hbl:=HRN.o.inv.bars;have hgB:=HR1.o.hg;have i7:=HBI.o.cm 7;refine wz (fun y:World=>y.cell? ⟨g,20,none⟩=some (.slice Ab r1.bars.length cb)/\y.cell? ⟨g,12,none⟩=some (.int .i64 (S.C.th:Int))/\y.cell? ⟨wr.heap.size,7,none⟩=some (.int .i64 fence)) [4,8,11,12,13] ⟨k20,k12,i7⟩ (fun hHeld=>?_);refine wq 0 ?_;refine wq 1 ?_;refine wq 2 ?_;refine wq 3 ?_;refine wq 5 ?_;refine wq 6 ?_;refine wq 7 ?_;refine wq 9 ?_;refine wq 10 ?_;refine wt 4 (by assumption) ?_;refine wt 8 (by assumption) ?_;refine wt 11 (by assumption) ?_;refine wt 12 (by assumption) ?_;refine Zan (i:=13) κ rfl (fun K hK=>?_);go_simp;refine hK.out _ _ ⟨Zao hHeld.1 _,Zao hHeld.2.1 _,Zao hHeld.2.2 _⟩ ?_;clear hK K;refine pu ?_;refine wl 14 ?_;clear i7;have HPA:=Zh (Z0b w1 (S.C.th:Int) (k:Int) fence);have HP2:=Zh ((Zad w1 (.cells #[.int .i64 (S.C.th:Int),.int .i64 (k:Int),.int .i64 fence] 169 (0,0))).drew);have HRD:=Zh (HR1.o.below HP2.o);have HOB:=Zh HRD.o.bars;have hz1:=HB1.o.size
     have HPD:Hid (Zoe.At (w1.alloc (.cells #[.int .i64 (S.C.th:Int),.int .i64 (k:Int),.int .i64 fence] 169 (0,0))).drew (some ⟨w1.heap.size,0,none⟩) [⟨(S.C.th:Int),(k:Int),fence⟩]):=HPA;have hzd:w1.heap.size<(w1.alloc (.cells #[.int .i64 (S.C.th:Int),.int .i64 (k:Int),.int .i64 fence] 169 (0,0))).drew.heap.size:=by simp
     clear hHeld k20 k12 HPA;generalize (w1.alloc (.cells #[.int .i64 (S.C.th:Int),.int .i64 (k:Int),.int .i64 fence] 169 (0,0))).drew=wd at *
     go_wp2_with (at_builtin;refine Enc.appW Zum _ rfl (.tmp 109) (.tmp 118) rfl [⟨(S.C.th:Int),(k:Int),fence⟩] w0.heap.size r1.bars _ w1.heap.size 0 1 rfl rfl HPD.o HOB.o (by simp;omega) (by simp;omega) ω ?_;intro v' w4 hown4 hg4;obtain⟨A4,n4,c4,rfl⟩:=Zav hown4;have HO4:=Zh hown4;have HG4:=Zh hg4;have HB4:=Zh (Zax HRD.o.blk HOB.o (by decide) hg4);clear hown4 hg4;have k20:w4.cell? ⟨g,20,none⟩=some (.slice Ab r1.bars.length cb):=HB4.o.cell 20;have f20:=HB4.o.frozen 20)
     have HR8:=Zh (HRD.o.br HG4.o HO4.o);have HB8:Hid (Below w0.heap.size w1 _):=Zh (((HP2.o.mono ω).trans HG4.o.below).setCell (p:=⟨g,20,none⟩) hgB (.slice A4 n4 c4));have HF8:=Zh ((FrV.of_below HP2.o).trans (FrV.br (g:=g) (V:=⟨v1,v2,.slice Ab r1.bars.length cb,v4,v5,v6⟩) HG4.o));go_roundw
     case rel=>exact⟨k+1,_,_,by go_num,HRN.o.step HX.o HF.o HV.o Z3p HR8.o ((HB1.o.mono hbs2).trans HB8.o) ((FrV.of_below HB1.o).trans HF8.o)⟩
     case measure=>have hkl:=HKL.o;simp [intOf];omega
  ·have hki:¬ (k:Int)<(c.length:Int):=ω;have HV:=Zh (show X=some r1 by rw [<- HRN.o.go,Zj2 ω]);exact m_99
end
end
end Go.Proofs.YtgjefdaaihgliaaGreatDoor
