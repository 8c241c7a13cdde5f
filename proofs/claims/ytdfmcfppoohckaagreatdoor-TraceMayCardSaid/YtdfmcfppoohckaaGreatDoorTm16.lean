/- Layer 15: a read or a write is put down: the program's event. -/
import Derived.Test.YtdfmcfppoohckaaGreatDoorTm14

namespace Go.Proofs.YtdfmcfppoohckaaGreatDoor
open Go.RowKit
section
structure Zrg (w0:World) (S:Zgk):Prop where
 tst:∃ Ai Ac ci cc,S.iv=.slice Ai S.T.init.length ci/\S.cv=.slice Ac S.T.code.length cc/\Zcb w0 S.T Ai Ac S.kv
 locs:∃ A cl,S.lv=.slice A S.C.locs.length cl/\Zcy.At w0 A S.C.locs
 str:Zj0 S.C.locs
 few:S.C.locs.length<=64
 risc:S.C.risc=decide (S.T.arch=2)
theorem Z01 (w:World)(a b c d e f:Int):Zqm.At (w.alloc (.cells #[.int .i64 a,.int .i64 b,.int .i64 c,.int .i64 d,.int .i64 e,.int .i64 f] 54 (0,0))) (some ⟨w.heap.size,0,none⟩) [⟨a,b,c,d,e,f⟩]:=by
 have hB:=Blk.new w 54 #[.int .i64 a,.int .i64 b,.int .i64 c,.int .i64 d,.int .i64 e,.int .i64 f];intro i x hx;refine⟨w.heap.size,0,rfl,fun j u hj=>?_⟩
 match i,hx with
 | 0,hx=>
  simp at hx;subst hx;rw [show 0+0*Zqm.size+j=j by omega,hB.cell];rw [<- hj];simp
def Zb1 (B g:Nat)(S:Zgk)(V:Zd6)(r:Rn)(v:Value)(w:World)(e:Ending)(w':World):Prop:=∃ V',e=.returned v/\Za0 w' B g S r V'/\Below B w w'/\FrV w w' g V V'
theorem Zb8 {w:World}{B:Nat}{t:TypeId}{z n:Nat}{v:Value}{cs:List Value}(h:w.ownsRow B t z v n cs):∃ A m cap,v=.slice A m cap:=by
 obtain⟨A,cap,e⟩:=Zbx h;exact⟨A,n,cap,e⟩
theorem Z0v {w:World}{g:Nat}{t:TypeId}{cs:Array Value}(h:Blk w g t cs)(n:Nat):Blk (w.drewN n) g t cs:=h
theorem Zcl (w:World)(o:Obj)(t:TypeId)(cs:Array Value):Blk ((w.alloc o).alloc (.cells cs t (0,0))) (w.heap.size+1) t cs:=by
 have:=Blk.new (w.alloc o) t cs
 rwa [show (w.alloc o).heap.size=w.heap.size+1 by simp] at this
section
set_option maxHeartbeats 4000000
set_option maxRecDepth 100000
variable {w0 w:World} {g nr k:Nat} {S:Zgk} {r:Rn} {V:Zd6}
theorem Z0z (pl:Nat)(dr vl rg:Int)(loc:Nm)(on:Nat)(HS:Zrg w0 S)(hb:Below w0.heap.size w0 w)(hI:Inv S.C nr k r)(hR:Za0 w w0.heap.size g S r V)(hloc:loc∈S.C.locs)(hon:Rds r.evs on) :
  Calls Tryz.prog 107 #[.pointer (some ⟨g,0,none⟩),.agg #[.int .i64 0,.int .i64 (pl:Int),.int .i64 dr,.int .i64 0,.int .i64 vl,.int .i64 rg],.string ⟨loc.toArray⟩,Zt7 on] w
   (Zb1 w0.heap.size g S V (Ziv S.C r pl dr loc vl rg on) (.int .i64 ((if 64<=S.C.ahead+r.evs.length then 0 else r.evs.length:Nat):Int)) w):=by
 have HR:=Zh hR;obtain⟨Ae,ce,hve⟩:=hR.evs.shp;obtain⟨Aa,ca,hva⟩:=hR.addr.shp;obtain⟨Ah,ch,hvh⟩:=hR.hang.shp;have HON:=Zh (hon.lt64 (show r.evs.length<=64 by have:=hI.room;omega));have HOC:=Zh (hI.ctrl.lt64 (show r.evs.length<=64 by have:=hI.room;omega));have hla:=hI.addr.len;have hlh:=hI.hang.len;have room:=hI.room;have hgw:g<w.heap.size:=hR.blk.lt;have hgB:=hR.hg;have HB:=Zh hb;have hbs:=hb.size;by_cases hfull:64<=S.C.ahead+r.evs.length
 ·have hfi:(64:Int)<=(S.C.ahead:Int)+(r.evs.length:Int):=ω;have hri:(S.C.ahead:Int)+(r.evs.length:Int)<=64:=ω;have k19:=hR.blk.cell 19;have k24:=hR.blk.cell 24;have f25:=hR.blk.frozen 25;have k25:=hR.blk.cell 25;simp only [List.getElem?_toArray,List.getElem?_cons_succ,List.getElem?_cons_zero,hve] at k19 k24 k25;go_enter Tryz.func107,Tryz.ntmps107
  go_wp2_with fail
  go_ret;refine⟨V,Zai (by simp),?_,?_,(FrV.set w g V 25 _).trans (FrV.of_below (Zao _ _ _))⟩
  ·rw [Zcr hfull];exact HR.o.full.below (Zao _ _ _)
  ·exact ((Below.refl _ _).setCell (p:=⟨g,25,none⟩) hgB _).trans ((Zao _ _ _).mono (by simp;omega))
 ·have hfi:(S.C.ahead:Int)+(r.evs.length:Int)<64:=ω;have k19:=hR.blk.cell 19;have k24:=hR.blk.cell 24;have k12:=hR.blk.cell 12;have k13:=hR.blk.cell 13;simp only [List.getElem?_toArray,List.getElem?_cons_succ,List.getElem?_cons_zero,hve] at k19 k24 k12 k13;obtain⟨Al,cl,hlv,hla⟩:=HS.locs;rw [hlv] at k13;have few:=HS.few;have HSR:=Zh (Zq6 Al cl S.C.locs loc);have HLA:=Zh (hla.below hb);have HSTR:=Zh HS.str;have HLOC:=Zh hloc;go_enter Tryz.func107,Tryz.ntmps107
  go_wp2_with (go_at_call 13;refine (HSR.o _ (HLA.o.below (Zao _ _ _)) ω HSTR.o HLOC.o).mono ?_;rintro e w' ⟨rfl,q,rfl⟩)
  generalize hw3:(World.setCell _ _ _:World)=w3;have hn0:w.heap.size≠w.heap.size+1:=ω;have HE3:Hid (Blk w3 w.heap.size 54 #[.int .i64 (S.C.th:Int),.int .i64 (pl:Int),.int .i64 dr,.int .i64 ((S.C.locs.idxOf loc:Nat):Int),.int .i64 vl,.int .i64 rg]):=by
   rw [<- hw3];exact Zh ((Z0v (Blk.alloc (Blk.new w 54 #[.int .i64 (S.C.th:Int),.int .i64 (pl:Int),.int .i64 dr,.int .i64 0,.int .i64 vl,.int .i64 rg]) _) q).set_ 3 (.int .i64 ((S.C.locs.idxOf loc:Nat):Int)))
  have HO3:Hid (Blk w3 (w.heap.size+1) 72 #[.int .u64 (on:Int),.int .u64 0,.int .u64 0,.int .u64 0]):=by
   rw [<- hw3];exact Zh ((Z0v (Zcl w _ _ _) q).far (by simp) _)
  have HW3:Hid (Below w.heap.size w w3):=by
   rw [<- hw3];exact Zh ((Zam (Zao w _ _) q).setCell (by simp) _)
  have hz3:=HW3.o.size;have HR3:=Zh (HR.o.below HW3.o);obtain⟨vrg,vev,vbr,vad,vda,vhg⟩:=V;simp only at hve hva hvh;subst hve hva hvh;have k19:w3.cell? ⟨g,19,none⟩=some (.slice Ae r.evs.length ce):=HR3.o.blk.cell 19;obtain⟨e0,e1,e2,e3,e4,e5⟩:=HE3.o.c6;refine wz (fun y:World=>y.cell? ⟨g,19,none⟩=some (.slice Ae r.evs.length ce)/\y.cell? ⟨w.heap.size,0,none⟩=some (.int .i64 (S.C.th:Int))/\y.cell? ⟨w.heap.size,1,none⟩=some (.int .i64 (pl:Int))/\y.cell? ⟨w.heap.size,2,none⟩=some (.int .i64 dr)/\y.cell? ⟨w.heap.size,3,none⟩=some (.int .i64 ((S.C.locs.idxOf loc:Nat):Int))/\y.cell? ⟨w.heap.size,4,none⟩=some (.int .i64 vl)/\y.cell? ⟨w.heap.size,5,none⟩=some (.int .i64 rg)) [4,5,6] ⟨k19,e0,e1,e2,e3,e4,e5⟩ (fun hHeld=>?_);refine wq 0 ?_;refine wq 1 ?_;refine wq 2 ?_;refine wq 3 ?_;refine wt 4 (by assumption) ?_;refine wt 5 (by assumption) ?_;refine Zar (i:=6) κ rfl (fun K hK=>?_);go_simp;refine hK.out _ _ ⟨Zal hHeld.1 _,Zal hHeld.2.1 _,Zal hHeld.2.2.1 _,Zal hHeld.2.2.2.1 _,Zal hHeld.2.2.2.2.1 _,Zal hHeld.2.2.2.2.2.1 _,Zal hHeld.2.2.2.2.2.2 _⟩ ?_;refine pu ?_;refine wl 7 ?_;have HRd:=Zh (HR3.o.below ((Zad w3 (.cells #[.int .i64 (S.C.th:Int),.int .i64 (pl:Int),.int .i64 dr,.int .i64 ((S.C.locs.idxOf loc:Nat):Int),.int .i64 vl,.int .i64 rg] 54 (0,0))).drew))
  have HBd:=Zh ((HW3.o.mono hbs).trans ((Zad w3 (.cells #[.int .i64 (S.C.th:Int),.int .i64 (pl:Int),.int .i64 dr,.int .i64 ((S.C.locs.idxOf loc:Nat):Int),.int .i64 vl,.int .i64 rg] 54 (0,0))).drew.mono (show w0.heap.size<=w3.heap.size by omega)));have HFd:Hid (FrV w _ g ⟨vrg,.slice Ae r.evs.length ce,vbr,.slice Aa r.addr.length ca,vda,.slice Ah r.hang.length ch⟩ ⟨vrg,.slice Ae r.evs.length ce,vbr,.slice Aa r.addr.length ca,vda,.slice Ah r.hang.length ch⟩):=Zh (FrV.of_below (HW3.o.trans ((Zad w3 (.cells #[.int .i64 (S.C.th:Int),.int .i64 (pl:Int),.int .i64 dr,.int .i64 ((S.C.locs.idxOf loc:Nat):Int),.int .i64 vl,.int .i64 rg] 54 (0,0))).drew.mono hz3)));have HPA:=Zh (Z01 w3 (S.C.th:Int) (pl:Int) dr ((S.C.locs.idxOf loc:Nat):Int) vl rg);have HOE:=Zh HRd.o.evs;have HO3d:=Zh (HO3.o.go ((Zad w3 (.cells #[.int .i64 (S.C.th:Int),.int .i64 (pl:Int),.int .i64 dr,.int .i64 ((S.C.locs.idxOf loc:Nat):Int),.int .i64 vl,.int .i64 rg] 54 (0,0))).drew));generalize hwd:(w3.alloc (.cells #[.int .i64 (S.C.th:Int),.int .i64 (pl:Int),.int .i64 dr,.int .i64 ((S.C.locs.idxOf loc:Nat):Int),.int .i64 vl,.int .i64 rg] 54 (0,0))).drew=wd at *;have HPD:Hid (Zqm.At wd (some ⟨w3.heap.size,0,none⟩) [⟨(S.C.th:Int),(pl:Int),dr,((S.C.locs.idxOf loc:Nat):Int),vl,rg⟩]):=by rw [<- hwd];exact HPA
  have hzd:w3.heap.size<wd.heap.size:=by rw [<- hwd];simp
  go_wp2_with (at_builtin;refine Enc.appW Z2o _ rfl (.tmp 44) (.tmp 46) rfl [⟨(S.C.th:Int),(pl:Int),dr,((S.C.locs.idxOf loc:Nat):Int),vl,rg⟩] w0.heap.size r.evs _ w3.heap.size 0 1 rfl rfl HPD.o HOE.o (by simp;omega) (by simp;omega) ω ?_;intro v' w4 hown4 hg4;obtain⟨A4,n4,c4,rfl⟩:=Zb8 hown4;have HO4:=Zh hown4;have HG4:=Zh hg4;have HB4:=Zh (Zat HRd.o.blk HOE.o (by decide) hg4);have HS4:=Zh (Zat HO3d.o HOE.o (by decide) hg4);clear hown4 hg4;have k19:w4.cell? ⟨g,19,none⟩=some (.slice Ae r.evs.length ce):=HB4.o.cell 19;have f19:=HB4.o.frozen 19)
  have HR5:=Zh (HRd.o.ev HG4.o HO4.o);have HF5:=Zh (HFd.o.trans (FrV.ev HG4.o));have HB5:=Zh ((HBd.o.trans HG4.o.below).setCell (p:=⟨g,19,none⟩) hgB (.slice A4 n4 c4));have HS5:=Zh (HS4.o.far (p:=⟨g,19,none⟩) (by simp;omega) (.slice A4 n4 c4));generalize hw5:w4.setCell ⟨g,19,none⟩ (.slice A4 n4 c4)=w5 at *;have hz5:=HB5.o.size;have k21:w5.cell? ⟨g,21,none⟩=some (.slice Aa r.addr.length ca):=HR5.o.blk.cell 21;obtain⟨o0,o1,o2,o3⟩:=HS5.o.c4;refine wz (fun y:World=>y.cell? ⟨g,21,none⟩=some (.slice Aa r.addr.length ca)/\y.cell? ⟨w.heap.size+1,0,none⟩=some (.int .u64 (on:Int))/\y.cell? ⟨w.heap.size+1,1,none⟩=some (.int .u64 0)/\y.cell? ⟨w.heap.size+1,2,none⟩=some (.int .u64 0)/\y.cell? ⟨w.heap.size+1,3,none⟩=some (.int .u64 0)) [4,5] ⟨k21,o0,o1,o2,o3⟩ (fun hHeld=>?_);refine wq 0 ?_;refine wq 1 ?_;refine wq 2 ?_;refine wq 3 ?_;refine wq 6 ?_;refine wt 4 (by assumption) ?_;refine wt 5 (by assumption) ?_;refine wl 7 ?_;have HRd:=Zh HR5.o.drew;have HFd:=Zh HF5.o.drew;have HBd:=Zh HB5.o.drew;have HOA:=Zh HRd.o.addr;generalize hwd:w5.drew=wd at *;have hzd:=HBd.o.size
  go_wp2_with (go_at_call 108;refine (Zwo _ r.addr on r.evs.length w0.heap.size _ HON.o ω ω HOA.o).mono ?_;rintro e w6 ⟨v',rfl,hown6,hg6⟩;obtain⟨A6,n6,c6,rfl⟩:=Zb8 hown6;have HO6:=Zh hown6;have HG6:=Zh hg6;have HB6:=Zh (Zat HRd.o.blk HOA.o (by decide) hg6);clear hown6 hg6;have k21:w6.cell? ⟨g,21,none⟩=some (.slice Aa r.addr.length ca):=HB6.o.cell 21;have f21:=HB6.o.frozen 21)
  have HR7:=Zh (HRd.o.ad HG6.o HO6.o);have HF7:=Zh (HFd.o.trans (FrV.ad HG6.o));have HB7:=Zh ((HBd.o.trans HG6.o.below).setCell (p:=⟨g,21,none⟩) hgB (.slice A6 n6 c6));generalize hw7:w6.setCell ⟨g,21,none⟩ (.slice A6 n6 c6)=w7 at *;have hz7:=HB7.o.size;have k23:w7.cell? ⟨g,23,none⟩=some (.slice Ah r.hang.length ch):=HR7.o.blk.cell 23;have o0:=HR7.o.blk.cl 15;have o1:=HR7.o.blk.cl 16;have o2:=HR7.o.blk.cl 17;have o3:=HR7.o.blk.cl 18;refine wz (fun y:World=>y.cell? ⟨g,23,none⟩=some (.slice Ah r.hang.length ch)/\y.cell? ⟨g,15,none⟩=some (.int .u64 (r.ctrl:Int))/\y.cell? ⟨g,16,none⟩=some (.int .u64 0)/\y.cell? ⟨g,17,none⟩=some (.int .u64 0)/\y.cell? ⟨g,18,none⟩=some (.int .u64 0)) [4,8] ⟨k23,o0,o1,o2,o3⟩ (fun hHeld=>?_);refine wq 0 ?_;refine wq 1 ?_;refine wq 2 ?_;refine wq 3 ?_;refine wq 5 ?_;refine wq 6 ?_;refine wq 7 ?_;refine wq 9 ?_;refine wt 4 (by assumption) ?_;refine wt 8 (by assumption) ?_;refine wl 10 ?_;have HRd:=Zh HR7.o.drew;have HFd:=Zh HF7.o.drew;have HBd:=Zh HB7.o.drew;have HOA:=Zh HRd.o.hang;generalize hwd:w7.drew=wd at *;have hzd:=HBd.o.size
  go_wp2_with (go_at_call 108;refine (Zwo _ r.hang r.ctrl r.evs.length w0.heap.size _ HOC.o ω ω HOA.o).mono ?_;rintro e w6 ⟨v',rfl,hown6,hg6⟩;obtain⟨A6,n6,c6,rfl⟩:=Zb8 hown6;have HO6:=Zh hown6;have HG6:=Zh hg6;have HB6:=Zh (Zat HRd.o.blk HOA.o (by decide) hg6);clear hown6 hg6;have k23:w6.cell? ⟨g,23,none⟩=some (.slice Ah r.hang.length ch):=HB6.o.cell 23;have f23:=HB6.o.frozen 23)
  have HR9:=Zh (HRd.o.hgg HG6.o HO6.o);have HB9:=Zh ((HBd.o.trans HG6.o.below).setCell (p:=⟨g,23,none⟩) hgB (.slice A6 n6 c6));go_ret;rw [Zcs hfull];exact⟨_,rfl,HR9.o,HB9.o,HFd.o.trans (FrV.hgg HG6.o)⟩
end
end
section
theorem Zd0 (v:Value)(w:World):(Instr.typeAssert (.iface 110 v) 112 110 true).run Tryz.prog w=.ok (.tuple #[v,.bool true]) w:=by kernel_rfl
theorem Zdy (v:Value)(w:World):(Instr.typeAssert (.iface 115 v) 112 110 true).run Tryz.prog w=.ok (.tuple #[.int .i64 0,.bool false]) w:=by kernel_rfl
theorem Zd1 (v:Value)(w:World):(Instr.typeAssert (.iface 127 v) 112 110 true).run Tryz.prog w=.ok (.tuple #[.int .i64 0,.bool false]) w:=by kernel_rfl
theorem Zdz (v:Value)(w:World):(Instr.typeAssert (.iface 197 v) 112 110 true).run Tryz.prog w=.ok (.tuple #[.int .i64 0,.bool false]) w:=by kernel_rfl
theorem Zid (v:Value)(w:World):(Instr.typeAssert (.iface 110 v) 112 115 true).run Tryz.prog w=.ok (.tuple #[.string ⟨#[]⟩,.bool false]) w:=by kernel_rfl
theorem Zib (v:Value)(w:World):(Instr.typeAssert (.iface 115 v) 112 115 true).run Tryz.prog w=.ok (.tuple #[v,.bool true]) w:=by kernel_rfl
theorem Zie (v:Value)(w:World):(Instr.typeAssert (.iface 127 v) 112 115 true).run Tryz.prog w=.ok (.tuple #[.string ⟨#[]⟩,.bool false]) w:=by kernel_rfl
theorem Zic (v:Value)(w:World):(Instr.typeAssert (.iface 197 v) 112 115 true).run Tryz.prog w=.ok (.tuple #[.string ⟨#[]⟩,.bool false]) w:=by kernel_rfl
theorem Z6a (v:Value)(w:World):(Instr.typeAssert (.iface 110 v) 112 127 true).run Tryz.prog w=.ok (.tuple #[.int .i64 0,.bool false]) w:=by kernel_rfl
theorem Z58 (v:Value)(w:World):(Instr.typeAssert (.iface 115 v) 112 127 true).run Tryz.prog w=.ok (.tuple #[.int .i64 0,.bool false]) w:=by kernel_rfl
theorem Z6b (v:Value)(w:World):(Instr.typeAssert (.iface 127 v) 112 127 true).run Tryz.prog w=.ok (.tuple #[v,.bool true]) w:=by kernel_rfl
theorem Z59 (v:Value)(w:World):(Instr.typeAssert (.iface 197 v) 112 127 true).run Tryz.prog w=.ok (.tuple #[.int .i64 0,.bool false]) w:=by kernel_rfl
theorem Zgj {z:Int}(h:Zc7 z):wrap64 z=z:=by
 unfold Zc7 at h;simp [wrap64];omega
theorem Zq5 {a b:Int}(h:a=b):Ending.returned (.iface 110 (.int .i64 a))=.returned (.iface 110 (.int .i64 b)):=by rw [h]
section
set_option maxHeartbeats 4000000
set_option maxRecDepth 100000
theorem Zzu (op x y:Int)(hx:Zc7 x)(hy:Zc7 y)(w:World):Calls Tryz.prog 110 #[.int .i64 op,Zah (.num x),Zah (.num y)] w fun e w'=>e=.returned (Zah (.num (opN op x y)))/\w=w':=by
 have h1:IntKind.i32.wrap x=x:=wrap32 hx;have h2:IntKind.i32.wrap y=y:=wrap32 hy;have h3:=Z38 hx hy;have h4:=Zt2 hx hy;have h5:=Zgj h3.2;have h6:=Zgj h4.2;have HE:Hid (RowKit.wrap32 (x+y)=IntKind.i32.wrap (x+y)):=Zh (by
  unfold IntKind.wrap;simp [RowKit.wrap32,IntKind.bits,IntKind.signed];omega)
 have h7:wrap64 (RowKit.wrap32 (x+y))=RowKit.wrap32 (x+y):=Zgj (by rw [HE.o];exact Zo3 _);have q1:=fun w=>Zd0 (.int .i64 x) w
 have q2:=fun w=>Zd0 (.int .i64 y) w
 have h30:=h3.1;have h40:=h4.1;unfold Zah;by_cases e8:op=8
 ·subst e8;go_enter Tryz.func110,Tryz.ntmps110
  go_wp2_with fail
  go_ret;exact⟨Zq5 (by simp [opN,h30]),rfl⟩
 ·by_cases e9:op=9
  ·subst e9;go_enter Tryz.func110,Tryz.ntmps110
   go_wp2_with fail
   go_ret;exact⟨Zq5 (by simp [opN,h40]),rfl⟩
  ·go_enter Tryz.func110,Tryz.ntmps110
   go_wp2_with fail
   go_ret;exact⟨Zq5 (by unfold opN;rw [if_neg e8,if_neg e9];exact HE.o),rfl⟩
theorem Znh (op:Int)(x:Int)(y:Nm)(w:World):Calls Tryz.prog 110 #[.int .i64 op,Zah (.num x),Zah (.adr y)] w fun e w'=>e=.returned (Zah (Zcw op (.num x) (.adr y)))/\w=w':=by
 have q1:=fun w=>Zd0 (.int .i64 x) w
 have q2:=fun w=>Zdy (.string ⟨(y:List UInt8).toArray⟩) w
 by_cases e:x=0
 ·subst e;rw [show Zcw op (.num 0) (.adr y)=(.adr y) from rfl];exact m_119
 ·rw [show Zcw op (.num x) (.adr y)=.non from if_neg e];exact m_119
theorem Zpe (op:Int)(x:Int)(y:Nat)(w:World):Calls Tryz.prog 110 #[.int .i64 op,Zah (.num x),Zah (.rd y)] w fun e w'=>e=.returned (Zah (Zcw op (.num x) (.rd y)))/\w=w':=by
 have q1:=fun w=>Zd0 (.int .i64 x) w
 have q2:=fun w=>Zd1 (.int .i64 ((y:Nat):Int)) w
 by_cases e:x=0
 ·subst e;rw [show Zcw op (.num 0) (.rd y)=(.rd y) from rfl];exact m_119
 ·rw [show Zcw op (.num x) (.rd y)=.non from if_neg e];exact m_119
theorem Zni (op:Int)(x:Int)(w:World):Calls Tryz.prog 110 #[.int .i64 op,Zah (.num x),Zah .non] w fun e w'=>e=.returned (Zah (Zcw op (.num x) .non))/\w=w':=by
 have q1:=fun w=>Zd0 (.int .i64 x) w
 have q2:=fun w=>Zdz (.agg #[]) w
 by_cases e:x=0
 ·subst e;rw [show Zcw op (.num 0) .non=.non from rfl];exact m_119
 ·rw [show Zcw op (.num x) .non=.non from if_neg e];exact m_119
theorem Znd (op:Int)(x:Nm)(y:Int)(w:World):Calls Tryz.prog 110 #[.int .i64 op,Zah (.adr x),Zah (.num y)] w fun e w'=>e=.returned (Zah (Zcw op (.adr x) (.num y)))/\w=w':=by
 have q1:=fun w=>Zdy (.string ⟨(x:List UInt8).toArray⟩) w
 have q2:=fun w=>Zd0 (.int .i64 y) w
 by_cases e:y=0
 ·subst e;rw [show Zcw op (.adr x) (.num 0)=(.adr x) from rfl];exact m_119
 ·rw [show Zcw op (.adr x) (.num y)=.non from if_neg e];exact m_119
theorem Znb (op:Int)(x:Nm)(y:Nm)(w:World):Calls Tryz.prog 110 #[.int .i64 op,Zah (.adr x),Zah (.adr y)] w fun e w'=>e=.returned (Zah (Zcw op (.adr x) (.adr y)))/\w=w':=by
 have q1:=fun w=>Zdy (.string ⟨(x:List UInt8).toArray⟩) w
 have q2:=fun w=>Zdy (.string ⟨(y:List UInt8).toArray⟩) w
 rw [show Zcw op (.adr x) (.adr y)=.non from rfl];unfold Zah;go_enter Tryz.func110,Tryz.ntmps110
 go_wp2_with fail
 go_ret;exact⟨rfl,rfl⟩
theorem Zpc (op:Int)(x:Nm)(y:Nat)(w:World):Calls Tryz.prog 110 #[.int .i64 op,Zah (.adr x),Zah (.rd y)] w fun e w'=>e=.returned (Zah (Zcw op (.adr x) (.rd y)))/\w=w':=by
 have q1:=fun w=>Zdy (.string ⟨(x:List UInt8).toArray⟩) w
 have q2:=fun w=>Zd1 (.int .i64 ((y:Nat):Int)) w
 rw [show Zcw op (.adr x) (.rd y)=.non from rfl];unfold Zah;go_enter Tryz.func110,Tryz.ntmps110
 go_wp2_with fail
 go_ret;exact⟨rfl,rfl⟩
theorem Znc (op:Int)(x:Nm)(w:World):Calls Tryz.prog 110 #[.int .i64 op,Zah (.adr x),Zah .non] w fun e w'=>e=.returned (Zah (Zcw op (.adr x) .non))/\w=w':=by
 have q1:=fun w=>Zdy (.string ⟨(x:List UInt8).toArray⟩) w
 have q2:=fun w=>Zdz (.agg #[]) w
 rw [show Zcw op (.adr x) .non=.non from rfl];unfold Zah;go_enter Tryz.func110,Tryz.ntmps110
 go_wp2_with fail
 go_ret;exact⟨rfl,rfl⟩
theorem Zph (op:Int)(x:Nat)(y:Int)(w:World):Calls Tryz.prog 110 #[.int .i64 op,Zah (.rd x),Zah (.num y)] w fun e w'=>e=.returned (Zah (Zcw op (.rd x) (.num y)))/\w=w':=by
 have q1:=fun w=>Zd1 (.int .i64 ((x:Nat):Int)) w
 have q2:=fun w=>Zd0 (.int .i64 y) w
 by_cases e:y=0
 ·subst e;rw [show Zcw op (.rd x) (.num 0)=(.rd x) from rfl];exact m_119
 ·rw [show Zcw op (.rd x) (.num y)=.non from if_neg e];exact m_119
theorem Zpf (op:Int)(x:Nat)(y:Nm)(w:World):Calls Tryz.prog 110 #[.int .i64 op,Zah (.rd x),Zah (.adr y)] w fun e w'=>e=.returned (Zah (Zcw op (.rd x) (.adr y)))/\w=w':=by
 have q1:=fun w=>Zd1 (.int .i64 ((x:Nat):Int)) w
 have q2:=fun w=>Zdy (.string ⟨(y:List UInt8).toArray⟩) w
 rw [show Zcw op (.rd x) (.adr y)=.non from rfl];unfold Zah;go_enter Tryz.func110,Tryz.ntmps110
 go_wp2_with fail
 go_ret;exact⟨rfl,rfl⟩
theorem Zqv (op:Int)(x:Nat)(y:Nat)(w:World):Calls Tryz.prog 110 #[.int .i64 op,Zah (.rd x),Zah (.rd y)] w fun e w'=>e=.returned (Zah (Zcw op (.rd x) (.rd y)))/\w=w':=by
 have q1:=fun w=>Zd1 (.int .i64 ((x:Nat):Int)) w
 have q2:=fun w=>Zd1 (.int .i64 ((y:Nat):Int)) w
 rw [show Zcw op (.rd x) (.rd y)=.non from rfl];unfold Zah;go_enter Tryz.func110,Tryz.ntmps110
 go_wp2_with fail
 go_ret;exact⟨rfl,rfl⟩
theorem Zpg (op:Int)(x:Nat)(w:World):Calls Tryz.prog 110 #[.int .i64 op,Zah (.rd x),Zah .non] w fun e w'=>e=.returned (Zah (Zcw op (.rd x) .non))/\w=w':=by
 have q1:=fun w=>Zd1 (.int .i64 ((x:Nat):Int)) w
 have q2:=fun w=>Zdz (.agg #[]) w
 rw [show Zcw op (.rd x) .non=.non from rfl];unfold Zah;go_enter Tryz.func110,Tryz.ntmps110
 go_wp2_with fail
 go_ret;exact⟨rfl,rfl⟩
theorem Zng (op:Int)(y:Int)(w:World):Calls Tryz.prog 110 #[.int .i64 op,Zah .non,Zah (.num y)] w fun e w'=>e=.returned (Zah (Zcw op .non (.num y)))/\w=w':=by
 have q1:=fun w=>Zdz (.agg #[]) w
 have q2:=fun w=>Zd0 (.int .i64 y) w
 by_cases e:y=0
 ·subst e;rw [show Zcw op .non (.num 0)=.non from rfl];exact m_119
 ·rw [show Zcw op .non (.num y)=.non from if_neg e];exact m_119
theorem Zne (op:Int)(y:Nm)(w:World):Calls Tryz.prog 110 #[.int .i64 op,Zah .non,Zah (.adr y)] w fun e w'=>e=.returned (Zah (Zcw op .non (.adr y)))/\w=w':=by
 have q1:=fun w=>Zdz (.agg #[]) w
 have q2:=fun w=>Zdy (.string ⟨(y:List UInt8).toArray⟩) w
 rw [show Zcw op .non (.adr y)=.non from rfl];unfold Zah;go_enter Tryz.func110,Tryz.ntmps110
 go_wp2_with fail
 go_ret;exact⟨rfl,rfl⟩
theorem Zpd (op:Int)(y:Nat)(w:World):Calls Tryz.prog 110 #[.int .i64 op,Zah .non,Zah (.rd y)] w fun e w'=>e=.returned (Zah (Zcw op .non (.rd y)))/\w=w':=by
 have q1:=fun w=>Zdz (.agg #[]) w
 have q2:=fun w=>Zd1 (.int .i64 ((y:Nat):Int)) w
 rw [show Zcw op .non (.rd y)=.non from rfl];unfold Zah;go_enter Tryz.func110,Tryz.ntmps110
 go_wp2_with fail
 go_ret;exact⟨rfl,rfl⟩
theorem Znf (op:Int)(w:World):Calls Tryz.prog 110 #[.int .i64 op,Zah .non,Zah .non] w fun e w'=>e=.returned (Zah (Zcw op .non .non))/\w=w':=by
 have q1:=fun w=>Zdz (.agg #[]) w
 have q2:=fun w=>Zdz (.agg #[]) w
 rw [show Zcw op .non .non=.non from rfl];unfold Zah;go_enter Tryz.func110,Tryz.ntmps110
 go_wp2_with fail
 go_ret;exact⟨rfl,rfl⟩
def Zqs:Zd8->Prop
 | .num x=>Zc7 x
 | _=>True
theorem Zg0.num {C:Cx}{evs:List Evt}:∀ {h:Zd8},Zg0 C evs h->Zqs h
 | .num _,h=>h
 | .adr _,_=>trivial
 | .rd _,_=>trivial
 | .non,_=>trivial
theorem Z5i (op:Int)(w:World):∀ (a b:Zd8),Zqs a->Zqs b->Calls Tryz.prog 110 #[.int .i64 op,Zah a,Zah b] w fun e w'=>e=.returned (Zah (Zcw op a b))/\w=w'
 | .num x,.num y,ha,hb=>Zzu op x y ha hb w
 | .num x,.adr y,_,_=>Znh op x y w
 | .num x,.rd y,_,_=>Zpe op x y w
 | .num x,.non,_,_=>Zni op x w
 | .adr x,.num y,_,_=>Znd op x y w
 | .adr x,.adr y,_,_=>Znb op x y w
 | .adr x,.rd y,_,_=>Zpc op x y w
 | .adr x,.non,_,_=>Znc op x w
 | .rd x,.num y,_,_=>Zph op x y w
 | .rd x,.adr y,_,_=>Zpf op x y w
 | .rd x,.rd y,_,_=>Zqv op x y w
 | .rd x,.non,_,_=>Zpg op x w
 | .non,.num y,_,_=>Zng op y w
 | .non,.adr y,_,_=>Zne op y w
 | .non,.rd y,_,_=>Zpd op y w
 | .non,.non,_,_=>Znf op w
theorem Zle (x:Int)(y:Int)(w:World):Calls Tryz.prog 112 #[Zah (.num x),Zah (.num y)] w fun e w'=>e=.returned (.bool (Zan (.num x) (.num y)))/\w=w':=by
 have q1:=fun w=>Zd0 (.int .i64 x) w
 have q2:=fun w=>Zid (.int .i64 x) w
 have q3:=fun w=>Zd0 (.int .i64 y) w
 have q4:=fun w=>Zid (.int .i64 y) w
 by_cases e:x=y
 ·rw [show Zan (.num x) (.num y)=false from by simp [Zan,e]];exact m_105
 ·rw [show Zan (.num x) (.num y)=true from by simp [Zan,e]];unfold Zah;go_enter Tryz.func112,Tryz.ntmps112
  go_wp2_with fail
  go_ret;exact⟨Zae (by simp [e]),rfl⟩
theorem Zlc (x:Int)(y:Nm)(w:World):Calls Tryz.prog 112 #[Zah (.num x),Zah (.adr y)] w fun e w'=>e=.returned (.bool (Zan (.num x) (.adr y)))/\w=w':=by
 have q1:=fun w=>Zd0 (.int .i64 x) w
 have q2:=fun w=>Zid (.int .i64 x) w
 have q3:=fun w=>Zdy (.string ⟨(y:List UInt8).toArray⟩) w
 have q4:=fun w=>Zib (.string ⟨(y:List UInt8).toArray⟩) w
 rw [show Zan (.num x) (.adr y)=true from rfl];unfold Zah;go_enter Tryz.func112,Tryz.ntmps112
 go_wp2_with fail
 go_ret;exact⟨rfl,rfl⟩
theorem Zn2 (x:Int)(y:Nat)(w:World):Calls Tryz.prog 112 #[Zah (.num x),Zah (.rd y)] w fun e w'=>e=.returned (.bool (Zan (.num x) (.rd y)))/\w=w':=by
 have q1:=fun w=>Zd0 (.int .i64 x) w
 have q2:=fun w=>Zid (.int .i64 x) w
 have q3:=fun w=>Zd1 (.int .i64 ((y:Nat):Int)) w
 have q4:=fun w=>Zie (.int .i64 ((y:Nat):Int)) w
 rw [show Zan (.num x) (.rd y)=true from rfl];unfold Zah;go_enter Tryz.func112,Tryz.ntmps112
 go_wp2_with fail
 go_ret;exact⟨rfl,rfl⟩
theorem Zld (x:Int)(w:World):Calls Tryz.prog 112 #[Zah (.num x),Zah .non] w fun e w'=>e=.returned (.bool (Zan (.num x) .non))/\w=w':=by
 have q1:=fun w=>Zd0 (.int .i64 x) w
 have q2:=fun w=>Zid (.int .i64 x) w
 have q3:=fun w=>Zdz (.agg #[]) w
 have q4:=fun w=>Zic (.agg #[]) w
 rw [show Zan (.num x) .non=true from rfl];unfold Zah;go_enter Tryz.func112,Tryz.ntmps112
 go_wp2_with fail
 go_ret;exact⟨rfl,rfl⟩
theorem Zk8 (x:Nm)(y:Int)(w:World):Calls Tryz.prog 112 #[Zah (.adr x),Zah (.num y)] w fun e w'=>e=.returned (.bool (Zan (.adr x) (.num y)))/\w=w':=by
 have q1:=fun w=>Zdy (.string ⟨(x:List UInt8).toArray⟩) w
 have q2:=fun w=>Zib (.string ⟨(x:List UInt8).toArray⟩) w
 have q3:=fun w=>Zd0 (.int .i64 y) w
 have q4:=fun w=>Zid (.int .i64 y) w
 rw [show Zan (.adr x) (.num y)=true from rfl];unfold Zah;go_enter Tryz.func112,Tryz.ntmps112
 go_wp2_with fail
 go_ret;exact⟨rfl,rfl⟩
theorem Zk6 (x:Nm)(y:Nm)(w:World):Calls Tryz.prog 112 #[Zah (.adr x),Zah (.adr y)] w fun e w'=>e=.returned (.bool (Zan (.adr x) (.adr y)))/\w=w':=by
 have q1:=fun w=>Zdy (.string ⟨(x:List UInt8).toArray⟩) w
 have q2:=fun w=>Zib (.string ⟨(x:List UInt8).toArray⟩) w
 have q3:=fun w=>Zdy (.string ⟨(y:List UInt8).toArray⟩) w
 have q4:=fun w=>Zib (.string ⟨(y:List UInt8).toArray⟩) w
 by_cases e:x=y
 ·rw [show Zan (.adr x) (.adr y)=false from by simp [Zan,e]];have e1:(x == y)=true:=by simpa using e
  exact m_105
 ·rw [show Zan (.adr x) (.adr y)=true from by simp [Zan,e]];have e1:(x == y)=false:=by simpa using e
  unfold Zah;go_enter Tryz.func112,Tryz.ntmps112
  go_wp2_with fail
  go_ret;exact⟨Zae (by simp),rfl⟩
theorem Zn0 (x:Nm)(y:Nat)(w:World):Calls Tryz.prog 112 #[Zah (.adr x),Zah (.rd y)] w fun e w'=>e=.returned (.bool (Zan (.adr x) (.rd y)))/\w=w':=by
 have q1:=fun w=>Zdy (.string ⟨(x:List UInt8).toArray⟩) w
 have q2:=fun w=>Zib (.string ⟨(x:List UInt8).toArray⟩) w
 have q3:=fun w=>Zd1 (.int .i64 ((y:Nat):Int)) w
 have q4:=fun w=>Zie (.int .i64 ((y:Nat):Int)) w
 rw [show Zan (.adr x) (.rd y)=true from rfl];unfold Zah;go_enter Tryz.func112,Tryz.ntmps112
 go_wp2_with fail
 go_ret;exact⟨rfl,rfl⟩
theorem Zk7 (x:Nm)(w:World):Calls Tryz.prog 112 #[Zah (.adr x),Zah .non] w fun e w'=>e=.returned (.bool (Zan (.adr x) .non))/\w=w':=by
 have q1:=fun w=>Zdy (.string ⟨(x:List UInt8).toArray⟩) w
 have q2:=fun w=>Zib (.string ⟨(x:List UInt8).toArray⟩) w
 have q3:=fun w=>Zdz (.agg #[]) w
 have q4:=fun w=>Zic (.agg #[]) w
 rw [show Zan (.adr x) .non=true from rfl];unfold Zah;go_enter Tryz.func112,Tryz.ntmps112
 go_wp2_with fail
 go_ret;exact⟨rfl,rfl⟩
theorem Zn5 (x:Nat)(y:Int)(w:World):Calls Tryz.prog 112 #[Zah (.rd x),Zah (.num y)] w fun e w'=>e=.returned (.bool (Zan (.rd x) (.num y)))/\w=w':=by
 have q1:=fun w=>Zd1 (.int .i64 ((x:Nat):Int)) w
 have q2:=fun w=>Zie (.int .i64 ((x:Nat):Int)) w
 have q3:=fun w=>Zd0 (.int .i64 y) w
 have q4:=fun w=>Zid (.int .i64 y) w
 rw [show Zan (.rd x) (.num y)=true from rfl];unfold Zah;go_enter Tryz.func112,Tryz.ntmps112
 go_wp2_with fail
 go_ret;exact⟨rfl,rfl⟩
theorem Zn3 (x:Nat)(y:Nm)(w:World):Calls Tryz.prog 112 #[Zah (.rd x),Zah (.adr y)] w fun e w'=>e=.returned (.bool (Zan (.rd x) (.adr y)))/\w=w':=by
 have q1:=fun w=>Zd1 (.int .i64 ((x:Nat):Int)) w
 have q2:=fun w=>Zie (.int .i64 ((x:Nat):Int)) w
 have q3:=fun w=>Zdy (.string ⟨(y:List UInt8).toArray⟩) w
 have q4:=fun w=>Zib (.string ⟨(y:List UInt8).toArray⟩) w
 rw [show Zan (.rd x) (.adr y)=true from rfl];unfold Zah;go_enter Tryz.func112,Tryz.ntmps112
 go_wp2_with fail
 go_ret;exact⟨rfl,rfl⟩
theorem Zp4 (x:Nat)(y:Nat)(w:World):Calls Tryz.prog 112 #[Zah (.rd x),Zah (.rd y)] w fun e w'=>e=.returned (.bool (Zan (.rd x) (.rd y)))/\w=w':=by
 have q1:=fun w=>Zd1 (.int .i64 ((x:Nat):Int)) w
 have q2:=fun w=>Zie (.int .i64 ((x:Nat):Int)) w
 have q3:=fun w=>Zd1 (.int .i64 ((y:Nat):Int)) w
 have q4:=fun w=>Zie (.int .i64 ((y:Nat):Int)) w
 rw [show Zan (.rd x) (.rd y)=true from rfl];unfold Zah;go_enter Tryz.func112,Tryz.ntmps112
 go_wp2_with fail
 go_ret;exact⟨rfl,rfl⟩
theorem Zn4 (x:Nat)(w:World):Calls Tryz.prog 112 #[Zah (.rd x),Zah .non] w fun e w'=>e=.returned (.bool (Zan (.rd x) .non))/\w=w':=by
 have q1:=fun w=>Zd1 (.int .i64 ((x:Nat):Int)) w
 have q2:=fun w=>Zie (.int .i64 ((x:Nat):Int)) w
 have q3:=fun w=>Zdz (.agg #[]) w
 have q4:=fun w=>Zic (.agg #[]) w
 rw [show Zan (.rd x) .non=true from rfl];unfold Zah;go_enter Tryz.func112,Tryz.ntmps112
 go_wp2_with fail
 go_ret;exact⟨rfl,rfl⟩
theorem Zlb (y:Int)(w:World):Calls Tryz.prog 112 #[Zah .non,Zah (.num y)] w fun e w'=>e=.returned (.bool (Zan .non (.num y)))/\w=w':=by
 have q1:=fun w=>Zdz (.agg #[]) w
 have q2:=fun w=>Zic (.agg #[]) w
 have q3:=fun w=>Zd0 (.int .i64 y) w
 have q4:=fun w=>Zid (.int .i64 y) w
 rw [show Zan .non (.num y)=true from rfl];unfold Zah;go_enter Tryz.func112,Tryz.ntmps112
 go_wp2_with fail
 go_ret;exact⟨rfl,rfl⟩
theorem Zk9 (y:Nm)(w:World):Calls Tryz.prog 112 #[Zah .non,Zah (.adr y)] w fun e w'=>e=.returned (.bool (Zan .non (.adr y)))/\w=w':=by
 have q1:=fun w=>Zdz (.agg #[]) w
 have q2:=fun w=>Zic (.agg #[]) w
 have q3:=fun w=>Zdy (.string ⟨(y:List UInt8).toArray⟩) w
 have q4:=fun w=>Zib (.string ⟨(y:List UInt8).toArray⟩) w
 rw [show Zan .non (.adr y)=true from rfl];unfold Zah;go_enter Tryz.func112,Tryz.ntmps112
 go_wp2_with fail
 go_ret;exact⟨rfl,rfl⟩
theorem Zn1 (y:Nat)(w:World):Calls Tryz.prog 112 #[Zah .non,Zah (.rd y)] w fun e w'=>e=.returned (.bool (Zan .non (.rd y)))/\w=w':=by
 have q1:=fun w=>Zdz (.agg #[]) w
 have q2:=fun w=>Zic (.agg #[]) w
 have q3:=fun w=>Zd1 (.int .i64 ((y:Nat):Int)) w
 have q4:=fun w=>Zie (.int .i64 ((y:Nat):Int)) w
 rw [show Zan .non (.rd y)=true from rfl];unfold Zah;go_enter Tryz.func112,Tryz.ntmps112
 go_wp2_with fail
 go_ret;exact⟨rfl,rfl⟩
theorem Zla (w:World):Calls Tryz.prog 112 #[Zah .non,Zah .non] w fun e w'=>e=.returned (.bool (Zan .non .non))/\w=w':=by
 have q1:=fun w=>Zdz (.agg #[]) w
 have q2:=fun w=>Zic (.agg #[]) w
 have q3:=fun w=>Zdz (.agg #[]) w
 have q4:=fun w=>Zic (.agg #[]) w
 rw [show Zan .non .non=true from rfl];unfold Zah;go_enter Tryz.func112,Tryz.ntmps112
 go_wp2_with fail
 go_ret;exact⟨rfl,rfl⟩
theorem Z32 (w:World):∀ (a b:Zd8),Calls Tryz.prog 112 #[Zah a,Zah b] w fun e w'=>e=.returned (.bool (Zan a b))/\w=w'
 | .num x,.num y=>Zle x y w
 | .num x,.adr y=>Zlc x y w
 | .num x,.rd y=>Zn2 x y w
 | .num x,.non=>Zld x w
 | .adr x,.num y=>Zk8 x y w
 | .adr x,.adr y=>Zk6 x y w
 | .adr x,.rd y=>Zn0 x y w
 | .adr x,.non=>Zk7 x w
 | .rd x,.num y=>Zn5 x y w
 | .rd x,.adr y=>Zn3 x y w
 | .rd x,.rd y=>Zp4 x y w
 | .rd x,.non=>Zn4 x w
 | .non,.num y=>Zlb y w
 | .non,.adr y=>Zk9 y w
 | .non,.rd y=>Zn1 y w
 | .non,.non=>Zla w
end
end
end Go.Proofs.YtdfmcfppoohckaaGreatDoor
