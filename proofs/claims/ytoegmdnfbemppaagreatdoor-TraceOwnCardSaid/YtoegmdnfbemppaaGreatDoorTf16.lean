/- Layer 15: a read or a write is put down: the program's event. -/
import Derived.Test.YtoegmdnfbemppaaGreatDoorTf14

namespace Go.Proofs.YtoegmdnfbemppaaGreatDoor
open Go.RowKit
section
structure Zrb (w0:World) (S:Zgi):Prop where
 tst:∃ Ai Ac ci cc,S.iv=.slice Ai S.T.init.length ci/\S.cv=.slice Ac S.T.code.length cc/\Zb4 w0 S.T Ai Ac S.kv
 locs:∃ A cl,S.lv=.slice A S.C.locs.length cl/\Zcx.At w0 A S.C.locs
 str:Zj1 S.C.locs
 few:S.C.locs.length<=64
 risc:S.C.risc=decide (S.T.arch=2)
theorem Zzw (w:World)(a b c d e f:Int):Zp5.At (w.alloc (.cells #[.int .i64 a,.int .i64 b,.int .i64 c,.int .i64 d,.int .i64 e,.int .i64 f] 50 (0,0))) (some ⟨w.heap.size,0,none⟩) [⟨a,b,c,d,e,f⟩]:=by
 have hB:=Blk.new w 50 #[.int .i64 a,.int .i64 b,.int .i64 c,.int .i64 d,.int .i64 e,.int .i64 f]
 intro i x hx
 refine⟨w.heap.size,0,rfl,fun j u hj=>?_⟩
 match i,hx with
 | 0,hx=>
  simp at hx;subst hx
  rw [show 0+0*Zp5.size+j=j by omega,hB.cell]
  rw [<- hj];simp
def Zb1 (B g:Nat)(S:Zgi)(V:Zd3)(r:Rn)(v:Value)(w:World)(e:Ending)(w':World):Prop:=∃ V',e=.returned v/\Za1 w' B g S r V'/\Below B w w'/\FrV w w' g V V'
theorem Zca {w:World}{B:Nat}{t:TypeId}{z n:Nat}{v:Value}{cs:List Value}(h:w.ownsRow B t z v n cs):∃ A m cap,v=.slice A m cap:=by
 obtain⟨A,cap,e⟩:=Zbw h
 exact⟨A,n,cap,e⟩
theorem Z0f {w:World}{g:Nat}{t:TypeId}{cs:Array Value}(h:Blk w g t cs)(n:Nat):Blk (w.drewN n) g t cs:=h
theorem Zcw (w:World)(o:Obj)(t:TypeId)(cs:Array Value):Blk ((w.alloc o).alloc (.cells cs t (0,0))) (w.heap.size+1) t cs:=by
 have:=Blk.new (w.alloc o) t cs
 rwa [show (w.alloc o).heap.size=w.heap.size+1 by simp] at this
section
set_option maxHeartbeats 4000000
set_option maxRecDepth 100000
variable {w0 w:World} {g nr k:Nat} {S:Zgi} {r:Rn} {V:Zd3}
theorem Zzu (pl:Nat)(dr vl rg:Int)(loc:Nm)(on:Nat)(HS:Zrb w0 S)(hb:Below w0.heap.size w0 w)(hI:Inv S.C nr k r)(hR:Za1 w w0.heap.size g S r V)(hloc:loc∈S.C.locs)(hon:Rds r.evs on) :
  Calls Tryz.prog 158 #[.pointer (some ⟨g,0,none⟩),.agg #[.int .i64 0,.int .i64 (pl:Int),.int .i64 dr,.int .i64 0,.int .i64 vl,.int .i64 rg],.string ⟨loc.toArray⟩,Zta on] w
   (Zb1 w0.heap.size g S V (Zi8 S.C r pl dr loc vl rg on) (.int .i64 ((if 64<=S.C.ahead+r.evs.length then 0 else r.evs.length:Nat):Int)) w):=by
 have HR:=Zh hR
 obtain⟨Ae,ce,hve⟩:=hR.evs.shp
 obtain⟨Aa,ca,hva⟩:=hR.addr.shp
 obtain⟨Ah,ch,hvh⟩:=hR.hang.shp
 have HON:=Zh (hon.lt64 (show r.evs.length<=64 by have:=hI.room;omega))
 have HOC:=Zh (hI.ctrl.lt64 (show r.evs.length<=64 by have:=hI.room;omega))
 have hla:=hI.addr.len
 have hlh:=hI.hang.len
 have room:=hI.room
 have hgw:g<w.heap.size:=hR.blk.lt
 have hgB:=hR.hg
 have HB:=Zh hb
 have hbs:=hb.size
 by_cases hfull:64<=S.C.ahead+r.evs.length
 ·have hfi:(64:Int)<=(S.C.ahead:Int)+(r.evs.length:Int):=by omega
  have hri:(S.C.ahead:Int)+(r.evs.length:Int)<=64:=by omega
  have k19:=hR.blk.cell 19
  have k24:=hR.blk.cell 24
  have f25:=hR.blk.frozen 25
  have k25:=hR.blk.cell 25
  simp only [List.getElem?_toArray,List.getElem?_cons_succ,List.getElem?_cons_zero,hve] at k19 k24 k25
  clear hR hb hI
  go_enter Tryz.func158,Tryz.ntmps158
  go_wp2_with fail
  go_ret
  refine⟨V,Zah (by simp),?_,?_,(FrV.set w g V 25 _).trans (FrV.of_below (Zap _ _ _))⟩
  ·rw [Zc2 hfull]
   exact HR.out.full.below (Zap _ _ _)
  ·exact ((Below.refl _ _).setCell (p:=⟨g,25,none⟩) hgB _).trans ((Zap _ _ _).mono (by simp;omega))
 ·have hfi:(S.C.ahead:Int)+(r.evs.length:Int)<64:=by omega
  have k19:=hR.blk.cell 19
  have k24:=hR.blk.cell 24
  have k12:=hR.blk.cell 12
  have k13:=hR.blk.cell 13
  simp only [List.getElem?_toArray,List.getElem?_cons_succ,List.getElem?_cons_zero,hve] at k19 k24 k12 k13
  obtain⟨Al,cl,hlv,hla⟩:=HS.locs
  rw [hlv] at k13
  have few:=HS.few
  have HSR:=Zh (Zpr Al cl S.C.locs loc)
  have HLA:=Zh (hla.below hb)
  have HSTR:=Zh HS.str
  have HLOC:=Zh hloc
  clear hR hb hI hlv hla HS hloc
  go_enter Tryz.func158,Tryz.ntmps158
  go_wp2_with (go_at_call 30;refine (HSR.out _ (HLA.out.below (Zap _ _ _)) (by omega) HSTR.out HLOC.out).mono ?_;rintro e w' ⟨rfl,q,rfl⟩)
  generalize hw3:(World.setCell _ _ _:World)=w3
  have hn0:w.heap.size≠w.heap.size+1:=by omega
  have HE3:Hid (Blk w3 w.heap.size 50 #[.int .i64 (S.C.th:Int),.int .i64 (pl:Int),.int .i64 dr,.int .i64 ((S.C.locs.idxOf loc:Nat):Int),.int .i64 vl,.int .i64 rg]):=by
   rw [<- hw3]
   exact Zh ((Z0f (Blk.alloc (Blk.new w 50 #[.int .i64 (S.C.th:Int),.int .i64 (pl:Int),.int .i64 dr,.int .i64 0,.int .i64 vl,.int .i64 rg]) _) q).set_ 3 (.int .i64 ((S.C.locs.idxOf loc:Nat):Int)))
  have HO3:Hid (Blk w3 (w.heap.size+1) 112 #[.int .u64 (on:Int),.int .u64 0,.int .u64 0,.int .u64 0]):=by
   rw [<- hw3]
   exact Zh ((Z0f (Zcw w _ _ _) q).far (by simp) _)
  have HW3:Hid (Below w.heap.size w w3):=by
   rw [<- hw3]
   exact Zh ((Zan (Zap w _ _) q).setCell (by simp) _)
  clear hw3
  have hz3:=HW3.out.size
  have HR3:=Zh (HR.out.below HW3.out)
  obtain⟨vrg,vev,vbr,vad,vda,vhg⟩:=V
  simp only at hve hva hvh
  subst hve hva hvh
  have k19:w3.cell? ⟨g,19,none⟩=some (.slice Ae r.evs.length ce):=HR3.out.blk.cell 19
  have e0:=HE3.out.cl 0
  have e1:=HE3.out.cl 1
  have e2:=HE3.out.cl 2
  have e3:=HE3.out.cl 3
  have e4:=HE3.out.cl 4
  have e5:=HE3.out.cl 5
  refine wz (fun y:World=>y.cell? ⟨g,19,none⟩=some (.slice Ae r.evs.length ce)/\y.cell? ⟨w.heap.size,0,none⟩=some (.int .i64 (S.C.th:Int))/\y.cell? ⟨w.heap.size,1,none⟩=some (.int .i64 (pl:Int))/\y.cell? ⟨w.heap.size,2,none⟩=some (.int .i64 dr)/\y.cell? ⟨w.heap.size,3,none⟩=some (.int .i64 ((S.C.locs.idxOf loc:Nat):Int))/\y.cell? ⟨w.heap.size,4,none⟩=some (.int .i64 vl)/\y.cell? ⟨w.heap.size,5,none⟩=some (.int .i64 rg)) [4,5,6] ⟨k19,e0,e1,e2,e3,e4,e5⟩ (fun hHeld=>?_)
  refine wq 0 ?_
  refine wq 1 ?_
  refine wq 2 ?_
  refine wq 3 ?_
  refine wt 4 (by assumption) ?_
  refine wt 5 (by assumption) ?_
  refine Zav (i:=6) (by kernel_rfl) rfl (fun K hK=>?_)
  go_simp
  refine hK.out _ _ ⟨Zal hHeld.1 _,Zal hHeld.2.1 _,Zal hHeld.2.2.1 _,Zal hHeld.2.2.2.1 _,Zal hHeld.2.2.2.2.1 _,Zal hHeld.2.2.2.2.2.1 _,Zal hHeld.2.2.2.2.2.2 _⟩ ?_
  clear hK K
  refine pu ?_
  refine wl 7 ?_
  have HRd:=Zh (HR3.out.below ((Zad w3 (.cells #[.int .i64 (S.C.th:Int),.int .i64 (pl:Int),.int .i64 dr,.int .i64 ((S.C.locs.idxOf loc:Nat):Int),.int .i64 vl,.int .i64 rg] 50 (0,0))).drew))
  have HBd:=Zh ((HW3.out.mono hbs).trans ((Zad w3 (.cells #[.int .i64 (S.C.th:Int),.int .i64 (pl:Int),.int .i64 dr,.int .i64 ((S.C.locs.idxOf loc:Nat):Int),.int .i64 vl,.int .i64 rg] 50 (0,0))).drew.mono (show w0.heap.size<=w3.heap.size by omega)))
  have HFd:Hid (FrV w _ g ⟨vrg,.slice Ae r.evs.length ce,vbr,.slice Aa r.addr.length ca,vda,.slice Ah r.hang.length ch⟩ ⟨vrg,.slice Ae r.evs.length ce,vbr,.slice Aa r.addr.length ca,vda,.slice Ah r.hang.length ch⟩):=Zh (FrV.of_below (HW3.out.trans ((Zad w3 (.cells #[.int .i64 (S.C.th:Int),.int .i64 (pl:Int),.int .i64 dr,.int .i64 ((S.C.locs.idxOf loc:Nat):Int),.int .i64 vl,.int .i64 rg] 50 (0,0))).drew.mono hz3)))
  have HPA:=Zh (Zzw w3 (S.C.th:Int) (pl:Int) dr ((S.C.locs.idxOf loc:Nat):Int) vl rg)
  have HOE:=Zh HRd.out.evs
  have HO3d:=Zh (HO3.out.go ((Zad w3 (.cells #[.int .i64 (S.C.th:Int),.int .i64 (pl:Int),.int .i64 dr,.int .i64 ((S.C.locs.idxOf loc:Nat):Int),.int .i64 vl,.int .i64 rg] 50 (0,0))).drew))
  clear k19 e0 e1 e2 e3 e4 e5 hHeld HR3 HE3 HO3 HR HSR
  generalize hwd:(w3.alloc (.cells #[.int .i64 (S.C.th:Int),.int .i64 (pl:Int),.int .i64 dr,.int .i64 ((S.C.locs.idxOf loc:Nat):Int),.int .i64 vl,.int .i64 rg] 50 (0,0))).drew=wd at *
  have HPD:Hid (Zp5.At wd (some ⟨w3.heap.size,0,none⟩) [⟨(S.C.th:Int),(pl:Int),dr,((S.C.locs.idxOf loc:Nat):Int),vl,rg⟩]):=by rw [<- hwd];exact HPA
  have hzd:w3.heap.size<wd.heap.size:=by rw [<- hwd];simp
  clear hwd HPA
  go_wp2_with (at_builtin;refine Enc.appW Z2b _ rfl (.tmp 44) (.tmp 46) rfl [⟨(S.C.th:Int),(pl:Int),dr,((S.C.locs.idxOf loc:Nat):Int),vl,rg⟩] w0.heap.size r.evs _ w3.heap.size 0 1 rfl rfl HPD.out HOE.out (by simp;omega) (by simp;omega) (by omega) ?_;intro v' w4 hown4 hg4;obtain⟨A4,n4,c4,rfl⟩:=Zca hown4;have HO4:=Zh hown4;have HG4:=Zh hg4;have HB4:=Zh (Zat HRd.out.blk HOE.out (by decide) hg4);have HS4:=Zh (Zat HO3d.out HOE.out (by decide) hg4);clear hown4 hg4;have k19:w4.cell? ⟨g,19,none⟩=some (.slice Ae r.evs.length ce):=HB4.out.cell 19;have f19:=HB4.out.frozen 19)
  have HR5:=Zh (HRd.out.ev HG4.out HO4.out)
  have HF5:=Zh (HFd.out.trans (FrV.ev HG4.out))
  have HB5:=Zh ((HBd.out.trans HG4.out.below).setCell (p:=⟨g,19,none⟩) hgB (.slice A4 n4 c4))
  have HS5:=Zh (HS4.out.far (p:=⟨g,19,none⟩) (by simp;omega) (.slice A4 n4 c4))
  generalize hw5:w4.setCell ⟨g,19,none⟩ (.slice A4 n4 c4)=w5 at *
  clear hw5 HFd HG4 HO4 HB4 HS4 k19 f19 HRd HBd HOE HO3d HPD hzd hn0 HW3 hz3
  have hz5:=HB5.out.size
  have k21:w5.cell? ⟨g,21,none⟩=some (.slice Aa r.addr.length ca):=HR5.out.blk.cell 21
  have o0:=HS5.out.cl 0
  have o1:=HS5.out.cl 1
  have o2:=HS5.out.cl 2
  have o3:=HS5.out.cl 3
  refine wz (fun y:World=>y.cell? ⟨g,21,none⟩=some (.slice Aa r.addr.length ca)/\y.cell? ⟨w.heap.size+1,0,none⟩=some (.int .u64 (on:Int))/\y.cell? ⟨w.heap.size+1,1,none⟩=some (.int .u64 0)/\y.cell? ⟨w.heap.size+1,2,none⟩=some (.int .u64 0)/\y.cell? ⟨w.heap.size+1,3,none⟩=some (.int .u64 0)) [4,5] ⟨k21,o0,o1,o2,o3⟩ (fun hHeld=>?_)
  refine wq 0 ?_
  refine wq 1 ?_
  refine wq 2 ?_
  refine wq 3 ?_
  refine wq 6 ?_
  refine wt 4 (by assumption) ?_
  refine wt 5 (by assumption) ?_
  refine wl 7 ?_
  have HRd:=Zh HR5.out.drew
  have HFd:=Zh HF5.out.drew
  have HBd:=Zh HB5.out.drew
  have HOA:=Zh HRd.out.addr
  clear hHeld k21 o0 o1 o2 o3 HS5 HR5 HF5
  generalize hwd:w5.drew=wd at *
  clear hwd
  have hzd:=HBd.out.size
  go_wp2_with (go_at_call 159;refine (Zwd _ r.addr on r.evs.length w0.heap.size _ HON.out (by omega) (by omega) HOA.out).mono ?_;rintro e w6 ⟨v',rfl,hown6,hg6⟩;obtain⟨A6,n6,c6,rfl⟩:=Zca hown6;have HO6:=Zh hown6;have HG6:=Zh hg6;have HB6:=Zh (Zat HRd.out.blk HOA.out (by decide) hg6);clear hown6 hg6;have k21:w6.cell? ⟨g,21,none⟩=some (.slice Aa r.addr.length ca):=HB6.out.cell 21;have f21:=HB6.out.frozen 21)
  have HR7:=Zh (HRd.out.ad HG6.out HO6.out)
  have HF7:=Zh (HFd.out.trans (FrV.ad HG6.out))
  have HB7:=Zh ((HBd.out.trans HG6.out.below).setCell (p:=⟨g,21,none⟩) hgB (.slice A6 n6 c6))
  generalize hw7:w6.setCell ⟨g,21,none⟩ (.slice A6 n6 c6)=w7 at *
  clear hw7 HFd HG6 HO6 HB6 k21 f21 HRd HBd HOA hzd
  have hz7:=HB7.out.size
  have k23:w7.cell? ⟨g,23,none⟩=some (.slice Ah r.hang.length ch):=HR7.out.blk.cell 23
  have o0:=HR7.out.blk.cl 15
  have o1:=HR7.out.blk.cl 16
  have o2:=HR7.out.blk.cl 17
  have o3:=HR7.out.blk.cl 18
  refine wz (fun y:World=>y.cell? ⟨g,23,none⟩=some (.slice Ah r.hang.length ch)/\y.cell? ⟨g,15,none⟩=some (.int .u64 (r.ctrl:Int))/\y.cell? ⟨g,16,none⟩=some (.int .u64 0)/\y.cell? ⟨g,17,none⟩=some (.int .u64 0)/\y.cell? ⟨g,18,none⟩=some (.int .u64 0)) [4,8] ⟨k23,o0,o1,o2,o3⟩ (fun hHeld=>?_)
  refine wq 0 ?_
  refine wq 1 ?_
  refine wq 2 ?_
  refine wq 3 ?_
  refine wq 5 ?_
  refine wq 6 ?_
  refine wq 7 ?_
  refine wq 9 ?_
  refine wt 4 (by assumption) ?_
  refine wt 8 (by assumption) ?_
  refine wl 10 ?_
  have HRd:=Zh HR7.out.drew
  have HFd:=Zh HF7.out.drew
  have HBd:=Zh HB7.out.drew
  have HOA:=Zh HRd.out.hang
  clear hHeld k23 o0 o1 o2 o3 HR7 HF7
  generalize hwd:w7.drew=wd at *
  clear hwd
  have hzd:=HBd.out.size
  go_wp2_with (go_at_call 159;refine (Zwd _ r.hang r.ctrl r.evs.length w0.heap.size _ HOC.out (by omega) (by omega) HOA.out).mono ?_;rintro e w6 ⟨v',rfl,hown6,hg6⟩;obtain⟨A6,n6,c6,rfl⟩:=Zca hown6;have HO6:=Zh hown6;have HG6:=Zh hg6;have HB6:=Zh (Zat HRd.out.blk HOA.out (by decide) hg6);clear hown6 hg6;have k23:w6.cell? ⟨g,23,none⟩=some (.slice Ah r.hang.length ch):=HB6.out.cell 23;have f23:=HB6.out.frozen 23)
  have HR9:=Zh (HRd.out.hgg HG6.out HO6.out)
  have HB9:=Zh ((HBd.out.trans HG6.out.below).setCell (p:=⟨g,23,none⟩) hgB (.slice A6 n6 c6))
  go_ret
  rw [Zc3 hfull]
  exact⟨_,rfl,HR9.out,HB9.out,HFd.out.trans (FrV.hgg HG6.out)⟩
end
end
section
theorem Zdv (v:Value)(w:World):(Instr.typeAssert (.iface 159 v) 161 159 true).run Tryz.prog w=.ok (.tuple #[v,.bool true]) w:=by kernel_rfl
theorem Zds (v:Value)(w:World):(Instr.typeAssert (.iface 164 v) 161 159 true).run Tryz.prog w=.ok (.tuple #[.int .i64 0,.bool false]) w:=by kernel_rfl
theorem Zdy (v:Value)(w:World):(Instr.typeAssert (.iface 171 v) 161 159 true).run Tryz.prog w=.ok (.tuple #[.int .i64 0,.bool false]) w:=by kernel_rfl
theorem Zdw (v:Value)(w:World):(Instr.typeAssert (.iface 293 v) 161 159 true).run Tryz.prog w=.ok (.tuple #[.int .i64 0,.bool false]) w:=by kernel_rfl
theorem Zhl (v:Value)(w:World):(Instr.typeAssert (.iface 159 v) 161 164 true).run Tryz.prog w=.ok (.tuple #[.string ⟨#[]⟩,.bool false]) w:=by kernel_rfl
theorem Zh7 (v:Value)(w:World):(Instr.typeAssert (.iface 164 v) 161 164 true).run Tryz.prog w=.ok (.tuple #[v,.bool true]) w:=by kernel_rfl
theorem Zhn (v:Value)(w:World):(Instr.typeAssert (.iface 171 v) 161 164 true).run Tryz.prog w=.ok (.tuple #[.string ⟨#[]⟩,.bool false]) w:=by kernel_rfl
theorem Zh0 (v:Value)(w:World):(Instr.typeAssert (.iface 293 v) 161 164 true).run Tryz.prog w=.ok (.tuple #[.string ⟨#[]⟩,.bool false]) w:=by kernel_rfl
theorem Z45 (v:Value)(w:World):(Instr.typeAssert (.iface 159 v) 161 171 true).run Tryz.prog w=.ok (.tuple #[.int .i64 0,.bool false]) w:=by kernel_rfl
theorem Z4w (v:Value)(w:World):(Instr.typeAssert (.iface 164 v) 161 171 true).run Tryz.prog w=.ok (.tuple #[.int .i64 0,.bool false]) w:=by kernel_rfl
theorem Z3s (v:Value)(w:World):(Instr.typeAssert (.iface 171 v) 161 171 true).run Tryz.prog w=.ok (.tuple #[v,.bool true]) w:=by kernel_rfl
theorem Z3j (v:Value)(w:World):(Instr.typeAssert (.iface 293 v) 161 171 true).run Tryz.prog w=.ok (.tuple #[.int .i64 0,.bool false]) w:=by kernel_rfl
theorem Zgb {z:Int}(h:Zdj z):wrap64 z=z:=by
 unfold Zdj at h
 simp [wrap64]
 omega
theorem Zqg {a b:Int}(h:a=b):Ending.returned (.iface 159 (.int .i64 a))=.returned (.iface 159 (.int .i64 b)):=by rw [h]
section
set_option maxHeartbeats 4000000
set_option maxRecDepth 100000
theorem Zye (op x y:Int)(hx:Zdj x)(hy:Zdj y)(w:World):Calls Tryz.prog 161 #[.int .i64 op,Zag (.num x),Zag (.num y)] w fun e w'=>e=.returned (Zag (.num (opN op x y)))/\w=w':=by
 have h1:IntKind.i32.wrap x=x:=wrap32 hx
 have h2:IntKind.i32.wrap y=y:=wrap32 hy
 have h3:=Z28 hx hy
 have h4:=Zs2 hx hy
 have h5:=Zgb h3.2
 have h6:=Zgb h4.2
 have HE:Hid (RowKit.wrap32 (x+y)=IntKind.i32.wrap (x+y)):=Zh (by
  unfold IntKind.wrap
  simp [RowKit.wrap32,IntKind.bits,IntKind.signed]
  omega)
 have h7:wrap64 (RowKit.wrap32 (x+y))=RowKit.wrap32 (x+y):=Zgb (by rw [HE.out];exact Zn6 _)
 have q1:=fun w=>Zdv (.int .i64 x) w
 have q2:=fun w=>Zdv (.int .i64 y) w
 have h30:=h3.1
 have h40:=h4.1
 clear h3 h4 hx hy
 unfold Zag
 by_cases e8:op=8
 ·subst e8
  go_enter Tryz.func161,Tryz.ntmps161
  go_wp2_with fail
  go_ret
  exact⟨Zqg (by simp [opN,h30]),rfl⟩
 ·by_cases e9:op=9
  ·subst e9
   go_enter Tryz.func161,Tryz.ntmps161
   go_wp2_with fail
   go_ret
   exact⟨Zqg (by simp [opN,h40]),rfl⟩
  ·go_enter Tryz.func161,Tryz.ntmps161
   go_wp2_with fail
   go_ret
   exact⟨Zqg (by unfold opN;rw [if_neg e8,if_neg e9];exact HE.out),rfl⟩
theorem Zmy (op:Int)(x:Int)(y:Nm)(w:World):Calls Tryz.prog 161 #[.int .i64 op,Zag (.num x),Zag (.adr y)] w fun e w'=>e=.returned (Zag (Zcs op (.num x) (.adr y)))/\w=w':=by
 have q1:=fun w=>Zdv (.int .i64 x) w
 have q2:=fun w=>Zds (.string ⟨(y:List UInt8).toArray⟩) w
 by_cases e:x=0
 ·subst e
  rw [show Zcs op (.num 0) (.adr y)=(.adr y) from rfl]
  exact m_122
 ·rw [show Zcs op (.num x) (.adr y)=.non from if_neg e]
  exact m_122
theorem Zpb (op:Int)(x:Int)(y:Nat)(w:World):Calls Tryz.prog 161 #[.int .i64 op,Zag (.num x),Zag (.rd y)] w fun e w'=>e=.returned (Zag (Zcs op (.num x) (.rd y)))/\w=w':=by
 have q1:=fun w=>Zdv (.int .i64 x) w
 have q2:=fun w=>Zdy (.int .i64 ((y:Nat):Int)) w
 by_cases e:x=0
 ·subst e
  rw [show Zcs op (.num 0) (.rd y)=(.rd y) from rfl]
  exact m_122
 ·rw [show Zcs op (.num x) (.rd y)=.non from if_neg e]
  exact m_122
theorem Zm8 (op:Int)(x:Int)(w:World):Calls Tryz.prog 161 #[.int .i64 op,Zag (.num x),Zag .non] w fun e w'=>e=.returned (Zag (Zcs op (.num x) .non))/\w=w':=by
 have q1:=fun w=>Zdv (.int .i64 x) w
 have q2:=fun w=>Zdw (.agg #[]) w
 by_cases e:x=0
 ·subst e
  rw [show Zcs op (.num 0) .non=.non from rfl]
  exact m_122
 ·rw [show Zcs op (.num x) .non=.non from if_neg e]
  exact m_122
theorem Zmb (op:Int)(x:Nm)(y:Int)(w:World):Calls Tryz.prog 161 #[.int .i64 op,Zag (.adr x),Zag (.num y)] w fun e w'=>e=.returned (Zag (Zcs op (.adr x) (.num y)))/\w=w':=by
 have q1:=fun w=>Zds (.string ⟨(x:List UInt8).toArray⟩) w
 have q2:=fun w=>Zdv (.int .i64 y) w
 by_cases e:y=0
 ·subst e
  rw [show Zcs op (.adr x) (.num 0)=(.adr x) from rfl]
  exact m_122
 ·rw [show Zcs op (.adr x) (.num y)=.non from if_neg e]
  exact m_122
theorem Znd (op:Int)(x:Nm)(y:Nm)(w:World):Calls Tryz.prog 161 #[.int .i64 op,Zag (.adr x),Zag (.adr y)] w fun e w'=>e=.returned (Zag (Zcs op (.adr x) (.adr y)))/\w=w':=by
 have q1:=fun w=>Zds (.string ⟨(x:List UInt8).toArray⟩) w
 have q2:=fun w=>Zds (.string ⟨(y:List UInt8).toArray⟩) w
 rw [show Zcs op (.adr x) (.adr y)=.non from rfl]
 unfold Zag
 go_enter Tryz.func161,Tryz.ntmps161
 go_wp2_with fail
 go_ret
 exact⟨rfl,rfl⟩
theorem Zpd (op:Int)(x:Nm)(y:Nat)(w:World):Calls Tryz.prog 161 #[.int .i64 op,Zag (.adr x),Zag (.rd y)] w fun e w'=>e=.returned (Zag (Zcs op (.adr x) (.rd y)))/\w=w':=by
 have q1:=fun w=>Zds (.string ⟨(x:List UInt8).toArray⟩) w
 have q2:=fun w=>Zdy (.int .i64 ((y:Nat):Int)) w
 rw [show Zcs op (.adr x) (.rd y)=.non from rfl]
 unfold Zag
 go_enter Tryz.func161,Tryz.ntmps161
 go_wp2_with fail
 go_ret
 exact⟨rfl,rfl⟩
theorem Zmp (op:Int)(x:Nm)(w:World):Calls Tryz.prog 161 #[.int .i64 op,Zag (.adr x),Zag .non] w fun e w'=>e=.returned (Zag (Zcs op (.adr x) .non))/\w=w':=by
 have q1:=fun w=>Zds (.string ⟨(x:List UInt8).toArray⟩) w
 have q2:=fun w=>Zdw (.agg #[]) w
 rw [show Zcs op (.adr x) .non=.non from rfl]
 unfold Zag
 go_enter Tryz.func161,Tryz.ntmps161
 go_wp2_with fail
 go_ret
 exact⟨rfl,rfl⟩
theorem Zpc (op:Int)(x:Nat)(y:Int)(w:World):Calls Tryz.prog 161 #[.int .i64 op,Zag (.rd x),Zag (.num y)] w fun e w'=>e=.returned (Zag (Zcs op (.rd x) (.num y)))/\w=w':=by
 have q1:=fun w=>Zdy (.int .i64 ((x:Nat):Int)) w
 have q2:=fun w=>Zdv (.int .i64 y) w
 by_cases e:y=0
 ·subst e
  rw [show Zcs op (.rd x) (.num 0)=(.rd x) from rfl]
  exact m_122
 ·rw [show Zcs op (.rd x) (.num y)=.non from if_neg e]
  exact m_122
theorem Zph (op:Int)(x:Nat)(y:Nm)(w:World):Calls Tryz.prog 161 #[.int .i64 op,Zag (.rd x),Zag (.adr y)] w fun e w'=>e=.returned (Zag (Zcs op (.rd x) (.adr y)))/\w=w':=by
 have q1:=fun w=>Zdy (.int .i64 ((x:Nat):Int)) w
 have q2:=fun w=>Zds (.string ⟨(y:List UInt8).toArray⟩) w
 rw [show Zcs op (.rd x) (.adr y)=.non from rfl]
 unfold Zag
 go_enter Tryz.func161,Tryz.ntmps161
 go_wp2_with fail
 go_ret
 exact⟨rfl,rfl⟩
theorem Zp0 (op:Int)(x:Nat)(y:Nat)(w:World):Calls Tryz.prog 161 #[.int .i64 op,Zag (.rd x),Zag (.rd y)] w fun e w'=>e=.returned (Zag (Zcs op (.rd x) (.rd y)))/\w=w':=by
 have q1:=fun w=>Zdy (.int .i64 ((x:Nat):Int)) w
 have q2:=fun w=>Zdy (.int .i64 ((y:Nat):Int)) w
 rw [show Zcs op (.rd x) (.rd y)=.non from rfl]
 unfold Zag
 go_enter Tryz.func161,Tryz.ntmps161
 go_wp2_with fail
 go_ret
 exact⟨rfl,rfl⟩
theorem Zou (op:Int)(x:Nat)(w:World):Calls Tryz.prog 161 #[.int .i64 op,Zag (.rd x),Zag .non] w fun e w'=>e=.returned (Zag (Zcs op (.rd x) .non))/\w=w':=by
 have q1:=fun w=>Zdy (.int .i64 ((x:Nat):Int)) w
 have q2:=fun w=>Zdw (.agg #[]) w
 rw [show Zcs op (.rd x) .non=.non from rfl]
 unfold Zag
 go_enter Tryz.func161,Tryz.ntmps161
 go_wp2_with fail
 go_ret
 exact⟨rfl,rfl⟩
theorem Zl8 (op:Int)(y:Int)(w:World):Calls Tryz.prog 161 #[.int .i64 op,Zag .non,Zag (.num y)] w fun e w'=>e=.returned (Zag (Zcs op .non (.num y)))/\w=w':=by
 have q1:=fun w=>Zdw (.agg #[]) w
 have q2:=fun w=>Zdv (.int .i64 y) w
 by_cases e:y=0
 ·subst e
  rw [show Zcs op .non (.num 0)=.non from rfl]
  exact m_122
 ·rw [show Zcs op .non (.num y)=.non from if_neg e]
  exact m_122
theorem Zne (op:Int)(y:Nm)(w:World):Calls Tryz.prog 161 #[.int .i64 op,Zag .non,Zag (.adr y)] w fun e w'=>e=.returned (Zag (Zcs op .non (.adr y)))/\w=w':=by
 have q1:=fun w=>Zdw (.agg #[]) w
 have q2:=fun w=>Zds (.string ⟨(y:List UInt8).toArray⟩) w
 rw [show Zcs op .non (.adr y)=.non from rfl]
 unfold Zag
 go_enter Tryz.func161,Tryz.ntmps161
 go_wp2_with fail
 go_ret
 exact⟨rfl,rfl⟩
theorem Zo9 (op:Int)(y:Nat)(w:World):Calls Tryz.prog 161 #[.int .i64 op,Zag .non,Zag (.rd y)] w fun e w'=>e=.returned (Zag (Zcs op .non (.rd y)))/\w=w':=by
 have q1:=fun w=>Zdw (.agg #[]) w
 have q2:=fun w=>Zdy (.int .i64 ((y:Nat):Int)) w
 rw [show Zcs op .non (.rd y)=.non from rfl]
 unfold Zag
 go_enter Tryz.func161,Tryz.ntmps161
 go_wp2_with fail
 go_ret
 exact⟨rfl,rfl⟩
theorem Zmg (op:Int)(w:World):Calls Tryz.prog 161 #[.int .i64 op,Zag .non,Zag .non] w fun e w'=>e=.returned (Zag (Zcs op .non .non))/\w=w':=by
 have q1:=fun w=>Zdw (.agg #[]) w
 have q2:=fun w=>Zdw (.agg #[]) w
 rw [show Zcs op .non .non=.non from rfl]
 unfold Zag
 go_enter Tryz.func161,Tryz.ntmps161
 go_wp2_with fail
 go_ret
 exact⟨rfl,rfl⟩
def Zps:Zd6->Prop
 | .num x=>Zdj x
 | _=>True
theorem Zgw.num {C:Cx}{evs:List Evt}:∀ {h:Zd6},Zgw C evs h->Zps h
 | .num _,h=>h
 | .adr _,_=>trivial
 | .rd _,_=>trivial
 | .non,_=>trivial
theorem Z3p (op:Int)(w:World):∀ (a b:Zd6),Zps a->Zps b->Calls Tryz.prog 161 #[.int .i64 op,Zag a,Zag b] w fun e w'=>e=.returned (Zag (Zcs op a b))/\w=w'
 | .num x,.num y,ha,hb=>Zye op x y ha hb w
 | .num x,.adr y,_,_=>Zmy op x y w
 | .num x,.rd y,_,_=>Zpb op x y w
 | .num x,.non,_,_=>Zm8 op x w
 | .adr x,.num y,_,_=>Zmb op x y w
 | .adr x,.adr y,_,_=>Znd op x y w
 | .adr x,.rd y,_,_=>Zpd op x y w
 | .adr x,.non,_,_=>Zmp op x w
 | .rd x,.num y,_,_=>Zpc op x y w
 | .rd x,.adr y,_,_=>Zph op x y w
 | .rd x,.rd y,_,_=>Zp0 op x y w
 | .rd x,.non,_,_=>Zou op x w
 | .non,.num y,_,_=>Zl8 op y w
 | .non,.adr y,_,_=>Zne op y w
 | .non,.rd y,_,_=>Zo9 op y w
 | .non,.non,_,_=>Zmg op w
theorem Zkw (x:Int)(y:Int)(w:World):Calls Tryz.prog 163 #[Zag (.num x),Zag (.num y)] w fun e w'=>e=.returned (.bool (Zak (.num x) (.num y)))/\w=w':=by
 have q1:=fun w=>Zdv (.int .i64 x) w
 have q2:=fun w=>Zhl (.int .i64 x) w
 have q3:=fun w=>Zdv (.int .i64 y) w
 have q4:=fun w=>Zhl (.int .i64 y) w
 by_cases e:x=y
 ·rw [show Zak (.num x) (.num y)=false from by simp [Zak,e]]
  exact m_107
 ·rw [show Zak (.num x) (.num y)=true from by simp [Zak,e]]
  unfold Zag
  go_enter Tryz.func163,Tryz.ntmps163
  go_wp2_with fail
  go_ret
  exact⟨Zae (by simp [e]),rfl⟩
theorem Zk0 (x:Int)(y:Nm)(w:World):Calls Tryz.prog 163 #[Zag (.num x),Zag (.adr y)] w fun e w'=>e=.returned (.bool (Zak (.num x) (.adr y)))/\w=w':=by
 have q1:=fun w=>Zdv (.int .i64 x) w
 have q2:=fun w=>Zhl (.int .i64 x) w
 have q3:=fun w=>Zds (.string ⟨(y:List UInt8).toArray⟩) w
 have q4:=fun w=>Zh7 (.string ⟨(y:List UInt8).toArray⟩) w
 rw [show Zak (.num x) (.adr y)=true from rfl]
 unfold Zag
 go_enter Tryz.func163,Tryz.ntmps163
 go_wp2_with fail
 go_ret
 exact⟨rfl,rfl⟩
theorem Zmu (x:Int)(y:Nat)(w:World):Calls Tryz.prog 163 #[Zag (.num x),Zag (.rd y)] w fun e w'=>e=.returned (.bool (Zak (.num x) (.rd y)))/\w=w':=by
 have q1:=fun w=>Zdv (.int .i64 x) w
 have q2:=fun w=>Zhl (.int .i64 x) w
 have q3:=fun w=>Zdy (.int .i64 ((y:Nat):Int)) w
 have q4:=fun w=>Zhn (.int .i64 ((y:Nat):Int)) w
 rw [show Zak (.num x) (.rd y)=true from rfl]
 unfold Zag
 go_enter Tryz.func163,Tryz.ntmps163
 go_wp2_with fail
 go_ret
 exact⟨rfl,rfl⟩
theorem Zkr (x:Int)(w:World):Calls Tryz.prog 163 #[Zag (.num x),Zag .non] w fun e w'=>e=.returned (.bool (Zak (.num x) .non))/\w=w':=by
 have q1:=fun w=>Zdv (.int .i64 x) w
 have q2:=fun w=>Zhl (.int .i64 x) w
 have q3:=fun w=>Zdw (.agg #[]) w
 have q4:=fun w=>Zh0 (.agg #[]) w
 rw [show Zak (.num x) .non=true from rfl]
 unfold Zag
 go_enter Tryz.func163,Tryz.ntmps163
 go_wp2_with fail
 go_ret
 exact⟨rfl,rfl⟩
theorem Zkq (x:Nm)(y:Int)(w:World):Calls Tryz.prog 163 #[Zag (.adr x),Zag (.num y)] w fun e w'=>e=.returned (.bool (Zak (.adr x) (.num y)))/\w=w':=by
 have q1:=fun w=>Zds (.string ⟨(x:List UInt8).toArray⟩) w
 have q2:=fun w=>Zh7 (.string ⟨(x:List UInt8).toArray⟩) w
 have q3:=fun w=>Zdv (.int .i64 y) w
 have q4:=fun w=>Zhl (.int .i64 y) w
 rw [show Zak (.adr x) (.num y)=true from rfl]
 unfold Zag
 go_enter Tryz.func163,Tryz.ntmps163
 go_wp2_with fail
 go_ret
 exact⟨rfl,rfl⟩
theorem Zky (x:Nm)(y:Nm)(w:World):Calls Tryz.prog 163 #[Zag (.adr x),Zag (.adr y)] w fun e w'=>e=.returned (.bool (Zak (.adr x) (.adr y)))/\w=w':=by
 have q1:=fun w=>Zds (.string ⟨(x:List UInt8).toArray⟩) w
 have q2:=fun w=>Zh7 (.string ⟨(x:List UInt8).toArray⟩) w
 have q3:=fun w=>Zds (.string ⟨(y:List UInt8).toArray⟩) w
 have q4:=fun w=>Zh7 (.string ⟨(y:List UInt8).toArray⟩) w
 by_cases e:x=y
 ·rw [show Zak (.adr x) (.adr y)=false from by simp [Zak,e]]
  have e1:(x == y)=true:=by simpa using e
  exact m_107
 ·rw [show Zak (.adr x) (.adr y)=true from by simp [Zak,e]]
  have e1:(x == y)=false:=by simpa using e
  unfold Zag
  go_enter Tryz.func163,Tryz.ntmps163
  go_wp2_with fail
  go_ret
  exact⟨Zae (by simp),rfl⟩
theorem Znc (x:Nm)(y:Nat)(w:World):Calls Tryz.prog 163 #[Zag (.adr x),Zag (.rd y)] w fun e w'=>e=.returned (.bool (Zak (.adr x) (.rd y)))/\w=w':=by
 have q1:=fun w=>Zds (.string ⟨(x:List UInt8).toArray⟩) w
 have q2:=fun w=>Zh7 (.string ⟨(x:List UInt8).toArray⟩) w
 have q3:=fun w=>Zdy (.int .i64 ((y:Nat):Int)) w
 have q4:=fun w=>Zhn (.int .i64 ((y:Nat):Int)) w
 rw [show Zak (.adr x) (.rd y)=true from rfl]
 unfold Zag
 go_enter Tryz.func163,Tryz.ntmps163
 go_wp2_with fail
 go_ret
 exact⟨rfl,rfl⟩
theorem Zks (x:Nm)(w:World):Calls Tryz.prog 163 #[Zag (.adr x),Zag .non] w fun e w'=>e=.returned (.bool (Zak (.adr x) .non))/\w=w':=by
 have q1:=fun w=>Zds (.string ⟨(x:List UInt8).toArray⟩) w
 have q2:=fun w=>Zh7 (.string ⟨(x:List UInt8).toArray⟩) w
 have q3:=fun w=>Zdw (.agg #[]) w
 have q4:=fun w=>Zh0 (.agg #[]) w
 rw [show Zak (.adr x) .non=true from rfl]
 unfold Zag
 go_enter Tryz.func163,Tryz.ntmps163
 go_wp2_with fail
 go_ret
 exact⟨rfl,rfl⟩
theorem Zm4 (x:Nat)(y:Int)(w:World):Calls Tryz.prog 163 #[Zag (.rd x),Zag (.num y)] w fun e w'=>e=.returned (.bool (Zak (.rd x) (.num y)))/\w=w':=by
 have q1:=fun w=>Zdy (.int .i64 ((x:Nat):Int)) w
 have q2:=fun w=>Zhn (.int .i64 ((x:Nat):Int)) w
 have q3:=fun w=>Zdv (.int .i64 y) w
 have q4:=fun w=>Zhl (.int .i64 y) w
 rw [show Zak (.rd x) (.num y)=true from rfl]
 unfold Zag
 go_enter Tryz.func163,Tryz.ntmps163
 go_wp2_with fail
 go_ret
 exact⟨rfl,rfl⟩
theorem Zm0 (x:Nat)(y:Nm)(w:World):Calls Tryz.prog 163 #[Zag (.rd x),Zag (.adr y)] w fun e w'=>e=.returned (.bool (Zak (.rd x) (.adr y)))/\w=w':=by
 have q1:=fun w=>Zdy (.int .i64 ((x:Nat):Int)) w
 have q2:=fun w=>Zhn (.int .i64 ((x:Nat):Int)) w
 have q3:=fun w=>Zds (.string ⟨(y:List UInt8).toArray⟩) w
 have q4:=fun w=>Zh7 (.string ⟨(y:List UInt8).toArray⟩) w
 rw [show Zak (.rd x) (.adr y)=true from rfl]
 unfold Zag
 go_enter Tryz.func163,Tryz.ntmps163
 go_wp2_with fail
 go_ret
 exact⟨rfl,rfl⟩
theorem Zoj (x:Nat)(y:Nat)(w:World):Calls Tryz.prog 163 #[Zag (.rd x),Zag (.rd y)] w fun e w'=>e=.returned (.bool (Zak (.rd x) (.rd y)))/\w=w':=by
 have q1:=fun w=>Zdy (.int .i64 ((x:Nat):Int)) w
 have q2:=fun w=>Zhn (.int .i64 ((x:Nat):Int)) w
 have q3:=fun w=>Zdy (.int .i64 ((y:Nat):Int)) w
 have q4:=fun w=>Zhn (.int .i64 ((y:Nat):Int)) w
 rw [show Zak (.rd x) (.rd y)=true from rfl]
 unfold Zag
 go_enter Tryz.func163,Tryz.ntmps163
 go_wp2_with fail
 go_ret
 exact⟨rfl,rfl⟩
theorem Zng (x:Nat)(w:World):Calls Tryz.prog 163 #[Zag (.rd x),Zag .non] w fun e w'=>e=.returned (.bool (Zak (.rd x) .non))/\w=w':=by
 have q1:=fun w=>Zdy (.int .i64 ((x:Nat):Int)) w
 have q2:=fun w=>Zhn (.int .i64 ((x:Nat):Int)) w
 have q3:=fun w=>Zdw (.agg #[]) w
 have q4:=fun w=>Zh0 (.agg #[]) w
 rw [show Zak (.rd x) .non=true from rfl]
 unfold Zag
 go_enter Tryz.func163,Tryz.ntmps163
 go_wp2_with fail
 go_ret
 exact⟨rfl,rfl⟩
theorem Zk1 (y:Int)(w:World):Calls Tryz.prog 163 #[Zag .non,Zag (.num y)] w fun e w'=>e=.returned (.bool (Zak .non (.num y)))/\w=w':=by
 have q1:=fun w=>Zdw (.agg #[]) w
 have q2:=fun w=>Zh0 (.agg #[]) w
 have q3:=fun w=>Zdv (.int .i64 y) w
 have q4:=fun w=>Zhl (.int .i64 y) w
 rw [show Zak .non (.num y)=true from rfl]
 unfold Zag
 go_enter Tryz.func163,Tryz.ntmps163
 go_wp2_with fail
 go_ret
 exact⟨rfl,rfl⟩
theorem Zku (y:Nm)(w:World):Calls Tryz.prog 163 #[Zag .non,Zag (.adr y)] w fun e w'=>e=.returned (.bool (Zak .non (.adr y)))/\w=w':=by
 have q1:=fun w=>Zdw (.agg #[]) w
 have q2:=fun w=>Zh0 (.agg #[]) w
 have q3:=fun w=>Zds (.string ⟨(y:List UInt8).toArray⟩) w
 have q4:=fun w=>Zh7 (.string ⟨(y:List UInt8).toArray⟩) w
 rw [show Zak .non (.adr y)=true from rfl]
 unfold Zag
 go_enter Tryz.func163,Tryz.ntmps163
 go_wp2_with fail
 go_ret
 exact⟨rfl,rfl⟩
theorem Zm7 (y:Nat)(w:World):Calls Tryz.prog 163 #[Zag .non,Zag (.rd y)] w fun e w'=>e=.returned (.bool (Zak .non (.rd y)))/\w=w':=by
 have q1:=fun w=>Zdw (.agg #[]) w
 have q2:=fun w=>Zh0 (.agg #[]) w
 have q3:=fun w=>Zdy (.int .i64 ((y:Nat):Int)) w
 have q4:=fun w=>Zhn (.int .i64 ((y:Nat):Int)) w
 rw [show Zak .non (.rd y)=true from rfl]
 unfold Zag
 go_enter Tryz.func163,Tryz.ntmps163
 go_wp2_with fail
 go_ret
 exact⟨rfl,rfl⟩
theorem Zk3 (w:World):Calls Tryz.prog 163 #[Zag .non,Zag .non] w fun e w'=>e=.returned (.bool (Zak .non .non))/\w=w':=by
 have q1:=fun w=>Zdw (.agg #[]) w
 have q2:=fun w=>Zh0 (.agg #[]) w
 have q3:=fun w=>Zdw (.agg #[]) w
 have q4:=fun w=>Zh0 (.agg #[]) w
 rw [show Zak .non .non=true from rfl]
 unfold Zag
 go_enter Tryz.func163,Tryz.ntmps163
 go_wp2_with fail
 go_ret
 exact⟨rfl,rfl⟩
theorem Z1l (w:World):∀ (a b:Zd6),Calls Tryz.prog 163 #[Zag a,Zag b] w fun e w'=>e=.returned (.bool (Zak a b))/\w=w'
 | .num x,.num y=>Zkw x y w
 | .num x,.adr y=>Zk0 x y w
 | .num x,.rd y=>Zmu x y w
 | .num x,.non=>Zkr x w
 | .adr x,.num y=>Zkq x y w
 | .adr x,.adr y=>Zky x y w
 | .adr x,.rd y=>Znc x y w
 | .adr x,.non=>Zks x w
 | .rd x,.num y=>Zm4 x y w
 | .rd x,.adr y=>Zm0 x y w
 | .rd x,.rd y=>Zoj x y w
 | .rd x,.non=>Zng x w
 | .non,.num y=>Zk1 y w
 | .non,.adr y=>Zku y w
 | .non,.rd y=>Zm7 y w
 | .non,.non=>Zk3 w
end
end
end Go.Proofs.YtoegmdnfbemppaaGreatDoor
