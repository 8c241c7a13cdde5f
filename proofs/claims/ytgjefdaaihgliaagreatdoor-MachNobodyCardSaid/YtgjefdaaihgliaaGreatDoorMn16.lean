/- Layer 15: a read or a write is put down: the program's event. -/
import Derived.Test.YtgjefdaaihgliaaGreatDoorMn13

namespace Go.Proofs.YtgjefdaaihgliaaGreatDoor
open Go.RowKit
section
structure Zqx (w0:World) (S:Zgk):Prop where
 tst:∃ Ai Ac ci cc,S.iv=.slice Ai S.T.init.length ci/\S.cv=.slice Ac S.T.code.length cc/\Zcu w0 S.T Ai Ac S.kv
 locs:∃ A cl,S.lv=.slice A S.C.locs.length cl/\Zc1.At w0 A S.C.locs
 str:Zi3 S.C.locs
 few:S.C.locs.length<=64
 risc:S.C.risc=decide (S.T.arch=2)
theorem Z0j (w:World)(a b c d e f:Int):Zq8.At (w.alloc (.cells #[.int .i64 a,.int .i64 b,.int .i64 c,.int .i64 d,.int .i64 e,.int .i64 f] 225 (0,0))) (some ⟨w.heap.size,0,none⟩) [⟨a,b,c,d,e,f⟩]:=by
 have hB:=Blk.new w 225 #[.int .i64 a,.int .i64 b,.int .i64 c,.int .i64 d,.int .i64 e,.int .i64 f];intro i x hx;refine⟨w.heap.size,0,rfl,fun j u hj=>?_⟩
 match i,hx with
 | 0,hx=>
  simp at hx;subst hx;rw [show 0+0*Zq8.size+j=j by omega,hB.cell];rw [<- hj];simp
def Zb4 (B g:Nat)(S:Zgk)(V:Zd8)(r:Rn)(v:Value)(w:World)(e:Ending)(w':World):Prop:=∃ V',e=.returned v/\Za7 w' B g S r V'/\Below B w w'/\FrV w w' g V V'
theorem Zav {w:World}{B:Nat}{t:TypeId}{z n:Nat}{v:Value}{cs:List Value}(h:w.ownsRow B t z v n cs):∃ A m cap,v=.slice A m cap:=by
 obtain⟨A,cap,e⟩:=Zbe h;exact⟨A,n,cap,e⟩
theorem Z0d {w:World}{g:Nat}{t:TypeId}{cs:Array Value}(h:Blk w g t cs)(n:Nat):Blk (w.drewN n) g t cs:=h
theorem Zd9 (w:World)(o:Obj)(t:TypeId)(cs:Array Value):Blk ((w.alloc o).alloc (.cells cs t (0,0))) (w.heap.size+1) t cs:=by
 have:=Blk.new (w.alloc o) t cs
 rwa [show (w.alloc o).heap.size=w.heap.size+1 by simp] at this
section
set_option maxHeartbeats 4000000
set_option maxRecDepth 100000
variable {w0 w:World} {g nr k:Nat} {S:Zgk} {r:Rn} {V:Zd8}
theorem Z0h (pl:Nat)(dr vl rg:Int)(loc:Nm)(on:Nat)(HS:Zqx w0 S)(hb:Below w0.heap.size w0 w)(hI:Inv S.C nr k r)(hR:Za7 w w0.heap.size g S r V)(hloc:loc∈S.C.locs)(hon:Rds r.evs on) :
  Calls Tryz.prog 122 #[.pointer (some ⟨g,0,none⟩),.agg #[.int .i64 0,.int .i64 (pl:Int),.int .i64 dr,.int .i64 0,.int .i64 vl,.int .i64 rg],.string ⟨loc.toArray⟩,Ztl on] w
   (Zb4 w0.heap.size g S V (Zi5 S.C r pl dr loc vl rg on) (.int .i64 ((if 64<=S.C.ahead+r.evs.length then 0 else r.evs.length:Nat):Int)) w):=by
 have HR:=Zh hR;obtain⟨Ae,ce,hve⟩:=hR.evs.shp;obtain⟨Aa,ca,hva⟩:=hR.addr.shp;obtain⟨Ah,ch,hvh⟩:=hR.hang.shp;have HON:=Zh (hon.lt64 (show r.evs.length<=64 by have:=hI.room;omega));have HOC:=Zh (hI.ctrl.lt64 (show r.evs.length<=64 by have:=hI.room;omega));have hla:=hI.addr.len;have hlh:=hI.hang.len;have room:=hI.room;have hgw:g<w.heap.size:=hR.blk.lt;have hgB:=hR.hg;have hbs:=hb.size;by_cases hfull:64<=S.C.ahead+r.evs.length
 ·have hfi:(64:Int)<=(S.C.ahead:Int)+(r.evs.length:Int):=ω;have k19:=hR.blk.cell 19;have k24:=hR.blk.cell 24;have f25:=hR.blk.frozen 25;have k25:=hR.blk.cell 25;simp only [List.getElem?_toArray,List.getElem?_cons_succ,List.getElem?_cons_zero,hve] at k19 k24 k25;go_enter Tryz.func122,Tryz.ntmps122
  go_wp2_with fail
  go_ret;refine⟨V,Zak (by simp),?_,?_,(FrV.set w g V 25 _).trans (FrV.of_below (Zau _ _ _))⟩
  ·rw [Zc7 hfull];exact HR.o.full.below (Zau _ _ _)
  ·exact ((Below.refl _ _).setCell (p:=⟨g,25,none⟩) hgB _).trans ((Zau _ _ _).mono (by simp;omega))
 ·have hfi:(S.C.ahead:Int)+(r.evs.length:Int)<64:=ω;have k19:=hR.blk.cell 19;have k24:=hR.blk.cell 24;have k12:=hR.blk.cell 12;have k13:=hR.blk.cell 13;simp only [List.getElem?_toArray,List.getElem?_cons_succ,List.getElem?_cons_zero,hve] at k19 k24 k12 k13;obtain⟨Al,cl,hlv,hla⟩:=HS.locs;rw [hlv] at k13;have few:=HS.few;have HSR:=Zh (Zno Al cl S.C.locs loc);have HLA:=Zh (hla.below hb);have HSTR:=Zh HS.str;have HLOC:=Zh hloc;go_enter Tryz.func122,Tryz.ntmps122
  go_wp2_with (go_at_call 19;refine (HSR.o _ (HLA.o.below (Zau _ _ _)) ω HSTR.o HLOC.o).mono ?_;rintro e w' ⟨rfl,q,rfl⟩)
  generalize hw3:(World.setCell _ _ _:World)=w3;have hn0:w.heap.size≠w.heap.size+1:=ω;have HE3:Hid (Blk w3 w.heap.size 225 #[.int .i64 (S.C.th:Int),.int .i64 (pl:Int),.int .i64 dr,.int .i64 ((S.C.locs.idxOf loc:Nat):Int),.int .i64 vl,.int .i64 rg]):=by
   rw [<- hw3];exact Zh ((Z0d (Blk.alloc (Blk.new w 225 #[.int .i64 (S.C.th:Int),.int .i64 (pl:Int),.int .i64 dr,.int .i64 0,.int .i64 vl,.int .i64 rg]) _) q).set_ 3 (.int .i64 ((S.C.locs.idxOf loc:Nat):Int)))
  have HO3:Hid (Blk w3 (w.heap.size+1) 126 #[.int .u64 (on:Int),.int .u64 0,.int .u64 0,.int .u64 0]):=by
   rw [<- hw3];exact Zh ((Z0d (Zd9 w _ _ _) q).far (by simp) _)
  have HW3:Hid (Below w.heap.size w w3):=by
   rw [<- hw3];exact Zh ((Zag (Zau w _ _) q).setCell (by simp) _)
  have hz3:=HW3.o.size;have HR3:=Zh (HR.o.below HW3.o);obtain⟨vrg,vev,vbr,vad,vda,vhg⟩:=V;simp only at hve hva hvh;subst hve hva hvh;have k19:w3.cell? ⟨g,19,none⟩=some (.slice Ae r.evs.length ce):=HR3.o.blk.cell 19;obtain⟨e0,e1,e2,e3,e4,e5⟩:=HE3.o.c6;refine wz (fun y:World=>y.cell? ⟨g,19,none⟩=some (.slice Ae r.evs.length ce)/\y.cell? ⟨w.heap.size,0,none⟩=some (.int .i64 (S.C.th:Int))/\y.cell? ⟨w.heap.size,1,none⟩=some (.int .i64 (pl:Int))/\y.cell? ⟨w.heap.size,2,none⟩=some (.int .i64 dr)/\y.cell? ⟨w.heap.size,3,none⟩=some (.int .i64 ((S.C.locs.idxOf loc:Nat):Int))/\y.cell? ⟨w.heap.size,4,none⟩=some (.int .i64 vl)/\y.cell? ⟨w.heap.size,5,none⟩=some (.int .i64 rg)) [4,5,6] ⟨k19,e0,e1,e2,e3,e4,e5⟩ (fun hHeld=>?_);refine wq 0 ?_;refine wq 1 ?_;refine wq 2 ?_;refine wq 3 ?_;refine wt 4 (by assumption) ?_;refine wt 5 (by assumption) ?_;refine Zan (i:=6) κ rfl (fun K hK=>?_);go_simp;refine hK.out _ _ ⟨Zao hHeld.1 _,Zao hHeld.2.1 _,Zao hHeld.2.2.1 _,Zao hHeld.2.2.2.1 _,Zao hHeld.2.2.2.2.1 _,Zao hHeld.2.2.2.2.2.1 _,Zao hHeld.2.2.2.2.2.2 _⟩ ?_;refine pu ?_;refine wl 7 ?_;have HRd:=Zh (HR3.o.below ((Zad w3 (.cells #[.int .i64 (S.C.th:Int),.int .i64 (pl:Int),.int .i64 dr,.int .i64 ((S.C.locs.idxOf loc:Nat):Int),.int .i64 vl,.int .i64 rg] 225 (0,0))).drew))
  have HBd:=Zh ((HW3.o.mono hbs).trans ((Zad w3 (.cells #[.int .i64 (S.C.th:Int),.int .i64 (pl:Int),.int .i64 dr,.int .i64 ((S.C.locs.idxOf loc:Nat):Int),.int .i64 vl,.int .i64 rg] 225 (0,0))).drew.mono (show w0.heap.size<=w3.heap.size by omega)));have HFd:Hid (FrV w _ g ⟨vrg,.slice Ae r.evs.length ce,vbr,.slice Aa r.addr.length ca,vda,.slice Ah r.hang.length ch⟩ ⟨vrg,.slice Ae r.evs.length ce,vbr,.slice Aa r.addr.length ca,vda,.slice Ah r.hang.length ch⟩):=Zh (FrV.of_below (HW3.o.trans ((Zad w3 (.cells #[.int .i64 (S.C.th:Int),.int .i64 (pl:Int),.int .i64 dr,.int .i64 ((S.C.locs.idxOf loc:Nat):Int),.int .i64 vl,.int .i64 rg] 225 (0,0))).drew.mono hz3)));have HPA:=Zh (Z0j w3 (S.C.th:Int) (pl:Int) dr ((S.C.locs.idxOf loc:Nat):Int) vl rg);have HOE:=Zh HRd.o.evs;have HO3d:=Zh (HO3.o.go ((Zad w3 (.cells #[.int .i64 (S.C.th:Int),.int .i64 (pl:Int),.int .i64 dr,.int .i64 ((S.C.locs.idxOf loc:Nat):Int),.int .i64 vl,.int .i64 rg] 225 (0,0))).drew));generalize hwd:(w3.alloc (.cells #[.int .i64 (S.C.th:Int),.int .i64 (pl:Int),.int .i64 dr,.int .i64 ((S.C.locs.idxOf loc:Nat):Int),.int .i64 vl,.int .i64 rg] 225 (0,0))).drew=wd at *;have HPD:Hid (Zq8.At wd (some ⟨w3.heap.size,0,none⟩) [⟨(S.C.th:Int),(pl:Int),dr,((S.C.locs.idxOf loc:Nat):Int),vl,rg⟩]):=by rw [<- hwd];exact HPA
  have hzd:w3.heap.size<wd.heap.size:=by rw [<- hwd];simp
  go_wp2_with (at_builtin;refine Enc.appW Z18 _ rfl (.tmp 44) (.tmp 46) rfl [⟨(S.C.th:Int),(pl:Int),dr,((S.C.locs.idxOf loc:Nat):Int),vl,rg⟩] w0.heap.size r.evs _ w3.heap.size 0 1 rfl rfl HPD.o HOE.o (by simp;omega) (by simp;omega) ω ?_;intro v' w4 hown4 hg4;obtain⟨A4,n4,c4,rfl⟩:=Zav hown4;have HO4:=Zh hown4;have HG4:=Zh hg4;have HB4:=Zh (Zax HRd.o.blk HOE.o (by decide) hg4);have HS4:=Zh (Zax HO3d.o HOE.o (by decide) hg4);clear hown4 hg4;have k19:w4.cell? ⟨g,19,none⟩=some (.slice Ae r.evs.length ce):=HB4.o.cell 19;have f19:=HB4.o.frozen 19)
  have HR5:=Zh (HRd.o.ev HG4.o HO4.o);have HF5:=Zh (HFd.o.trans (FrV.ev HG4.o));have HB5:=Zh ((HBd.o.trans HG4.o.below).setCell (p:=⟨g,19,none⟩) hgB (.slice A4 n4 c4));have HS5:=Zh (HS4.o.far (p:=⟨g,19,none⟩) (by simp;omega) (.slice A4 n4 c4));generalize hw5:w4.setCell ⟨g,19,none⟩ (.slice A4 n4 c4)=w5 at *;have hz5:=HB5.o.size;have k21:w5.cell? ⟨g,21,none⟩=some (.slice Aa r.addr.length ca):=HR5.o.blk.cell 21;obtain⟨o0,o1,o2,o3⟩:=HS5.o.c4;refine wz (fun y:World=>y.cell? ⟨g,21,none⟩=some (.slice Aa r.addr.length ca)/\y.cell? ⟨w.heap.size+1,0,none⟩=some (.int .u64 (on:Int))/\y.cell? ⟨w.heap.size+1,1,none⟩=some (.int .u64 0)/\y.cell? ⟨w.heap.size+1,2,none⟩=some (.int .u64 0)/\y.cell? ⟨w.heap.size+1,3,none⟩=some (.int .u64 0)) [4,5] ⟨k21,o0,o1,o2,o3⟩ (fun hHeld=>?_);refine wq 0 ?_;refine wq 1 ?_;refine wq 2 ?_;refine wq 3 ?_;refine wq 6 ?_;refine wt 4 (by assumption) ?_;refine wt 5 (by assumption) ?_;refine wl 7 ?_;have HRd:=Zh HR5.o.drew;have HFd:=Zh HF5.o.drew;have HBd:=Zh HB5.o.drew;have HOA:=Zh HRd.o.addr;generalize hwd:w5.drew=wd at *;have hzd:=HBd.o.size
  go_wp2_with (go_at_call 123;refine (Zv8 _ r.addr on r.evs.length w0.heap.size _ HON.o ω ω HOA.o).mono ?_;rintro e w6 ⟨v',rfl,hown6,hg6⟩;obtain⟨A6,n6,c6,rfl⟩:=Zav hown6;have HO6:=Zh hown6;have HG6:=Zh hg6;have HB6:=Zh (Zax HRd.o.blk HOA.o (by decide) hg6);clear hown6 hg6;have k21:w6.cell? ⟨g,21,none⟩=some (.slice Aa r.addr.length ca):=HB6.o.cell 21;have f21:=HB6.o.frozen 21)
  have HR7:=Zh (HRd.o.ad HG6.o HO6.o);have HF7:=Zh (HFd.o.trans (FrV.ad HG6.o));have HB7:=Zh ((HBd.o.trans HG6.o.below).setCell (p:=⟨g,21,none⟩) hgB (.slice A6 n6 c6));generalize hw7:w6.setCell ⟨g,21,none⟩ (.slice A6 n6 c6)=w7 at *;have hz7:=HB7.o.size;have k23:w7.cell? ⟨g,23,none⟩=some (.slice Ah r.hang.length ch):=HR7.o.blk.cell 23;have o0:=HR7.o.blk.cm 15;have o1:=HR7.o.blk.cm 16;have o2:=HR7.o.blk.cm 17;have o3:=HR7.o.blk.cm 18;refine wz (fun y:World=>y.cell? ⟨g,23,none⟩=some (.slice Ah r.hang.length ch)/\y.cell? ⟨g,15,none⟩=some (.int .u64 (r.ctrl:Int))/\y.cell? ⟨g,16,none⟩=some (.int .u64 0)/\y.cell? ⟨g,17,none⟩=some (.int .u64 0)/\y.cell? ⟨g,18,none⟩=some (.int .u64 0)) [4,8] ⟨k23,o0,o1,o2,o3⟩ (fun hHeld=>?_);refine wq 0 ?_;refine wq 1 ?_;refine wq 2 ?_;refine wq 3 ?_;refine wq 5 ?_;refine wq 6 ?_;refine wq 7 ?_;refine wq 9 ?_;refine wt 4 (by assumption) ?_;refine wt 8 (by assumption) ?_;refine wl 10 ?_;have HRd:=Zh HR7.o.drew;have HFd:=Zh HF7.o.drew;have HBd:=Zh HB7.o.drew;have HOA:=Zh HRd.o.hang;generalize hwd:w7.drew=wd at *;have hzd:=HBd.o.size
  go_wp2_with (go_at_call 123;refine (Zv8 _ r.hang r.ctrl r.evs.length w0.heap.size _ HOC.o ω ω HOA.o).mono ?_;rintro e w6 ⟨v',rfl,hown6,hg6⟩;obtain⟨A6,n6,c6,rfl⟩:=Zav hown6;have HO6:=Zh hown6;have HG6:=Zh hg6;have HB6:=Zh (Zax HRd.o.blk HOA.o (by decide) hg6);clear hown6 hg6;have k23:w6.cell? ⟨g,23,none⟩=some (.slice Ah r.hang.length ch):=HB6.o.cell 23;have f23:=HB6.o.frozen 23)
  have HR9:=Zh (HRd.o.hgg HG6.o HO6.o);have HB9:=Zh ((HBd.o.trans HG6.o.below).setCell (p:=⟨g,23,none⟩) hgB (.slice A6 n6 c6));go_ret;rw [Zc8 hfull];exact⟨_,rfl,HR9.o,HB9.o,HFd.o.trans (FrV.hgg HG6.o)⟩
end
end
abbrev Zd2:Enc (List UInt8×Int):=⟨2,fun x=>[.string ⟨x.1.toArray⟩,.int .i64 x.2],fun _=>rfl,ω,fun _ u h=>by simp at h;rcases h with rfl | rfl <;> rfl⟩
theorem Z7t:Zd2.Elem 71 63 24:=⟨Tryz.underlying63,.agg #[.string ⟨#[]⟩,.int .i64 0],κ,rfl⟩
theorem Zf9 {α:Type}{E:Enc α}{l:List α}:∀ u∈E.flat l,u.oneCell'=true:=by
 intro u hu;unfold Enc.flat at hu;obtain⟨q,hq,huq⟩:=List.mem_flatten.1 hu;obtain⟨y,_,rfl⟩:=List.mem_map.1 hq;exact E.one y u huq
structure BTd where
 vs:List (List UInt8×Int)
 at_:Int
 q:List (Int×Int)
structure Chg (F:Nat->Prop) (w w':World):Prop where
 os:w'.os=w.os
 tape:w'.tape=w.tape
 output:w'.output=w.output
 size:w.heap.size<=w'.heap.size
 keep:∀ b,b<w.heap.size->¬ F b->w'.heap[b]?=w.heap[b]?
namespace Chg
variable {F F':Nat->Prop} {w w' w1 w2:World}
theorem of_below (h:Below w.heap.size w w'):Chg F w w':=⟨h.os,h.tape,h.output,h.size,fun b hb _=>h.block b hb⟩
theorem refl:Chg F w w:=of_below (Below.refl _ _)
theorem set (h:Chg F w w'){p:Addr}(hp:F p.block)(u:Value):Chg F w (w'.setCell p u):=
 ⟨h.os,h.tape,h.output,by simpa [World.setCell] using h.size,fun b hb hn=>(Below.heap_setCell w' p u b (fun e=>hn (e ▸ hp))).trans (h.keep b hb hn)⟩
theorem of_grew {B:Nat}{v v':Value}(h:Zbh w w' B v v')(hF:∀ b,v.ownBlock=some b->F b):Chg F w w':=
 ⟨h.below.os,h.below.tape,h.below.output,h.below.size,fun b hb hn=>h.keep b hb (fun e=>hn (hF b e))⟩
theorem far {t:TypeId}{cs:Array Value}{b:Nat}(h:Chg F w w')(hk:Blk w b t cs)(hn:¬ F b):Blk w' b t cs:=(h.keep b hk.lt hn).trans hk
end Chg
theorem Z4g {α:Type}{E:Enc α}{w:World}{A:Option Addr}{l:List α}(h:E.At w A l):E.At w.drew A l:=h
theorem Zon:∀ (vs rest pre:List Value),vs.length=rest.length->(vs.foldl (fun (s:Array Value×Nat) v=>(s.1.setIfInBounds s.2 v,s.2+1)) ((pre++rest).toArray,pre.length)).1=(pre++vs).toArray
 | [],rest,pre,h=>by
  have:rest=[]:=List.length_eq_zero_iff.1 h.symm;subst this;rfl
 | v :: vs,[],pre,h=>by simp at h
 | v :: vs,r :: rest,pre,h=>by
  have e:(pre++r :: rest).toArray.setIfInBounds pre.length v=((pre++[v])++rest).toArray:=by simp
  have ih:=Zon vs rest (pre++[v]) (by simpa using h);rw [show (pre++[v]).length=pre.length+1 by simp] at ih;rw [List.foldl_cons,e,ih];simp
theorem Blk.all {w:World}{p:Nat}{t:TypeId}{cs:Array Value}(h:Blk w p t cs)(vs:List Value)(hl:vs.length=cs.size):Blk (w.setCells p 0 vs) p t vs.toArray:=by
 have h1:=Blk.sets vs 0 cs h;have h2:=Zon vs cs.toList [] (by simpa using hl);simp only [List.nil_append,Array.toArray_toList,List.length_nil] at h2
 rwa [h2] at h1
structure BMc where
 arch:Int
 code:List (List Ins)
 locs:List Nm
 ths:List Th
 mem:List Int
 tds:List BTd
abbrev Zx9:Enc Ins:=⟨8,fun x=>[.int .i64 x.op,.int .i64 x.d,.int .i64 x.a,.int .i64 x.b,.int .i64 x.imm,.string ⟨x.loc.toArray⟩,.string ⟨x.label.toArray⟩,.int .i64 x.fence],fun _=>rfl,ω,fun _ u h=>by simp at h;rcases h with rfl | rfl | rfl | rfl | rfl | rfl | rfl | rfl <;> rfl⟩
abbrev Z2a:Enc (Option Addr×Nat×Nat):=⟨1,fun x=>[.slice x.1 x.2.1 x.2.2],fun _=>rfl,ω,fun _ u h=>by simp at h;subst h;rfl⟩
abbrev Zuo:Enc Th:=⟨3,fun x=>[.int .i64 x.1,.int .i64 x.2.1,.string ⟨x.2.2.toArray⟩],fun _=>rfl,ω,fun _ u h=>by simp at h;rcases h with rfl | rfl | rfl <;> rfl⟩
abbrev Zsg:Enc (Int×Int):=Zbj
theorem Zx8:Zsg.Elem 42 46 16:=⟨Tryz.underlying46,.agg #[.int .i64 0,.int .i64 0],κ,rfl⟩
theorem Z4x:Z2a.Elem 66 23 24:=⟨Tryz.underlying23,.slice none 0 0,κ,rfl⟩
theorem Z7s:Zx9.Elem 92 66 80:=⟨Tryz.underlying66,.agg #[.int .i64 0,.int .i64 0,.int .i64 0,.int .i64 0,.int .i64 0,.string ⟨#[]⟩,.string ⟨#[]⟩,.int .i64 0],κ,rfl⟩
theorem Zcx {α:Type}{E:Enc α}{T:TypeId}{B:Nat}{w:World}{v:Value}{l:List α}(h:E.Own T B w v l){i:Nat}{x:α}(hx:l[i]?=some x) :
  ∃ b cap,v=.slice (some ⟨b,0,none⟩) l.length cap/\∀ j u,(E.enc x)[j]?=some u->w.cell? ⟨b,i*E.size+j,none⟩=some u:=by
 obtain⟨A,cap,e,hat,_⟩:=Enc.Own.at_ h;subst e;rcases h.2 with ⟨e,h0⟩ | ⟨b,cap',cur,e,_⟩
 ·have:=(List.getElem?_eq_some_iff.1 hx).1;omega
 ·simp only [Value.slice.injEq,true_and] at e;obtain⟨rfl,rfl⟩:=e;refine⟨b,cap,rfl,fun j u hj=>?_⟩;obtain⟨b',o,e2,hc⟩:=hat i x hx;simp only [Option.some.injEq,Addr.mk.injEq,and_true] at e2;obtain⟨rfl,rfl⟩:=e2;have:=hc j u hj
  rwa [Nat.zero_add] at this
def TyF (w:World)(F:Nat->Prop)(l:List TypeId):Prop:=∀ x,F x->∃ u cs,Blk w x u cs/\u∈l
theorem Zdg {w w':World}{F:Nat->Prop}{l:List TypeId}(hF:TyF w F l)(hc:Chg F w w'){b:Nat}{t:TypeId}{cs:Array Value}(h:Blk w b t cs)(ht:t∉l):Blk w' b t cs:=
 hc.far h fun hf=>by
  obtain⟨u,ds,hb,hu⟩:=hF b hf;by_cases e:t=u
  ·exact ht (e ▸ hu)
  ·exact Za5 h hb e rfl
theorem Zcd {w w':World}{F:Nat->Prop}{l:List TypeId}(hF:TyF w F l)(hc:Chg F w w'){B:Nat}{t:TypeId}{z n:Nat}{v:Value}{cs:List Value}(h:w.ownsRow B t z v n cs)(ht:t∉l):w'.ownsRow B t z v n cs:=
 Zb7 h fun b hb=>hc.keep b (Zd5 h hb) fun hf=>by
  obtain⟨u,ds,hb2,hu⟩:=hF b hf;by_cases e:t=u
  ·exact ht (e ▸ hu)
  ·exact Zc2 h hb2 e hb
theorem Zht {α:Type}(E:Enc α)(w:World)(t:TypeId)(x:α):E.At (w.alloc (.cells (E.enc x).toArray t (0,0))) (some ⟨w.heap.size,0,none⟩) [x]:=by
 intro i y hy;have hi:=(List.getElem?_eq_some_iff.1 hy).1;simp only [List.length_singleton] at hi;obtain rfl:i=0:=ω;cases hy
 refine⟨w.heap.size,0,rfl,fun j u hj=>?_⟩;simp only [Nat.zero_mul,Nat.zero_add];rw [Zbq];simpa using hj
theorem Z2e {w:World}{A:Option Addr}{c:List Ins}(h:Zcj w A c):Zx9.At w A c:=fun i x hx=>by
 obtain⟨b,o,e,h0,h1,h2,h3,h4,h5,h6,h7,_⟩:=h i x hx;refine⟨b,o,e,fun j u hj=>?_⟩;have hjl:j<8:=by have:=(List.getElem?_eq_some_iff.1 hj).1;simpa using this
 match j,hjl with
 | 0,_=>cases hj;exact h0
 | 1,_=>cases hj;exact h1
 | 2,_=>cases hj;exact h2
 | 3,_=>cases hj;exact h3
 | 4,_=>cases hj;exact h4
 | 5,_=>cases hj;exact h5
 | 6,_=>cases hj;exact h6
 | 7,_=>cases hj;exact h7
theorem Zb6 {w w1:World}{B:Nat}{v v':Value}(hg:Zbh w w1 B v v'):Chg (fun x=>v.ownBlock=some x) w w1:=Chg.of_grew hg fun _ h=>h
theorem Zds {w:World}{B:Nat}{t:TypeId}{z n:Nat}{v:Value}{cs:List Value}(h:w.ownsRow B t z v n cs):TyF w (fun x=>v.ownBlock=some x) [t]:=fun x hx=>by
 obtain⟨cur,hc,_⟩:=Zdi h hx;exact⟨t,cur,hc,by simp⟩
theorem Z71 (n:Nat):madeCells #[.string ⟨#[]⟩,.int .i64 0] (n*2)=(Zd2.flat (List.replicate n (([]:List UInt8),(0:Int)))).toArray:=by
 apply Array.ext';apply List.ext_getElem?;intro m;have hl:(Zd2.flat (List.replicate n (([]:List UInt8),(0:Int)))).length=n*2:=by rw [Zd2.flat_len,List.length_replicate]
 by_cases hm:m<n*2
 ·have h1:m / 2<n:=ω;have h2:(List.replicate n (([]:List UInt8),(0:Int)))[m / 2]?=some ([],0):=by simp [h1]
  have h3:=Zd2.flat_at h2 (show m % 2<2 by omega);rw [show m / 2*Zd2.size+m % 2=m by show m / 2*2+m % 2=m;omega] at h3;show _=(Zd2.flat (List.replicate n (([]:List UInt8),(0:Int))))[m]?;rw [h3];exact m_100
 ·rw [List.getElem?_eq_none (by simp [madeCells];omega),List.getElem?_eq_none (by simp [hl];omega)]
theorem Z5a:(Tryz.prog.info? 71).map (fun i=>(i.zero,i.size,i.bytes))=some (some (.agg #[.string ⟨#[]⟩,.int .i64 0]),2,24):=by kernel_rfl
theorem Znd (n:Nat)(hn:n<=1000)(w:World):(Instr.makeSlice 63 (.int .i64 (n:Int)) (.int .i64 (n:Int))).run Tryz.prog w=.ok (.slice (some ⟨w.heap.size,0,none⟩) n n) (w.alloc (.cells (Zd2.flat (List.replicate n (([]:List UInt8),(0:Int)))).toArray 71 (0,0))):=by
 obtain⟨i0,hi,hz0,hz1,hz2⟩:=Zbx Z5a;have h:=run_make (P:=Tryz.prog) w 63 71 i0 _ Tryz.underlying63 hi hz0 .i64 .i64 (n:Int) (n:Int) ω (Int.le_refl _) (by rw [hz2];omega) ω;rw [h,hz1];simp only [Int.toNat_natCast];rw [show (Value.agg #[.string ⟨#[]⟩,.int .i64 0]).cells=#[.string ⟨#[]⟩,.int .i64 0] from rfl,<- Z71]
def Zn1 (l:List Int)(w:World)(e:Ending)(w':World):Prop:=∃ v,e=.returned v/\Zde.Own 3 w.heap.size w' v l/\Below w.heap.size w w'
def Zz5 (l:List (Int×Int))(w:World)(e:Ending)(w':World):Prop:=∃ v,e=.returned v/\Zsg.Own 42 w.heap.size w' v l/\Below w.heap.size w w'
theorem Zfl (w:World)(o:Obj)(t:TypeId)(cs:Array Value):Blk ((w.alloc o).alloc (.cells cs t (0,0))) (w.heap.size+1) t cs:=by
 have:=Blk.new (w.alloc o) t cs
 rwa [show (w.alloc o).heap.size=w.heap.size+1 by simp] at this
section
theorem Zhv {w:World}{B b:Nat}{t:TypeId}{z n cap:Nat}{xs:List Value}(h:w.ownsRow B t z (.slice (some ⟨b,0,none⟩) n cap) n xs)(i:Nat)(u:Value):(w.setCell ⟨b,i,none⟩ u).ownsRow B t z (.slice (some ⟨b,0,none⟩) n cap) n (xs.set i u):=by
 obtain⟨h1,h2⟩:=h;refine⟨by rw [List.length_set];exact h1,?_⟩;rcases h2 with ⟨e,_⟩ | ⟨g,cap',cur,e,hg,hh,hnc,hcm,hcs,ht⟩
 ·cases e
 ·simp only [Value.slice.injEq,Option.some.injEq,Addr.mk.injEq,and_true,true_and] at e;obtain⟨rfl,rfl⟩:=e;refine Or.inr ⟨b,cap,cur.setIfInBounds i u,rfl,hg,Blk.set_ hh i u,hnc,hcm,by simpa using hcs,?_⟩;rw [Array.toList_setIfInBounds,<- ht,List.take_set]
theorem Zgu {w:World}{B b:Nat}{t:TypeId}{z n m cap:Nat}{xs:List Value}(h:w.ownsRow B t z (.slice (some ⟨b,0,none⟩) n cap) m xs){p:Addr}(hp:p.block≠b)(u:Value):(w.setCell p u).ownsRow B t z (.slice (some ⟨b,0,none⟩) n cap) m xs:=
 Zb7 h fun q hq=>by
  simp only [Value.ownBlock,Option.some.injEq] at hq;subst hq;exact Below.heap_setCell w p u b (fun e=>hp e.symm)
theorem Za3 {w:World}{B B':Nat}{t:TypeId}{z n:Nat}{v:Value}{xs:List Value}(h:w.ownsRow B t z v n xs)(hB:B'<=B):w.ownsRow B' t z v n xs:=
 ⟨h.1,h.2.imp id (fun⟨g,cap,cur,e,h1,r⟩=>⟨g,cap,cur,e,Nat.le_trans hB h1,r⟩)⟩
theorem Zg0 {w:World}{g q:Nat}{t t2:TypeId}{cs ds:Array Value}(h:Blk w g t cs)(k:Blk w q t2 ds)(hne:t≠t2):g≠q:=fun e=>by
 subst e;unfold Blk at h k;rw [h] at k;simp only [Option.some.injEq,Obj.cells.injEq] at k;exact hne k.2.1
theorem Zok:∀ (l:List (List UInt8×Int)) (i:Nat) (x:List UInt8×Int),((Zd2.flat l).set (i*2) (.string ⟨x.1.toArray⟩)).set (i*2+1) (.int .i64 x.2)=Zd2.flat (l.set i x)
 | [],_,_=>rfl
 | _ :: _,0,_=>rfl
 | y :: l,i+1,x=>by
  have ih:=Zok l i x;rw [List.set_cons_succ,Enc.flat_cons,Enc.flat_cons,<- ih,show (i+1)*2=i*2+1+1 by omega];rfl
abbrev Zb1 (w:World)(B g cap:Nat)(vs:List (List UInt8×Int)):Prop:=Zd2.Own 71 B w (.slice (some ⟨g,0,none⟩) vs.length cap) vs
section
variable {w w':World} {B g cap:Nat} {vs:List (List UInt8×Int)}
theorem Zb1.set (h:Zb1 w B g cap vs)(i:Nat)(x:List UInt8×Int):Zd2.Own 71 B ((w.setCell ⟨g,i*2,none⟩ (.string ⟨x.1.toArray⟩)).setCell ⟨g,i*2+1,none⟩ (.int .i64 x.2)) (.slice (some ⟨g,0,none⟩) vs.length cap) (vs.set i x):=by
 have:=Zhv (Zhv h (i*2) (.string ⟨x.1.toArray⟩)) (i*2+1) (.int .i64 x.2);unfold Enc.Own;rw [List.length_set,<- Zok];exact this
theorem Zb1.blk (h:Zb1 w B g cap vs):B<=g/\g<w.heap.size/\vs.length<=cap/\cap<=9223372036854775807/\∃ cur,Blk w g 71 cur:=by
 rcases h.2 with ⟨e,_⟩ | ⟨g',cap',cur,e,hg,hh,hnc,hcm,hcs,ht⟩
 ·cases e
 ·simp only [Value.slice.injEq,Option.some.injEq,Addr.mk.injEq,and_true,true_and] at e;obtain⟨rfl,rfl⟩:=e;have hb:Blk w g 71 cur:=hh;exact⟨hg,hb.lt,hnc,by unfold maxLen at hcm;exact hcm,cur,hb⟩
theorem Zb1.at_ (h:Zb1 w B g cap vs){i:Nat}{x:List UInt8×Int}(hx:vs[i]?=some x):w.cell? ⟨g,i*2,none⟩=some (.string ⟨x.1.toArray⟩)/\w.cell? ⟨g,i*2+1,none⟩=some (.int .i64 x.2)/\(∀ o,w.frozen? ⟨g,o,none⟩=false)/\w.there g (i*2) 2:=by
 obtain⟨_,_,_,_,cur,hb⟩:=h.blk;obtain⟨A,cp,e,hat,_⟩:=Enc.Own.at_ h;simp only [Value.slice.injEq] at e;obtain⟨b,o,e2,hc⟩:=hat i x hx;rw [<- e.1] at e2;simp only [Option.some.injEq,Addr.mk.injEq,and_true] at e2;obtain⟨rfl,rfl⟩:=e2;have c0:=hc 0 _ rfl;have c1:=hc 1 _ rfl;simp only [Nat.zero_add,Nat.add_zero] at c0 c1;refine⟨c0,c1,hb.frozen,fun j hj=>⟨?_,hb.frozen _⟩⟩;rcases (by omega:j=0\/j=1) with rfl | rfl
 ·rw [Nat.add_zero,c0];rfl
 ·rw [c1];rfl
theorem Zb1.below (h:Zb1 w B g cap vs)(hb:Below w.heap.size w w'):Zb1 w' B g cap vs:=Zah h hb
end
end
end Go.Proofs.YtgjefdaaihgliaaGreatDoor
