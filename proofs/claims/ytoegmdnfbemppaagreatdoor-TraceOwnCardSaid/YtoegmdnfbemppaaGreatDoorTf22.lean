/- Layer 15: the runner's branch: the program's. -/
import Derived.Test.YtoegmdnfbemppaaGreatDoorTf21

namespace Go.Proofs.YtoegmdnfbemppaaGreatDoor
open Go.RowKit
section
theorem Z20 {c:List Ins}{k:Nat}{x:Ins}(h:Zhc c k x<c.length):k+1<=Zhc c k x/\(∃ y,c[Zhc c k x]?=some y/\Zcl x.label y=true)/\∀ j z,k+1<=j->j<Zhc c k x->c[j]?=some z->Zcl x.label z=false:=by
 unfold Zhc at *
 have hf:(c.drop (k+1)).findIdx (Zcl x.label)<(c.drop (k+1)).length:=by rw [List.length_drop];omega
 refine⟨by omega,⟨_,List.getElem?_eq_getElem h,?_⟩,fun j z hj hlt hz=>?_⟩
 ·have:=List.findIdx_getElem (w:=hf)
  rwa [List.getElem_drop] at this
 ·have h2:=List.not_of_lt_findIdx (p:=Zcl x.label) (xs:=c.drop (k+1)) (i:=j - (k+1)) (by omega)
  obtain⟨h3,rfl⟩:=List.getElem?_eq_some_iff.1 hz
  have h4:(c.drop (k+1))[j - (k+1)]'(by rw [List.length_drop];omega)=c[j]:=by
   rw [List.getElem_drop]
   congr 1;omega
  rw [h4] at h2
  simpa using h2
theorem Zcm.cells {w:World}{A:Option Addr}{c:List Ins}(h:Zcm w A c){i:Nat}{x:Ins}(hx:c[i]?=some x):∃ b o,A=some ⟨b,o,none⟩/\w.cell? ⟨b,o+i*8,none⟩=some (.int .i64 x.op)/\w.cell? ⟨b,o+i*8+1,none⟩=some (.int .i64 x.d)/\w.cell? ⟨b,o+i*8+2,none⟩=some (.int .i64 x.a)/\w.cell? ⟨b,o+i*8+3,none⟩=some (.int .i64 x.b)/\
  w.cell? ⟨b,o+i*8+4,none⟩=some (.int .i64 x.imm)/\w.cell? ⟨b,o+i*8+5,none⟩=some (.string ⟨x.loc.toArray⟩)/\w.cell? ⟨b,o+i*8+6,none⟩=some (.string ⟨x.label.toArray⟩)/\w.cell? ⟨b,o+i*8+7,none⟩=some (.int .i64 x.fence):=by
 obtain⟨b,o,e,h0,h1,h2,h3,h4,h5,h6,h7,_⟩:=h i x hx
 exact⟨b,o,e,h0,h1,h2,h3,h4,h5,h6,h7⟩
def Zdt (B g:Nat)(S:Zgi)(V:Zd3)(_r:Rn)(o:Option (Rn×Nat))(w:World)(e:Ending)(w':World):Prop:=match o with
 | some p=>Zb1 B g S V p.1 (.tuple #[.int .i64 (p.2:Int),.bool true]) w e w'
 | none=>∃ r',Zb1 B g S V r' (.tuple #[.int .i64 0,.bool false]) w e w'
theorem Zdt.yes {B g:Nat}{S:Zgi}{V:Zd3}{r r1:Rn}{n:Nat}{o:Option (Rn×Nat)}{w w':World}{e:Ending}(h:o=some (r1,n))(p:Zb1 B g S V r1 (.tuple #[.int .i64 (n:Int),.bool true]) w e w'):Zdt B g S V r o w e w':=by subst h;exact p
theorem Zdt.no {B g:Nat}{S:Zgi}{V:Zd3}{r r1:Rn}{o:Option (Rn×Nat)}{w w':World}{e:Ending}(h:o=none)(p:Zb1 B g S V r1 (.tuple #[.int .i64 0,.bool false]) w e w'):Zdt B g S V r o w e w':=by subst h;exact⟨r1,p⟩
theorem Zh3 {r:Rn}{a:Nat}{x:Rg}(h:r.regs[a]?=some x):rgA r (a:Int)=x:=by
 unfold rgA
 rw [Int.toNat_natCast,h];rfl
theorem Zgo {r:Rn}{c:List Ins}{k:Nat}{x:Ins}{ra rb:Rg}(ha:rgA r x.a=ra)(hb:rgA r x.b=rb)(ho:(Zby ra.h||Zby rb.h)=false):brL r c k x=some ({ r with ctrl:=r.ctrl|||ra.on|||rb.on },if Zak ra.h rb.h then Zhc c k x else k+1):=by
 unfold brL
 simp only []
 rw [ha,hb,ho]
 rfl
theorem Zev {r:Rn}{c:List Ins}{k:Nat}{x:Ins}{ra rb:Rg}(ha:rgA r x.a=ra)(hb:rgA r x.b=rb)(ho:(Zby ra.h||Zby rb.h)=true):brL r c k x=if ((c.take (Zhc c k x)).drop (k+1)).any (fun y=>decide (y.op≠12)) then none else some ({ r with ctrl:=r.ctrl|||ra.on|||rb.on },k+1):=by
 unfold brL
 simp only []
 rw [ha,hb,ho]
 rfl
section
set_option maxHeartbeats 4000000
set_option maxRecDepth 100000
variable {w0 w:World} {g nr k:Nat} {S:Zgi} {r:Rn} {V:Zd3}
theorem Z18 (c:List Ins)(Ac:Option Addr)(cc:Nat)(at_:Nat)(op imm fence:Int)(d a b:Nat)(loc label:List UInt8)(ra rb:Rg)(hb:Below w0.heap.size w0 w)(hI:Inv S.C nr k r)(hR:Za1 w w0.heap.size g S r V)(hc:Zcm w0 Ac c)(hcl:c.length<=256)(hcc:c.length<=cc)(hx:c[at_]?=some ⟨op,d,a,b,imm,loc,label,fence⟩)
  (hlab:Zhc c at_ ⟨op,d,a,b,imm,loc,label,fence⟩<c.length) (ha:r.regs[a]?=some ra) (hb2:r.regs[b]?=some rb) (hra:Zid S.C r.evs ra) (hrb:Zid S.C r.evs rb) :
  Calls Tryz.prog 96 #[.pointer (some ⟨g,0,none⟩),.slice Ac c.length cc,.int .i64 (at_:Int)] w (Zdt w0.heap.size g S V r (brL r c at_ ⟨op,d,a,b,imm,loc,label,fence⟩) w):=by
 have HR:=Zh hR
 have hbs:=hb.size
 have room:=hI.room
 have HB00:=Zh hb
 obtain⟨L,hL⟩:∃ L,Zhc c at_ ⟨op,d,a,b,imm,loc,label,fence⟩=L:=⟨_,rfl⟩
 obtain⟨h1,⟨y,hy,hyl⟩,hno⟩:=Z20 hlab
 rw [hL] at h1 hy hno hlab
 have HL:=Zh hL
 have HNO:=Zh hno
 have HCW:=Zh (hc.below hb)
 have HX:=Zh hx
 have hat:=(List.getElem?_eq_some_iff.1 hx).1
 obtain⟨bb,o,rfl,c0,c1,c2,c3,c4,c5,c6,c7⟩:=HCW.out.cells hx
 simp only at c0 c1 c2 c3 c4 c5 c6 c7
 have hbw:bb<w.heap.size:=World.block_lt_of_cell? w _ c0
 have hi1:(0:Int)<=(at_:Int):=by omega
 have hi2:(at_:Int)<(c.length:Int):=by omega
 have HBI:=Zh (Blk.new w 77 #[.int .i64 op,.int .i64 (d:Int),.int .i64 (a:Int),.int .i64 (b:Int),.int .i64 imm,.string ⟨loc.toArray⟩,.string ⟨label.toArray⟩,.int .i64 fence])
 have HB0:=Zh (Zad w (.cells #[.int .i64 op,.int .i64 (d:Int),.int .i64 (a:Int),.int .i64 (b:Int),.int .i64 imm,.string ⟨loc.toArray⟩,.string ⟨label.toArray⟩,.int .i64 fence] 77 (0,0)))
 obtain⟨q,hvr,hqb,hqB⟩:=hR.regs
 have hal:=(List.getElem?_eq_some_iff.1 ha).1
 have hbl:=(List.getElem?_eq_some_iff.1 hb2).1
 have hi5:(0:Int)<=(a:Int):=by omega
 have hi6:(a:Int)<(r.regs.length:Int):=by omega
 have hi7:(0:Int)<=(b:Int):=by omega
 have hi8:(b:Int)<(r.regs.length:Int):=by omega
 have HQ:=Zh hqb
 have HA:=Zh ha
 have HC0:=Zh hc
 have HGA:=Zh (show rgA r (a:Int)=ra from Zh3 ha)
 have HGB:=Zh (show rgA r (b:Int)=rb from Zh3 hb2)
 have hun:=fun w=>Z1l w ra.h rb.h
 have HB2:=Zh hb2
 have hgw:g<w.heap.size:=hR.blk.lt
 have hgB:=hR.hg
 have hco:=hI.ctrl.lt64 (show r.evs.length<=64 by omega)
 have hao:=hra.2.lt64 (show r.evs.length<=64 by omega)
 have hbo:=hrb.2.lt64 (show r.evs.length<=64 by omega)
 have HO1:=Zh (fun w=>orP r.ctrl ra.on w hco hao)
 have HO2:=Zh (fun w=>orP (r.ctrl|||ra.on) rb.on w (Nat.or_lt_two_pow (n:=64) hco hao) hbo)
 obtain⟨ta,va,fa,aa,hva,hma,hca,HCA⟩:=Zpl ra.h
 obtain⟨tb,vb,fb,ab,hvb,hmb,hcb,HCB⟩:=Zpl rb.h
 simp only [hva,hvb] at hun
 have HUN:=Zh hun
 clear hun
 have HVA:=Zh hva
 have HVB:=Zh hvb
 have hma:=hma 487
 have hmb:=hmb 487
 have HQA:=Zh HCA
 have HQB:=Zh HCB
 clear hva hvb HCA HCB
 clear hR hI hb hc hx hL hno hqb ha hb2 hco hao hbo
 go_enter Tryz.func96,Tryz.ntmps96
 go_wp2_with fail
 generalize hw1:w.alloc (.cells #[.int .i64 op,.int .i64 (d:Int),.int .i64 (a:Int),.int .i64 (b:Int),.int .i64 imm,.string ⟨loc.toArray⟩,.string ⟨label.toArray⟩,.int .i64 fence] 77 (0,0))=w1 at *
 clear hw1
 have hz1:w.heap.size<w1.heap.size:=HBI.out.lt
 have HC1:=Zh (HCW.out.below HB0.out)
 clear c0 c1 c2 c3 c4 c5 c6 c7
 go_loopw [9] (fun v wr=>∃ j:Nat,at_+1<=j/\j<=L/\v=.int .i64 j/\Below w1.heap.size w1 wr) (fun v _=>L - (intOf v).toNat)
 case atStart=>exact⟨at_+1,Nat.le_refl _,h1,rfl,Below.refl _ _⟩
 case round=>
  obtain⟨j,hj1,hj2,rfl,hbr⟩:=hrel
  have HBR:=Zh hbr
  have hzr:=hbr.size
  have HCR:=Zh (HC1.out.below hbr)
  have HBIR:=Zh (HBI.out.go hbr)
  have l6:=HBIR.out.cm 6
  clear hbr
  have hjc:j<c.length:=by omega
  have hi3:(0:Int)<=(j:Int):=by omega
  have hi4:(j:Int)<(c.length:Int):=by omega
  by_cases hjl:j<L
  ·obtain⟨z,hz⟩:∃ z,c[j]?=some z:=⟨_,List.getElem?_eq_getElem hjc⟩
   have hzl:=HNO.out j z hj1 hjl hz
   obtain⟨b',o',e,c0,c1,c2,c3,c4,c5,c6,c7⟩:=HCR.out.cells hz
   simp only [Option.some.injEq,Addr.mk.injEq,and_true] at e
   obtain⟨rfl,rfl⟩:=e
   have HZ:=Zh hzl
   have d0:=Zc6 c0
   have d6:=Zc6 c6
   have l6d:=Zc6 l6
   clear hz hzl c0 c1 c2 c3 c4 c5 c6 c7
   by_cases h12:z.op=12
   ·have e3:(z.label == label)=false:=by have:=HZ.out;unfold Zcl at this;rw [h12] at this;simpa using this
    have e4:(label == z.label)=false:=by rw [Zkn];exact e3
    go_wp2_with fail
    exact m_84
   ·go_wp2_with fail
    exact m_84
  ·have hje:j=L:=by omega
   subst hje
   obtain⟨b',o',e,c0,c1,c2,c3,c4,c5,c6,c7⟩:=HCR.out.cells hy
   simp only [Option.some.injEq,Addr.mk.injEq,and_true] at e
   obtain⟨rfl,rfl⟩:=e
   have d0:=Zc6 c0
   have d6:=Zc6 c6
   have l6d:=Zc6 l6
   have h12:y.op=12:=by unfold Zcl at hyl;simp at hyl;exact hyl.1
   have hyl2:y.label=label:=by unfold Zcl at hyl;simp at hyl;exact hyl.2
   rw [hyl2] at d6
   clear c0 c1 c2 c3 c4 c5 c6 c7 hyl hyl2 hy
   go_wp2_with fail
   refine Zh4 (by kernel_rfl) (by kernel_rfl) ?_
   repeat still_step
   refine wpStill_nil ?_
   go_wp2_with fail
   have HBU:Hid (Below w.heap.size w wr.drew):=Zh (Zaa HB0.out HBR.out.drew)
   have HBIU:=Zh HBIR.out.drew
   clear HBR HBIR HCR HC1 HB0 HBI l6 l6d d0 d6 HNO hzr
   generalize hwu:wr.drew=wu at *
   clear hwu
   have hzu:w.heap.size<wu.heap.size:=HBIU.out.lt
   have i2:=HBIU.out.cm 2
   have i3:=HBIU.out.cm 3
   have HRU:=Zh (HR.out.below HBU.out)
   have d14:wu.cell? ⟨g,14,none⟩=some (.slice (some ⟨q,0,none⟩) r.regs.length r.regs.length):=by rw [<- hvr];exact HRU.out.blk.cell 14
   obtain⟨c0,c1,c2,c3,c4⟩:=Zbq (HQ.out.go HBU.out) HA.out
   obtain⟨e0,e1,e2,e3,e4⟩:=Zbq (HQ.out.go HBU.out) HB2.out
   have HSS:=Zh (show ∀ y,Below wu.heap.size wu y->(fun y:World=>(y.cell? ⟨w.heap.size,2,none⟩=some (.int .i64 (a:Int))/\y.cell? ⟨w.heap.size,3,none⟩=some (.int .i64 (b:Int)))/\y.cell? ⟨g,14,none⟩=some (.slice (some ⟨q,0,none⟩) r.regs.length r.regs.length)/\(y.cell? ⟨q,a*5,none⟩=some (Zag ra.h)/\y.cell? ⟨q,a*5+1,none⟩=some (.int .u64 (ra.on:Int))/\y.cell? ⟨q,a*5+2,none⟩=some (.int .u64 0)/\y.cell? ⟨q,a*5+3,none⟩=some (.int .u64 0)/\y.cell? ⟨q,a*5+4,none⟩=some (.int .u64 0))/\y.cell? ⟨q,b*5,none⟩=some (Zag rb.h)/\y.cell? ⟨q,b*5+1,none⟩=some (.int .u64 (rb.on:Int))/\y.cell? ⟨q,b*5+2,none⟩=some (.int .u64 0)/\y.cell? ⟨q,b*5+3,none⟩=some (.int .u64 0)/\y.cell? ⟨q,b*5+4,none⟩=some (.int .u64 0)) y from fun y hb=>⟨⟨Zac i2 hb,Zac i3 hb⟩,Zac d14 hb,⟨Zac c0 hb,Zac c1 hb,Zac c2 hb,Zac c3 hb,Zac c4 hb⟩,Zac e0 hb,Zac e1 hb,Zac e2 hb,Zac e3 hb,Zac e4 hb⟩)
   clear i2 i3 d14 c0 c1 c2 c3 c4 e0 e1 e2 e3 e4
   refine wz (fun y:World=>(y.cell? ⟨w.heap.size,2,none⟩=some (.int .i64 (a:Int))/\y.cell? ⟨w.heap.size,3,none⟩=some (.int .i64 (b:Int)))/\y.cell? ⟨g,14,none⟩=some (.slice (some ⟨q,0,none⟩) r.regs.length r.regs.length)/\(y.cell? ⟨q,a*5,none⟩=some (Zag ra.h)/\y.cell? ⟨q,a*5+1,none⟩=some (.int .u64 (ra.on:Int))/\y.cell? ⟨q,a*5+2,none⟩=some (.int .u64 0)/\y.cell? ⟨q,a*5+3,none⟩=some (.int .u64 0)/\y.cell? ⟨q,a*5+4,none⟩=some (.int .u64 0))/\y.cell? ⟨q,b*5,none⟩=some (Zag rb.h)/\y.cell? ⟨q,b*5+1,none⟩=some (.int .u64 (rb.on:Int))/\y.cell? ⟨q,b*5+2,none⟩=some (.int .u64 0)/\y.cell? ⟨q,b*5+3,none⟩=some (.int .u64 0)/\y.cell? ⟨q,b*5+4,none⟩=some (.int .u64 0)) [3,5,7,11,13,14,15,16,17,18] (HSS.out _ (Below.refl _ _).drew) (fun hHeld=>?_)
   refine wq 0 ?_
   refine wq 1 ?_
   refine wq 2 ?_
   refine wq 4 ?_
   refine wq 8 ?_
   refine wq 9 ?_
   refine wq 10 ?_
   refine wq 12 ?_
   refine wt 3 (by assumption) ?_
   refine wt 5 (by assumption) ?_
   refine wq 6 ?_
   refine wt 7 (by assumption) ?_
   refine wt 11 (by assumption) ?_
   refine wt 13 (by assumption) ?_
   refine wt 14 (by assumption) ?_
   refine wt 15 (by assumption) ?_
   clear hHeld
   refine Zd1 (i:=16) (j:=17) (by kernel_rfl) rfl rfl (fun K hK=>?_) (fun K hK=>?_)
   ·go_simp
    refine hK.out _ _ (HSS.out _ (by repeat (first | exact Below.refl _ _ | exact Below.refl _ _ | with_reducible refine Below.drew ?_ | with_reducible refine Zab ?_ _ | with_reducible refine Zaq ?_ (by omega) _ _))) ?_
    clear hK K
    refine pu ?_
    refine Zav (i:=17) (by kernel_rfl) rfl (fun K hK=>?_)
    go_simp
    refine hK.out _ _ (HSS.out _ (by repeat (first | exact Below.refl _ _ | exact Below.refl _ _ | with_reducible refine Below.drew ?_ | with_reducible refine Zab ?_ _ | with_reducible refine Zaq ?_ (by omega) _ _))) ?_
    clear hK K
    refine pu ?_
    generalize hW2:(World.drew (World.alloc _ _))=W2
    have BZ4:Hid (Blk W2 (wu.heap.size) 163 #[.nilIface,.int .u64 0,.int .u64 0,.int .u64 0,.int .u64 0]):=by rw [<- hW2];exact Zh ((Blk.new wu _ _).alloc _).drew
    have BZ5:Hid (Blk W2 (wu.heap.size+1) 163 #[.nilIface,.int .u64 0,.int .u64 0,.int .u64 0,.int .u64 0]):=by rw [<- hW2];exact Zh (Zcw wu _ _ _).drew
    have HW2:Hid (Below wu.heap.size wu W2):=by rw [<- hW2];exact Zh ((by repeat (first | exact Below.refl _ _ | exact Below.refl _ _ | with_reducible refine Below.drew ?_ | with_reducible refine Zab ?_ _ | with_reducible refine Zaq ?_ (by omega) _ _)))
    clear hW2
    refine Zav (i:=18) (by kernel_rfl) rfl (fun K hK=>?_)
    rw [if_pos (by kernel_rfl)]
    refine wp_store_mid _ _ _ rfl ((wu.heap.size)) 0 #[Zag ra.h,.int .u64 (ra.on:Int),.int .u64 0,.int .u64 0,.int .u64 0] rfl rfl (Zbh BZ4.out 5 (by simp)) (by kernel_rfl) (all_oneCell_toArray (cs:=Zde.enc ra) (Zde.one ra)) ?_
    refine hK.out _ _ (HSS.out _ (Zaq HW2.out (by omega) _ _)) ?_
    clear hK K
    refine pu ?_
    refine wl 19 ?_
    refine wpList_store_mid rfl _ _ _ rfl ((wu.heap.size+1)) 0 #[Zag rb.h,.int .u64 (rb.on:Int),.int .u64 0,.int .u64 0,.int .u64 0] rfl rfl (Zbh (Za6 BZ5.out (by omega) _ _) 5 (by simp)) (by kernel_rfl) (all_oneCell_toArray (cs:=Zde.enc rb) (Zde.one rb)) ?_
    have BX4:=Zh (Za6 (Blk.sets5 BZ4.out rfl (Zag ra.h) (.int .u64 (ra.on:Int)) (.int .u64 0) (.int .u64 0) (.int .u64 0)) (show (wu.heap.size)≠(wu.heap.size+1) by omega) [Zag rb.h,.int .u64 (rb.on:Int),.int .u64 0,.int .u64 0,.int .u64 0] 0)
    have BX5:=Zh (Blk.sets5 (Za6 BZ5.out (show (wu.heap.size+1)≠(wu.heap.size) by omega) [Zag ra.h,.int .u64 (ra.on:Int),.int .u64 0,.int .u64 0,.int .u64 0] 0) rfl (Zag rb.h) (.int .u64 (rb.on:Int)) (.int .u64 0) (.int .u64 0) (.int .u64 0))
    have HW3:=Zh (Zaq (Zaq HW2.out (show wu.heap.size<=(wu.heap.size) by omega) [Zag ra.h,.int .u64 (ra.on:Int),.int .u64 0,.int .u64 0,.int .u64 0] 0) (show wu.heap.size<=(wu.heap.size+1) by omega) [Zag rb.h,.int .u64 (rb.on:Int),.int .u64 0,.int .u64 0,.int .u64 0] 0)
    generalize hW3:(World.setCells (World.setCells W2 _ _ _) _ _ _)=W3 at *
    clear hW3 BZ4 BZ5 HW2 HSS
    have HBI3:=Zh (HBIU.out.go HW3.out)
    have HW30:=Zh (Zaa HBU.out HW3.out)
    have hz3:=HW3.out.size
    have HR3:=Zh (HR.out.below HW30.out)
    have HC3:=Zh (HCW.out.below HW30.out)
    have a0:=BX4.out.cm 0
    have a1:=BX4.out.cm 1
    have a2:=BX4.out.cm 2
    have a3:=BX4.out.cm 3
    have a4:=BX4.out.cm 4
    have b0:=BX5.out.cm 0
    have b1:=BX5.out.cm 1
    have b2:=BX5.out.cm 2
    have b3:=BX5.out.cm 3
    have b4:=BX5.out.cm 4
    have k15:=HR3.out.blk.cm 15
    have k16:=HR3.out.blk.cm 16
    have k17:=HR3.out.blk.cm 17
    have k18:=HR3.out.blk.cm 18
    go_wp2_with fail
    have HSS:=Zh (show ∀ y,Below W3.heap.size W3 y->(fun y:World=>(y.cell? ⟨g,15,none⟩=some (.int .u64 (r.ctrl:Int))/\y.cell? ⟨g,16,none⟩=some (.int .u64 0)/\y.cell? ⟨g,17,none⟩=some (.int .u64 0)/\y.cell? ⟨g,18,none⟩=some (.int .u64 0))/\(y.cell? ⟨(wu.heap.size),1,none⟩=some (.int .u64 (ra.on:Int))/\y.cell? ⟨(wu.heap.size),2,none⟩=some (.int .u64 0)/\y.cell? ⟨(wu.heap.size),3,none⟩=some (.int .u64 0)/\y.cell? ⟨(wu.heap.size),4,none⟩=some (.int .u64 0))/\y.cell? ⟨(wu.heap.size+1),1,none⟩=some (.int .u64 (rb.on:Int))/\y.cell? ⟨(wu.heap.size+1),2,none⟩=some (.int .u64 0)/\y.cell? ⟨(wu.heap.size+1),3,none⟩=some (.int .u64 0)/\y.cell? ⟨(wu.heap.size+1),4,none⟩=some (.int .u64 0)) y from fun y hb=>⟨⟨Zac k15 hb,Zac k16 hb,Zac k17 hb,Zac k18 hb⟩,⟨Zac a1 hb,Zac a2 hb,Zac a3 hb,Zac a4 hb⟩,Zac b1 hb,Zac b2 hb,Zac b3 hb,Zac b4 hb⟩)
    refine wz (fun y:World=>(y.cell? ⟨g,15,none⟩=some (.int .u64 (r.ctrl:Int))/\y.cell? ⟨g,16,none⟩=some (.int .u64 0)/\y.cell? ⟨g,17,none⟩=some (.int .u64 0)/\y.cell? ⟨g,18,none⟩=some (.int .u64 0))/\(y.cell? ⟨(wu.heap.size),1,none⟩=some (.int .u64 (ra.on:Int))/\y.cell? ⟨(wu.heap.size),2,none⟩=some (.int .u64 0)/\y.cell? ⟨(wu.heap.size),3,none⟩=some (.int .u64 0)/\y.cell? ⟨(wu.heap.size),4,none⟩=some (.int .u64 0))/\y.cell? ⟨(wu.heap.size+1),1,none⟩=some (.int .u64 (rb.on:Int))/\y.cell? ⟨(wu.heap.size+1),2,none⟩=some (.int .u64 0)/\y.cell? ⟨(wu.heap.size+1),3,none⟩=some (.int .u64 0)/\y.cell? ⟨(wu.heap.size+1),4,none⟩=some (.int .u64 0)) [4,6,7,9] (HSS.out _ (Below.refl _ _).drew) (fun hHeld=>?_)
    refine wq 0 ?_
    refine wq 1 ?_
    refine wq 2 ?_
    refine wq 3 ?_
    refine wq 5 ?_
    refine wq 8 ?_
    refine wt 4 (by assumption) ?_
    refine wt 6 (by assumption) ?_
    refine wt 9 (by assumption) ?_
    clear hHeld k15 k16 k17 k18 a1 a2 a3 a4 b1 b2 b3 b4
    refine Zav (i:=7) (by kernel_rfl) rfl (fun K hK=>?_)
    go_simp
    go_at_call 162
    refine (HO1.out _).mono ?_
    rintro e w5 ⟨rfl,hb5⟩
    have HB5:=Zh (show Below W3.heap.size W3 w5 from Zar hb5)
    clear hb5
    refine hK.out _ _ (HSS.out _ HB5.out) ?_
    clear hK K
    refine pu ?_
    refine wl 10 ?_
    rw [HVA.out] at a0
    rw [HVB.out] at b0
    have HW50:=Zh (Zaa HW30.out HB5.out)
    clear HSS
    go_wp2_with (go_at_call 162;refine (HO2.out _).mono ?_;rintro e w6 ⟨rfl,hb6⟩;have HB6:=Zh (Zaa HB5.out hb6);have HR6:=Zh (HR3.out.below HB6.out);have a0:=Zac a0 HB6.out;have b0:=Zac b0 HB6.out;have k15:w6.cell? ⟨g,15,none⟩=some (.int .u64 (r.ctrl:Int)):=HR6.out.blk.cell 15;have k16:w6.cell? ⟨g,16,none⟩=some (.int .u64 0):=HR6.out.blk.cell 16;have k17:w6.cell? ⟨g,17,none⟩=some (.int .u64 0):=HR6.out.blk.cell 17;have k18:w6.cell? ⟨g,18,none⟩=some (.int .u64 0):=HR6.out.blk.cell 18;have f15:=HR6.out.blk.frozen 15;have f16:=HR6.out.blk.frozen 16;have f17:=HR6.out.blk.frozen 17;have f18:=HR6.out.blk.frozen 18;clear hb6)
    have hgp5:g≠(wu.heap.size+1):=by omega
    have HRC:=Zh (HR6.out.ctrl (r.ctrl|||ra.on|||rb.on))
    have HW60:=Zh (Zaa HW30.out HB6.out)
    have HB0C:=Zh (((((HW60.out.mono hbs).setCell (p:=⟨g,15,none⟩) hgB (.int .u64 ((r.ctrl|||ra.on|||rb.on:Nat):Int))).setCell (p:=⟨g,16,none⟩) hgB (.int .u64 0)).setCell (p:=⟨g,17,none⟩) hgB (.int .u64 0)).setCell (p:=⟨g,18,none⟩) hgB (.int .u64 0))
    have HFC:=Zh (((((FrV.of_below (g:=g) (V:=V) HW60.out).trans (FrV.set _ g V 15 (.int .u64 ((r.ctrl|||ra.on|||rb.on:Nat):Int)))).trans (FrV.set _ g V 16 (.int .u64 0))).trans (FrV.set _ g V 17 (.int .u64 0))).trans (FrV.set _ g V 18 (.int .u64 0)))
    have hpa:=Zh (Zbi (Zbi (Zbi (Zbi a0 (p:=⟨g,15,none⟩) (show g≠(wu.heap.size) by omega) (.int .u64 ((r.ctrl|||ra.on|||rb.on:Nat):Int))) (p:=⟨g,16,none⟩) (show g≠(wu.heap.size) by omega) (.int .u64 0)) (p:=⟨g,17,none⟩) (show g≠(wu.heap.size) by omega) (.int .u64 0)) (p:=⟨g,18,none⟩) (show g≠(wu.heap.size) by omega) (.int .u64 0))
    have hpb:=Zh (Zbi (Zbi (Zbi (Zbi b0 (p:=⟨g,15,none⟩) (show g≠(wu.heap.size+1) by omega) (.int .u64 ((r.ctrl|||ra.on|||rb.on:Nat):Int))) (p:=⟨g,16,none⟩) (show g≠(wu.heap.size+1) by omega) (.int .u64 0)) (p:=⟨g,17,none⟩) (show g≠(wu.heap.size+1) by omega) (.int .u64 0)) (p:=⟨g,18,none⟩) (show g≠(wu.heap.size+1) by omega) (.int .u64 0))
    generalize hW8:(World.setCell (World.setCell (World.setCell (World.setCell w6 _ _) _ _) _ _) _ _)=W8 at *
    clear hW8 a0 b0 k15 k16 k17 k18 f15 f16 f17 f18 HR6 HB6 HW60 HW50 HB5 HW3 HW30 HBI3 HR3 HC3 BX4 BX5 hz3
    refine (HQA.out W8).mono ?_
    rintro e w7 ⟨rfl,hb7⟩
    have HR7:=Zh (HRC.out.below hb7)
    have HB07:=Zh (HB0C.out.trans (hb7.mono (Nat.le_trans hbs HB0C.out.size)))
    have HF7:=Zh (HFC.out.trans (FrV.of_below hb7))
    have a0:=Zac hpa.out hb7
    have b0:=Zac hpb.out hb7
    clear hb7 hpa hpb HRC HB0C HFC
    cases hoa:Zby ra.h with
    | true=>
     exact m_5
    | false=>
     exact m_3
   ·go_simp
    refine hK.out _ _ (HSS.out _ (by repeat (first | exact Below.refl _ _ | exact Below.refl _ _ | with_reducible refine Below.drew ?_ | with_reducible refine Zab ?_ _ | with_reducible refine Zaq ?_ (by omega) _ _))) ?_
    clear hK K
    refine pu ?_
    refine Zav (i:=16) (by kernel_rfl) rfl (fun K hK=>?_)
    go_simp
    refine hK.out _ _ (HSS.out _ (by repeat (first | exact Below.refl _ _ | exact Below.refl _ _ | with_reducible refine Below.drew ?_ | with_reducible refine Zab ?_ _ | with_reducible refine Zaq ?_ (by omega) _ _))) ?_
    clear hK K
    refine pu ?_
    generalize hW2:(World.drew (World.alloc _ _))=W2
    have BZ4:Hid (Blk W2 (wu.heap.size+1) 163 #[.nilIface,.int .u64 0,.int .u64 0,.int .u64 0,.int .u64 0]):=by rw [<- hW2];exact Zh (Zcw wu _ _ _).drew
    have BZ5:Hid (Blk W2 (wu.heap.size) 163 #[.nilIface,.int .u64 0,.int .u64 0,.int .u64 0,.int .u64 0]):=by rw [<- hW2];exact Zh ((Blk.new wu _ _).alloc _).drew
    have HW2:Hid (Below wu.heap.size wu W2):=by rw [<- hW2];exact Zh ((by repeat (first | exact Below.refl _ _ | exact Below.refl _ _ | with_reducible refine Below.drew ?_ | with_reducible refine Zab ?_ _ | with_reducible refine Zaq ?_ (by omega) _ _)))
    clear hW2
    refine Zav (i:=18) (by kernel_rfl) rfl (fun K hK=>?_)
    rw [if_pos (by kernel_rfl)]
    refine wp_store_mid _ _ _ rfl ((wu.heap.size+1)) 0 #[Zag ra.h,.int .u64 (ra.on:Int),.int .u64 0,.int .u64 0,.int .u64 0] rfl rfl (Zbh BZ4.out 5 (by simp)) (by kernel_rfl) (all_oneCell_toArray (cs:=Zde.enc ra) (Zde.one ra)) ?_
    refine hK.out _ _ (HSS.out _ (Zaq HW2.out (by omega) _ _)) ?_
    clear hK K
    refine pu ?_
    refine wl 19 ?_
    refine wpList_store_mid rfl _ _ _ rfl ((wu.heap.size)) 0 #[Zag rb.h,.int .u64 (rb.on:Int),.int .u64 0,.int .u64 0,.int .u64 0] rfl rfl (Zbh (Za6 BZ5.out (by omega) _ _) 5 (by simp)) (by kernel_rfl) (all_oneCell_toArray (cs:=Zde.enc rb) (Zde.one rb)) ?_
    have BX4:=Zh (Za6 (Blk.sets5 BZ4.out rfl (Zag ra.h) (.int .u64 (ra.on:Int)) (.int .u64 0) (.int .u64 0) (.int .u64 0)) (show (wu.heap.size+1)≠(wu.heap.size) by omega) [Zag rb.h,.int .u64 (rb.on:Int),.int .u64 0,.int .u64 0,.int .u64 0] 0)
    have BX5:=Zh (Blk.sets5 (Za6 BZ5.out (show (wu.heap.size)≠(wu.heap.size+1) by omega) [Zag ra.h,.int .u64 (ra.on:Int),.int .u64 0,.int .u64 0,.int .u64 0] 0) rfl (Zag rb.h) (.int .u64 (rb.on:Int)) (.int .u64 0) (.int .u64 0) (.int .u64 0))
    have HW3:=Zh (Zaq (Zaq HW2.out (show wu.heap.size<=(wu.heap.size+1) by omega) [Zag ra.h,.int .u64 (ra.on:Int),.int .u64 0,.int .u64 0,.int .u64 0] 0) (show wu.heap.size<=(wu.heap.size) by omega) [Zag rb.h,.int .u64 (rb.on:Int),.int .u64 0,.int .u64 0,.int .u64 0] 0)
    generalize hW3:(World.setCells (World.setCells W2 _ _ _) _ _ _)=W3 at *
    clear hW3 BZ4 BZ5 HW2 HSS
    have HBI3:=Zh (HBIU.out.go HW3.out)
    have HW30:=Zh (Zaa HBU.out HW3.out)
    have hz3:=HW3.out.size
    have HR3:=Zh (HR.out.below HW30.out)
    have HC3:=Zh (HCW.out.below HW30.out)
    have a0:=BX4.out.cm 0
    have a1:=BX4.out.cm 1
    have a2:=BX4.out.cm 2
    have a3:=BX4.out.cm 3
    have a4:=BX4.out.cm 4
    have b0:=BX5.out.cm 0
    have b1:=BX5.out.cm 1
    have b2:=BX5.out.cm 2
    have b3:=BX5.out.cm 3
    have b4:=BX5.out.cm 4
    have k15:=HR3.out.blk.cm 15
    have k16:=HR3.out.blk.cm 16
    have k17:=HR3.out.blk.cm 17
    have k18:=HR3.out.blk.cm 18
    go_wp2_with fail
    have HSS:=Zh (show ∀ y,Below W3.heap.size W3 y->(fun y:World=>(y.cell? ⟨g,15,none⟩=some (.int .u64 (r.ctrl:Int))/\y.cell? ⟨g,16,none⟩=some (.int .u64 0)/\y.cell? ⟨g,17,none⟩=some (.int .u64 0)/\y.cell? ⟨g,18,none⟩=some (.int .u64 0))/\(y.cell? ⟨(wu.heap.size+1),1,none⟩=some (.int .u64 (ra.on:Int))/\y.cell? ⟨(wu.heap.size+1),2,none⟩=some (.int .u64 0)/\y.cell? ⟨(wu.heap.size+1),3,none⟩=some (.int .u64 0)/\y.cell? ⟨(wu.heap.size+1),4,none⟩=some (.int .u64 0))/\y.cell? ⟨(wu.heap.size),1,none⟩=some (.int .u64 (rb.on:Int))/\y.cell? ⟨(wu.heap.size),2,none⟩=some (.int .u64 0)/\y.cell? ⟨(wu.heap.size),3,none⟩=some (.int .u64 0)/\y.cell? ⟨(wu.heap.size),4,none⟩=some (.int .u64 0)) y from fun y hb=>⟨⟨Zac k15 hb,Zac k16 hb,Zac k17 hb,Zac k18 hb⟩,⟨Zac a1 hb,Zac a2 hb,Zac a3 hb,Zac a4 hb⟩,Zac b1 hb,Zac b2 hb,Zac b3 hb,Zac b4 hb⟩)
    refine wz (fun y:World=>(y.cell? ⟨g,15,none⟩=some (.int .u64 (r.ctrl:Int))/\y.cell? ⟨g,16,none⟩=some (.int .u64 0)/\y.cell? ⟨g,17,none⟩=some (.int .u64 0)/\y.cell? ⟨g,18,none⟩=some (.int .u64 0))/\(y.cell? ⟨(wu.heap.size+1),1,none⟩=some (.int .u64 (ra.on:Int))/\y.cell? ⟨(wu.heap.size+1),2,none⟩=some (.int .u64 0)/\y.cell? ⟨(wu.heap.size+1),3,none⟩=some (.int .u64 0)/\y.cell? ⟨(wu.heap.size+1),4,none⟩=some (.int .u64 0))/\y.cell? ⟨(wu.heap.size),1,none⟩=some (.int .u64 (rb.on:Int))/\y.cell? ⟨(wu.heap.size),2,none⟩=some (.int .u64 0)/\y.cell? ⟨(wu.heap.size),3,none⟩=some (.int .u64 0)/\y.cell? ⟨(wu.heap.size),4,none⟩=some (.int .u64 0)) [4,6,7,9] (HSS.out _ (Below.refl _ _).drew) (fun hHeld=>?_)
    refine wq 0 ?_
    refine wq 1 ?_
    refine wq 2 ?_
    refine wq 3 ?_
    refine wq 5 ?_
    refine wq 8 ?_
    refine wt 4 (by assumption) ?_
    refine wt 6 (by assumption) ?_
    refine wt 9 (by assumption) ?_
    clear hHeld k15 k16 k17 k18 a1 a2 a3 a4 b1 b2 b3 b4
    refine Zav (i:=7) (by kernel_rfl) rfl (fun K hK=>?_)
    go_simp
    go_at_call 162
    refine (HO1.out _).mono ?_
    rintro e w5 ⟨rfl,hb5⟩
    have HB5:=Zh (show Below W3.heap.size W3 w5 from Zar hb5)
    clear hb5
    refine hK.out _ _ (HSS.out _ HB5.out) ?_
    clear hK K
    refine pu ?_
    refine wl 10 ?_
    rw [HVA.out] at a0
    rw [HVB.out] at b0
    have HW50:=Zh (Zaa HW30.out HB5.out)
    clear HSS
    go_wp2_with (go_at_call 162;refine (HO2.out _).mono ?_;rintro e w6 ⟨rfl,hb6⟩;have HB6:=Zh (Zaa HB5.out hb6);have HR6:=Zh (HR3.out.below HB6.out);have a0:=Zac a0 HB6.out;have b0:=Zac b0 HB6.out;have k15:w6.cell? ⟨g,15,none⟩=some (.int .u64 (r.ctrl:Int)):=HR6.out.blk.cell 15;have k16:w6.cell? ⟨g,16,none⟩=some (.int .u64 0):=HR6.out.blk.cell 16;have k17:w6.cell? ⟨g,17,none⟩=some (.int .u64 0):=HR6.out.blk.cell 17;have k18:w6.cell? ⟨g,18,none⟩=some (.int .u64 0):=HR6.out.blk.cell 18;have f15:=HR6.out.blk.frozen 15;have f16:=HR6.out.blk.frozen 16;have f17:=HR6.out.blk.frozen 17;have f18:=HR6.out.blk.frozen 18;clear hb6)
    have hgp5:g≠(wu.heap.size):=by omega
    have HRC:=Zh (HR6.out.ctrl (r.ctrl|||ra.on|||rb.on))
    have HW60:=Zh (Zaa HW30.out HB6.out)
    have HB0C:=Zh (((((HW60.out.mono hbs).setCell (p:=⟨g,15,none⟩) hgB (.int .u64 ((r.ctrl|||ra.on|||rb.on:Nat):Int))).setCell (p:=⟨g,16,none⟩) hgB (.int .u64 0)).setCell (p:=⟨g,17,none⟩) hgB (.int .u64 0)).setCell (p:=⟨g,18,none⟩) hgB (.int .u64 0))
    have HFC:=Zh (((((FrV.of_below (g:=g) (V:=V) HW60.out).trans (FrV.set _ g V 15 (.int .u64 ((r.ctrl|||ra.on|||rb.on:Nat):Int)))).trans (FrV.set _ g V 16 (.int .u64 0))).trans (FrV.set _ g V 17 (.int .u64 0))).trans (FrV.set _ g V 18 (.int .u64 0)))
    have hpa:=Zh (Zbi (Zbi (Zbi (Zbi a0 (p:=⟨g,15,none⟩) (show g≠(wu.heap.size+1) by omega) (.int .u64 ((r.ctrl|||ra.on|||rb.on:Nat):Int))) (p:=⟨g,16,none⟩) (show g≠(wu.heap.size+1) by omega) (.int .u64 0)) (p:=⟨g,17,none⟩) (show g≠(wu.heap.size+1) by omega) (.int .u64 0)) (p:=⟨g,18,none⟩) (show g≠(wu.heap.size+1) by omega) (.int .u64 0))
    have hpb:=Zh (Zbi (Zbi (Zbi (Zbi b0 (p:=⟨g,15,none⟩) (show g≠(wu.heap.size) by omega) (.int .u64 ((r.ctrl|||ra.on|||rb.on:Nat):Int))) (p:=⟨g,16,none⟩) (show g≠(wu.heap.size) by omega) (.int .u64 0)) (p:=⟨g,17,none⟩) (show g≠(wu.heap.size) by omega) (.int .u64 0)) (p:=⟨g,18,none⟩) (show g≠(wu.heap.size) by omega) (.int .u64 0))
    generalize hW8:(World.setCell (World.setCell (World.setCell (World.setCell w6 _ _) _ _) _ _) _ _)=W8 at *
    clear hW8 a0 b0 k15 k16 k17 k18 f15 f16 f17 f18 HR6 HB6 HW60 HW50 HB5 HW3 HW30 HBI3 HR3 HC3 BX4 BX5 hz3
    refine (HQA.out W8).mono ?_
    rintro e w7 ⟨rfl,hb7⟩
    have HR7:=Zh (HRC.out.below hb7)
    have HB07:=Zh (HB0C.out.trans (hb7.mono (Nat.le_trans hbs HB0C.out.size)))
    have HF7:=Zh (HFC.out.trans (FrV.of_below hb7))
    have a0:=Zac hpa.out hb7
    have b0:=Zac hpb.out hb7
    clear hb7 hpa hpb HRC HB0C HFC
    cases hoa:Zby ra.h with
    | true=>
     exact m_5
    | false=>
     exact m_3
end
end
end Go.Proofs.YtoegmdnfbemppaaGreatDoor
