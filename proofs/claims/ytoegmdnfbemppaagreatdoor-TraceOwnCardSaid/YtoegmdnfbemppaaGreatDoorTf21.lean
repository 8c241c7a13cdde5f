/- Layer 15: the runner's memory: the program's. -/
import Derived.Test.YtoegmdnfbemppaaGreatDoorTf20

namespace Go.Proofs.YtoegmdnfbemppaaGreatDoor
open Go.RowKit
section
theorem Zcn.no {B g:Nat}{S:Zgi}{V:Zd3}{r:Rn}{o:Option Rn}{w w':World}{e:Ending}(h:o=none)(p:Zb1 B g S V r (.bool false) w e w'):Zcn B g S V r o w e w':=by subst h;exact p
theorem Zcn.yes {B g:Nat}{S:Zgi}{V:Zd3}{r r':Rn}{o:Option Rn}{w w':World}{e:Ending}(h:o=some r')(p:Zb1 B g S V r' (.bool true) w e w'):Zcn B g S V r o w e w':=by subst h;exact p
section
set_option maxHeartbeats 4000000
set_option maxRecDepth 100000
variable {w0 w:World} {g nr k:Nat} {S:Zgi} {r:Rn} {V:Zd3}
theorem Z4d (pl:Nat)(op:Int)(d a b:Nat)(imm:Int)(loc label:List UInt8)(fence:Int)(n:Int)(ao:Nat)(hb:Below w0.heap.size w0 w)(hI:Inv S.C nr k r)(hR:Za1 w w0.heap.size g S r V)(ha:r.regs[a]?=some ⟨.num n,ao⟩) :
  Calls Tryz.prog 94 #[.pointer (some ⟨g,0,none⟩),.int .i64 (pl:Int),Zzq op d a b imm loc label fence] w (Zb1 w0.heap.size g S V r (.bool false) w):=by
 have HR:=Zh hR
 have hbs:=hb.size
 have room:=hI.room
 have HBI:=Zh (Blk.new w 77 #[.int .i64 op,.int .i64 (d:Int),.int .i64 (a:Int),.int .i64 (b:Int),.int .i64 imm,.string ⟨loc.toArray⟩,.string ⟨label.toArray⟩,.int .i64 fence])
 have HB0:=Zh (Zad w (.cells #[.int .i64 op,.int .i64 (d:Int),.int .i64 (a:Int),.int .i64 (b:Int),.int .i64 imm,.string ⟨loc.toArray⟩,.string ⟨label.toArray⟩,.int .i64 fence] 77 (0,0)))
 obtain⟨q,hvr,hqb,hqB⟩:=hR.regs
 have hal:=(List.getElem?_eq_some_iff.1 ha).1
 have hi1:(0:Int)<=(a:Int):=by omega
 have hi2:(a:Int)<(r.regs.length:Int):=by omega
 obtain⟨c0,c1,c2,c3,c4⟩:=Zbq hqb ha
 have k14:w.cell? ⟨g,14,none⟩=some (.slice (some ⟨q,0,none⟩) r.regs.length r.regs.length):=by rw [<- hvr];exact hR.blk.cell 14
 have hone:=Zde.one ⟨.num n,ao⟩
 have HTA:=Zh (fun w=>taA w (.num n))
 have hqw:=hqb.lt
 have hgw:g<w.heap.size:=hR.blk.lt
 have HB00:=Zh hb
 clear hR hI hqb hb ha
 go_enter Tryz.func94,Tryz.ntmps94
 go_wp2_with fail
 generalize hw1:w.alloc (.cells #[.int .i64 (op),.int .i64 (d:Int),.int .i64 (a:Int),.int .i64 (b:Int),.int .i64 imm,.string ⟨loc.toArray⟩,.string ⟨label.toArray⟩,.int .i64 fence] 77 (0,0))=w1 at *
 clear hw1
 have hz1:w.heap.size<w1.heap.size:=HBI.out.lt
 have i2:=HBI.out.cm 2
 have d14:=Zac k14 HB0.out
 have d0:=Zac c0 HB0.out
 have d1:=Zac c1 HB0.out
 have d2:=Zac c2 HB0.out
 have d3:=Zac c3 HB0.out
 have d4:=Zac c4 HB0.out
 clear k14 c0 c1 c2 c3 c4
 refine wz (fun y:World=>y.cell? ⟨w.heap.size,2,none⟩=some (.int .i64 (a:Int))/\y.cell? ⟨g,14,none⟩=some (.slice (some ⟨q,0,none⟩) r.regs.length r.regs.length)/\y.cell? ⟨q,a*5,none⟩=some (Zag (.num n))/\y.cell? ⟨q,a*5+1,none⟩=some (.int .u64 (ao:Int))/\y.cell? ⟨q,a*5+2,none⟩=some (.int .u64 0)/\y.cell? ⟨q,a*5+3,none⟩=some (.int .u64 0)/\y.cell? ⟨q,a*5+4,none⟩=some (.int .u64 0)) [3,5,7,8] ⟨i2,d14,d0,d1,d2,d3,d4⟩ (fun hHeld=>?_)
 refine wq 0 ?_
 refine wq 1 ?_
 refine wq 2 ?_
 refine wq 4 ?_
 refine wt 3 (by assumption) ?_
 refine wt 5 (by assumption) ?_
 refine wq 6 ?_
 refine wt 7 (by assumption) ?_
 refine Zav (i:=8) (by kernel_rfl) rfl (fun K hK=>?_)
 go_simp
 refine hK.out _ _ ⟨Zal hHeld.1 _,Zal hHeld.2.1 _,Zal hHeld.2.2.1 _,Zal hHeld.2.2.2.1 _,Zal hHeld.2.2.2.2.1 _,Zal hHeld.2.2.2.2.2.1 _,Zal hHeld.2.2.2.2.2.2 _⟩ ?_
 clear hK K
 refine pu ?_
 refine wl 9 ?_
 have BZ:=Zh ((Blk.new w1 163 #[.nilIface,.int .u64 0,.int .u64 0,.int .u64 0,.int .u64 0]).drew)
 refine wpList_store_mid rfl _ _ _ rfl w1.heap.size 0 #[Zag (.num n),.int .u64 (ao:Int),.int .u64 0,.int .u64 0,.int .u64 0] rfl rfl (Zbh BZ.out 5 (by simp)) (by kernel_rfl) (all_oneCell_toArray (cs:=Zde.enc ⟨.num n,ao⟩) hone) ?_
 have BX:=Zh (Blk.sets5 BZ.out rfl (Zag (.num n)) (.int .u64 (ao:Int)) (.int .u64 0) (.int .u64 0) (.int .u64 0))
 have HW3:=Zh (Zaq ((Zad w1 (.cells #[.nilIface,.int .u64 0,.int .u64 0,.int .u64 0,.int .u64 0] 163 (0,0))).drew) (show w1.heap.size<=w1.heap.size by omega) [Zag (.num n),.int .u64 (ao:Int),.int .u64 0,.int .u64 0,.int .u64 0] 0)
 clear hHeld i2 BZ
 generalize hW3:(World.setCells _ _ _ _:World)=W3 at *
 clear hW3
 have HBI3:=Zh (HBI.out.go HW3.out)
 have HW30:=Zh (Zaa HB0.out HW3.out)
 have hz3:=HW3.out.size
 have a0:=BX.out.cm 0
 have q1:=HTA.out
 simp only [Zsn,Zs1] at q1
 go_wp2_with fail
 go_ret
 exact⟨_,rfl,HR.out.below HW30.out,HW30.out.mono hbs,FrV.of_below HW30.out⟩
theorem Z4a (pl:Nat)(op:Int)(d a b:Nat)(imm:Int)(loc label:List UInt8)(fence:Int)(n:Nat)(ao:Nat)(hb:Below w0.heap.size w0 w)(hI:Inv S.C nr k r)(hR:Za1 w w0.heap.size g S r V)(ha:r.regs[a]?=some ⟨.rd n,ao⟩) :
  Calls Tryz.prog 94 #[.pointer (some ⟨g,0,none⟩),.int .i64 (pl:Int),Zzq op d a b imm loc label fence] w (Zb1 w0.heap.size g S V r (.bool false) w):=by
 have HR:=Zh hR
 have hbs:=hb.size
 have room:=hI.room
 have HBI:=Zh (Blk.new w 77 #[.int .i64 op,.int .i64 (d:Int),.int .i64 (a:Int),.int .i64 (b:Int),.int .i64 imm,.string ⟨loc.toArray⟩,.string ⟨label.toArray⟩,.int .i64 fence])
 have HB0:=Zh (Zad w (.cells #[.int .i64 op,.int .i64 (d:Int),.int .i64 (a:Int),.int .i64 (b:Int),.int .i64 imm,.string ⟨loc.toArray⟩,.string ⟨label.toArray⟩,.int .i64 fence] 77 (0,0)))
 obtain⟨q,hvr,hqb,hqB⟩:=hR.regs
 have hal:=(List.getElem?_eq_some_iff.1 ha).1
 have hi1:(0:Int)<=(a:Int):=by omega
 have hi2:(a:Int)<(r.regs.length:Int):=by omega
 obtain⟨c0,c1,c2,c3,c4⟩:=Zbq hqb ha
 have k14:w.cell? ⟨g,14,none⟩=some (.slice (some ⟨q,0,none⟩) r.regs.length r.regs.length):=by rw [<- hvr];exact hR.blk.cell 14
 have hone:=Zde.one ⟨.rd n,ao⟩
 have HTA:=Zh (fun w=>taA w (.rd n))
 have hqw:=hqb.lt
 have hgw:g<w.heap.size:=hR.blk.lt
 have HB00:=Zh hb
 clear hR hI hqb hb ha
 go_enter Tryz.func94,Tryz.ntmps94
 go_wp2_with fail
 generalize hw1:w.alloc (.cells #[.int .i64 (op),.int .i64 (d:Int),.int .i64 (a:Int),.int .i64 (b:Int),.int .i64 imm,.string ⟨loc.toArray⟩,.string ⟨label.toArray⟩,.int .i64 fence] 77 (0,0))=w1 at *
 clear hw1
 have hz1:w.heap.size<w1.heap.size:=HBI.out.lt
 have i2:=HBI.out.cm 2
 have d14:=Zac k14 HB0.out
 have d0:=Zac c0 HB0.out
 have d1:=Zac c1 HB0.out
 have d2:=Zac c2 HB0.out
 have d3:=Zac c3 HB0.out
 have d4:=Zac c4 HB0.out
 clear k14 c0 c1 c2 c3 c4
 refine wz (fun y:World=>y.cell? ⟨w.heap.size,2,none⟩=some (.int .i64 (a:Int))/\y.cell? ⟨g,14,none⟩=some (.slice (some ⟨q,0,none⟩) r.regs.length r.regs.length)/\y.cell? ⟨q,a*5,none⟩=some (Zag (.rd n))/\y.cell? ⟨q,a*5+1,none⟩=some (.int .u64 (ao:Int))/\y.cell? ⟨q,a*5+2,none⟩=some (.int .u64 0)/\y.cell? ⟨q,a*5+3,none⟩=some (.int .u64 0)/\y.cell? ⟨q,a*5+4,none⟩=some (.int .u64 0)) [3,5,7,8] ⟨i2,d14,d0,d1,d2,d3,d4⟩ (fun hHeld=>?_)
 refine wq 0 ?_
 refine wq 1 ?_
 refine wq 2 ?_
 refine wq 4 ?_
 refine wt 3 (by assumption) ?_
 refine wt 5 (by assumption) ?_
 refine wq 6 ?_
 refine wt 7 (by assumption) ?_
 refine Zav (i:=8) (by kernel_rfl) rfl (fun K hK=>?_)
 go_simp
 refine hK.out _ _ ⟨Zal hHeld.1 _,Zal hHeld.2.1 _,Zal hHeld.2.2.1 _,Zal hHeld.2.2.2.1 _,Zal hHeld.2.2.2.2.1 _,Zal hHeld.2.2.2.2.2.1 _,Zal hHeld.2.2.2.2.2.2 _⟩ ?_
 clear hK K
 refine pu ?_
 refine wl 9 ?_
 have BZ:=Zh ((Blk.new w1 163 #[.nilIface,.int .u64 0,.int .u64 0,.int .u64 0,.int .u64 0]).drew)
 refine wpList_store_mid rfl _ _ _ rfl w1.heap.size 0 #[Zag (.rd n),.int .u64 (ao:Int),.int .u64 0,.int .u64 0,.int .u64 0] rfl rfl (Zbh BZ.out 5 (by simp)) (by kernel_rfl) (all_oneCell_toArray (cs:=Zde.enc ⟨.rd n,ao⟩) hone) ?_
 have BX:=Zh (Blk.sets5 BZ.out rfl (Zag (.rd n)) (.int .u64 (ao:Int)) (.int .u64 0) (.int .u64 0) (.int .u64 0))
 have HW3:=Zh (Zaq ((Zad w1 (.cells #[.nilIface,.int .u64 0,.int .u64 0,.int .u64 0,.int .u64 0] 163 (0,0))).drew) (show w1.heap.size<=w1.heap.size by omega) [Zag (.rd n),.int .u64 (ao:Int),.int .u64 0,.int .u64 0,.int .u64 0] 0)
 clear hHeld i2 BZ
 generalize hW3:(World.setCells _ _ _ _:World)=W3 at *
 clear hW3
 have HBI3:=Zh (HBI.out.go HW3.out)
 have HW30:=Zh (Zaa HB0.out HW3.out)
 have hz3:=HW3.out.size
 have a0:=BX.out.cm 0
 have q1:=HTA.out
 simp only [Zsn,Zs1] at q1
 go_wp2_with fail
 go_ret
 exact⟨_,rfl,HR.out.below HW30.out,HW30.out.mono hbs,FrV.of_below HW30.out⟩
theorem Z3y (pl:Nat)(op:Int)(d a b:Nat)(imm:Int)(loc label:List UInt8)(fence:Int)(ao:Nat)(hb:Below w0.heap.size w0 w)(hI:Inv S.C nr k r)(hR:Za1 w w0.heap.size g S r V)(ha:r.regs[a]?=some ⟨.non,ao⟩) :
  Calls Tryz.prog 94 #[.pointer (some ⟨g,0,none⟩),.int .i64 (pl:Int),Zzq op d a b imm loc label fence] w (Zb1 w0.heap.size g S V r (.bool false) w):=by
 have HR:=Zh hR
 have hbs:=hb.size
 have room:=hI.room
 have HBI:=Zh (Blk.new w 77 #[.int .i64 op,.int .i64 (d:Int),.int .i64 (a:Int),.int .i64 (b:Int),.int .i64 imm,.string ⟨loc.toArray⟩,.string ⟨label.toArray⟩,.int .i64 fence])
 have HB0:=Zh (Zad w (.cells #[.int .i64 op,.int .i64 (d:Int),.int .i64 (a:Int),.int .i64 (b:Int),.int .i64 imm,.string ⟨loc.toArray⟩,.string ⟨label.toArray⟩,.int .i64 fence] 77 (0,0)))
 obtain⟨q,hvr,hqb,hqB⟩:=hR.regs
 have hal:=(List.getElem?_eq_some_iff.1 ha).1
 have hi1:(0:Int)<=(a:Int):=by omega
 have hi2:(a:Int)<(r.regs.length:Int):=by omega
 obtain⟨c0,c1,c2,c3,c4⟩:=Zbq hqb ha
 have k14:w.cell? ⟨g,14,none⟩=some (.slice (some ⟨q,0,none⟩) r.regs.length r.regs.length):=by rw [<- hvr];exact hR.blk.cell 14
 have hone:=Zde.one ⟨.non,ao⟩
 have HTA:=Zh (fun w=>taA w (.non))
 have hqw:=hqb.lt
 have hgw:g<w.heap.size:=hR.blk.lt
 have HB00:=Zh hb
 clear hR hI hqb hb ha
 go_enter Tryz.func94,Tryz.ntmps94
 go_wp2_with fail
 generalize hw1:w.alloc (.cells #[.int .i64 (op),.int .i64 (d:Int),.int .i64 (a:Int),.int .i64 (b:Int),.int .i64 imm,.string ⟨loc.toArray⟩,.string ⟨label.toArray⟩,.int .i64 fence] 77 (0,0))=w1 at *
 clear hw1
 have hz1:w.heap.size<w1.heap.size:=HBI.out.lt
 have i2:=HBI.out.cm 2
 have d14:=Zac k14 HB0.out
 have d0:=Zac c0 HB0.out
 have d1:=Zac c1 HB0.out
 have d2:=Zac c2 HB0.out
 have d3:=Zac c3 HB0.out
 have d4:=Zac c4 HB0.out
 clear k14 c0 c1 c2 c3 c4
 refine wz (fun y:World=>y.cell? ⟨w.heap.size,2,none⟩=some (.int .i64 (a:Int))/\y.cell? ⟨g,14,none⟩=some (.slice (some ⟨q,0,none⟩) r.regs.length r.regs.length)/\y.cell? ⟨q,a*5,none⟩=some (Zag (.non))/\y.cell? ⟨q,a*5+1,none⟩=some (.int .u64 (ao:Int))/\y.cell? ⟨q,a*5+2,none⟩=some (.int .u64 0)/\y.cell? ⟨q,a*5+3,none⟩=some (.int .u64 0)/\y.cell? ⟨q,a*5+4,none⟩=some (.int .u64 0)) [3,5,7,8] ⟨i2,d14,d0,d1,d2,d3,d4⟩ (fun hHeld=>?_)
 refine wq 0 ?_
 refine wq 1 ?_
 refine wq 2 ?_
 refine wq 4 ?_
 refine wt 3 (by assumption) ?_
 refine wt 5 (by assumption) ?_
 refine wq 6 ?_
 refine wt 7 (by assumption) ?_
 refine Zav (i:=8) (by kernel_rfl) rfl (fun K hK=>?_)
 go_simp
 refine hK.out _ _ ⟨Zal hHeld.1 _,Zal hHeld.2.1 _,Zal hHeld.2.2.1 _,Zal hHeld.2.2.2.1 _,Zal hHeld.2.2.2.2.1 _,Zal hHeld.2.2.2.2.2.1 _,Zal hHeld.2.2.2.2.2.2 _⟩ ?_
 clear hK K
 refine pu ?_
 refine wl 9 ?_
 have BZ:=Zh ((Blk.new w1 163 #[.nilIface,.int .u64 0,.int .u64 0,.int .u64 0,.int .u64 0]).drew)
 refine wpList_store_mid rfl _ _ _ rfl w1.heap.size 0 #[Zag (.non),.int .u64 (ao:Int),.int .u64 0,.int .u64 0,.int .u64 0] rfl rfl (Zbh BZ.out 5 (by simp)) (by kernel_rfl) (all_oneCell_toArray (cs:=Zde.enc ⟨.non,ao⟩) hone) ?_
 have BX:=Zh (Blk.sets5 BZ.out rfl (Zag (.non)) (.int .u64 (ao:Int)) (.int .u64 0) (.int .u64 0) (.int .u64 0))
 have HW3:=Zh (Zaq ((Zad w1 (.cells #[.nilIface,.int .u64 0,.int .u64 0,.int .u64 0,.int .u64 0] 163 (0,0))).drew) (show w1.heap.size<=w1.heap.size by omega) [Zag (.non),.int .u64 (ao:Int),.int .u64 0,.int .u64 0,.int .u64 0] 0)
 clear hHeld i2 BZ
 generalize hW3:(World.setCells _ _ _ _:World)=W3 at *
 clear hW3
 have HBI3:=Zh (HBI.out.go HW3.out)
 have HW30:=Zh (Zaa HB0.out HW3.out)
 have hz3:=HW3.out.size
 have a0:=BX.out.cm 0
 have q1:=HTA.out
 simp only [Zsn,Zs1] at q1
 go_wp2_with fail
 go_ret
 exact⟨_,rfl,HR.out.below HW30.out,HW30.out.mono hbs,FrV.of_below HW30.out⟩
theorem Z40 (pl d a b:Nat)(op imm:Int)(hop:op=6)(loc label:List UInt8)(fence:Int)(s:Nm)(ao:Nat)(HS:Zrb w0 S)(hb:Below w0.heap.size w0 w)(hI:Inv S.C nr k r)(hf:r.full=false)(hR:Za1 w w0.heap.size g S r V)(hd:d<r.regs.length)(hl:r.regs.length<=32)(ha:r.regs[a]?=some ⟨.adr s,ao⟩)(hra:Zid S.C r.evs ⟨.adr s,ao⟩) :
  Calls Tryz.prog 94 #[.pointer (some ⟨g,0,none⟩),.int .i64 (pl:Int),Zzq op d a b imm loc label fence] w (Zb1 w0.heap.size g S V (Zfa S.C r pl s ao (d:Int)) (.bool true) w):=by
 have HR:=Zh hR
 have hbs:=hb.size
 have room:=hI.room
 have HBI:=Zh (Blk.new w 77 #[.int .i64 op,.int .i64 (d:Int),.int .i64 (a:Int),.int .i64 (b:Int),.int .i64 imm,.string ⟨loc.toArray⟩,.string ⟨label.toArray⟩,.int .i64 fence])
 have HB0:=Zh (Zad w (.cells #[.int .i64 op,.int .i64 (d:Int),.int .i64 (a:Int),.int .i64 (b:Int),.int .i64 imm,.string ⟨loc.toArray⟩,.string ⟨label.toArray⟩,.int .i64 fence] 77 (0,0)))
 obtain⟨q,hvr,hqb,hqB⟩:=hR.regs
 have hal:=(List.getElem?_eq_some_iff.1 ha).1
 have hi1:(0:Int)<=(a:Int):=by omega
 have hi2:(a:Int)<(r.regs.length:Int):=by omega
 obtain⟨c0,c1,c2,c3,c4⟩:=Zbq hqb ha
 have k14:w.cell? ⟨g,14,none⟩=some (.slice (some ⟨q,0,none⟩) r.regs.length r.regs.length):=by rw [<- hvr];exact hR.blk.cell 14
 have hone:=Zde.one ⟨.adr s,ao⟩
 have HTA:=Zh (fun w=>taA w (.adr s))
 have hqw:=hqb.lt
 have hgw:g<w.heap.size:=hR.blk.lt
 have HB00:=Zh hb
 have HRD:=Zh (fun (w:World) (hb:Below w0.heap.size w0 w) (hR:Za1 w w0.heap.size g S r V)=>Z32 (w:=w) pl s ao d HS hb hI hf hR hra.1 hra.2 hd hl)
 subst hop
 clear hR hI hqb hb ha HS hra hf
 go_enter Tryz.func94,Tryz.ntmps94
 go_wp2_with fail
 generalize hw1:w.alloc (.cells #[.int .i64 (6),.int .i64 (d:Int),.int .i64 (a:Int),.int .i64 (b:Int),.int .i64 imm,.string ⟨loc.toArray⟩,.string ⟨label.toArray⟩,.int .i64 fence] 77 (0,0))=w1 at *
 clear hw1
 have hz1:w.heap.size<w1.heap.size:=HBI.out.lt
 have i2:=HBI.out.cm 2
 have d14:=Zac k14 HB0.out
 have d0:=Zac c0 HB0.out
 have d1:=Zac c1 HB0.out
 have d2:=Zac c2 HB0.out
 have d3:=Zac c3 HB0.out
 have d4:=Zac c4 HB0.out
 clear k14 c0 c1 c2 c3 c4
 refine wz (fun y:World=>y.cell? ⟨w.heap.size,2,none⟩=some (.int .i64 (a:Int))/\y.cell? ⟨g,14,none⟩=some (.slice (some ⟨q,0,none⟩) r.regs.length r.regs.length)/\y.cell? ⟨q,a*5,none⟩=some (Zag (.adr s))/\y.cell? ⟨q,a*5+1,none⟩=some (.int .u64 (ao:Int))/\y.cell? ⟨q,a*5+2,none⟩=some (.int .u64 0)/\y.cell? ⟨q,a*5+3,none⟩=some (.int .u64 0)/\y.cell? ⟨q,a*5+4,none⟩=some (.int .u64 0)) [3,5,7,8] ⟨i2,d14,d0,d1,d2,d3,d4⟩ (fun hHeld=>?_)
 refine wq 0 ?_
 refine wq 1 ?_
 refine wq 2 ?_
 refine wq 4 ?_
 refine wt 3 (by assumption) ?_
 refine wt 5 (by assumption) ?_
 refine wq 6 ?_
 refine wt 7 (by assumption) ?_
 refine Zav (i:=8) (by kernel_rfl) rfl (fun K hK=>?_)
 go_simp
 refine hK.out _ _ ⟨Zal hHeld.1 _,Zal hHeld.2.1 _,Zal hHeld.2.2.1 _,Zal hHeld.2.2.2.1 _,Zal hHeld.2.2.2.2.1 _,Zal hHeld.2.2.2.2.2.1 _,Zal hHeld.2.2.2.2.2.2 _⟩ ?_
 clear hK K
 refine pu ?_
 refine wl 9 ?_
 have BZ:=Zh ((Blk.new w1 163 #[.nilIface,.int .u64 0,.int .u64 0,.int .u64 0,.int .u64 0]).drew)
 refine wpList_store_mid rfl _ _ _ rfl w1.heap.size 0 #[Zag (.adr s),.int .u64 (ao:Int),.int .u64 0,.int .u64 0,.int .u64 0] rfl rfl (Zbh BZ.out 5 (by simp)) (by kernel_rfl) (all_oneCell_toArray (cs:=Zde.enc ⟨.adr s,ao⟩) hone) ?_
 have BX:=Zh (Blk.sets5 BZ.out rfl (Zag (.adr s)) (.int .u64 (ao:Int)) (.int .u64 0) (.int .u64 0) (.int .u64 0))
 have HW3:=Zh (Zaq ((Zad w1 (.cells #[.nilIface,.int .u64 0,.int .u64 0,.int .u64 0,.int .u64 0] 163 (0,0))).drew) (show w1.heap.size<=w1.heap.size by omega) [Zag (.adr s),.int .u64 (ao:Int),.int .u64 0,.int .u64 0,.int .u64 0] 0)
 clear hHeld i2 BZ
 generalize hW3:(World.setCells _ _ _ _:World)=W3 at *
 clear hW3
 have HBI3:=Zh (HBI.out.go HW3.out)
 have HW30:=Zh (Zaa HB0.out HW3.out)
 have hz3:=HW3.out.size
 have a0:=BX.out.cm 0
 have q1:=HTA.out
 simp only [Zsn,Zs1] at q1
 have i0:=HBI3.out.cm 0
 have i1:=HBI3.out.cm 1
 have a1:=BX.out.cm 1
 have a2:=BX.out.cm 2
 have a3:=BX.out.cm 3
 have a4:=BX.out.cm 4
 have HR3:=Zh (HR.out.below HW30.out)
 have HB3:=Zh (HB00.out.trans (HW30.out.mono hbs))
 go_wp2_with (go_at_call 92;refine (HRD.out _ HB3.out HR3.out).mono ?_;rintro e w8 ⟨V8,rfl,hR8,hb8,hf8⟩;have HR8:=Zh hR8;have HB8:=Zh hb8;have HF8:=Zh hf8;clear hR8 hb8 hf8)
 go_ret
 exact⟨_,rfl,HR8.out,(HW30.out.mono hbs).trans HB8.out,(FrV.of_below HW30.out).trans HF8.out⟩
theorem Z30 (pl d a b:Nat)(op imm:Int)(hop:op=7)(loc label:List UInt8)(fence:Int)(s:Nm)(ao:Nat)(rb:Rg)(HS:Zrb w0 S)(hb:Below w0.heap.size w0 w)(hI:Inv S.C nr k r)(hf:r.full=false)(hR:Za1 w w0.heap.size g S r V)(ha:r.regs[a]?=some ⟨.adr s,ao⟩)(hra:Zid S.C r.evs ⟨.adr s,ao⟩)(hb2:r.regs[b]?=some rb)(hrb:Zid S.C r.evs rb) :
  Calls Tryz.prog 94 #[.pointer (some ⟨g,0,none⟩),.int .i64 (pl:Int),Zzq op d a b imm loc label fence] w (Zcn w0.heap.size g S V r (Zcr S.C r pl s ao rb) w):=by
 have HR:=Zh hR
 have hbs:=hb.size
 have room:=hI.room
 have HBI:=Zh (Blk.new w 77 #[.int .i64 op,.int .i64 (d:Int),.int .i64 (a:Int),.int .i64 (b:Int),.int .i64 imm,.string ⟨loc.toArray⟩,.string ⟨label.toArray⟩,.int .i64 fence])
 have HB0:=Zh (Zad w (.cells #[.int .i64 op,.int .i64 (d:Int),.int .i64 (a:Int),.int .i64 (b:Int),.int .i64 imm,.string ⟨loc.toArray⟩,.string ⟨label.toArray⟩,.int .i64 fence] 77 (0,0)))
 obtain⟨q,hvr,hqb,hqB⟩:=hR.regs
 have hal:=(List.getElem?_eq_some_iff.1 ha).1
 have hi1:(0:Int)<=(a:Int):=by omega
 have hi2:(a:Int)<(r.regs.length:Int):=by omega
 obtain⟨c0,c1,c2,c3,c4⟩:=Zbq hqb ha
 have k14:w.cell? ⟨g,14,none⟩=some (.slice (some ⟨q,0,none⟩) r.regs.length r.regs.length):=by rw [<- hvr];exact hR.blk.cell 14
 have hone:=Zde.one ⟨.adr s,ao⟩
 have HTA:=Zh (fun w=>taA w (.adr s))
 have hqw:=hqb.lt
 have hgw:g<w.heap.size:=hR.blk.lt
 have HB00:=Zh hb
 have HWR:=Zh (fun (w:World) (hb:Below w0.heap.size w0 w) (hR:Za1 w w0.heap.size g S r V)=>Zv4 (w:=w) pl s ao rb HS hb hI hf hR hra.1 hra.2 hrb)
 obtain⟨b0,b1,b2,b3,b4⟩:=Zbq hqb hb2
 have hbl:=(List.getElem?_eq_some_iff.1 hb2).1
 have hi3:(0:Int)<=(b:Int):=by omega
 have hi4:(b:Int)<(r.regs.length:Int):=by omega
 have e14:=k14
 have hone2:=Zde.one rb
 subst hop
 clear hR hI hqb hb ha HS hra hf hrb hb2
 go_enter Tryz.func94,Tryz.ntmps94
 go_wp2_with fail
 generalize hw1:w.alloc (.cells #[.int .i64 (7),.int .i64 (d:Int),.int .i64 (a:Int),.int .i64 (b:Int),.int .i64 imm,.string ⟨loc.toArray⟩,.string ⟨label.toArray⟩,.int .i64 fence] 77 (0,0))=w1 at *
 clear hw1
 have hz1:w.heap.size<w1.heap.size:=HBI.out.lt
 have i2:=HBI.out.cm 2
 have d14:=Zac k14 HB0.out
 have d0:=Zac c0 HB0.out
 have d1:=Zac c1 HB0.out
 have d2:=Zac c2 HB0.out
 have d3:=Zac c3 HB0.out
 have d4:=Zac c4 HB0.out
 clear k14 c0 c1 c2 c3 c4
 refine wz (fun y:World=>y.cell? ⟨w.heap.size,2,none⟩=some (.int .i64 (a:Int))/\y.cell? ⟨g,14,none⟩=some (.slice (some ⟨q,0,none⟩) r.regs.length r.regs.length)/\y.cell? ⟨q,a*5,none⟩=some (Zag (.adr s))/\y.cell? ⟨q,a*5+1,none⟩=some (.int .u64 (ao:Int))/\y.cell? ⟨q,a*5+2,none⟩=some (.int .u64 0)/\y.cell? ⟨q,a*5+3,none⟩=some (.int .u64 0)/\y.cell? ⟨q,a*5+4,none⟩=some (.int .u64 0)) [3,5,7,8] ⟨i2,d14,d0,d1,d2,d3,d4⟩ (fun hHeld=>?_)
 refine wq 0 ?_
 refine wq 1 ?_
 refine wq 2 ?_
 refine wq 4 ?_
 refine wt 3 (by assumption) ?_
 refine wt 5 (by assumption) ?_
 refine wq 6 ?_
 refine wt 7 (by assumption) ?_
 refine Zav (i:=8) (by kernel_rfl) rfl (fun K hK=>?_)
 go_simp
 refine hK.out _ _ ⟨Zal hHeld.1 _,Zal hHeld.2.1 _,Zal hHeld.2.2.1 _,Zal hHeld.2.2.2.1 _,Zal hHeld.2.2.2.2.1 _,Zal hHeld.2.2.2.2.2.1 _,Zal hHeld.2.2.2.2.2.2 _⟩ ?_
 clear hK K
 refine pu ?_
 refine wl 9 ?_
 have BZ:=Zh ((Blk.new w1 163 #[.nilIface,.int .u64 0,.int .u64 0,.int .u64 0,.int .u64 0]).drew)
 refine wpList_store_mid rfl _ _ _ rfl w1.heap.size 0 #[Zag (.adr s),.int .u64 (ao:Int),.int .u64 0,.int .u64 0,.int .u64 0] rfl rfl (Zbh BZ.out 5 (by simp)) (by kernel_rfl) (all_oneCell_toArray (cs:=Zde.enc ⟨.adr s,ao⟩) hone) ?_
 have BX:=Zh (Blk.sets5 BZ.out rfl (Zag (.adr s)) (.int .u64 (ao:Int)) (.int .u64 0) (.int .u64 0) (.int .u64 0))
 have HW3:=Zh (Zaq ((Zad w1 (.cells #[.nilIface,.int .u64 0,.int .u64 0,.int .u64 0,.int .u64 0] 163 (0,0))).drew) (show w1.heap.size<=w1.heap.size by omega) [Zag (.adr s),.int .u64 (ao:Int),.int .u64 0,.int .u64 0,.int .u64 0] 0)
 clear hHeld i2 BZ
 generalize hW3:(World.setCells _ _ _ _:World)=W3 at *
 clear hW3
 have HBI3:=Zh (HBI.out.go HW3.out)
 have HW30:=Zh (Zaa HB0.out HW3.out)
 have hz3:=HW3.out.size
 have a0:=BX.out.cm 0
 have q1:=HTA.out
 simp only [Zsn,Zs1] at q1
 have i0:=HBI3.out.cm 0
 go_wp2_with fail
 have i3:=HBI3.out.cm 3
 have a1:=BX.out.cm 1
 have a2:=BX.out.cm 2
 have a3:=BX.out.cm 3
 have a4:=BX.out.cm 4
 have k14:=Zac e14 HW30.out
 have c0:=Zac b0 HW30.out
 have c1:=Zac b1 HW30.out
 have c2:=Zac b2 HW30.out
 have c3:=Zac b3 HW30.out
 have c4:=Zac b4 HW30.out
 clear e14 b0 b1 b2 b3 b4 d14 d0 d1 d2 d3 d4
 refine wz (fun y:World=>(y.cell? ⟨w1.heap.size,1,none⟩=some (.int .u64 (ao:Int))/\y.cell? ⟨w1.heap.size,2,none⟩=some (.int .u64 0)/\y.cell? ⟨w1.heap.size,3,none⟩=some (.int .u64 0)/\y.cell? ⟨w1.heap.size,4,none⟩=some (.int .u64 0))/\y.cell? ⟨w.heap.size,3,none⟩=some (.int .i64 (b:Int))/\y.cell? ⟨g,14,none⟩=some (.slice (some ⟨q,0,none⟩) r.regs.length r.regs.length)/\y.cell? ⟨q,b*5,none⟩=some (Zag rb.h)/\y.cell? ⟨q,b*5+1,none⟩=some (.int .u64 (rb.on:Int))/\y.cell? ⟨q,b*5+2,none⟩=some (.int .u64 0)/\y.cell? ⟨q,b*5+3,none⟩=some (.int .u64 0)/\y.cell? ⟨q,b*5+4,none⟩=some (.int .u64 0)) [4,8,10,11,12] ⟨⟨a1,a2,a3,a4⟩,i3,k14,c0,c1,c2,c3,c4⟩ (fun hHeld=>?_)
 refine wq 0 ?_
 refine wq 1 ?_
 refine wq 2 ?_
 refine wq 3 ?_
 refine wq 5 ?_
 refine wq 6 ?_
 refine wq 7 ?_
 refine wq 9 ?_
 refine wt 4 (by assumption) ?_
 refine wt 8 (by assumption) ?_
 refine wt 10 (by assumption) ?_
 refine wt 11 (by assumption) ?_
 refine wt 12 (by assumption) ?_
 refine wl 13 ?_
 clear hHeld i3 a1 a2 a3 a4 k14 c0 c1 c2 c3 c4 i0 a0
 have HR3:=Zh (HR.out.below HW30.out.drew)
 have HB3:=Zh (HB00.out.trans (HW30.out.drew.mono hbs))
 have HW3d:=Zh HW30.out.drew
 cases hw:Zcr S.C r pl s ao rb with
 | none=>
  have HWX:=Zh (fun (w:World) (hb:Below w0.heap.size w0 w) (hR:Za1 w w0.heap.size g S r V)=>by have:=HWR.out w hb hR;rw [hw] at this;exact this)
  have HWE:=Zh hw
  clear hw HWR
  go_wp2_with (go_at_call 91;refine (HWX.out _ HB3.out HR3.out).mono ?_;rintro e w8 ⟨V8,rfl,hR8,hb8,hf8⟩;have HR8:=Zh hR8;have HB8:=Zh hb8;have HF8:=Zh hf8;clear hR8 hb8 hf8)
  go_ret
  exact Zcn.no HWE.out ⟨_,rfl,HR8.out,(HW3d.out.mono hbs).trans HB8.out,(FrV.of_below HW3d.out).trans HF8.out⟩
 | some r2=>
  have HWX:=Zh (fun (w:World) (hb:Below w0.heap.size w0 w) (hR:Za1 w w0.heap.size g S r V)=>by have:=HWR.out w hb hR;rw [hw] at this;exact this)
  have HWE:=Zh hw
  clear hw HWR
  go_wp2_with (go_at_call 91;refine (HWX.out _ HB3.out HR3.out).mono ?_;rintro e w8 ⟨V8,rfl,hR8,hb8,hf8⟩;have HR8:=Zh hR8;have HB8:=Zh hb8;have HF8:=Zh hf8;clear hR8 hb8 hf8)
  go_ret
  exact Zcn.yes HWE.out ⟨_,rfl,HR8.out,(HW3d.out.mono hbs).trans HB8.out,(FrV.of_below HW3d.out).trans HF8.out⟩
end
end
section
theorem Za1.ctrl {w:World}{B g:Nat}{S:Zgi}{r:Rn}{V:Zd3}(h:Za1 w B g S r V)(c:Nat) :
  Za1 ((((w.setCell ⟨g,15,none⟩ (.int .u64 (c:Int))).setCell ⟨g,16,none⟩ (.int .u64 0)).setCell ⟨g,17,none⟩ (.int .u64 0)).setCell ⟨g,18,none⟩ (.int .u64 0)) B g S { r with ctrl:=c } V:=by
 have b1:=h.blk.set_ 15 (.int .u64 (c:Int))
 have b2:=b1.set_ 16 (.int .u64 0)
 have b3:=b2.set_ 17 (.int .u64 0)
 have b4:=b3.set_ 18 (.int .u64 0)
 have ho:∀ {t:TypeId} {z n:Nat} {v:Value} {cs:List Value},w.ownsRow B t z v n cs->t≠114->((((w.setCell ⟨g,15,none⟩ (.int .u64 (c:Int))).setCell ⟨g,16,none⟩ (.int .u64 0)).setCell ⟨g,17,none⟩ (.int .u64 0)).setCell ⟨g,18,none⟩ (.int .u64 0)).ownsRow B t z v n cs:=
  fun h1 hne=>Zaf (Zaf (Zaf (Zaf h1 h.blk hne _ _) b1 hne _ _) b2 hne _ _) b3 hne _ _
 obtain⟨q,hv,hq,hB⟩:=h.regs
 have hqg:q≠g:=Zaz hq h.blk (by decide)
 exact⟨b4,h.hg,⟨q,hv,(((hq.far hqg _).far hqg _).far hqg _).far hqg _,hB⟩,ho h.evs (by decide),ho h.bars (by decide),ho h.addr (by decide),ho h.data (by decide),ho h.hang (by decide),h.a1,h.a2,h.a3⟩
section
set_option maxHeartbeats 4000000
set_option maxRecDepth 100000
theorem Z5b (v:Value)(w:World):Calls Tryz.prog 362 #[v] w fun e w'=>e=.returned (.bool false)/\Below w.heap.size w w':=by
 go_enter Tryz.func362,Tryz.ntmps362
 go_wp2_with fail
 go_ret
 exact⟨rfl,by first | exact Below.refl _ _ | exact Zad _ _⟩
theorem Z47 (v:Value)(w:World):Calls Tryz.prog 363 #[v] w fun e w'=>e=.returned (.bool false)/\Below w.heap.size w w':=by
 go_enter Tryz.func363,Tryz.ntmps363
 go_wp2_with fail
 go_ret
 exact⟨rfl,by first | exact Below.refl _ _ | exact Zad _ _⟩
theorem Z3g (v:Value)(w:World):Calls Tryz.prog 364 #[v] w fun e w'=>e=.returned (.bool true)/\Below w.heap.size w w':=by
 go_enter Tryz.func364,Tryz.ntmps364
 go_wp2_with fail
 go_ret
 exact⟨rfl,by first | exact Below.refl _ _ | exact Zad _ _⟩
theorem Z4b (w:World):Calls Tryz.prog 365 #[.agg #[]] w fun e w'=>e=.returned (.bool true)/\Below w.heap.size w w':=by
 go_enter Tryz.func365,Tryz.ntmps365
 go_wp2_with fail
 go_ret
 exact⟨rfl,by first | exact Below.refl _ _ | exact Zad _ _⟩
theorem Zpl:∀ h:Zd6,∃ (t:TypeId) (v:Value) (f:FuncId) (a:Value),Zag h=.iface t v/\(∀ (n:Nat) (w:World),(method (n+1) t v "alembic/trace.open").run Tryz.prog w=.ok (f,a) w)/\(∀ w,(callFunc f #[a]).run Tryz.prog w=.ok (.enter f #[a]) w)/\∀ w,Calls Tryz.prog f #[a] w fun e w'=>e=.returned (.bool (Zby h))/\Below w.heap.size w w'
 | .num n=>⟨_,_,362,.int .i64 n,rfl,fun _ _=>by kernel_rfl,fun w=>enters_of Tryz.func362 (by kernel_rfl) rfl _ w,fun w=>Z5b _ w⟩
 | .adr s=>⟨_,_,363,.string ⟨s.toArray⟩,rfl,fun _ _=>by kernel_rfl,fun w=>enters_of Tryz.func363 (by kernel_rfl) rfl _ w,fun w=>Z47 _ w⟩
 | .rd i=>⟨_,_,364,.int .i64 (i:Int),rfl,fun _ _=>by kernel_rfl,fun w=>enters_of Tryz.func364 (by kernel_rfl) rfl _ w,fun w=>Z3g _ w⟩
 | .non=>⟨_,_,365,.agg #[],rfl,fun _ _=>by kernel_rfl,fun w=>enters_of Tryz.func365 (by kernel_rfl) rfl _ w,fun w=>Z4b w⟩
end
end
end Go.Proofs.YtoegmdnfbemppaaGreatDoor
