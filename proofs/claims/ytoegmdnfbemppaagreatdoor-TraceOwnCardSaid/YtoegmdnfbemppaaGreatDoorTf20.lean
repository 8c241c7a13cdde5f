/- Layer 15: the runner's reckon: the program's. -/
import Derived.Test.YtoegmdnfbemppaaGreatDoorTf19

namespace Go.Proofs.YtoegmdnfbemppaaGreatDoor
open Go.RowKit
section
theorem Znj {K:Act->World->Prop}{F:Nat->Nat->World->Prop}{A:Nat->Nat->Act}{G:Prop}(h1:(∀ la lb W3,F la lb W3->K (A la lb) W3)->G)(h2:∀ la lb W3,F la lb W3->K (A la lb) W3):G:=h1 h2
abbrev Zzq (op:Int)(d a b:Nat)(imm:Int)(loc label:List UInt8)(fence:Int):Value:=.agg #[.int .i64 op,.int .i64 (d:Int),.int .i64 (a:Int),.int .i64 (b:Int),.int .i64 imm,.string ⟨loc.toArray⟩,.string ⟨label.toArray⟩,.int .i64 fence]
def Zno (op:Int)(a b:Nat)(ra xb:Rg):Rg:=⟨if op=9/\a=b then .num 0 else Zcs op ra.h xb.h,ra.on|||xb.on⟩
section
set_option maxHeartbeats 4000000
set_option maxRecDepth 100000
variable {w0 w:World} {g nr k:Nat} {S:Zgi} {r:Rn} {V:Zd3}
theorem Z6b (op:Int)(d a b:Nat)(imm:Int)(loc label:List UInt8)(fence:Int)(ra rb xb:Rg)(hxb:xb=if op=8 then ⟨.num imm,0⟩ else rb)(himm:Zdj imm)(HS:Zrb w0 S)(hb:Below w0.heap.size w0 w)(hI:Inv S.C nr k r)(hR:Za1 w w0.heap.size g S r V)(hd:d<r.regs.length)(ha:r.regs[a]?=some ra)(hra:Zid S.C r.evs ra)(hb2:r.regs[b]?=some rb)(hrb:Zid S.C r.evs rb)(hl:r.regs.length<=32) :
  Calls Tryz.prog 95 #[.pointer (some ⟨g,0,none⟩),Zzq op d a b imm loc label fence] w (Zb1 w0.heap.size g S V (Zgr S.C r (d:Int) (Zno op a b ra xb)) (.tuple #[]) w):=by
 have hxo:Zid S.C r.evs xb:=by
  rw [hxb]
  split
  ·exact⟨himm,Rds.zero _⟩
  ·exact hrb
 have HXB:=Zh hxb
 have HR:=Zh hR
 have hbs:=hb.size
 have room:=hI.room
 have HBI:=Zh (Blk.new w 77 #[.int .i64 op,.int .i64 (d:Int),.int .i64 (a:Int),.int .i64 (b:Int),.int .i64 imm,.string ⟨loc.toArray⟩,.string ⟨label.toArray⟩,.int .i64 fence])
 have HB0:=Zh (Zad w (.cells #[.int .i64 op,.int .i64 (d:Int),.int .i64 (a:Int),.int .i64 (b:Int),.int .i64 imm,.string ⟨loc.toArray⟩,.string ⟨label.toArray⟩,.int .i64 fence] 77 (0,0)))
 obtain⟨q,hvr,hqb,hqB⟩:=hR.regs
 have hal:=(List.getElem?_eq_some_iff.1 ha).1
 have hi1:(0:Int)<=(a:Int):=by omega
 have hi2:(a:Int)<(r.regs.length:Int):=by omega
 obtain⟨c0,c1,c2,c3,c4⟩:=Zbq hqb ha
 obtain⟨b0,b1,b2,b3,b4⟩:=Zbq hqb hb2
 have hbl:=(List.getElem?_eq_some_iff.1 hb2).1
 have hi3:(0:Int)<=(b:Int):=by omega
 have hi4:(b:Int)<(r.regs.length:Int):=by omega
 have hao:=hra.2.lt64 (show r.evs.length<=64 by omega)
 have hbo:=hxo.2.lt64 (show r.evs.length<=64 by omega)
 have hor:=fun w=>orP ra.on xb.on w hao hbo
 obtain⟨oo,hoo⟩:∃ oo,ra.on|||xb.on=oo:=⟨_,rfl⟩
 rw [hoo] at hor
 have HOR:=Zh hor
 have hmx:=fun w=>Z3p op w ra.h xb.h hra.1.num hxo.1.num
 obtain⟨mx,hm⟩:∃ mx,Zcs op ra.h xb.h=mx:=⟨_,rfl⟩
 rw [hm] at hmx
 have HX0:=Zh (show op=9->a=b->Zno op a b ra xb=⟨.num 0,oo⟩ from fun h1 h2=>by unfold Zno;rw [if_pos ⟨h1,h2⟩,hoo])
 have HX1:=Zh (show ¬ (op=9/\a=b)->Zno op a b ra xb=⟨mx,oo⟩ from fun h=>by unfold Zno;rw [if_neg h,hoo,hm])
 obtain⟨mt,mv,hmv⟩:∃ t v,Zag mx=.iface t v:=by cases mx <;> exact⟨_,_,rfl⟩
 simp only [hmv] at hmx
 have hone6:∀ u∈([.iface mt mv,.int .u64 (oo:Int),.int .u64 0,.int .u64 0,.int .u64 0]:List Value),u.oneCell'=true:=by rw [<- hmv];exact Zde.one ⟨mx,oo⟩
 have HMX:=Zh hmx
 have hput:=fun (w:World)=>Z5l (w:=w) (V:=V) (g:=g) (r:=r) d ⟨mx,oo⟩ HS
 simp only [rgV,hmv] at hput
 have HPUT:=Zh hput
 have hput0:=fun (w:World)=>Z5l (w:=w) (V:=V) (g:=g) (r:=r) d ⟨.num 0,oo⟩ HS
 simp only [rgV,Zag] at hput0
 have HPUT0:=Zh hput0
 have HB00:=Zh hb
 have k14:w.cell? ⟨g,14,none⟩=some (.slice (some ⟨q,0,none⟩) r.regs.length r.regs.length):=by rw [<- hvr];exact hR.blk.cell 14
 have hone:=Zde.one ra
 have honeb:=Zde.one rb
 have hqw:=hqb.lt
 have hgw:g<w.heap.size:=hR.blk.lt
 have HKC:=Zh (And.intro k14 (And.intro b0 (And.intro b1 (And.intro b2 (And.intro b3 b4)))))
 clear hR hI HS hqb hb ha hm hmx hor hput hput0 hmv hb2 hoo hxo hxb b0 b1 b2 b3 b4
 go_enter Tryz.func95,Tryz.ntmps95
 go_wp2_with fail
 rename_i K0 hK0
 have HK0:=Zh hK0
 clear hK0
 generalize hw1:w.alloc (.cells #[.int .i64 op,.int .i64 (d:Int),.int .i64 (a:Int),.int .i64 (b:Int),.int .i64 imm,.string ⟨loc.toArray⟩,.string ⟨label.toArray⟩,.int .i64 fence] 77 (0,0))=w1 at *
 clear hw1
 have hz1:w.heap.size<w1.heap.size:=HBI.out.lt
 have i2:=HBI.out.cm 2
 have i4:=HBI.out.cm 4
 have d14:=Zac k14 HB0.out
 have d0:=Zac c0 HB0.out
 have d1:=Zac c1 HB0.out
 have d2:=Zac c2 HB0.out
 have d3:=Zac c3 HB0.out
 have d4:=Zac c4 HB0.out
 clear k14 c0 c1 c2 c3 c4
 have HSS:=Zh (show ∀ y,Below w1.heap.size w1 y->(fun y:World=>(y.cell? ⟨w.heap.size,2,none⟩=some (.int .i64 (a:Int))/\y.cell? ⟨w.heap.size,4,none⟩=some (.int .i64 imm))/\y.cell? ⟨g,14,none⟩=some (.slice (some ⟨q,0,none⟩) r.regs.length r.regs.length)/\y.cell? ⟨q,a*5,none⟩=some (Zag ra.h)/\y.cell? ⟨q,a*5+1,none⟩=some (.int .u64 (ra.on:Int))/\y.cell? ⟨q,a*5+2,none⟩=some (.int .u64 0)/\y.cell? ⟨q,a*5+3,none⟩=some (.int .u64 0)/\y.cell? ⟨q,a*5+4,none⟩=some (.int .u64 0)) y from fun y hb=>⟨⟨Zac i2 hb,Zac i4 hb⟩,Zac d14 hb,Zac d0 hb,Zac d1 hb,Zac d2 hb,Zac d3 hb,Zac d4 hb⟩)
 apply Znj (K:=K0) (F:=fun la lb W3=>Below w.heap.size w W3/\Blk W3 w.heap.size 77 #[.int .i64 op,.int .i64 (d:Int),.int .i64 (a:Int),.int .i64 (b:Int),.int .i64 imm,.string ⟨loc.toArray⟩,.string ⟨label.toArray⟩,.int .i64 fence]/\Blk W3 la 163 #[Zag ra.h,.int .u64 (ra.on:Int),.int .u64 0,.int .u64 0,.int .u64 0]/\Blk W3 lb 163 #[.iface 159 (.int .i64 imm),.int .u64 0,.int .u64 0,.int .u64 0,.int .u64 0]/\la≠lb/\w.heap.size<la/\w.heap.size<lb)
 ·intro HM
  have HM:=Zh HM
  refine wz (fun y:World=>(y.cell? ⟨w.heap.size,2,none⟩=some (.int .i64 (a:Int))/\y.cell? ⟨w.heap.size,4,none⟩=some (.int .i64 imm))/\y.cell? ⟨g,14,none⟩=some (.slice (some ⟨q,0,none⟩) r.regs.length r.regs.length)/\y.cell? ⟨q,a*5,none⟩=some (Zag ra.h)/\y.cell? ⟨q,a*5+1,none⟩=some (.int .u64 (ra.on:Int))/\y.cell? ⟨q,a*5+2,none⟩=some (.int .u64 0)/\y.cell? ⟨q,a*5+3,none⟩=some (.int .u64 0)/\y.cell? ⟨q,a*5+4,none⟩=some (.int .u64 0)) [3,5,7,9,10,11,12,13,14] ⟨⟨i2,i4⟩,d14,d0,d1,d2,d3,d4⟩ (fun hHeld=>?_)
  refine wq 0 ?_
  refine wq 1 ?_
  refine wq 2 ?_
  refine wq 4 ?_
  refine wq 8 ?_
  refine wt 3 (by assumption) ?_
  refine wt 5 (by assumption) ?_
  refine wq 6 ?_
  refine wt 7 (by assumption) ?_
  refine wt 9 (by assumption) ?_
  refine wt 10 (by assumption) ?_
  refine wt 11 (by assumption) ?_
  clear hHeld
  refine Zd1 (i:=12) (j:=13) (by kernel_rfl) rfl rfl (fun K hK=>?_) (fun K hK=>?_)
  ·go_simp
   refine hK.out _ _ (HSS.out _ (by repeat (first | exact Below.refl _ _ | exact Below.refl _ _ | with_reducible refine Below.drew ?_ | with_reducible refine Zab ?_ _))) ?_
   clear hK K
   refine pu ?_
   refine Zav (i:=13) (by kernel_rfl) rfl (fun K hK=>?_)
   go_simp
   refine hK.out _ _ (HSS.out _ (by repeat (first | exact Below.refl _ _ | exact Below.refl _ _ | with_reducible refine Below.drew ?_ | with_reducible refine Zab ?_ _))) ?_
   clear hK K
   refine pu ?_
   generalize hW2:(World.drew (World.alloc _ _))=W2
   have BZ4:Hid (Blk W2 (w1.heap.size) 163 #[.nilIface,.int .u64 0,.int .u64 0,.int .u64 0,.int .u64 0]):=by rw [<- hW2];exact Zh ((Blk.new w1 _ _).alloc _).drew
   have BZ5:Hid (Blk W2 (w1.heap.size+1) 163 #[.nilIface,.int .u64 0,.int .u64 0,.int .u64 0,.int .u64 0]):=by rw [<- hW2];exact Zh (Zcw w1 _ _ _).drew
   have HW2:Hid (Below w1.heap.size w1 W2):=by rw [<- hW2];exact Zh ((by repeat (first | exact Below.refl _ _ | exact Below.refl _ _ | with_reducible refine Below.drew ?_ | with_reducible refine Zab ?_ _)))
   clear hW2
   refine Zav (i:=14) (by kernel_rfl) rfl (fun K hK=>?_)
   rw [if_pos (by kernel_rfl)]
   refine wp_store_mid _ _ _ rfl ((w1.heap.size)) 0 #[Zag ra.h,.int .u64 (ra.on:Int),.int .u64 0,.int .u64 0,.int .u64 0] rfl rfl (Zbh BZ4.out 5 (by simp)) (by kernel_rfl) (all_oneCell_toArray (cs:=Zde.enc ra) hone) ?_
   refine hK.out _ _ (HSS.out _ (Zaq HW2.out (by omega) _ _)) ?_
   clear hK K
   refine pu ?_
   refine wl 15 ?_
   refine wpList_store_mid rfl _ _ _ rfl ((w1.heap.size+1)) 0 #[.iface 159 (.int .i64 imm),.int .u64 0,.int .u64 0,.int .u64 0,.int .u64 0] rfl rfl (Zbh (Za6 BZ5.out (by omega) _ _) 5 (by simp)) (by kernel_rfl) (all_oneCell_toArray (cs:=Zde.enc ⟨.num imm,0⟩) (Zde.one ⟨.num imm,0⟩)) ?_
   have hW:=Zaq (Zaq HW2.out (show w1.heap.size<=(w1.heap.size) by omega) [Zag ra.h,.int .u64 (ra.on:Int),.int .u64 0,.int .u64 0,.int .u64 0] 0) (show w1.heap.size<=(w1.heap.size+1) by omega) [.iface 159 (.int .i64 imm),.int .u64 0,.int .u64 0,.int .u64 0,.int .u64 0] 0
   have hF:Below w.heap.size w ((W2.setCells ((w1.heap.size)) 0 [Zag ra.h,.int .u64 (ra.on:Int),.int .u64 0,.int .u64 0,.int .u64 0]).setCells ((w1.heap.size+1)) 0 [.iface 159 (.int .i64 imm),.int .u64 0,.int .u64 0,.int .u64 0,.int .u64 0])/\Blk ((W2.setCells ((w1.heap.size)) 0 [Zag ra.h,.int .u64 (ra.on:Int),.int .u64 0,.int .u64 0,.int .u64 0]).setCells ((w1.heap.size+1)) 0 [.iface 159 (.int .i64 imm),.int .u64 0,.int .u64 0,.int .u64 0,.int .u64 0]) w.heap.size 77 #[.int .i64 op,.int .i64 (d:Int),.int .i64 (a:Int),.int .i64 (b:Int),.int .i64 imm,.string ⟨loc.toArray⟩,.string ⟨label.toArray⟩,.int .i64 fence]/\Blk ((W2.setCells ((w1.heap.size)) 0 [Zag ra.h,.int .u64 (ra.on:Int),.int .u64 0,.int .u64 0,.int .u64 0]).setCells ((w1.heap.size+1)) 0 [.iface 159 (.int .i64 imm),.int .u64 0,.int .u64 0,.int .u64 0,.int .u64 0]) ((w1.heap.size)) 163 #[Zag ra.h,.int .u64 (ra.on:Int),.int .u64 0,.int .u64 0,.int .u64 0]/\Blk ((W2.setCells ((w1.heap.size)) 0 [Zag ra.h,.int .u64 (ra.on:Int),.int .u64 0,.int .u64 0,.int .u64 0]).setCells ((w1.heap.size+1)) 0 [.iface 159 (.int .i64 imm),.int .u64 0,.int .u64 0,.int .u64 0,.int .u64 0]) ((w1.heap.size+1)) 163 #[.iface 159 (.int .i64 imm),.int .u64 0,.int .u64 0,.int .u64 0,.int .u64 0]/\(w1.heap.size)≠(w1.heap.size+1)/\w.heap.size<(w1.heap.size)/\w.heap.size<(w1.heap.size+1):=
    ⟨Zaa HB0.out hW,HBI.out.go hW,Za6 (Blk.sets5 BZ4.out rfl (Zag ra.h) (.int .u64 (ra.on:Int)) (.int .u64 0) (.int .u64 0) (.int .u64 0)) (by omega) [.iface 159 (.int .i64 imm),.int .u64 0,.int .u64 0,.int .u64 0,.int .u64 0] 0,Blk.sets5 (Za6 BZ5.out (by omega) [Zag ra.h,.int .u64 (ra.on:Int),.int .u64 0,.int .u64 0,.int .u64 0] 0) rfl (.iface 159 (.int .i64 imm)) (.int .u64 0) (.int .u64 0) (.int .u64 0) (.int .u64 0),by omega,by omega,by omega⟩
   clear hW BZ4 BZ5 HW2
   generalize ((W2.setCells ((w1.heap.size)) 0 [Zag ra.h,.int .u64 (ra.on:Int),.int .u64 0,.int .u64 0,.int .u64 0]).setCells ((w1.heap.size+1)) 0 [.iface 159 (.int .i64 imm),.int .u64 0,.int .u64 0,.int .u64 0,.int .u64 0])=W3 at hF ⊢
   generalize w1.heap.size+1=p2 at hF ⊢
   generalize w1.heap.size=p1 at hF ⊢
   exact wpList_nil (HM.out _ _ W3 hF)
  ·go_simp
   refine hK.out _ _ (HSS.out _ (by repeat (first | exact Below.refl _ _ | exact Below.refl _ _ | with_reducible refine Below.drew ?_ | with_reducible refine Zab ?_ _))) ?_
   clear hK K
   refine pu ?_
   refine Zav (i:=12) (by kernel_rfl) rfl (fun K hK=>?_)
   go_simp
   refine hK.out _ _ (HSS.out _ (by repeat (first | exact Below.refl _ _ | exact Below.refl _ _ | with_reducible refine Below.drew ?_ | with_reducible refine Zab ?_ _))) ?_
   clear hK K
   refine pu ?_
   generalize hW2:(World.drew (World.alloc _ _))=W2
   have BZ4:Hid (Blk W2 (w1.heap.size+1) 163 #[.nilIface,.int .u64 0,.int .u64 0,.int .u64 0,.int .u64 0]):=by rw [<- hW2];exact Zh (Zcw w1 _ _ _).drew
   have BZ5:Hid (Blk W2 (w1.heap.size) 163 #[.nilIface,.int .u64 0,.int .u64 0,.int .u64 0,.int .u64 0]):=by rw [<- hW2];exact Zh ((Blk.new w1 _ _).alloc _).drew
   have HW2:Hid (Below w1.heap.size w1 W2):=by rw [<- hW2];exact Zh ((by repeat (first | exact Below.refl _ _ | exact Below.refl _ _ | with_reducible refine Below.drew ?_ | with_reducible refine Zab ?_ _)))
   clear hW2
   refine Zav (i:=14) (by kernel_rfl) rfl (fun K hK=>?_)
   rw [if_pos (by kernel_rfl)]
   refine wp_store_mid _ _ _ rfl ((w1.heap.size+1)) 0 #[Zag ra.h,.int .u64 (ra.on:Int),.int .u64 0,.int .u64 0,.int .u64 0] rfl rfl (Zbh BZ4.out 5 (by simp)) (by kernel_rfl) (all_oneCell_toArray (cs:=Zde.enc ra) hone) ?_
   refine hK.out _ _ (HSS.out _ (Zaq HW2.out (by omega) _ _)) ?_
   clear hK K
   refine pu ?_
   refine wl 15 ?_
   refine wpList_store_mid rfl _ _ _ rfl ((w1.heap.size)) 0 #[.iface 159 (.int .i64 imm),.int .u64 0,.int .u64 0,.int .u64 0,.int .u64 0] rfl rfl (Zbh (Za6 BZ5.out (by omega) _ _) 5 (by simp)) (by kernel_rfl) (all_oneCell_toArray (cs:=Zde.enc ⟨.num imm,0⟩) (Zde.one ⟨.num imm,0⟩)) ?_
   have hW:=Zaq (Zaq HW2.out (show w1.heap.size<=(w1.heap.size+1) by omega) [Zag ra.h,.int .u64 (ra.on:Int),.int .u64 0,.int .u64 0,.int .u64 0] 0) (show w1.heap.size<=(w1.heap.size) by omega) [.iface 159 (.int .i64 imm),.int .u64 0,.int .u64 0,.int .u64 0,.int .u64 0] 0
   have hF:Below w.heap.size w ((W2.setCells ((w1.heap.size+1)) 0 [Zag ra.h,.int .u64 (ra.on:Int),.int .u64 0,.int .u64 0,.int .u64 0]).setCells ((w1.heap.size)) 0 [.iface 159 (.int .i64 imm),.int .u64 0,.int .u64 0,.int .u64 0,.int .u64 0])/\Blk ((W2.setCells ((w1.heap.size+1)) 0 [Zag ra.h,.int .u64 (ra.on:Int),.int .u64 0,.int .u64 0,.int .u64 0]).setCells ((w1.heap.size)) 0 [.iface 159 (.int .i64 imm),.int .u64 0,.int .u64 0,.int .u64 0,.int .u64 0]) w.heap.size 77 #[.int .i64 op,.int .i64 (d:Int),.int .i64 (a:Int),.int .i64 (b:Int),.int .i64 imm,.string ⟨loc.toArray⟩,.string ⟨label.toArray⟩,.int .i64 fence]/\Blk ((W2.setCells ((w1.heap.size+1)) 0 [Zag ra.h,.int .u64 (ra.on:Int),.int .u64 0,.int .u64 0,.int .u64 0]).setCells ((w1.heap.size)) 0 [.iface 159 (.int .i64 imm),.int .u64 0,.int .u64 0,.int .u64 0,.int .u64 0]) ((w1.heap.size+1)) 163 #[Zag ra.h,.int .u64 (ra.on:Int),.int .u64 0,.int .u64 0,.int .u64 0]/\Blk ((W2.setCells ((w1.heap.size+1)) 0 [Zag ra.h,.int .u64 (ra.on:Int),.int .u64 0,.int .u64 0,.int .u64 0]).setCells ((w1.heap.size)) 0 [.iface 159 (.int .i64 imm),.int .u64 0,.int .u64 0,.int .u64 0,.int .u64 0]) ((w1.heap.size)) 163 #[.iface 159 (.int .i64 imm),.int .u64 0,.int .u64 0,.int .u64 0,.int .u64 0]/\(w1.heap.size+1)≠(w1.heap.size)/\w.heap.size<(w1.heap.size+1)/\w.heap.size<(w1.heap.size):=
    ⟨Zaa HB0.out hW,HBI.out.go hW,Za6 (Blk.sets5 BZ4.out rfl (Zag ra.h) (.int .u64 (ra.on:Int)) (.int .u64 0) (.int .u64 0) (.int .u64 0)) (by omega) [.iface 159 (.int .i64 imm),.int .u64 0,.int .u64 0,.int .u64 0,.int .u64 0] 0,Blk.sets5 (Za6 BZ5.out (by omega) [Zag ra.h,.int .u64 (ra.on:Int),.int .u64 0,.int .u64 0,.int .u64 0] 0) rfl (.iface 159 (.int .i64 imm)) (.int .u64 0) (.int .u64 0) (.int .u64 0) (.int .u64 0),by omega,by omega,by omega⟩
   clear hW BZ4 BZ5 HW2
   generalize ((W2.setCells ((w1.heap.size+1)) 0 [Zag ra.h,.int .u64 (ra.on:Int),.int .u64 0,.int .u64 0,.int .u64 0]).setCells ((w1.heap.size)) 0 [.iface 159 (.int .i64 imm),.int .u64 0,.int .u64 0,.int .u64 0,.int .u64 0])=W3 at hF ⊢
   generalize w1.heap.size+1=p2 at hF ⊢
   generalize w1.heap.size=p1 at hF ⊢
   exact wpList_nil (HM.out _ _ W3 hF)
 ·intro la lb W3 ⟨hb3,hi3',hA3,hB3,hne,hla,hlb⟩
  refine HK0.out _ _ ?_
  clear HK0 K0 HSS HBI HB0 i2 i4 d14 d0 d1 d2 d3 d4
  have HW30:=Zh hb3
  have HBI3:=Zh hi3'
  have BXA:=Zh hA3
  have law:la<W3.heap.size:=hA3.lt
  have lbw:lb<W3.heap.size:=hB3.lt
  have i0:W3.cell? ⟨w.heap.size,0,none⟩=some (.int .i64 op):=hi3'.cell 0
  by_cases h8:op=8
  ·have g8:(op != 8)=false:=by simpa using h8
   have e1:xb=⟨.num imm,0⟩:=by rw [HXB.out,if_pos h8]
   have BXB:Hid (Blk W3 lb 163 #[Zag xb.h,.int .u64 (xb.on:Int),.int .u64 0,.int .u64 0,.int .u64 0]):=Zh (by rw [e1];exact hB3)
   clear hb3 hi3' hA3 hB3 h8 e1 HKC
   go_wp2_with (skip;fail)
   clear i0
   exact m_1
  ·have g8:(op != 8)=true:=by simpa using h8
   have e1:xb=rb:=by rw [HXB.out,if_neg h8]
   have BZ:=Zh hB3
   clear hb3 hi3' hA3 hB3 h8
   go_wp2_with fail
   have g14:=Zac HKC.out.1 HW30.out
   have n3:=HBI3.out.cm 3
   have n0:=Zac HKC.out.2.1 HW30.out
   have n1:=Zac HKC.out.2.2.1 HW30.out
   have n2:=Zac HKC.out.2.2.2.1 HW30.out
   have n4:=Zac HKC.out.2.2.2.2.1 HW30.out
   have n5:=Zac HKC.out.2.2.2.2.2 HW30.out
   refine wz (fun y:World=>y.cell? ⟨w.heap.size,3,none⟩=some (.int .i64 (b:Int))/\y.cell? ⟨g,14,none⟩=some (.slice (some ⟨q,0,none⟩) r.regs.length r.regs.length)/\y.cell? ⟨q,b*5,none⟩=some (Zag rb.h)/\y.cell? ⟨q,b*5+1,none⟩=some (.int .u64 (rb.on:Int))/\y.cell? ⟨q,b*5+2,none⟩=some (.int .u64 0)/\y.cell? ⟨q,b*5+3,none⟩=some (.int .u64 0)/\y.cell? ⟨q,b*5+4,none⟩=some (.int .u64 0)) [3,5,7] ⟨n3,g14,n0,n1,n2,n4,n5⟩ (fun hHeld=>?_)
   refine wq 0 ?_
   refine wq 1 ?_
   refine wq 2 ?_
   refine wq 4 ?_
   refine wt 3 (by assumption) ?_
   refine wt 5 (by assumption) ?_
   refine wq 6 ?_
   refine wt 7 (by assumption) ?_
   refine wl 8 ?_
   clear hHeld n3 g14 n0 n1 n2 n4 n5 i0 HKC
   refine wpList_store_mid rfl _ _ _ rfl lb 0 #[Zag rb.h,.int .u64 (rb.on:Int),.int .u64 0,.int .u64 0,.int .u64 0] rfl rfl (Zbh BZ.out.drew 5 (by simp)) (by kernel_rfl) (all_oneCell_toArray (cs:=Zde.enc rb) honeb) ?_
   rw [<- e1]
   have BX9:=Zh (Za6 BXA.out.drew hne [Zag xb.h,.int .u64 (xb.on:Int),.int .u64 0,.int .u64 0,.int .u64 0] 0)
   have BXB:=Zh (Blk.sets5 BZ.out.drew rfl (Zag xb.h) (.int .u64 (xb.on:Int)) (.int .u64 0) (.int .u64 0) (.int .u64 0))
   have HW9:=Zh (Zaq HW30.out.drew (Nat.le_of_lt hlb) [Zag xb.h,.int .u64 (xb.on:Int),.int .u64 0,.int .u64 0,.int .u64 0] 0)
   have HBI9:=Zh (Za6 HBI3.out.drew (show w.heap.size≠lb by omega) [Zag xb.h,.int .u64 (xb.on:Int),.int .u64 0,.int .u64 0,.int .u64 0] 0)
   have law9:=BX9.out.lt
   have lbw9:=BXB.out.lt
   clear BXA HW30 HBI3 BZ e1 law lbw
   have BXA:=BX9
   have HW30:=HW9
   have HBI3:=HBI9
   clear BX9 HW9 HBI9
   generalize (World.setCells W3.drew lb 0 [Zag xb.h,.int .u64 (xb.on:Int),.int .u64 0,.int .u64 0,.int .u64 0])=W9 at *
   clear W3
   obtain⟨W3,hW3⟩:∃ W,W=W9:=⟨_,rfl⟩
   subst hW3
   have law:=law9
   have lbw:=lbw9
   clear law9 lbw9
   exact m_1
end
end
end Go.Proofs.YtoegmdnfbemppaaGreatDoor
