/- Blocks of proof that stand in more than one place, each as the way of a theorem. -/
import Derived.Test.YtoegmdnfbemppaaGreatDoorProg
import Derived.WalkKit
import Derived.Lib.Hide
import Derived.Lib.LaidTab
import Derived.Lib.ItoaNum
import Derived.BigQuiet
import Derived.Deep.QuietTactic
import Derived.Deep.DeepFit
import Derived.Laws.Entries
import Derived.Maps.AppendAt
import Derived.Laws.OwnMore
import Derived.StillTailTactics
import Derived.Deep.RegionHeld3
import Derived.Laws.MakeOwn
import Derived.Laws.AppendOwnNone
import Derived.RegionTactic
import Derived.BigRegion
import Derived.Laws.StructEq
import Derived.Shelf.SlGeneric
import Derived.Shelf.SlSortCmp.WholeK
import Derived.Ground.SlsfProg
import Derived.Ground.SlgnProg
import Derived.Shelf.SlicesE.Clone
import Derived.ArgAppend
import Derived.Shelf.Strings.Trim
import Derived.Shelf.Small.Utf8
import Derived.Shelf.Small.Bits
import Derived.Shelf.Small.Strs
import Derived.Shelf.Strconv.Itoa0
import Derived.Shelf.Strconv.Itoa1
import Derived.Shelf.LaysM
import Derived.Shelf.Strconv.Itoa2
import Derived.Shelf.Strconv.Itoa3
import Derived.Shelf.Strings.Search1
import Derived.Shelf.Sort.Plain
import Derived.Shelf.Unicode.Decode
import Derived.Shelf.Strings.Runes
import Derived.Shelf.Strings.AsciiSet
import Derived.Shelf.Unicode.DecodeSlow
import Derived.Shelf.Unicode.DecodeAny
import Derived.Shelf.Unicode.DecodeLast
import Derived.Ground.Names2Prog
import Derived.Shelf.Slices.Clone
import Derived.Shelf.Slices.CompactS
import Derived.Shelf.Slices.Cells
import Derived.Shelf.Slices.In.SortNone
import Derived.Shelf.Strings.SlTrimAscii
import Derived.Lib.AppendIntMem
import Derived.Lib.AtoiErrMem
import Derived.Sort.Statements
import Derived.Lib.ItoaLen
import Derived.Sort.LotA
import Derived.Lib.SliceRun
import Derived.Lib.SlicesCompact
import Derived.Lib.LazyBuf
import Derived.Deep.Upon
import Derived.Shelf.SlSortCmp.NoneTotal
import Derived.Shelf.Strings.Builder1
import Derived.WalkLawsBesides
import Derived.Sort.Walk0
import Derived.Shelf.Spec.SearchS
import Derived.Maps.OwnOps
import Derived.DeepKeys4
import Derived.MapViews
import Derived.Maps.Views
import Derived.StringKeys
import Derived.Maps.OwnSet
import Derived.Outline
import Derived.Deep.MidRow
import Derived.Laws.CopyOwn
import Derived.ProofKit
import Derived.OpenShut
import Derived.Deep.DeepHandedRow
import Derived.Carry
import Derived.Deep.Slices
import Derived.Deep.Fields
import Derived.SizedLaws
import Derived.Deep.DeepWitnessRowRef
import Derived.LaidMore
import Derived.Shelf.Vars
import Derived.ChangeMaps5
namespace Go.Proofs.YtoegmdnfbemppaaGreatDoor
open Go.RowKit
theorem m_1{G:Prop}(h:G:=by
 have i0:=HBI3.out.cl 0
 have a0:=BXA.out.cl 0
 have a1:=BXA.out.cl 1
 have a2:=BXA.out.cl 2
 have a3:=BXA.out.cl 3
 have a4:=BXA.out.cl 4
 have b0:=BXB.out.cl 0
 have b1:=BXB.out.cl 1
 have b2:=BXB.out.cl 2
 have b3:=BXB.out.cl 3
 have b4:=BXB.out.cl 4
 have hz3:=HW30.out.size
 have HSS:=Zh (show ∀ y,Below W3.heap.size W3 y->(fun y:World=>y.cell? ⟨w.heap.size,0,none⟩=some (.int .i64 op)/\(y.cell? ⟨la,0,none⟩=some (Zag ra.h)/\y.cell? ⟨la,1,none⟩=some (.int .u64 (ra.on:Int))/\y.cell? ⟨la,2,none⟩=some (.int .u64 0)/\y.cell? ⟨la,3,none⟩=some (.int .u64 0)/\y.cell? ⟨la,4,none⟩=some (.int .u64 0))/\y.cell? ⟨lb,0,none⟩=some (Zag xb.h)/\y.cell? ⟨lb,1,none⟩=some (.int .u64 (xb.on:Int))/\y.cell? ⟨lb,2,none⟩=some (.int .u64 0)/\y.cell? ⟨lb,3,none⟩=some (.int .u64 0)/\y.cell? ⟨lb,4,none⟩=some (.int .u64 0)) y from fun y hb=>⟨Zac i0 hb,⟨Zac a0 hb,Zac a1 hb,Zac a2 hb,Zac a3 hb,Zac a4 hb⟩,Zac b0 hb,Zac b1 hb,Zac b2 hb,Zac b3 hb,Zac b4 hb⟩)
 clear BXA BXB
 go_wp2_with fail
 rename_i K9 hK9
 have HK9:=Zh hK9
 clear hK9 i0 a0 a1 a2 a3 a4 b0 b1 b2 b3 b4
 apply Znj (K:=K9) (F:=fun lx _ W7=>Below w.heap.size w W7/\Blk W7 w.heap.size 77 #[.int .i64 op,.int .i64 (d:Int),.int .i64 (a:Int),.int .i64 (b:Int),.int .i64 imm,.string ⟨loc.toArray⟩,.string ⟨label.toArray⟩,.int .i64 fence]/\Blk W7 lx 163 #[.iface mt mv,.int .u64 (oo:Int),.int .u64 0,.int .u64 0,.int .u64 0]/\w.heap.size<lx)
 ·intro HM
  have HM:=Zh HM
  refine wz (fun y:World=>y.cell? ⟨w.heap.size,0,none⟩=some (.int .i64 op)/\(y.cell? ⟨la,0,none⟩=some (Zag ra.h)/\y.cell? ⟨la,1,none⟩=some (.int .u64 (ra.on:Int))/\y.cell? ⟨la,2,none⟩=some (.int .u64 0)/\y.cell? ⟨la,3,none⟩=some (.int .u64 0)/\y.cell? ⟨la,4,none⟩=some (.int .u64 0))/\y.cell? ⟨lb,0,none⟩=some (Zag xb.h)/\y.cell? ⟨lb,1,none⟩=some (.int .u64 (xb.on:Int))/\y.cell? ⟨lb,2,none⟩=some (.int .u64 0)/\y.cell? ⟨lb,3,none⟩=some (.int .u64 0)/\y.cell? ⟨lb,4,none⟩=some (.int .u64 0)) [1,3,5,6,8,10,13] (HSS.out _ (Below.refl _ _).drew) (fun hHeld=>?_)
  refine wq 0 ?_
  refine wq 2 ?_
  refine wq 4 ?_
  refine wq 7 ?_
  refine wq 9 ?_
  refine wt 1 (by assumption) ?_
  refine wt 3 (by assumption) ?_
  refine wt 5 (by assumption) ?_
  refine wt 8 (by assumption) ?_
  refine wt 10 (by assumption) ?_
  clear hHeld
  refine Zd1 (i:=6) (j:=13) (by kernel_rfl) rfl rfl (fun K hK=>?_) (fun K hK=>?_)
  ·go_simp
   go_at_call 161
   refine (HMX.out _).mono ?_
   rintro e w' ⟨rfl,rfl⟩
   refine hK.out _ _ (HSS.out _ (by repeat (first | exact Below.refl _ _ | exact Below.refl _ _ | with_reducible refine Below.drew ?_ | with_reducible refine Zab ?_ _))) ?_
   clear hK K
   refine pu ?_
   refine Zd1 (i:=11) (j:=13) (by kernel_rfl) rfl rfl (fun K hK=>?_) (fun K hK=>?_)
   ·go_simp
    go_at_call 162
    refine (HOR.out _).mono ?_
    rintro e w5 ⟨rfl,hb5⟩
    have HB6:=Zh (show Below (W3.drew).heap.size W3.drew w5 from hb5)
    have HB5:=Zh (show Below W3.heap.size W3 w5 from (by first | exact Zar hb5 | exact HW4.out.trans (hb5.mono HW4.out.size)))
    clear hb5
    refine hK.out _ _ (HSS.out _ HB5.out) ?_
    clear hK K
    refine pu ?_
    refine wq 12 ?_
    refine Zav (i:=13) (by kernel_rfl) rfl (fun K hK=>?_)
    go_simp
    refine hK.out _ _ (HSS.out _ (by repeat (first | exact Below.refl _ _ | exact HB5.out | with_reducible refine Below.drew ?_ | with_reducible refine Zab ?_ _))) ?_
    clear hK K
    refine pu ?_
    refine wl 14 ?_
    have hz5:=HB5.out.size
    refine wpList_store_mid rfl _ _ _ rfl (w5.heap.size) 0 #[.iface mt mv,.int .u64 (oo:Int),.int .u64 0,.int .u64 0,.int .u64 0] rfl rfl (Zbh (Blk.new w5 163 #[.nilIface,.int .u64 0,.int .u64 0,.int .u64 0,.int .u64 0]) 5 (by simp)) (by kernel_rfl) (all_oneCell_toArray (cs:=[.iface mt mv,.int .u64 (oo:Int),.int .u64 0,.int .u64 0,.int .u64 0]) hone6) ?_
    have hW:=Zaq (show Below W3.heap.size W3 (w5.alloc (.cells #[.nilIface,.int .u64 0,.int .u64 0,.int .u64 0,.int .u64 0] 163 (0,0))) from Zab HB5.out _) (show W3.heap.size<=(w5.heap.size) by omega) [.iface mt mv,.int .u64 (oo:Int),.int .u64 0,.int .u64 0,.int .u64 0] 0
    have hF:Below w.heap.size w (World.setCells (w5.alloc (.cells #[.nilIface,.int .u64 0,.int .u64 0,.int .u64 0,.int .u64 0] 163 (0,0))) ((w5.heap.size)) 0 [.iface mt mv,.int .u64 (oo:Int),.int .u64 0,.int .u64 0,.int .u64 0])/\Blk (World.setCells (w5.alloc (.cells #[.nilIface,.int .u64 0,.int .u64 0,.int .u64 0,.int .u64 0] 163 (0,0))) ((w5.heap.size)) 0 [.iface mt mv,.int .u64 (oo:Int),.int .u64 0,.int .u64 0,.int .u64 0]) w.heap.size 77 #[.int .i64 op,.int .i64 (d:Int),.int .i64 (a:Int),.int .i64 (b:Int),.int .i64 imm,.string ⟨loc.toArray⟩,.string ⟨label.toArray⟩,.int .i64 fence]/\Blk (World.setCells (w5.alloc (.cells #[.nilIface,.int .u64 0,.int .u64 0,.int .u64 0,.int .u64 0] 163 (0,0))) ((w5.heap.size)) 0 [.iface mt mv,.int .u64 (oo:Int),.int .u64 0,.int .u64 0,.int .u64 0]) ((w5.heap.size)) 163 #[.iface mt mv,.int .u64 (oo:Int),.int .u64 0,.int .u64 0,.int .u64 0]/\w.heap.size<(w5.heap.size):=
     ⟨Zaa HW30.out hW,HBI3.out.go hW,Blk.sets5 (Blk.new w5 163 #[.nilIface,.int .u64 0,.int .u64 0,.int .u64 0,.int .u64 0]) rfl (.iface mt mv) (.int .u64 (oo:Int)) (.int .u64 0) (.int .u64 0) (.int .u64 0),by omega⟩
    obtain⟨z0,_⟩:∃ z:Nat,z=z:=⟨0,rfl⟩
    clear hW
    generalize (World.setCells (w5.alloc (.cells #[.nilIface,.int .u64 0,.int .u64 0,.int .u64 0,.int .u64 0] 163 (0,0))) ((w5.heap.size)) 0 [.iface mt mv,.int .u64 (oo:Int),.int .u64 0,.int .u64 0,.int .u64 0])=W7 at hF ⊢
    generalize (w5.heap.size)=p1 at hF ⊢
    exact wpList_nil (HM.out p1 z0 W7 hF)
   ·go_simp
    refine hK.out _ _ (HSS.out _ (by repeat (first | exact Below.refl _ _ | exact Below.refl _ _ | with_reducible refine Below.drew ?_ | with_reducible refine Zab ?_ _))) ?_
    clear hK K
    refine pu ?_
    generalize hW4:(World.drew (World.alloc _ _))=W4
    have BZ6:Hid (Blk W4 W3.heap.size 163 #[.nilIface,.int .u64 0,.int .u64 0,.int .u64 0,.int .u64 0]):=by rw [<- hW4];exact Zh (Blk.new W3 _ _).drew
    have HW4:Hid (Below W3.heap.size W3 W4):=by rw [<- hW4];exact Zh ((by repeat (first | exact Below.refl _ _ | exact Below.refl _ _ | with_reducible refine Below.drew ?_ | with_reducible refine Zab ?_ _)))
    clear hW4
    refine Zav (i:=11) (by kernel_rfl) rfl (fun K hK=>?_)
    go_simp
    go_at_call 162
    refine (HOR.out _).mono ?_
    rintro e w5 ⟨rfl,hb5⟩
    have HB6:=Zh (show Below (W4).heap.size W4 w5 from hb5)
    have HB5:=Zh (show Below W3.heap.size W3 w5 from (by first | exact Zar hb5 | exact HW4.out.trans (hb5.mono HW4.out.size)))
    clear hb5
    refine hK.out _ _ (HSS.out _ HB5.out) ?_
    clear hK K
    refine pu ?_
    refine wq 12 ?_
    refine wl 14 ?_
    have hz5:=HB5.out.size
    refine wpList_store_mid rfl _ _ _ rfl (W3.heap.size) 0 #[.iface mt mv,.int .u64 (oo:Int),.int .u64 0,.int .u64 0,.int .u64 0] rfl rfl (Zbh (BZ6.out.go HB6.out) 5 (by simp)) (by kernel_rfl) (all_oneCell_toArray (cs:=[.iface mt mv,.int .u64 (oo:Int),.int .u64 0,.int .u64 0,.int .u64 0]) hone6) ?_
    have hW:=Zaq (HB5.out) (show W3.heap.size<=(W3.heap.size) by omega) [.iface mt mv,.int .u64 (oo:Int),.int .u64 0,.int .u64 0,.int .u64 0] 0
    have hF:Below w.heap.size w (World.setCells w5 ((W3.heap.size)) 0 [.iface mt mv,.int .u64 (oo:Int),.int .u64 0,.int .u64 0,.int .u64 0])/\Blk (World.setCells w5 ((W3.heap.size)) 0 [.iface mt mv,.int .u64 (oo:Int),.int .u64 0,.int .u64 0,.int .u64 0]) w.heap.size 77 #[.int .i64 op,.int .i64 (d:Int),.int .i64 (a:Int),.int .i64 (b:Int),.int .i64 imm,.string ⟨loc.toArray⟩,.string ⟨label.toArray⟩,.int .i64 fence]/\Blk (World.setCells w5 ((W3.heap.size)) 0 [.iface mt mv,.int .u64 (oo:Int),.int .u64 0,.int .u64 0,.int .u64 0]) ((W3.heap.size)) 163 #[.iface mt mv,.int .u64 (oo:Int),.int .u64 0,.int .u64 0,.int .u64 0]/\w.heap.size<(W3.heap.size):=
     ⟨Zaa HW30.out hW,HBI3.out.go hW,Blk.sets5 (BZ6.out.go HB6.out) rfl (.iface mt mv) (.int .u64 (oo:Int)) (.int .u64 0) (.int .u64 0) (.int .u64 0),by omega⟩
    obtain⟨z0,_⟩:∃ z:Nat,z=z:=⟨0,rfl⟩
    clear hW
    generalize (World.setCells w5 ((W3.heap.size)) 0 [.iface mt mv,.int .u64 (oo:Int),.int .u64 0,.int .u64 0,.int .u64 0])=W7 at hF ⊢
    generalize (W3.heap.size)=p1 at hF ⊢
    exact wpList_nil (HM.out p1 z0 W7 hF)
  ·go_simp
   refine hK.out _ _ (HSS.out _ (by repeat (first | exact Below.refl _ _ | exact Below.refl _ _ | with_reducible refine Below.drew ?_ | with_reducible refine Zab ?_ _))) ?_
   clear hK K
   refine pu ?_
   generalize hW4:(World.drew (World.alloc _ _))=W4
   have BZ6:Hid (Blk W4 W3.heap.size 163 #[.nilIface,.int .u64 0,.int .u64 0,.int .u64 0,.int .u64 0]):=by rw [<- hW4];exact Zh (Blk.new W3 _ _).drew
   have HW4:Hid (Below W3.heap.size W3 W4):=by rw [<- hW4];exact Zh ((by repeat (first | exact Below.refl _ _ | exact Below.refl _ _ | with_reducible refine Below.drew ?_ | with_reducible refine Zab ?_ _)))
   clear hW4
   refine Zav (i:=6) (by kernel_rfl) rfl (fun K hK=>?_)
   go_simp
   go_at_call 161
   refine (HMX.out _).mono ?_
   rintro e w' ⟨rfl,rfl⟩
   refine hK.out _ _ (HSS.out _ HW4.out) ?_
   clear hK K
   refine pu ?_
   refine Zav (i:=11) (by kernel_rfl) rfl (fun K hK=>?_)
   go_simp
   go_at_call 162
   refine (HOR.out _).mono ?_
   rintro e w5 ⟨rfl,hb5⟩
   have HB6:=Zh (show Below (W4).heap.size W4 w5 from hb5)
   have HB5:=Zh (show Below W3.heap.size W3 w5 from (by first | exact Zar hb5 | exact HW4.out.trans (hb5.mono HW4.out.size)))
   clear hb5
   refine hK.out _ _ (HSS.out _ HB5.out) ?_
   clear hK K
   refine pu ?_
   refine wq 12 ?_
   refine wl 14 ?_
   have hz5:=HB5.out.size
   refine wpList_store_mid rfl _ _ _ rfl (W3.heap.size) 0 #[.iface mt mv,.int .u64 (oo:Int),.int .u64 0,.int .u64 0,.int .u64 0] rfl rfl (Zbh (BZ6.out.go HB6.out) 5 (by simp)) (by kernel_rfl) (all_oneCell_toArray (cs:=[.iface mt mv,.int .u64 (oo:Int),.int .u64 0,.int .u64 0,.int .u64 0]) hone6) ?_
   have hW:=Zaq (HB5.out) (show W3.heap.size<=(W3.heap.size) by omega) [.iface mt mv,.int .u64 (oo:Int),.int .u64 0,.int .u64 0,.int .u64 0] 0
   have hF:Below w.heap.size w (World.setCells w5 ((W3.heap.size)) 0 [.iface mt mv,.int .u64 (oo:Int),.int .u64 0,.int .u64 0,.int .u64 0])/\Blk (World.setCells w5 ((W3.heap.size)) 0 [.iface mt mv,.int .u64 (oo:Int),.int .u64 0,.int .u64 0,.int .u64 0]) w.heap.size 77 #[.int .i64 op,.int .i64 (d:Int),.int .i64 (a:Int),.int .i64 (b:Int),.int .i64 imm,.string ⟨loc.toArray⟩,.string ⟨label.toArray⟩,.int .i64 fence]/\Blk (World.setCells w5 ((W3.heap.size)) 0 [.iface mt mv,.int .u64 (oo:Int),.int .u64 0,.int .u64 0,.int .u64 0]) ((W3.heap.size)) 163 #[.iface mt mv,.int .u64 (oo:Int),.int .u64 0,.int .u64 0,.int .u64 0]/\w.heap.size<(W3.heap.size):=
    ⟨Zaa HW30.out hW,HBI3.out.go hW,Blk.sets5 (BZ6.out.go HB6.out) rfl (.iface mt mv) (.int .u64 (oo:Int)) (.int .u64 0) (.int .u64 0) (.int .u64 0),by omega⟩
   obtain⟨z0,_⟩:∃ z:Nat,z=z:=⟨0,rfl⟩
   clear hW
   generalize (World.setCells w5 ((W3.heap.size)) 0 [.iface mt mv,.int .u64 (oo:Int),.int .u64 0,.int .u64 0,.int .u64 0])=W7 at hF ⊢
   generalize (W3.heap.size)=p1 at hF ⊢
   exact wpList_nil (HM.out p1 z0 W7 hF)
 ·intro lx _ W7 ⟨hb7,hi7,hx7,hlx⟩
  refine HK9.out _ _ ?_
  clear HK9 K9 HSS HW30 HBI3
  have HW7:=Zh hb7
  have j0:=hi7.cl 0
  have j1:=hi7.cl 1
  have j2:=hi7.cl 2
  have j3:=hi7.cl 3
  have c0:=hx7.cl 0
  have c1:=hx7.cl 1
  have c2:=hx7.cl 2
  have c3:=hx7.cl 3
  have c4:=hx7.cl 4
  have f0:=hx7.frozen 0
  have hlw:lx<W7.heap.size:=hx7.lt
  have hne:¬ lx=w.heap.size:=by omega
  have hne2:¬ w.heap.size=lx:=by omega
  clear hb7 hi7 hx7
  by_cases h9:op=9
  ·have g9:(op == 9)=true:=by simpa using h9
   by_cases hab:a=b
   ·have g10:((a:Int) == (b:Int))=true:=by simp [hab]
    have HX:=Zh (HX0.out h9 hab)
    have HB8:=Zh (HW7.out.setCell (p:=⟨lx,0,none⟩) (show w.heap.size<=lx by omega) (.iface 159 (.int .i64 0)))
    clear h9 hab
    have HB7:=Zh (HB00.out.trans ((HB8.out).mono hbs))
    have HR7:=Zh (HR.out.below (HB8.out))
    go_wp2_with (go_at_call 93;refine (HPUT0.out _ HB7.out hd hl HR7.out).mono ?_;rintro e w8 ⟨V8,rfl,hR8,hb8,hf8⟩)
    go_end0
    rw [HX.out]
    exact⟨_,rfl,hR8,(HB8.out.mono hbs).trans hb8,(FrV.of_below HB8.out).trans hf8⟩
   ·have g10:((a:Int) == (b:Int))=false:=by simp;omega
    have HX:=Zh (HX1.out (fun h=>hab h.2))
    clear h9 hab
    have HB7:=Zh (HB00.out.trans ((HW7.out).mono hbs))
    have HR7:=Zh (HR.out.below (HW7.out))
    go_wp2_with (go_at_call 93;refine (HPUT.out _ HB7.out hd hl HR7.out).mono ?_;rintro e w8 ⟨V8,rfl,hR8,hb8,hf8⟩)
    go_end0
    rw [HX.out]
    exact⟨_,rfl,hR8,(HW7.out.mono hbs).trans hb8,(FrV.of_below HW7.out).trans hf8⟩
  ·have g9:(op == 9)=false:=by simpa using h9
   have HX:=Zh (HX1.out (fun h=>h9 h.1))
   clear h9
   have HB7:=Zh (HB00.out.trans ((HW7.out).mono hbs))
   have HR7:=Zh (HR.out.below (HW7.out))
   go_wp2_with (go_at_call 93;refine (HPUT.out _ HB7.out hd hl HR7.out).mono ?_;rintro e w8 ⟨V8,rfl,hR8,hb8,hf8⟩)
   go_end0
   rw [HX.out]
   exact⟨_,rfl,hR8,(HW7.out.mono hbs).trans hb8,(FrV.of_below HW7.out).trans hf8⟩):G:=h
theorem m_2{G:Prop}(h:G:=by
 have hini:=HINI.out x (List.mem_of_getElem? ex)
 obtain⟨b,o,hA,c0,c1,c2,c3,c4,_⟩:=(HII.out.below HB3.out) i x ex
 subst hA
 clear ex hx
 obtain⟨xth,xrg,xloc,xvl,xvn⟩:=x
 simp only at c0 c1 c2 c3 c4 hini
 have hal:=Zad wr (.cells #[.int .i64 xth,.int .i64 xrg,.string ⟨xloc.toArray⟩,.string ⟨xvl.toArray⟩,.int .i64 xvn] 102 (0,0))
 have HO4:=Zh (HO3.out.below hal)
 have HG4:=Zh (HG3.out.go hal)
 have HT4:=Zh (HT3.out.go hal)
 have HQ4:=Zh (HQ3.out.go hal)
 have HB4:=Zh (Zaa HB3.out hal)
 clear hal
 by_cases hth:xth=(S.C.th:Int)
 ·obtain⟨hr0,hr1⟩:=hini hth
  rw [HN.out] at hr1
  obtain⟨kr,hkr⟩:=Int.eq_ofNat_of_zero_le hr0
  subst hkr hth
  clear hini
  have hkl:kr<L.length:=by omega
  have hk2:(kr:Int)<(L.length:Int):=by omega
  obtain⟨q1,cp1,hsv,hq1⟩:=Zie HO4.out (show 0<L.length by omega)
  have hob:s.v.ownBlock=some q1:=by rw [hsv];rfl
  have HNE:=Zh (Zcj HO4.out HG4.out (by decide))
  rw [hob] at HNE
  have HNT:=Zh (Zcj HO4.out HT4.out (by decide))
  rw [hob] at HNT
  have HNQ:=Zh (Zcj HO4.out HQ4.out (by decide))
  rw [hob] at HNQ
  have k13:wr.cell? ⟨W.heap.size,13,none⟩=some (.slice (some ⟨q1,0,none⟩) L.length cp1):=by rw [<- hsv];exact HG3.out.cell 13
  have HTE:=Zh (Zhr (by rw [hsv] at HO4;exact HO4.out) hkl)
  have HOB:=Zh hob
  have HSV:=Zh hsv
  clear hob hsv
  by_cases hvl:xvl=[]
  ·subst hvl
   have HIS:=Zh (show Zfr S.C.th L ⟨(S.C.th:Int),(kr:Int),xloc,[],xvn⟩=L.set kr ⟨.num xvn,0⟩ by unfold Zfr;rw [if_pos rfl];rfl)
   go_wp2_with ((with_reducible refine Zao ?_);refine wpList_store_mid rfl _ _ _ rfl q1 (kr*4) #[.int .i64 1,.int .i64 xvn,.string ⟨#[]⟩,.int .u64 0] rfl rfl HTE.out (by kernel_rfl) (by kernel_rfl) ?_;refine Hid.out ?_)
   refine Zh ?_
   have ho5:=Zge HO4.out HOB.out hkl ⟨.num xvn,0⟩
   simp only [Zax,Zb8,Zb7,Nat.zero_shiftLeft] at ho5
   have HO5:Hid ((Zdi S.C.ahead).Own 125 w.heap.size (World.setCells (wr.alloc (.cells #[.int .i64 (S.C.th:Int),.int .i64 (kr:Int),.string ⟨xloc.toArray⟩,.string ⟨([]:List UInt8).toArray⟩,.int .i64 xvn] 102 (0,0))) q1 (kr*4) [.int .i64 1,.int .i64 xvn,.string ⟨#[]⟩,.int .u64 0]) s.v (L.set kr ⟨.num xvn,0⟩)):=Zh ho5
   have HG5:=Zh (Za6 HG4.out (fun e=>HNE.out (by rw [e])) [.int .i64 1,.int .i64 xvn,.string ⟨#[]⟩,.int .u64 0] (kr*4))
   have HT5:=Zh (Za6 HT4.out (fun e=>HNT.out (by rw [e])) [.int .i64 1,.int .i64 xvn,.string ⟨#[]⟩,.int .u64 0] (kr*4))
   have HQ5:=Zh (Za6 HQ4.out (fun e=>HNQ.out (by rw [e])) [.int .i64 1,.int .i64 xvn,.string ⟨#[]⟩,.int .u64 0] (kr*4))
   have HB5:=Zh (Zaq HB4.out hq1 [.int .i64 1,.int .i64 xvn,.string ⟨#[]⟩,.int .u64 0] (kr*4))
   clear ho5 HO4 HG4 HT4 HQ4 HB4 HTE HOB HSV k13 hq1 HNE HNT HNQ
   generalize hW5:(World.setCells _ _ _ _:World)=W5 at *
   clear hW5
   go_wp2_with fail
   go_roundw
   case rel=>exact⟨i+1,by omega,by first | go_num | omega,L.set kr ⟨.num xvn,0⟩,by rw [HNX.out,HIS.out],by rw [List.length_set];exact hlen,HO5.out,HG5.out,HT5.out,HQ5.out,HB5.out⟩
   case measure=>simp [intOf];omega
  ·have hve:xvl.isEmpty=false:=by simpa using hvl
   have HIS:=Zh (show Zfr S.C.th L ⟨(S.C.th:Int),(kr:Int),xloc,xvl,xvn⟩=L.set kr ⟨.adr xvl,0⟩ by
    unfold Zfr;rw [if_pos rfl,show Zpm ⟨(S.C.th:Int),(kr:Int),xloc,xvl,xvn⟩=⟨.adr xvl,0⟩ by unfold Zpm;rw [if_neg hvl]];rfl)
   go_wp2_with ((with_reducible refine Zao ?_);refine wpList_store_mid rfl _ _ _ rfl q1 (kr*4) #[.int .i64 2,.int .i64 0,.string ⟨xvl.toArray⟩,.int .u64 0] rfl rfl HTE.out (by kernel_rfl) (by kernel_rfl) ?_;refine Hid.out ?_)
   refine Zh ?_
   have ho5:=Zge HO4.out HOB.out hkl ⟨.adr xvl,0⟩
   simp only [Zax,Zb8,Zb7,Nat.zero_shiftLeft] at ho5
   have HO5:Hid ((Zdi S.C.ahead).Own 125 w.heap.size (World.setCells (wr.alloc (.cells #[.int .i64 (S.C.th:Int),.int .i64 (kr:Int),.string ⟨xloc.toArray⟩,.string ⟨xvl.toArray⟩,.int .i64 xvn] 102 (0,0))) q1 (kr*4) [.int .i64 2,.int .i64 0,.string ⟨xvl.toArray⟩,.int .u64 0]) s.v (L.set kr ⟨.adr xvl,0⟩)):=Zh ho5
   have HG5:=Zh (Za6 HG4.out (fun e=>HNE.out (by rw [e])) [.int .i64 2,.int .i64 0,.string ⟨xvl.toArray⟩,.int .u64 0] (kr*4))
   have HT5:=Zh (Za6 HT4.out (fun e=>HNT.out (by rw [e])) [.int .i64 2,.int .i64 0,.string ⟨xvl.toArray⟩,.int .u64 0] (kr*4))
   have HQ5:=Zh (Za6 HQ4.out (fun e=>HNQ.out (by rw [e])) [.int .i64 2,.int .i64 0,.string ⟨xvl.toArray⟩,.int .u64 0] (kr*4))
   have HB5:=Zh (Zaq HB4.out hq1 [.int .i64 2,.int .i64 0,.string ⟨xvl.toArray⟩,.int .u64 0] (kr*4))
   clear ho5 HO4 HG4 HT4 HQ4 HB4 HTE HOB HSV k13 hq1 HNE HNT HNQ
   generalize hW5:(World.setCells _ _ _ _:World)=W5 at *
   clear hW5
   go_wp2_with fail
   go_roundw
   case rel=>exact⟨i+1,by omega,by first | go_num | omega,L.set kr ⟨.adr xvl,0⟩,by rw [HNX.out,HIS.out],by rw [List.length_set];exact hlen,HO5.out,HG5.out,HT5.out,HQ5.out,HB5.out⟩
   case measure=>simp [intOf];omega
 ·have HIS:=Zh (show Zfr S.C.th L ⟨xth,xrg,xloc,xvl,xvn⟩=L from if_neg hth)
  clear hini
  go_wp2_with fail
  go_roundw
  case rel=>exact⟨i+1,by omega,by first | go_num | omega,L,by rw [HNX.out,HIS.out],hlen,HO4.out,HG4.out,HT4.out,HQ4.out,HB4.out⟩
  case measure=>simp [intOf];omega):G:=h
theorem m_3{G:Prop}(h:G:=by
 have HOA:=Zh hoa
 clear hoa
 go_wp2_with fail
 refine (HQB.out w7).mono ?_
 rintro e w8 ⟨rfl,hb8⟩
 have HR8:=Zh (HR7.out.below hb8)
 have HB08:=Zh (HB07.out.trans (hb8.mono (Nat.le_trans hbs HB07.out.size)))
 have HF8:=Zh (HF7.out.trans (FrV.of_below hb8))
 have a0:=Zac a0 hb8
 have b0:=Zac b0 hb8
 clear hb8 HR7 HB07 HF7
 cases hob:Zby rb.h with
 | true=>
  have HOP:=Zh (show (Zby ra.h||Zby rb.h)=true by rw [HOA.out,hob];rfl)
  clear hob HOA
  have HC8:=Zh (HC0.out.below (HB00.out.trans HB08.out))
  have hzw:=HB08.out.size
  have hs1:((at_:Int)+1)<=(j:Int):=by omega
  have hs2:(j:Int)<=(c.length:Int):=by omega
  have hs3:(j:Int)<=(cc:Int):=by omega
  have hs4:¬ cc=at_+1:=by omega
  have hs5:at_+1<=j:=by omega
  go_wp2_with fail
  obtain⟨m,hm⟩:∃ m,j - (at_+1)=m:=⟨_,rfl⟩
  go_loopw [81] (fun v wr=>∃ i:Nat,i<=m/\v=.int .i64 i/\(∀ t z,t<i->c[at_+1+t]?=some z->z.op=12)/\Below (w8).heap.size w8 wr) (fun v _=>m - (intOf v).toNat)
  case atStart=>exact⟨0,Nat.zero_le _,rfl,(fun t z ht=>absurd ht (Nat.not_lt_zero _)),Below.refl _ _⟩
  case round=>
   obtain⟨i,hi,rfl,hno,hbr⟩:=hrel
   have HN:=Zh hno
   have HBR:=Zh hbr
   have hzr:=hbr.size
   have HBT:=Zh (HB08.out.trans (hbr.mono (Nat.le_trans hbs hzw)))
   have HRR:=Zh (HR8.out.below hbr)
   have HFR:=Zh (HF8.out.trans (FrV.of_below hbr))
   clear hno hbr
   by_cases hlt:i<m
   ·have hjc:at_+1+i<c.length:=by omega
    obtain⟨z,hz⟩:∃ z,c[at_+1+i]?=some z:=⟨_,List.getElem?_eq_getElem hjc⟩
    obtain⟨b',o',e,c0,c1,c2,c3,c4,c5,c6,c7⟩:=(HC8.out.below HBR.out).cells hz
    simp only [Option.some.injEq,Addr.mk.injEq,and_true] at e
    obtain⟨rfl,rfl⟩:=e
    rw [show o+(at_+1+i)*8=o+(at_+1)*8+i*8 by omega] at c0 c1 c2 c3 c4 c5 c6 c7
    have hi9:(i:Int)<((j:Int) - ((at_:Int)+1)):=by omega
    by_cases h12:z.op=12
    ·have HN2:=Zh (show ∀ t y,t<i+1->c[at_+1+t]?=some y->y.op=12 from fun t y ht hy=>by
      by_cases e:t=i
      ·subst e;rw [hz] at hy;cases hy;exact h12
      ·exact HN.out t y (by omega) hy)
     rw [h12] at c0
     clear hz h12
     go_wp2_with fail
     go_roundw
     case rel=>exact⟨i+1,by omega,by go_num,HN2.out,HBR.out.trans ((Zad _ _).mono hzr)⟩
     case measure=>simp [intOf];omega
    ·have HV:=Zh (show brL r c at_ ⟨op,d,a,b,imm,loc,label,fence⟩=none by
      rw [Zev HGA.out HGB.out HOP.out,HL.out,if_pos]
      rw [List.any_eq_true]
      refine⟨z,?_,by simpa using h12⟩
      apply List.mem_of_getElem? (i:=i)
      rw [List.getElem?_drop,List.getElem?_take,if_pos (by omega)]
      exact hz)
     clear hz
     go_wp2_with fail
     go_ret2
     exact Zdt.no HV.out ⟨_,rfl,HRR.out.below (Zad _ _),HBT.out.trans ((Zad _ _).mono (by have:=HBT.out.size;omega)),HFR.out.trans (FrV.of_below (Zad _ _))⟩
   ·have hie:i=m:=by omega
    have HV:=Zh (show brL r c at_ ⟨op,d,a,b,imm,loc,label,fence⟩=some ({ r with ctrl:=r.ctrl|||ra.on|||rb.on },at_+1) by
     rw [Zev HGA.out HGB.out HOP.out,HL.out,if_neg]
     intro h
     rw [List.any_eq_true] at h
     obtain⟨y,hy,hy2⟩:=h
     obtain⟨t,ht⟩:=List.getElem?_of_mem hy
     rw [List.getElem?_drop,List.getElem?_take] at ht
     split at ht
     ·have:=HN.out t y (by omega) ht
      simp [this] at hy2
     ·cases ht)
    have hi9:¬ (i:Int)<((j:Int) - ((at_:Int)+1)):=by omega
    go_wp2_with fail
    go_ret2
    exact Zdt.yes HV.out ⟨_,rfl,HRR.out,HBT.out,HFR.out⟩
 | false=>
  have HOP:=Zh (show (Zby ra.h||Zby rb.h)=false by rw [HOA.out,hob];rfl)
  clear hob HOA
  cases hun:Zak ra.h rb.h with
  | true=>
   have HV:=Zh (show brL r c at_ ⟨op,d,a,b,imm,loc,label,fence⟩=some ({ r with ctrl:=r.ctrl|||ra.on|||rb.on },j) by rw [Zgo HGA.out HGB.out HOP.out,hun,HL.out];rfl)
   have HUV:=Zh (fun w=>by have:=HUN.out w;rw [hun] at this;exact this)
   clear hun
   go_wp2_with (go_at_call 163;refine (HUV.out _).mono ?_;rintro e w9 ⟨rfl,rfl⟩)
   go_ret2
   exact Zdt.yes HV.out ⟨_,rfl,HR8.out,HB08.out,HF8.out⟩
  | false=>
   have HV:=Zh (show brL r c at_ ⟨op,d,a,b,imm,loc,label,fence⟩=some ({ r with ctrl:=r.ctrl|||ra.on|||rb.on },at_+1) by rw [Zgo HGA.out HGB.out HOP.out,hun];rfl)
   have HUV:=Zh (fun w=>by have:=HUN.out w;rw [hun] at this;exact this)
   clear hun
   go_wp2_with (go_at_call 163;refine (HUV.out _).mono ?_;rintro e w9 ⟨rfl,rfl⟩)
   go_ret2
   exact Zdt.yes HV.out ⟨_,rfl,HR8.out,HB08.out,HF8.out⟩):G:=h
theorem m_4{G:Prop}(h:G:=by
 have e0:=HEB.out.cl 0
 have e1:=HEB.out.cl 1
 clear c0 c1 c2 c3 c4 c5 k0 k2 HEB HPL HNU HEV
 have hwj:=HWJ.out
 have hd1:decide (0<i)=true:=decide_eq_true hip
 have hd2:decide ((0:Int)<(i:Int))=true:=decide_eq_true hjj
 have hd3:decide (xt<yt)=false:=decide_eq_false (by omega)
 rcases HNL.out with hnl2 | ⟨rfl,hnl2⟩
 ·refine wz (fun y:World=>y.cell? ⟨w.heap.size,2,none⟩=some (.slice (some ⟨b,o,none⟩) ne ce)/\y.cell? ⟨b,o+j*6,none⟩=some (.int .i64 yt)/\y.cell? ⟨b,o+j*6+1,none⟩=some (.int .i64 yp)/\y.cell? ⟨wr.heap.size,0,none⟩=some (.int .i64 xt)/\y.cell? ⟨wr.heap.size,1,none⟩=some (.int .i64 xp)) [4,9,11,15,20,22] ⟨k2',d0',d1',e0,e1⟩ (fun hHeld=>?_)
  refine wq 0 ?_
  refine wq 1 ?_
  refine wq 2 ?_
  refine wq 3 ?_
  refine wq 5 ?_
  refine wq 6 ?_
  refine wq 10 ?_
  refine wt 4 (by assumption) ?_
  refine wq 7 ?_
  refine wq 8 ?_
  refine wt 9 (by assumption) ?_
  refine wt 11 (by assumption) ?_
  refine wq 12 ?_
  refine wq 13 ?_
  refine wq 14 ?_
  refine wq 16 ?_
  refine wq 17 ?_
  refine wq 21 ?_
  refine wt 15 (by assumption) ?_
  refine wq 18 ?_
  refine wq 19 ?_
  refine wt 20 (by assumption) ?_
  refine wt 22 (by assumption) ?_
  refine wq 23 ?_
  refine wq 24 ?_
  refine ws 25 ?_
  refine ws 27 ?_
  refine ws 28 ?_
  refine ws 32 ?_
  refine ws 26 ?_
  refine ws 29 ?_
  refine ws 30 ?_
  refine ws 31 ?_
  refine ws 33 ?_
  refine ws 34 ?_
  refine wq 35 ?_
  refine wq 36 ?_
  refine wl 37 ?_
  go_wp2_with fail
  go_roundw
  case rel=>exact⟨i+1,by omega,by go_num,HB1.out.drew,HKA.out⟩
  case measure=>simp [intOf];omega
 ·have hd4:decide (xp<=yp)=false:=decide_eq_false (by omega)
  refine wz (fun y:World=>y.cell? ⟨w.heap.size,2,none⟩=some (.slice (some ⟨b,o,none⟩) ne ce)/\y.cell? ⟨b,o+j*6,none⟩=some (.int .i64 yt)/\y.cell? ⟨b,o+j*6+1,none⟩=some (.int .i64 yp)/\y.cell? ⟨wr.heap.size,0,none⟩=some (.int .i64 yt)/\y.cell? ⟨wr.heap.size,1,none⟩=some (.int .i64 xp)) [4,9,11,15,20,22,26,31,33] ⟨k2',d0',d1',e0,e1⟩ (fun hHeld=>?_)
  refine wq 0 ?_
  refine wq 1 ?_
  refine wq 2 ?_
  refine wq 3 ?_
  refine wq 5 ?_
  refine wq 6 ?_
  refine wq 10 ?_
  refine wt 4 (by assumption) ?_
  refine wq 7 ?_
  refine wq 8 ?_
  refine wt 9 (by assumption) ?_
  refine wt 11 (by assumption) ?_
  refine wq 12 ?_
  refine wq 13 ?_
  refine wq 14 ?_
  refine wq 16 ?_
  refine wq 17 ?_
  refine wq 21 ?_
  refine wt 15 (by assumption) ?_
  refine wq 18 ?_
  refine wq 19 ?_
  refine wt 20 (by assumption) ?_
  refine wt 22 (by assumption) ?_
  refine wq 23 ?_
  refine wq 24 ?_
  refine wq 25 ?_
  refine wq 27 ?_
  refine wq 28 ?_
  refine wq 32 ?_
  refine wt 26 (by assumption) ?_
  refine wq 29 ?_
  refine wq 30 ?_
  refine wt 31 (by assumption) ?_
  refine wt 33 (by assumption) ?_
  refine wq 34 ?_
  refine wq 35 ?_
  refine wq 36 ?_
  refine wl 37 ?_
  go_wp2_with fail
  go_roundw
  case rel=>exact⟨i+1,by omega,by go_num,HB1.out.drew,HKA.out⟩
  case measure=>simp [intOf];omega):G:=h
theorem m_5{G:Prop}(h:G:=by
 have HOP:=Zh (show (Zby ra.h||Zby rb.h)=true by rw [hoa];rfl)
 clear hoa
 have HC8:=Zh (HC0.out.below (HB00.out.trans HB07.out))
 have hzw:=HB07.out.size
 have hs1:((at_:Int)+1)<=(j:Int):=by omega
 have hs2:(j:Int)<=(c.length:Int):=by omega
 have hs3:(j:Int)<=(cc:Int):=by omega
 have hs4:¬ cc=at_+1:=by omega
 have hs5:at_+1<=j:=by omega
 go_wp2_with fail
 obtain⟨m,hm⟩:∃ m,j - (at_+1)=m:=⟨_,rfl⟩
 go_loopw [81] (fun v wr=>∃ i:Nat,i<=m/\v=.int .i64 i/\(∀ t z,t<i->c[at_+1+t]?=some z->z.op=12)/\Below (w7).heap.size w7 wr) (fun v _=>m - (intOf v).toNat)
 case atStart=>exact⟨0,Nat.zero_le _,rfl,(fun t z ht=>absurd ht (Nat.not_lt_zero _)),Below.refl _ _⟩
 case round=>
  obtain⟨i,hi,rfl,hno,hbr⟩:=hrel
  have HN:=Zh hno
  have HBR:=Zh hbr
  have hzr:=hbr.size
  have HBT:=Zh (HB07.out.trans (hbr.mono (Nat.le_trans hbs hzw)))
  have HRR:=Zh (HR7.out.below hbr)
  have HFR:=Zh (HF7.out.trans (FrV.of_below hbr))
  clear hno hbr
  by_cases hlt:i<m
  ·have hjc:at_+1+i<c.length:=by omega
   obtain⟨z,hz⟩:∃ z,c[at_+1+i]?=some z:=⟨_,List.getElem?_eq_getElem hjc⟩
   obtain⟨b',o',e,c0,c1,c2,c3,c4,c5,c6,c7⟩:=(HC8.out.below HBR.out).cells hz
   simp only [Option.some.injEq,Addr.mk.injEq,and_true] at e
   obtain⟨rfl,rfl⟩:=e
   rw [show o+(at_+1+i)*8=o+(at_+1)*8+i*8 by omega] at c0 c1 c2 c3 c4 c5 c6 c7
   have hi9:(i:Int)<((j:Int) - ((at_:Int)+1)):=by omega
   by_cases h12:z.op=12
   ·have HN2:=Zh (show ∀ t y,t<i+1->c[at_+1+t]?=some y->y.op=12 from fun t y ht hy=>by
     by_cases e:t=i
     ·subst e;rw [hz] at hy;cases hy;exact h12
     ·exact HN.out t y (by omega) hy)
    rw [h12] at c0
    clear hz h12
    go_wp2_with fail
    go_roundw
    case rel=>exact⟨i+1,by omega,by go_num,HN2.out,HBR.out.trans ((Zad _ _).mono hzr)⟩
    case measure=>simp [intOf];omega
   ·have HV:=Zh (show brL r c at_ ⟨op,d,a,b,imm,loc,label,fence⟩=none by
     rw [Zev HGA.out HGB.out HOP.out,HL.out,if_pos]
     rw [List.any_eq_true]
     refine⟨z,?_,by simpa using h12⟩
     apply List.mem_of_getElem? (i:=i)
     rw [List.getElem?_drop,List.getElem?_take,if_pos (by omega)]
     exact hz)
    clear hz
    go_wp2_with fail
    go_ret2
    exact Zdt.no HV.out ⟨_,rfl,HRR.out.below (Zad _ _),HBT.out.trans ((Zad _ _).mono (by have:=HBT.out.size;omega)),HFR.out.trans (FrV.of_below (Zad _ _))⟩
  ·have hie:i=m:=by omega
   have HV:=Zh (show brL r c at_ ⟨op,d,a,b,imm,loc,label,fence⟩=some ({ r with ctrl:=r.ctrl|||ra.on|||rb.on },at_+1) by
    rw [Zev HGA.out HGB.out HOP.out,HL.out,if_neg]
    intro h
    rw [List.any_eq_true] at h
    obtain⟨y,hy,hy2⟩:=h
    obtain⟨t,ht⟩:=List.getElem?_of_mem hy
    rw [List.getElem?_drop,List.getElem?_take] at ht
    split at ht
    ·have:=HN.out t y (by omega) ht
     simp [this] at hy2
    ·cases ht)
   have hi9:¬ (i:Int)<((j:Int) - ((at_:Int)+1)):=by omega
   go_wp2_with fail
   go_ret2
   exact Zdt.yes HV.out ⟨_,rfl,HRR.out,HBT.out,HFR.out⟩):G:=h
theorem m_6{G:Prop}(h:G:=by
 ·have HE:Hid ((fl=false/\goL S.C c 0 r0=some r1)\/(fl=true/\goL S.C c 0 r0=none/\r1.full=false)):=by
   rcases HGO.out with ⟨h1,_,h2⟩ | h
   ·refine Zh (Or.inl ⟨h1,?_⟩)
    rw [<- h2]
    by_cases hk2:k<c.length
    ·exact Zji (by
      cases h3:r1.full with
      | true=>rfl
      | false=>exact absurd ⟨hk2,h1,h3⟩ hend)
    ·exact Zkc (by omega)
   ·exact Zh (Or.inr h)
  clear HGO HLK2
  by_cases hk2:k<c.length
  ·have hki:(k:Int)<(c.length:Int):=by omega
   cases fl with
   | true=>
    go_wp2_with (first | ((with_reducible refine Zao ?_);refine Zaw 121 7 G rfl rfl HU.out.blk Tryz.underlying121 rfl (by kernel_rfl) rfl ?_) | ((with_reducible refine Zao ?_);refine Zam 121 6 72 (w.heap.size+1+1) rfl rfl rfl hz (by exact hzs) (by kernel_rfl) (Zbf _ _ _ _) rfl rfl ?_))
    refine Zbs 121 6 (w.heap.size+1+1) rfl (hz.row _) Tryz.underlying121 rfl (by kernel_rfl) rfl rfl ?_
    exact Zef.of HU.out.ret (by have h:=HE.out;first | exact h | simpa using h)
   | false=>
    have hf2:r1.full=true:=by
     cases h3:r1.full with
     | true=>rfl
     | false=>exact absurd ⟨hk2,rfl,h3⟩ hend
    rw [hf2] at k25
    go_wp2_with (first | ((with_reducible refine Zao ?_);refine Zaw 121 7 G rfl rfl HU.out.blk Tryz.underlying121 rfl (by kernel_rfl) rfl ?_) | ((with_reducible refine Zao ?_);refine Zam 121 6 72 (w.heap.size+1+1) rfl rfl rfl hz (by exact hzs) (by kernel_rfl) (Zbf _ _ _ _) rfl rfl ?_))
    refine Zbs 121 6 (w.heap.size+1+1) rfl (hz.row _) Tryz.underlying121 rfl (by kernel_rfl) rfl rfl ?_
    exact Zef.of HU.out.ret (by have h:=HE.out;first | exact h | simpa using h)
  ·have hki:¬ (k:Int)<(c.length:Int):=by omega
   go_wp2_with (first | ((with_reducible refine Zao ?_);refine Zaw 121 7 G rfl rfl HU.out.blk Tryz.underlying121 rfl (by kernel_rfl) rfl ?_) | ((with_reducible refine Zao ?_);refine Zam 121 6 72 (w.heap.size+1+1) rfl rfl rfl hz (by exact hzs) (by kernel_rfl) (Zbf _ _ _ _) rfl rfl ?_))
   refine Zbs 121 6 (w.heap.size+1+1) rfl (hz.row _) Tryz.underlying121 rfl (by kernel_rfl) rfl rfl ?_
   exact Zef.of HU.out.ret (by have h:=HE.out;first | exact h | simpa using h)):G:=h
theorem m_7{G:Prop}(h:G:=by
 clear hv2
 have HTH:=Zh (Zdc wr (.cells #[.int .i64 x.th,.int .i64 x.rg,.string ⟨x.loc.toArray⟩,.string ⟨x.vl.toArray⟩,.int .i64 x.vn] 102 (0,0)) 25 #[.int .i64 x.th,.int .i64 x.rg,.string ⟨x.loc.toArray⟩])
 have HP:=Zh (Zfj.put (S:=T.init.take k) (v:=(k:Int)+1) HOK.out (by omega) HD.out HAT.out)
 go_wp2_with (first | (at_lookup;refine wpList_lookup_own_int _ rfl _ _ 229 rfl 25 3 .i64 Zdg Tryz.underlying229 Tryz.underlying3 (Zct _) (w.heap.size+1) cnt D rfl HOW2.out _ (klT (Zd4 x)) rfl HKW.out ?_;intro cv hcv hwc;rw [HAX.out.1] at hcv;simp only [DataW.lit.injEq,Lit.int.injEq,true_and] at hcv;subst hcv;clear hwc) | (go_at_call 147;refine (HFST.out _).mono ?_;rw [HFB.out];rintro e w2 ⟨rfl,hb2⟩;have HB2:=Zh hb2;clear hb2;have HOW3:=Zh (Zin HOW2.out HB2.out);have hz2:=(Zaa HB1.out HB2.out).size;have g0:=(HTH.out.go HB2.out).cell 0;have g1:=(HTH.out.go HB2.out).cell 1;have g2:=(HTH.out.go HB2.out).cell 2) | (at_mapUpdate;refine wpList_mapUpdate_own _ rfl _ _ _ 229 rfl 25 3 Zdg Tryz.underlying229 (plainElem Tryz.prog 3) (w.heap.size+1) cnt D rfl HOW3.out (by unfold maxLen;omega) _ _ (klT (Zd4 x)) rfl rfl HKW.out (.lit (.int .i64 ((k:Int)+1))) [] (plainElem_int Tryz.underlying3 (WalkArith.wf_i64 (by omega))) ?_;intro w1 hown1 hgrow1;have HO1:=Zh hown1;have HG1:=Zh hgrow1;clear hown1 hgrow1))
 go_roundw
 case rel=>exact⟨k+1,cnt+1,by omega,by go_num,by omega,(fun j hj=>by (rcases Nat.lt_succ_iff_lt_or_eq.1 hj with h | h);exact HNO.out j h;rw [h];exact HGOOD.out),⟨_,HO1.out,HP.out.1,by rw [Zii HX.out];exact HP.out.2⟩,(HBR.out.trans ((Zaa HB1.out HB2.out).mono (by omega))).grown HG1.out (by have:=hz2;omega) (fun j hj=>by cases hj;exact Nat.le_refl _)⟩
 case measure=>simp [intOf];omega):G:=h
theorem m_8{G:Prop}(h:G:=by
 obtain⟨k',t',r',l',v',kids',rest',hdr⟩:=kids.drop_lt j hlt
 have hrow':=Zc4.keep (w':=wr) (fun b o hb=>HBR.out.cell (p:=⟨b,o,none⟩) (show b<bl by omega)) kids b o hb hrow
 have hat:=Zc4.at_ kids b o j hrow'
 rw [hdr] at hat
 obtain⟨kv',q0,q1,q2,q3,q4,q5,hl',hsl'⟩:=hat.head
 obtain⟨A',cap',rfl,hsl''⟩:=hsl'
 have hsl3:Zd7 wr hi (.slice A' kids'.len cap') kids':=⟨A',cap',rfl,hsl''⟩
 have HSL:=Zh (hsl3.keep (w':=wr.alloc (.cells #[.int .i64 k',.int .i64 t',.int .i64 r',.string ⟨l'.toArray⟩,.int .i64 v',.slice A' kids'.len cap'] 28 (0,0))) (fun b o hb=>(Zad wr _).cell (p:=⟨b,o,none⟩) (show b<wr.heap.size by omega)))
 have HC:=Zh (Zz5.at_ kids j HK.out hdr)
 have HNX:=Zh (kids.drop_next j hdr)
 have hall:(kids.drop j).all=1+kids'.all+rest'.all:=by rw [hdr];rfl
 have HAF:=Zh (show Za2 (kids.drop j)=atL k' t' r' l'++Za2 kids'++Za2 rest' by rw [hdr];rfl)
 have hat1:(atL k' t' r' l').length<=1:=by unfold atL;split <;> simp
 have haf1:=Zc7 kids'
 have HAC2:=Zh (HAC.out.below (Zad wr (.cells #[.int .i64 k',.int .i64 t',.int .i64 r',.string ⟨l'.toArray⟩,.int .i64 v',.slice A' kids'.len cap'] 28 (0,0))))
 have HBR2:=Zh (HBR.out.trans ((Zad wr (.cells #[.int .i64 k',.int .i64 t',.int .i64 r',.string ⟨l'.toArray⟩,.int .i64 v',.slice A' kids'.len cap'] 28 (0,0))).mono (Nat.le_of_lt hltr)))
 clear hrow hrow' hat hsl'' hsl3 hdr
 go_wp2_with (go_at_call 153;refine (HC.out _ bl hi _ M hhi HAC2.out HSL.out hl' (by omega)).mono ?_;rintro e w2 ⟨rfl,ha2,hb2⟩)
 go_roundw
 case rel=>exact⟨j+1,_,by omega,by go_num,ha2,by rw [HNX.out,<- HMM.out,HAF.out];simp,by have:=HML.out;rw [HNX.out];simp only [List.length_append] at this ⊢;omega,HBR2.out.trans hb2⟩
 case measure=>simp [intOf];omega):G:=h
theorem m_9{G:Prop}(h:G:=by
 refine Zh ?_
 refine Enc.appW (Zyw S.C.ahead) _ rfl (.tmp 17) (.tmp 19) rfl r.regs W.heap.size [] (.slice none 0 0) q0 0 cp rfl rfl HAT.out (Enc.Own.nil _ _ _) (by simp;omega) (by simp;omega) (Nat.le_refl _) ?_
 intro v' w1 ho1 hg1
 rw [List.nil_append] at ho1
 obtain⟨q1,cp1,rfl,hq1⟩:=Zie ho1 (show 0<r.regs.length by omega)
 have HT:=Zh (Zhr ho1 hd)
 have HE1:=Zh (HE.out.go hg1.below)
 have e0:=HE1.out.cl 0
 have e1:=HE1.out.cl 1
 have e2:=HE1.out.cl 2
 have e3:=HE1.out.cl 3
 have HO1:=Zh ho1
 have HG1:=Zh hg1
 clear ho1 hg1 k0 k13
 repeat (first | (refine wpList_store_mid rfl _ _ _ rfl q1 (d*4) #[.int .i64 (Zax x.h),.int .i64 (Zb8 S.C.ahead x.h),.string ⟨(Zb7 x.h).toArray⟩,.int .u64 ((x.on<<<S.C.ahead:Nat):Int)] rfl rfl HT.out (by kernel_rfl) (all_oneCell_toArray (cs:=(Zdi S.C.ahead).enc x) ((Zdi S.C.ahead).one x)) ?_;refine Hid.out ?_) | go_step)
 refine Zh ?_
 have hw2:=Zaq HG1.out.below hq1 [.int .i64 (Zax x.h),.int .i64 (Zb8 S.C.ahead x.h),.string ⟨(Zb7 x.h).toArray⟩,.int .u64 ((x.on<<<S.C.ahead:Nat):Int)] (d*4)
 have ho2:=Zge HO1.out rfl hd x
 have HU2:=Zh (HU.out.below hw2)
 have HU3:=Zh (HU2.out.regs (s:=⟨some ⟨q1,0,none⟩,r.regs.length,cp1⟩) (Zd9 ho2 (Nat.le_trans HU.out.hB HU.out.keep.size)))
 generalize hW2:(World.setCells _ _ _ _:World)=W2 at *
 clear hW2 hw2 ho2 HO1 HG1 HT HE1 e0 e1 e2 e3 HU
 have k13:W2.cell? ⟨w.heap.size,13,none⟩=some V.rg.v:=HU2.out.blk.cell 13
 have f13:=HU2.out.blk.frozen 13
 repeat (first | ((with_reducible refine Zfp ?_);refine Zch Tryz.f173 3 6 27 rfl rfl rfl rfl rfl rfl rfl HU3.out rfl rfl (by decide) (of_decide_eq_true rfl) rfl (fun _ _ h=>h)) | go_step)):G:=h
theorem m_10{G:Prop}(h:G:=by
 have hii:(0:Int)<=(i:Int):=by omega
 have k13:wr.cell? ⟨W.heap.size,13,none⟩=some s.v:=HG2.out.cell 13
 have hal:=Zad wr (.cells #[.int .i64 1,.int .i64 0,.string ⟨#[]⟩,.int .u64 0] 125 (0,0))
 have HPA:=Zh (Ztv S.C.ahead wr)
 have HO3:=Zh (HO.out.below hal)
 have HG3:=Zh (HG2.out.go hal)
 have HT3:=Zh (HT2.out.go hal)
 have HQ3:=Zh (HQ2.out.go hal)
 have HB3:=Zh (Zaa HB2.out hal)
 clear hal
 go_wp2_with (at_builtin;refine Enc.appW (Zyw S.C.ahead) _ rfl (.tmp 25) (.tmp 27) rfl [⟨.num 0,0⟩] w.heap.size (List.replicate i ⟨.num 0,0⟩) _ wr.heap.size 0 1 rfl rfl HPA.out HO3.out (by simp;omega) (by simp;omega) HB3.out.size ?_;intro v' w3 hown3 hg3;obtain⟨s3,rfl,hs3⟩:=Zee hown3;clear hs3;have HO4:=Zh hown3;have HGR:=Zh hg3;have HG4:=Zh (Zat HG3.out HO3.out (by decide) hg3);have HT4:=Zh (Zat HT3.out HO3.out (by decide) hg3);have HQ4:=Zh (Zat HQ3.out HO3.out (by decide) hg3);clear hown3 hg3;have k13:w3.cell? ⟨W.heap.size,13,none⟩=some s.v:=HG4.out.cell 13;have f13:=HG4.out.frozen 13)
 go_roundw
 case rel=>exact⟨i+1,by omega,by first | go_num | omega,s3,Zaf (by rw [List.replicate_succ'];exact HO4.out) HG4.out (by decide) _ _,HG4.out.set_ 13 _,HT4.out.far (p:=⟨W.heap.size,13,none⟩) (show w.heap.size≠W.heap.size by omega) _,HQ4.out.far (p:=⟨W.heap.size,13,none⟩) (show w.heap.size+1+1≠W.heap.size by omega) _,((HB3.out.trans HGR.out.below).setCell (p:=⟨W.heap.size,13,none⟩) (show w.heap.size<=W.heap.size by omega) _)⟩
 case measure=>simp [intOf];omega):G:=h
theorem m_11{G:Prop}(h:G:=by
 ·have hie:i=S.T.init.length:=by omega
  subst hie
  have HU:Hid (Zb0 w wr B W.heap.size (w.heap.size+1+1) S (rn0 S.C.risc S.T.init S.C.th) false { V with rg:=s }):=Zh ⟨by
   have e:(rn0 S.C.risc S.T.init S.C.th)={ rnE with regs:=L }:=by
    unfold rn0 Zwr
    rw [HN.out,HL.out,List.take_length]
   rw [e]
   exact (HR.out.below HB3.out).rgG (Zd9 HO3.out HR.out.hB),Za9.of_below HB3.out HR.out.hB,HR.out.hB,HG3.out,⟨_,HQ3.out,rfl⟩,by omega,by omega,by omega⟩
  obtain⟨z,hz,hzs⟩:=HU.out.out
  clear HL HO3 HG3 HT3 HQ3 HB3
  go_wp2_with (first | ((with_reducible refine Zao ?_);refine Zaw 121 7 W.heap.size rfl rfl HU.out.blk Tryz.underlying121 rfl (by kernel_rfl) rfl ?_) | ((with_reducible refine Zao ?_);refine Zam 121 6 74 (w.heap.size+1+1) rfl rfl rfl hz (by exact hzs) (by kernel_rfl) (Zbf _ _ _ _) rfl rfl ?_))
  refine Zbs 121 6 (w.heap.size+1+1) rfl (hz.row _) Tryz.underlying121 rfl (by kernel_rfl) rfl rfl ?_
  exact HU.out.ret):G:=h
theorem m_12{G:Prop}(h:G:=by
 have HK:=Zh hk
 clear hk
 cases q with
 | false=>
  go_enter Tryz.func169,Tryz.ntmps169
  go_wp2_with (first | (go_at_call 244;refine (Zej _ _).mono ?_;rintro e w' ⟨rfl,rfl⟩) | (go_at_call 243;refine (Zlq _ _ hs).mono ?_;rw [HK.out];rintro e w' ⟨rfl,rfl⟩))
  go_ret
  refine⟨Zah (by simp [Zb9,Zb6, *]),?_⟩
  repeat (first | exact Below.refl _ _ | refine Zab ?_ _)
 | true=>
  obtain hd | hd:=Zbr d <;> obtain ha | ha:=Zbr a <;> obtain hb | hb:=Zbr b
  all_goals
   go_enter Tryz.func169,Tryz.ntmps169
   go_wp2_with (first | (go_at_call 244;refine (Zej _ _).mono ?_;rintro e w' ⟨rfl,rfl⟩) | (go_at_call 243;refine (Zlq _ _ hs).mono ?_;rw [HK.out];rintro e w' ⟨rfl,rfl⟩))
   go_ret
   refine⟨Zah (by simp [Zb9,Zb6, *]),?_⟩
   repeat (first | exact Below.refl _ _ | refine Zab ?_ _)):G:=h
theorem m_13{G:Prop}(h:G:=by
 go_enter Tryz.func146,Tryz.ntmps146
 go_wp2_with fail
 refine (HF.out _).mono ?_
 rintro e w2 ⟨rfl,hb2⟩
 have HB:=Zh (((Blk.new w 77 #[.int .i64 op,.int .i64 d,.int .i64 a,.int .i64 b,.int .i64 imm,.string loc,.string label,.int .i64 fence]).go hb2).alloc (.cells #[.int .i64 op,.int .i64 d',.int .i64 a',.int .i64 b',.int .i64 imm',.string loc',.string label',.int .i64 fence'] 77 (0,0)))
 have c0:=HB.out.cell 0
 have c1:=HB.out.cell 1
 have c2:=HB.out.cell 2
 have c3:=HB.out.cell 3
 have c4:=HB.out.cell 4
 have c5:=HB.out.cell 5
 have c6:=HB.out.cell 6
 have c7:=HB.out.cell 7
 have HX:=Zh (Zab (Zaa (Zad w _) hb2) (.cells #[.int .i64 op,.int .i64 d',.int .i64 a',.int .i64 b',.int .i64 imm',.string loc',.string label',.int .i64 fence'] 77 (0,0)))
 clear hb2
 go_wp2_with (go_at_call 224;refine (Z6d _ _).mono ?_;rintro e w' ⟨rfl,rfl⟩)
 go_ret
 exact⟨Zah (by simp [Zb9,Zb6, *]),HX.out⟩):G:=h
theorem m_14{G:Prop}(h:G:=by
 have HV:=Zh (show Zaj 1 n ⟨-1,rg,loc,vl,vn⟩=false by clear HNL HK2 HE2 HB2X HMAY;cases hvb:vl.isEmpty <;> first | (simp_all [Zaj];done) | (simp_all [Zaj] <;> omega))
 rw [HV.out]
 try (have Xr:=Zh hr;clear hr)
 try (have Xv:=Zh hv;clear hv)
 try (have Xl:=Zh hl;clear hl)
 go_enter Tryz.func106,Tryz.ntmps106
 go_wp2_with fail
 refine (HMAY.out _).mono ?_
 rw [HMB.out]
 rintro e w2 ⟨rfl,hb2⟩
 have HB2:=Zh (Zaa HB2X.out hb2)
 have k0:=(HK2.out.go hb2).cell 0
 have k4:=(HK2.out.go hb2).cell 4
 have e0:=(HE2.out.go hb2).cell 0
 have e1:=(HE2.out.go hb2).cell 1
 have e2:=(HE2.out.go hb2).cell 2
 have e3:=(HE2.out.go hb2).cell 3
 clear hb2
 try have hr:=Xr.out
 try have hv:=Xv.out
 try have hl:=Xl.out
 go_wp2_with (go_at_call 111;refine (HNL.out _).mono ?_;(try rw [HNB.out]);rintro e w' ⟨rfl,rfl⟩)
 go_ret
 exact⟨by first | rfl | exact Zae (by simp [hm]),HB2.out⟩):G:=h
theorem m_15{G:Prop}(h:G:=by
 have HV:=Zh (show Zaj 2 n ⟨-1,rg,loc,vl,vn⟩=false by clear HNL HK2 HE2 HB2X HMAY;cases hvb:vl.isEmpty <;> first | (simp_all [Zaj];done) | (simp_all [Zaj] <;> omega))
 rw [HV.out]
 try (have Xr:=Zh hr;clear hr)
 try (have Xv:=Zh hv;clear hv)
 try (have Xl:=Zh hl;clear hl)
 go_enter Tryz.func106,Tryz.ntmps106
 go_wp2_with fail
 refine (HMAY.out _).mono ?_
 rw [HMB.out]
 rintro e w2 ⟨rfl,hb2⟩
 have HB2:=Zh (Zaa HB2X.out hb2)
 have k0:=(HK2.out.go hb2).cell 0
 have k4:=(HK2.out.go hb2).cell 4
 have e0:=(HE2.out.go hb2).cell 0
 have e1:=(HE2.out.go hb2).cell 1
 have e2:=(HE2.out.go hb2).cell 2
 have e3:=(HE2.out.go hb2).cell 3
 clear hb2
 try have hr:=Xr.out
 try have hv:=Xv.out
 try have hl:=Xl.out
 go_wp2_with (go_at_call 111;refine (HNL.out _).mono ?_;(try rw [HNB.out]);rintro e w' ⟨rfl,rfl⟩)
 go_ret
 exact⟨by first | rfl | exact Zae (by simp [hm]),HB2.out⟩):G:=h
theorem m_16{G:Prop}(h:G:=by
 obtain⟨x,hx⟩:∃ x,L.a.evs[m]?=some x:=⟨_,List.getElem?_eq_getElem (by rw [<- hn3.out];exact hlm)⟩
 obtain⟨be,oe,eA,c0,c1,c2,c3,c4,c5⟩:=Zgu (HT.out.ev.below HB2.out) hx
 simp only at eA
 subst eA
 have hne:=HNE.out x (List.mem_of_getElem? hx)
 obtain⟨qt,qp,qd,ql,qv,qr⟩:=x
 simp only at c0 c1 c2 c3 c4 c5 hne
 have HB3:=Zh (Zab HB2.out (.cells #[.int .i64 qt,.int .i64 qp,.int .i64 qd,.int .i64 ql,.int .i64 qv,.int .i64 qr] 50 (0,0)))
 clear hx
 by_cases hqt:qt=xt
 ·have hqp:(qp == xp)=false:=by simpa using hne hqt
  subst hqt
  clear hne
  go_wp2_with fail
  go_roundw
  case rel=>exact⟨m+1,by omega,by go_num,HB3.out,Blk.alloc HK2.out _,Blk.alloc HBB2.out _⟩
  case measure=>simp [intOf];omega
 ·have hqf:(qt == xt)=false:=by simpa using hqt
  clear hne
  go_wp2_with fail
  go_roundw
  case rel=>exact⟨m+1,by omega,by go_num,HB3.out,Blk.alloc HK2.out _,Blk.alloc HBB2.out _⟩
  case measure=>simp [intOf];omega):G:=h
theorem m_17{G:Prop}(h:G:=by
 obtain⟨k,hk,rfl,hall⟩:=hrel
 have H:=Zh hall
 clear hall
 by_cases hlt:k<s.size
 ·go_wp2
  all_goals first
   | (go_ret
      have hb:Zi4 s k hlt=false:=by
       clear H
       cases hb:Zi4 s k hlt with
       | false=>rfl
       | true=>
        exfalso
        simp [Zi4,Zbj,Za4,Zbz] at hb
        simp at *
        omega
      exact⟨Zae (Zig k hlt hb).symm,rfl⟩)
   | (have hb:Zi4 s k hlt=true:=by
       clear H
       cases hb:Zi4 s k hlt with
       | true=>rfl
       | false=>
        exfalso
        simp [Zi4,Zbj,Za4,Zbz] at hb
        simp at *
        omega
      go_round
      case rel=>exact⟨k+1,by omega,by go_num,fun j hj h=>by
       by_cases e:j<k
       ·exact H.out j hj e
       ·obtain rfl:j=k:=by omega
        exact hb⟩
      case measure=>simp [intOf];omega)
 ·go_wp2
  go_ret
  exact⟨Zae (Zg0 (by omega) (by omega) (fun i hi=>H.out i hi (by omega))).symm,rfl⟩):G:=h
theorem m_18{G:Prop}(h:G:=by
 have HRB8:=Zh HE10.out.nil
 have HYN:=Zh (show Y=none by have:=HEI.out;rw [HST.out] at this;rw [<- this];rfl)
 have HXE:=Zh (Zen HGO.out HDC.out (Zhz HF.out HGL.out HFL.out (HY.out.trans HYN.out)))
 have r0:=HRB8.out.cell 0
 have r1:=HRB8.out.cell 1
 have r2:=HRB8.out.cell 2
 have r3:=HRB8.out.cell 3
 have r4:=HRB8.out.cell 4
 have r5:=HRB8.out.cell 5
 have r6:=HRB8.out.cell 6
 have r7:=HRB8.out.cell 7
 have r8':=HRB8.out.cell 8
 have fr:=HRB8.out.frozen
 go_wp2_with fail
 refine bodyPost_ret (v:=.tuple #[.agg #[.slice none 0 0,.slice none 0 0,.slice none 0 0,.slice none 0 0,.slice none 0 0,.slice none 0 0,.slice none 0 0,.slice none 0 0,.slice none 0 0],.int .i64 150,.int .i64 (k:Int)]) (by simp [results,Tryz.results9,go_sem, *]) rfl ?_
 refine⟨?_,?_⟩
 ·rw [HTR.out,HXE.out]
  rfl
 ·exact (Zfo (HE12.out.bel) (Nat.le_succ _) _ _ _ _ _ _ _ _ _)):G:=h
theorem m_19{G:Prop}(h:G:=by
 rw [f1,f2,Bool.and_self]
 cases q with
 | false=>
  go_enter Tryz.func169,Tryz.ntmps169
  go_wp2_with (first | (go_at_call 244;refine (Zej _ _).mono ?_;rintro e w' ⟨rfl,rfl⟩))
  go_ret
  refine⟨Zah (by simp [Zb9,Zb6, *]),?_⟩
  repeat (first | exact Below.refl _ _ | refine Zab ?_ _)
 | true=>
  obtain hd | hd:=Zbr d <;> obtain ha | ha:=Zbr a <;> obtain hb | hb:=Zbr b
  all_goals
   go_enter Tryz.func169,Tryz.ntmps169
   go_wp2_with (first | (go_at_call 244;refine (Zej _ _).mono ?_;rintro e w' ⟨rfl,rfl⟩))
   go_ret
   refine⟨Zah (by simp [Zb9,Zb6, *]),?_⟩
   repeat (first | exact Below.refl _ _ | refine Zab ?_ _)):G:=h
theorem m_20{G:Prop}(h:G:=by
 obtain⟨i,hi,rfl,hb⟩:=hrel
 have HB:=Zh hb
 clear hb
 have hii:(0:Int)<=(i:Int):=by omega
 by_cases hlt:i<l.length
 ·have hij:(i:Int)<(l.length:Int):=by omega
  obtain⟨x,hx⟩:∃ x,l[i]?=some x:=⟨_,List.getElem?_eq_getElem hlt⟩
  obtain⟨b,o,rfl,hc⟩:=HA.out.below HB.out i x hx
  obtain⟨b',o',rfl,hd⟩:=HX.out.below HB.out i x hx
  have c0:=hc 0 _ rfl;have d0:=hd 0 _ rfl;simp only [Nat.mul_one,Nat.add_zero] at c0 d0
  clear hc hd hx
  go_wp2_with fail
  go_quiet (fail)
  go_wp2_with fail
  go_roundw
  case rel=>exact⟨i+1,by omega,by go_num,by first | exact HB.out | exact HB.out.drew | exact Zan HB.out _⟩
  case measure=>simp [intOf];omega
 ·have hil:i=l.length:=by omega
  subst hil
  go_wp2_with fail
  go_ret
  exact⟨rfl,HB.out⟩):G:=h
theorem m_21{G:Prop}(h:G:=by
 have r0:=HRR.out.cell 0
 have r1:=HRR.out.cell 1
 have r2:=HRR.out.cell 2
 have r3:=HRR.out.cell 3
 have r4:=HRR.out.cell 4
 have r5:=HRR.out.cell 5
 have r6:=HRR.out.cell 6
 have r7:=HRR.out.cell 7
 have r8':=HRR.out.cell 8
 have fr:=HRR.out.frozen
 go_wp2_with fail
 refine bodyPost_ret (v:=.tuple #[.agg #[.slice none 0 0,.slice none 0 0,.slice none 0 0,.slice none 0 0,.slice none 0 0,.slice none 0 0,.slice none 0 0,.slice none 0 0,.slice none 0 0],.int .i64 150,.int .i64 (k:Int)]) (by simp [results,Tryz.results10,go_sem, *]) rfl ?_
 exact OfR.bad HTX.out (Zfo (HES.out.bel) (Nat.le_succ _) _ _ _ _ _ _ _ _ _)):G:=h
theorem m_22{G:Prop}(h:G:=by
 clear hv2
 go_wp2_with (first | (at_lookup;refine wpList_lookup_own_int _ rfl _ _ 229 rfl 25 3 .i64 Zdg Tryz.underlying229 Tryz.underlying3 (Zct _) (w.heap.size+1) cnt D rfl HOW2.out _ (klT (Zd4 x)) rfl HKW.out ?_;intro cv hcv hwc;rw [HAX.out.1] at hcv;simp only [DataW.lit.injEq,Lit.int.injEq,true_and] at hcv;subst hcv;clear hwc) | (go_at_call 147;refine (HFST.out _).mono ?_;rw [HFB.out];rintro e w2 ⟨rfl,hb2⟩;have HB2:=Zh hb2;clear hb2))
 go_ret
 exact⟨Zah HBAD.out.symm,Zaa HBWR.out (Zaa HB1.out HB2.out)⟩):G:=h
theorem m_23{G:Prop}(h:G:=by
 have ex:=List.getElem?_eq_getElem hlk
 obtain⟨x,hx⟩:∃ x,T.code[k]=x:=⟨_,rfl⟩
 rw [hx] at ex
 obtain⟨b,o,A2,c2,rfl,hc0,hA2,hl1,hl2⟩:=HC.out.at_ ex
 have HX:=Zh ex
 have hkn:(k:Int)<(n:Int):=by omega
 clear ex hx hlk hA2 hl2
 by_cases hl:256<x.length
 ·have HV:=Zh (Ze4 (a:=1) HX.out hl)
  go_wp2_with fail
  go_ret
  exact⟨Zah HV.out.symm,HB0.out⟩
 ·go_wp2_with fail
  go_round
  case rel=>exact⟨k+1,by omega,by go_num,fun j c hj hc=>by (rcases Nat.lt_succ_iff_lt_or_eq.1 hj with h | h);exact HNO.out j c h hc;rw [h,HX.out] at hc;cases hc;omega⟩
  case measure=>simp [intOf];omega):G:=h
theorem m_24{G:Prop}(h:G:=by
 have ex:=List.getElem?_eq_getElem hlk
 obtain⟨x,hx⟩:∃ x,T.code[k]=x:=⟨_,rfl⟩
 rw [hx] at ex
 obtain⟨b,o,A2,c2,rfl,hc0,hA2,hl1,hl2⟩:=HC.out.at_ ex
 have HX:=Zh ex
 have hkn:(k:Int)<(n:Int):=by omega
 clear ex hx hlk hA2 hl2
 by_cases hl:256<x.length
 ·have HV:=Zh (Ze4 (a:=2) HX.out hl)
  go_wp2_with fail
  go_ret
  exact⟨Zah HV.out.symm,HB0.out⟩
 ·go_wp2_with fail
  go_round
  case rel=>exact⟨k+1,by omega,by go_num,fun j c hj hc=>by (rcases Nat.lt_succ_iff_lt_or_eq.1 hj with h | h);exact HNO.out j c h hc;rw [h,HX.out] at hc;cases hc;omega⟩
  case measure=>simp [intOf];omega):G:=h
theorem m_25{G:Prop}(h:G:=by
 have HNS:=Zh (show Zd2 k f r8 (i+1) ((Za8 T).drop (i+1)) (m.set i (p1,p2))=Y by have:=HEI.out;rw [HST.out] at this;exact this)
 go_wp2_with fail
 go_roundw
 case rel=>first | exact⟨i+1,m.set i (p1,p2),by omega,by go_num,HNS.out,by simp [hml],HE12.out⟩ | exact⟨u3,u4,.int .i64 (i:Int),.pointer (some ⟨wr.heap.size,0,none⟩),.bool true,.int .i64 ((i:Int)+1),⟨i+1,by omega,by go_num,m.set i (p1,p2),HNS.out,by simp [hml],HE12.out⟩,rfl,rfl,rfl,rfl,rfl,rfl⟩
 case measure=>simp [intOf];omega):G:=h
theorem m_26{G:Prop}(h:G:=by
 rw [HV.out]
 go_enter Tryz.func147,Tryz.ntmps147
 go_wp2_with (first
  | (go_at_call 225;(first | with_reducible refine (HNL.out _).mono ?_ | with_reducible refine (HNV.out _).mono ?_);(try rw [HNB.out]);rintro e w' ⟨rfl,rfl⟩)
  | (go_at_call 226;refine (Zg6 _ _).mono ?_;(try rw [HMB.out]);rintro e w' ⟨rfl,rfl⟩))
 go_ret
 exact⟨by first | rfl | exact Zae (by simp [hth,h0,h1,hl,h2,h3,hv,hn,hz]),Zap _ _ _⟩):G:=h
theorem m_27{G:Prop}(h:G:=by
 rw [HV.out]
 go_enter Tryz.func147,Tryz.ntmps147
 go_wp2_with (first
  | (go_at_call 225;(first | with_reducible refine (HNL.out _).mono ?_ | with_reducible refine (HNV.out _).mono ?_);(try rw [HNB.out]);rintro e w' ⟨rfl,rfl⟩)
  | (go_at_call 226;refine (Zg6 _ _).mono ?_;(try rw [HMB.out]);rintro e w' ⟨rfl,rfl⟩))
 go_ret
 exact⟨by first | rfl | exact Zae (by simp [hth,h0,h1,hl,h2,h3,hv,hm]),Zap _ _ _⟩):G:=h
theorem m_28{G:Prop}(h:G:=by
 rw [HV.out]
 go_enter Tryz.func147,Tryz.ntmps147
 go_wp2_with (first
  | (go_at_call 225;(first | with_reducible refine (HNL.out _).mono ?_ | with_reducible refine (HNV.out _).mono ?_);(try rw [HNB.out]);rintro e w' ⟨rfl,rfl⟩)
  | (go_at_call 226;refine (Zg6 _ _).mono ?_;(try rw [HMB.out]);rintro e w' ⟨rfl,rfl⟩))
 go_ret
 exact⟨by first | rfl | exact Zae (by simp [hth,h0,h1,hl,h2,h3,hv,hn]),Zap _ _ _⟩):G:=h
theorem m_29{G:Prop}(h:G:=by
 rw [f1,f2]
 clear g1 g2
 go_enter Tryz.func223,Tryz.ntmps223
 go_wp2_with fail
 go_region
 go_wp2_with fail
 go_region
 go_wp2_with fail
 refine Zdp rfl (b:=w.heap.size+1) (by first | exact (Zdc w _ _ _).alloc _ | exact ((Zdc w _ _ _).alloc _).drew) rfl rfl rfl ?_
 exact⟨rfl,by first | exact (Zab (Zab (Zad w _) _) _) | exact (Zab (Zab (Zad w _) _) _).drew | exact (Zab (Zab (Zad w _) _) _).drew.drew | exact (Zab (Zab (Zad w _) _) _).drew.drew.drew⟩):G:=h
theorem m_30{G:Prop}(h:G:=by
 rw [HV.out]
 go_enter Tryz.func147,Tryz.ntmps147
 go_wp2_with (first
  | (go_at_call 225;(first | with_reducible refine (HNL.out _).mono ?_ | with_reducible refine (HNV.out _).mono ?_);(try rw [HNB.out]);rintro e w' ⟨rfl,rfl⟩)
  | (go_at_call 226;refine (Zg6 _ _).mono ?_;(try rw [HMB.out]);rintro e w' ⟨rfl,rfl⟩))
 go_ret
 exact⟨by first | rfl | exact Zae (by simp [hn,hr,hv,hm]),Zap _ _ _⟩):G:=h
theorem m_31{G:Prop}(h:G:=by
 rw [HV.out]
 go_enter Tryz.func147,Tryz.ntmps147
 go_wp2_with (first
  | (go_at_call 225;(first | with_reducible refine (HNL.out _).mono ?_ | with_reducible refine (HNV.out _).mono ?_);(try rw [HNB.out]);rintro e w' ⟨rfl,rfl⟩)
  | (go_at_call 226;refine (Zg6 _ _).mono ?_;(try rw [HMB.out]);rintro e w' ⟨rfl,rfl⟩))
 go_ret
 exact⟨by first | rfl | exact Zae (by simp [hth,h3]),Zap _ _ _⟩):G:=h
theorem m_32{G:Prop}(h:G:=by
 rw [HV.out]
 go_enter Tryz.func147,Tryz.ntmps147
 go_wp2_with (first
  | (go_at_call 225;(first | with_reducible refine (HNL.out _).mono ?_ | with_reducible refine (HNV.out _).mono ?_);(try rw [HNB.out]);rintro e w' ⟨rfl,rfl⟩)
  | (go_at_call 226;refine (Zg6 _ _).mono ?_;(try rw [HMB.out]);rintro e w' ⟨rfl,rfl⟩))
 go_ret
 exact⟨by first | rfl | exact Zae (by simp [hth,h2]),Zap _ _ _⟩):G:=h
theorem m_33{G:Prop}(h:G:=by
 rw [HV.out]
 go_enter Tryz.func147,Tryz.ntmps147
 go_wp2_with (first
  | (go_at_call 225;(first | with_reducible refine (HNL.out _).mono ?_ | with_reducible refine (HNV.out _).mono ?_);(try rw [HNB.out]);rintro e w' ⟨rfl,rfl⟩)
  | (go_at_call 226;refine (Zg6 _ _).mono ?_;(try rw [HMB.out]);rintro e w' ⟨rfl,rfl⟩))
 go_ret
 exact⟨by first | rfl | exact Zae (by simp [hth,hl]),Zap _ _ _⟩):G:=h
theorem m_34{G:Prop}(h:G:=by
 rw [HV.out]
 go_enter Tryz.func147,Tryz.ntmps147
 go_wp2_with (first
  | (go_at_call 225;(first | with_reducible refine (HNL.out _).mono ?_ | with_reducible refine (HNV.out _).mono ?_);(try rw [HNB.out]);rintro e w' ⟨rfl,rfl⟩)
  | (go_at_call 226;refine (Zg6 _ _).mono ?_;(try rw [HMB.out]);rintro e w' ⟨rfl,rfl⟩))
 go_ret
 exact⟨by first | rfl | exact Zae (by simp [hth,h1]),Zap _ _ _⟩):G:=h
theorem m_35{G:Prop}(h:G:=by
 rw [HV.out]
 go_enter Tryz.func147,Tryz.ntmps147
 go_wp2_with (first
  | (go_at_call 225;(first | with_reducible refine (HNL.out _).mono ?_ | with_reducible refine (HNV.out _).mono ?_);(try rw [HNB.out]);rintro e w' ⟨rfl,rfl⟩)
  | (go_at_call 226;refine (Zg6 _ _).mono ?_;(try rw [HMB.out]);rintro e w' ⟨rfl,rfl⟩))
 go_ret
 exact⟨by first | rfl | exact Zae (by simp [hth,h0]),Zap _ _ _⟩):G:=h
theorem m_36{G:Prop}(h:G:=by
 rw [HV.out]
 go_enter Tryz.func147,Tryz.ntmps147
 go_wp2_with (first
  | (go_at_call 225;(first | with_reducible refine (HNL.out _).mono ?_ | with_reducible refine (HNV.out _).mono ?_);(try rw [HNB.out]);rintro e w' ⟨rfl,rfl⟩)
  | (go_at_call 226;refine (Zg6 _ _).mono ?_;(try rw [HMB.out]);rintro e w' ⟨rfl,rfl⟩))
 go_ret
 exact⟨by first | rfl | exact Zae (by simp [hn,hv]),Zap _ _ _⟩):G:=h
theorem m_37{G:Prop}(h:G:=by
 rw [HV.out]
 go_enter Tryz.func147,Tryz.ntmps147
 go_wp2_with (first
  | (go_at_call 225;(first | with_reducible refine (HNL.out _).mono ?_ | with_reducible refine (HNV.out _).mono ?_);(try rw [HNB.out]);rintro e w' ⟨rfl,rfl⟩)
  | (go_at_call 226;refine (Zg6 _ _).mono ?_;(try rw [HMB.out]);rintro e w' ⟨rfl,rfl⟩))
 go_ret
 exact⟨by first | rfl | exact Zae (by simp [hn,hr]),Zap _ _ _⟩):G:=h
theorem m_38{G:Prop}(h:G:=by
 rw [HV.out]
 go_enter Tryz.func147,Tryz.ntmps147
 go_wp2_with (first
  | (go_at_call 225;(first | with_reducible refine (HNL.out _).mono ?_ | with_reducible refine (HNV.out _).mono ?_);(try rw [HNB.out]);rintro e w' ⟨rfl,rfl⟩)
  | (go_at_call 226;refine (Zg6 _ _).mono ?_;(try rw [HMB.out]);rintro e w' ⟨rfl,rfl⟩))
 go_ret
 exact⟨by first | rfl | exact Zae (by simp [hn]),Zap _ _ _⟩):G:=h
theorem m_39{G:Prop}(h:G:=by
 rw [HV.out]
 go_enter Tryz.func147,Tryz.ntmps147
 go_wp2_with (first
  | (go_at_call 225;(first | with_reducible refine (HNL.out _).mono ?_ | with_reducible refine (HNV.out _).mono ?_);(try rw [HNB.out]);rintro e w' ⟨rfl,rfl⟩)
  | (go_at_call 226;refine (Zg6 _ _).mono ?_;(try rw [HMB.out]);rintro e w' ⟨rfl,rfl⟩))
 go_ret
 exact⟨by first | rfl | exact Zae (by simp [hz]),Zap _ _ _⟩):G:=h
theorem m_40{G:Prop}(h:G:=by
 rw [f1,f2]
 clear g1 g2
 go_enter Tryz.func223,Tryz.ntmps223
 go_wp2_with fail
 go_region
 go_wp2_with fail
 refine Zdp rfl (b:=w.heap.size+1) (by first | exact (Zdc w _ _ _).alloc _ | exact ((Zdc w _ _ _).alloc _).drew) rfl rfl rfl ?_
 exact⟨rfl,by first | exact (Zab (Zab (Zad w _) _) _) | exact (Zab (Zab (Zad w _) _) _).drew | exact (Zab (Zab (Zad w _) _) _).drew.drew | exact (Zab (Zab (Zad w _) _) _).drew.drew.drew⟩):G:=h
theorem m_41{G:Prop}(h:G:=by
 have HK:=Zh hk
 clear hk
 go_enter Tryz.func169,Tryz.ntmps169
 go_wp2_with (first | (go_at_call 244;refine (Zej _ _).mono ?_;rintro e w' ⟨rfl,rfl⟩) | (go_at_call 243;refine (Zlq _ _ hs).mono ?_;rw [HK.out];rintro e w' ⟨rfl,rfl⟩))
 go_ret
 refine⟨Zah (by simp [Zb9,Zb6, *]),?_⟩
 repeat (first | exact Below.refl _ _ | refine Zab ?_ _)):G:=h
theorem m_42{G:Prop}(h:G:=by
 simp only [Znb,Zl5,Zoa,Zo2] at q1 q2
 go_enter Tryz.func34,Tryz.ntmps34
 go_wp2_with fail
 have z0:=Zb2 w #[.int .i64 0,.int .i64 0] 54 (0,0) 0
 have z1:=Zb2 w #[.int .i64 0,.int .i64 0] 54 (0,0) 1
 refine bodyPost_ret (v:=.tuple #[.agg #[.int .i64 0,.int .i64 0],.bool false]) (by simp [results,Tryz.results34,go_sem,z0,z1]) rfl ⟨rfl,Zad _ _⟩):G:=h
theorem m_43{G:Prop}(h:G:=by
 clear hw HMM
 go_wp2_with (go_at_call 94;refine (HW.out _ HBC.out HR1.out).mono ?_;rintro e w8 ⟨V8,rfl,hR8,hb8,hf8⟩;have HR8:=Zh hR8;have HB8:=Zh hb8;have HF8:=Zh hf8;clear hR8 hb8 hf8)
 go_roundw
 case rel=>exact⟨k+1,_,_,by go_num,HRN.out.step HX.out HF.out HV.out HS0.out HR8.out ((HB1.out.mono hbs2).trans HB8.out) ((FrV.of_below HB1.out).trans HF8.out)⟩
 case measure=>have hkl:=HKL.out;simp [intOf];omega):G:=h
theorem m_44{G:Prop}(h:G:=by
 clear hv2
 go_wp2_with (at_lookup;refine wpList_lookup_own_int _ rfl _ _ 229 rfl 25 3 .i64 Zdg Tryz.underlying229 Tryz.underlying3 (Zct _) (w.heap.size+1) cnt D rfl HOW2.out _ (klT (Zd4 x)) rfl HKW.out ?_;intro cv hcv hwc;rw [HAX.out.1] at hcv;simp only [DataW.lit.injEq,Lit.int.injEq,true_and] at hcv;subst hcv;clear hwc)
 go_ret
 exact⟨Zah HBAD.out.symm,Zaa HBWR.out HB1.out⟩):G:=h
theorem m_45{G:Prop}(h:G:=by
 go_wp2_with (first | (go_at_call 327;refine (Zic _ _).mono ?_;rw [HX.out];rintro e w' ⟨rfl,rfl⟩) | (go_at_call 328;refine (Zwi _ _).mono ?_;rw [HY.out];rintro e w' ⟨rfl,rfl⟩))
 go_round
 case rel=>exact⟨k+1,by omega,by omega,by go_num,fun j hj h1 h=>by
  by_cases e:j<k
  ·exact H.out j hj h1 e
  ·obtain rfl:j=k:=by omega
   exact HB.out⟩
 case measure=>simp [intOf];omega):G:=h
theorem m_46{G:Prop}(h:G:=by
 go_wp2_with (first | (go_at_call 296;refine (Zgd _ _).mono ?_;rw [HX.out];rintro e w' ⟨rfl,rfl⟩) | (go_at_call 297;refine (Zpy _ _).mono ?_;rw [HY.out];rintro e w' ⟨rfl,rfl⟩))
 go_round
 case rel=>exact⟨k+1,by omega,by omega,by go_num,fun j hj h1 h=>by
  by_cases e:j<k
  ·exact H.out j hj h1 e
  ·obtain rfl:j=k:=by omega
   exact HB.out⟩
 case measure=>simp [intOf];omega):G:=h
theorem m_47{G:Prop}(h:G:=by
 ·have HALC:=Zh (show c.all (okX 1)=true by have:=HALL.out;rwa [List.take_of_length_le (by omega)] at this)
  clear HALL
  have HTH:=Zh (show Zi5 1 c=0 by unfold Zi5;rw [HALC.out];rfl)
  go_wp2_with fail
  go_roundw
  case rel=>exact⟨k+1,by omega,by go_num,(fun j c' hj hc=>by (rcases Nat.lt_succ_iff_lt_or_eq.1 hj with h | h);exact HNO.out j c' h hc;rw [h,HX.out] at hc;cases hc;exact HTH.out),HBW.out⟩
  case measure=>simp [intOf];omega):G:=h
theorem m_48{G:Prop}(h:G:=by
 go_wp2_with (first | (go_at_call 178;refine (Zgm _ _).mono ?_;rw [HX.out];rintro e w' ⟨rfl,rfl⟩) | (go_at_call 179;refine (Zpt _ _).mono ?_;rw [HY.out];rintro e w' ⟨rfl,rfl⟩))
 go_round
 case rel=>exact⟨k+1,by omega,by go_num,fun j hj h=>by
  by_cases e:j<k
  ·exact H.out j hj e
  ·obtain rfl:j=k:=by omega
   exact HB.out⟩
 case measure=>simp [intOf];omega):G:=h
theorem m_49{G:Prop}(h:G:=by
 go_enter Tryz.func40,Tryz.ntmps40
 go_wp2_with fail
 refine bodyPost_ret (v:=.tuple #[.agg #[.int .i64 0,.int .i64 0],.bool false]) (by simp [results,Tryz.results40,go_sem, *]) rfl ?_
 refine⟨rfl,?_⟩
 repeat (first | exact Below.refl _ _ | with_reducible refine Below.setCell ?_ (by simp <;> omega) _ | with_reducible refine Zab ?_ _)):G:=h
theorem m_50{G:Prop}(h:G:=by
 go_wp2_with (first | (go_at_call 299;refine (Ziv _ _).mono ?_;rw [HX.out];rintro e w' ⟨rfl,rfl⟩) | (go_at_call 300;refine (Zu8 _ _).mono ?_;rw [HY.out];rintro e w' ⟨rfl,rfl⟩))
 go_round
 case rel=>exact⟨k+1,by omega,by go_num,fun j hj h=>by
  by_cases e:j<k
  ·exact H.out j hj e
  ·obtain rfl:j=k:=by omega
   exact HB.out⟩
 case measure=>simp [intOf];omega):G:=h
theorem m_51{G:Prop}(h:G:=by
 go_wp2_with (first | (go_at_call 331;refine (Zip _ _).mono ?_;rw [HX.out];rintro e w' ⟨rfl,rfl⟩) | (go_at_call 332;refine (Ztq _ _).mono ?_;rw [HY.out];rintro e w' ⟨rfl,rfl⟩))
 go_round
 case rel=>exact⟨k+1,by omega,by go_num,fun j hj h=>by
  by_cases e:j<k
  ·exact H.out j hj e
  ·obtain rfl:j=k:=by omega
   exact HB.out⟩
 case measure=>simp [intOf];omega):G:=h
theorem m_52{G:Prop}(h:G:=by
 obtain hd | hd:=Zbr d <;> obtain ha | ha:=Zbr a <;> obtain hb | hb:=Zbr b
 all_goals
  go_enter Tryz.func169,Tryz.ntmps169
  go_wp2_with (first | (go_at_call 244;refine (Zej _ _).mono ?_;rintro e w' ⟨rfl,rfl⟩))
  go_ret
  refine⟨Zah (by simp [Zb9,Zb6, *]),?_⟩
  repeat (first | exact Below.refl _ _ | refine Zab ?_ _)):G:=h
theorem m_53{G:Prop}(h:G:=by
 have hgb:g=b:=by simpa [Value.ownBlock] using hb
 subst hgb
 refine hg.keep g (Array.getElem?_eq_some_iff.1 hh).1 (fun e2=>?_)
 rcases h2.2 with ⟨e3,_⟩ | ⟨g3,cap3,cur3,e3,_,hh3,_⟩
 ·subst e3;cases e2
 ·subst e3
  have hg3:g3=g:=by simpa [Value.ownBlock] using e2
  subst hg3
  rw [hh] at hh3
  simp only [Option.some.injEq,Obj.cells.injEq] at hh3
  exact hne hh3.2.1):G:=h
theorem m_54{G:Prop}(h:G:=by
 go_wp2_with fail
 go_region
 go_wp2_with fail
 refine Zdp rfl (b:=w.heap.size+1) (by first | exact (Zdc w _ _ _).alloc _ | exact ((Zdc w _ _ _).alloc _).drew) rfl rfl rfl ?_
 exact⟨rfl,by first | exact (Zab (Zab (Zad w _) _) _) | exact (Zab (Zab (Zad w _) _) _).drew | exact (Zab (Zab (Zad w _) _) _).drew.drew | exact (Zab (Zab (Zad w _) _) _).drew.drew.drew⟩):G:=h
theorem m_55{G:Prop}(h:G:=by
 clear hw HMM
 go_wp2_with (go_at_call 94;refine (HW.out _ HBC.out HR1.out).mono ?_;rintro e w8 ⟨V8,rfl,hR8,hb8,hf8⟩;have HR8:=Zh hR8;have HB8:=Zh hb8;have HF8:=Zh hf8;clear hR8 hb8 hf8)
 go_ret
 exact HRN.out.fell HX.out HF.out HS0.out rfl HR8.out ((HB1.out.mono hbs2).trans HB8.out) ((FrV.of_below HB1.out).trans HF8.out)):G:=h
theorem m_56{G:Prop}(h:G:=by
 ·have e3:(x.loc == y.loc)=false:=by simpa using h3
  have HNX:=Zh (show (T.init.take (j+1)).any (fun y=>decide (Zd4 y=Zd4 x))=false by rw [Ze9 HY.out,HN2.out];simp [Zd4];intro _ _;exact fun h=>h3 h.symm)
  clear h1 h2 h3
  go_wp2_with fail
  go_roundw
  case rel=>exact⟨j+1,by omega,by go_num,HNX.out,Zaa HBJ.out HBK.out⟩
  case measure=>simp [intOf];omega):G:=h
theorem m_57{G:Prop}(h:G:=by
 ·have e2:(x.rg == y.rg)=false:=by simpa using h2
  have HNX:=Zh (show (T.init.take (j+1)).any (fun y=>decide (Zd4 y=Zd4 x))=false by rw [Ze9 HY.out,HN2.out];simp [Zd4];intro _ h;exact absurd h.symm h2)
  clear h1 h2
  go_wp2_with fail
  go_roundw
  case rel=>exact⟨j+1,by omega,by go_num,HNX.out,Zaa HBJ.out HBK.out⟩
  case measure=>simp [intOf];omega):G:=h
theorem m_58{G:Prop}(h:G:=by
 ·have e1:(x.th == y.th)=false:=by simpa using h1
  have HNX:=Zh (show (T.init.take (j+1)).any (fun y=>decide (Zd4 y=Zd4 x))=false by rw [Ze9 HY.out,HN2.out];simp [Zd4];intro h;exact absurd h.symm h1)
  clear h1
  go_wp2_with fail
  go_roundw
  case rel=>exact⟨j+1,by omega,by go_num,HNX.out,Zaa HBJ.out HBK.out⟩
  case measure=>simp [intOf];omega):G:=h
theorem m_59{G:Prop}(h:G:=by
 intro hm i hi
 rw [Lib.compactUpTo_succ,List.mem_append]
 by_cases hlt:i<m
 ·exact .inl (ih (by omega) i hlt)
 obtain rfl:i=m:=by omega
 by_cases hk:keeps d i=true
 ·rw [if_pos hk];exact .inr (by simp)
 ·unfold keeps at hk
  simp only [decide_eq_true_eq,not_or,Decidable.not_not,ne_eq] at hk
  rw [hk.2]
  exact .inl (ih (by omega) (i - 1) (by omega))):G:=h
theorem m_60{G:Prop}(h:G:=by
 rw [f1,f2,Bool.and_false]
 go_enter Tryz.func169,Tryz.ntmps169
 go_wp2_with (first | (go_at_call 244;refine (Zej _ _).mono ?_;rintro e w' ⟨rfl,rfl⟩))
 go_ret
 refine⟨Zah (by simp [Zb9,Zb6, *]),?_⟩
 repeat (first | exact Below.refl _ _ | refine Zab ?_ _)):G:=h
theorem m_61{G:Prop}(h:G:=by
 rw [f1,Bool.false_and]
 go_enter Tryz.func169,Tryz.ntmps169
 go_wp2_with (first | (go_at_call 244;refine (Zej _ _).mono ?_;rintro e w' ⟨rfl,rfl⟩))
 go_ret
 refine⟨Zah (by simp [Zb9,Zb6, *]),?_⟩
 repeat (first | exact Below.refl _ _ | refine Zab ?_ _)):G:=h
theorem m_62{G:Prop}(h:G:=by
 go_enter Tryz.func169,Tryz.ntmps169
 go_wp2_with (first | (go_at_call 244;refine (Zej _ _).mono ?_;rintro e w' ⟨rfl,rfl⟩))
 go_ret
 refine⟨Zah (by simp [Zb9,Zb6, *]),?_⟩
 repeat (first | exact Below.refl _ _ | refine Zab ?_ _)):G:=h
theorem m_63{G:Prop}(h:G:=by
 go_enter Tryz.func149,Tryz.ntmps149
 go_wp2_with fail
 go_ret
 refine⟨by rw [HR.out];rfl,?_,met+1,?_,by rw [HR.out];intro h;cases h⟩
 ·exact (((Zez.refl g w).set 1 _).set 2 _).alloc _
 ·rw [HR.out];exact ((HW.out.set1 _).set2 _).al _):G:=h
theorem m_64{G:Prop}(h:G:=by
 ·skip
  simp only [Za3,Zax,Zb8,Zb7]
  go_enter Tryz.func170,Tryz.ntmps170
  go_wp2_with fail
  refine Zce 4 5 rfl rfl ?_
  exact⟨_,rfl,fun hq=>by first | (simp [Zby] at hq;done) | (simp [Zak,e];done) | simp_all [Zak],Zap w _ _⟩):G:=h
theorem m_65{G:Prop}(h:G:=by
 simp only [Za3,Zax,Zb8,Zb7]
 go_enter Tryz.func170,Tryz.ntmps170
 go_wp2_with fail
 refine Zce 4 5 rfl rfl ?_
 exact⟨_,rfl,fun hq=>by first | (simp [Zby] at hq;done) | (simp [Zak,true_and];done) | simp_all [Zak],Zap w _ _⟩):G:=h
theorem m_66{G:Prop}(h:G:=by
 simp only [Za3,Zax,Zb8,Zb7]
 go_enter Tryz.func170,Tryz.ntmps170
 go_wp2_with fail
 refine Zce 4 5 rfl rfl ?_
 exact⟨_,rfl,fun hq=>by first | (simp [Zby] at hq;done) | (simp [Zak,e];done) | simp_all [Zak],Zap w _ _⟩):G:=h
theorem m_67{G:Prop}(h:G:=by
 refine bodyPost_ret (v:=.tuple #[.slice none 0 0,.int .i64 93,.int .i64 (k:Int)]) (by simp [results,Tryz.results117,go_sem]) rfl ?_
 have e1:=Zgl hlen hlt HOK.out HLB.out HNO.out
 exact Zf6.bad (by rw [e1];simp) (by rw [e1]) (Zaa HBR.out HB2.out)):G:=h
theorem m_68{G:Prop}(h:G:=by
 ·have HSM:=Zh (show Zfr k L x=L from if_neg hth)
  clear hini
  go_wp2_with fail
  go_roundw
  case rel=>exact⟨i+1,L,by omega,by go_num,by rw [HNX.out,HSM.out],HON.out,hlen,HR.out.below (Zad _ _),HT.out.go (Zad _ _),Zab HB.out _⟩
  case measure=>simp [intOf];omega):G:=h
theorem m_69{G:Prop}(h:G:=by
 refine bodyPost_ret (v:=.tuple #[.slice none 0 0,.int .i64 93,.int .i64 (k:Int)]) (by simp [results,Tryz.results117,go_sem]) rfl ?_
 have e1:=Zgl hlen hlt HOK.out HLB.out HNO.out
 exact Zf6.bad (by rw [e1];simp) (by rw [e1]) (Zab HBR.out _)):G:=h
theorem m_70{G:Prop}(h:G:=by
 go_wp2_with (go_at_call 85;refine (Zvy ci cc (Ze0 XE1.out XE2.out) (HT.out.below HBWR.out)).mono ?_;rintro e w6 ⟨A6,c6,rfl,hat6,hnew6,hb⟩;have HB6:=Zh hb;clear hat6 hnew6 hb)
 go_ret
 exact⟨Zah HV.out.symm,Zaa HBWR.out HB6.out⟩):G:=h
theorem m_71{G:Prop}(h:G:=by
 ·have HV:=Zh (Zmd (a:=1) (by rw [HN.out];exact g1) (by rw [HN.out];exact g2) HL.out (fun j c hc=>HNO.out j c (by have:=(List.getElem?_eq_some_iff.1 hc).1;have:=HN.out;omega) hc))
  go_wp2_with fail
  go_ret
  exact⟨Zah HV.out.symm,Zaa HB0.out HB.out⟩):G:=h
theorem m_72{G:Prop}(h:G:=by
 ·have HV:=Zh (Zmd (a:=2) (by rw [HN.out];exact g1) (by rw [HN.out];exact g2) HL.out (fun j c hc=>HNO.out j c (by have:=(List.getElem?_eq_some_iff.1 hc).1;have:=HN.out;omega) hc))
  go_wp2_with fail
  go_ret
  exact⟨Zah HV.out.symm,Zaa HB0.out HB.out⟩):G:=h
theorem m_73{G:Prop}(h:G:=by
 go_roundw
 case rel=>exact⟨k+1,by omega,by go_num,(fun j c' hj hc=>by (rcases Nat.lt_succ_iff_lt_or_eq.1 hj with h | h);exact HNO.out j c' h hc;rw [h,HX.out] at hc;cases hc;rw [HTH.out];exact hE),Zaa HBW.out HB2.out⟩
 case measure=>simp [intOf];omega):G:=h
theorem m_74{G:Prop}(h:G:=by
 go_wp2_with (go_at_call 106;refine (HFST.out _).mono ?_;rw [HFB.out];rintro e w2 ⟨rfl,hb2⟩;have HB2:=Zh (Zaa HB1.out hb2);have HX2:=Zh (HXB.out.go hb2);clear hb2)
 go_ret
 exact⟨Zah HBAD.out.symm,Zaa HBWR.out HB2.out⟩):G:=h
theorem m_75{G:Prop}(h:G:=by
 go_wp2_with fail
 go_roundw
 case rel=>exact⟨i+1,by omega,by go_num,HN.out,HG.out.far (by simp) _,HT.out.far (by simp) _,HB.out.setCell (p:=⟨w.heap.size+1,i*5,none⟩) (show w.heap.size<=w.heap.size+1 by omega) _⟩
 case measure=>simp [intOf];omega):G:=h
theorem m_76{G:Prop}(h:G:=by
 go_wp2_with (go_at_call 54;refine (Znf ci cc (Ze0 XE1.out XE2.out) (HT.out.below HBW3.out)).mono ?_;rintro e w6 ⟨A6,c6,rfl,hat6,hb⟩;have HB6:=Zh hb;clear hat6 hb)
 go_ret
 exact⟨Zah HR.out.symm,Zaa HBW3.out HB6.out⟩):G:=h
theorem m_77{G:Prop}(h:G:=by
 simp only [Znb,Zl5] at q1
 clear hR hI hx hon hloc HS
 go_enter Tryz.func91,Tryz.ntmps91
 go_wp2_with fail
 go_ret
 exact⟨_,rfl,HR.out.below HB0.out,HB0.out.mono hbs,FrV.of_below HB0.out⟩):G:=h
theorem m_78{G:Prop}(h:G:=by
 rcases hb1 with hb1 | hb1
 all_goals
  have f1:decide ((n:Int)<1)=decide (n<1):=by simp;omega
  go_enter Tryz.func51,Tryz.ntmps51
  go_wp2_with fail
  go_ret
  exact⟨Zah HV.out.symm,HB0.out⟩):G:=h
theorem m_79{G:Prop}(h:G:=by
 go_wp2_with fail
 go_roundw
 case rel=>exact⟨j+1,by omega,by go_num,(fun i hi=>by (rcases Nat.lt_succ_iff_lt_or_eq.1 hi with h | h);exact HNO.out i h;rw [h];exact HGOOD.out),Zaa HBR.out (Zaa HB2.out HBJ.out)⟩
 case measure=>simp [intOf];omega):G:=h
theorem m_80{G:Prop}(h:G:=by
 subst e1 e2
 clear hx
 go_wp2_with fail
 go_quiet (fail)
 go_wp2_with fail
 go_roundw
 case rel=>exact⟨i+1,by omega,by go_num,by first | exact HB.out | exact HB.out.drew | exact Zan HB.out _,Kk.out,Kj.out⟩
 case measure=>simp [intOf];omega):G:=h
theorem m_81{G:Prop}(h:G:=by
 rcases hb1 with hb1 | hb1
 all_goals
  have f1:decide ((n:Int)<1)=decide (n<1):=by simp;omega
  go_enter Tryz.func81,Tryz.ntmps81
  go_wp2_with fail
  go_ret
  exact⟨Zah HV.out.symm,HB0.out⟩):G:=h
theorem m_82{G:Prop}(h:G:=by
 have f3:(Zbd T.arch T.q T.k T.t T.r T.l T.v T.kids != 0)=true:=by simpa using hE3
 have f4:(Zbd T.arch T.q T.k T.t T.r T.l T.v T.kids == 0)=false:=by simpa using hE3
 go_wp2_with fail
 go_ret
 exact⟨Zah HV.out.symm,HBW3.out⟩):G:=h
theorem m_83{G:Prop}(h:G:=by
 simp only [Bool.and_eq_true,beq_iff_eq] at h
 obtain⟨⟨⟨⟨⟨_,h1⟩,h2⟩,h3⟩,h4⟩,_⟩:=h
 have:=Zck h2
 have:=Zck h3
 exact⟨by omega,by omega,by omega,by omega,h4 ▸ z32,fun _=>by omega,fun e2=>by omega,hlab⟩):G:=h
theorem m_84{G:Prop}(h:G:=by
 refine Zh4 (by kernel_rfl) (by kernel_rfl) ?_
 repeat still_step
 refine wpStill_nil ?_
 go_wp2_with fail
 go_roundw
 case rel=>exact⟨j+1,by omega,by omega,by go_num,HBR.out.drew⟩
 case measure=>simp [intOf];omega):G:=h
theorem m_85{G:Prop}(h:G:=by
 simp only [Bool.and_eq_true,beq_iff_eq] at h
 obtain⟨⟨⟨h1,h2⟩,h3⟩,h4⟩:=h
 have:=Zck h2
 exact⟨by omega,by omega,by omega,by omega,h4 ▸ z32,fun _=>hloc (Zhe h1),fun e2=>by omega,fun e2=>by omega⟩):G:=h
theorem m_86{G:Prop}(h:G:=by
 by_cases hn:2<=n
 all_goals
  go_enter Tryz.func242,Tryz.ntmps242
  go_wp2_with fail
  go_ret
  exact⟨Zae (by rw [HV.out];simp;try omega),Zab (Zad w _) _⟩):G:=h
theorem m_87{G:Prop}(h:G:=by
 go_round
 case rel=>exact⟨k+1,by omega,by omega,by go_num,fun j hj h1 h=>by
  by_cases e:j<k
  ·exact H.out j hj h1 e
  ·obtain rfl:j=k:=by omega
   exact HB.out⟩
 case measure=>simp [intOf];omega):G:=h
theorem m_88{G:Prop}(h:G:=by
 subst h1
 clear hpx
 go_wp2_with fail
 go_roundw
 case rel=>exact⟨i+1,by omega,by go_num,by rw [Zh1 HX.out,HNO.out,HR.out];rfl,HB1.out,HKA.out,HKB.out⟩
 case measure=>simp [intOf];omega):G:=h
theorem m_89{G:Prop}(h:G:=by
 go_enter Tryz.func261,Tryz.ntmps261
 go_wp2_with fail
 go_quiet (fail)
 go_wp2
 go_ret
 exact⟨Zae HV.out.symm,Zan (Zad _ _) _⟩):G:=h
theorem m_90{G:Prop}(h:G:=by
 go_round
 case rel=>exact⟨k+1,by omega,by go_num,fun j hj h=>by
  by_cases e:j<k
  ·exact H.out j hj e
  ·obtain rfl:j=k:=by omega
   exact HB.out⟩
 case measure=>simp [intOf];omega):G:=h
theorem m_91{G:Prop}(h:G:=by
 by_cases hn:2<=n
 all_goals
  go_enter Tryz.func227,Tryz.ntmps227
  go_wp2_with fail
  go_ret
  exact⟨Zae (by rw [HV.out];simp;try omega),Zad w _⟩):G:=h
theorem m_92{G:Prop}(h:G:=by
 go_wp2_with fail
 go_quiet (fail)
 go_wp2_with fail
 go_roundw
 case rel=>exact⟨k+1,-1,by omega,by omega,by go_num,rfl,HNX.out,Zan HBK.out _⟩
 case measure=>simp [intOf];omega):G:=h
theorem m_93{G:Prop}(h:G:=by
 go_wp2_with (go_at_call 12;refine (Zvk _).mono ?_;rintro e w8 ⟨rfl,hb⟩;have HB8:=Zh (Zaa HB5.out hb);clear hb)
 go_ret
 exact⟨rfl,HB8.out⟩):G:=h
theorem m_94{G:Prop}(h:G:=by
 have e:=HNX.out.trans HIS.out
 simp only [List.reduceReplicate] at e
 refine⟨i+1,by omega,by go_num,?_⟩
 rw [e]
 exact⟨HO2.out _,by simp [hlen],HRE.out,HTE.out,HBE.out⟩):G:=h
theorem m_95{G:Prop}(h:G:=by
 go_enter Tryz.func168,Tryz.ntmps168
 go_wp2_with fail
 go_ret
 exact⟨Zae (by rw [H.out];try simp),Zab (Zad _ _) _⟩):G:=h
theorem m_96{G:Prop}(h:G:=by
 ·have hml:¬ (m:Int)<(ne:Int):=by omega
  go_wp2_with fail
  go_roundw
  case rel=>exact⟨i+1,by omega,by go_num,HB2.out,HK2.out⟩
  case measure=>simp [intOf];omega):G:=h
theorem m_97{G:Prop}(h:G:=by
 go_enter Tryz.func272,Tryz.ntmps272
 go_wp2_with fail
 go_quiet (fail)
 go_wp2
 go_ret
 exact⟨Zae HV.out.symm,Zan (Zad _ _) _⟩):G:=h
theorem m_98{G:Prop}(h:G:=by
 clear hne
 go_wp2_with fail
 go_roundw
 case rel=>exact⟨m+1,by omega,by go_num,HB3.out,Blk.alloc HK2.out _,Blk.alloc HBB2.out _⟩
 case measure=>simp [intOf];omega):G:=h
theorem m_99{G:Prop}(h:G:=by
 go_wp2_with fail
 go_quiet (fail)
 go_wp2_with fail
 go_roundw
 case rel=>exact⟨k+1,by omega,by go_num,HNX.out,Zan HBK.out _⟩
 case measure=>simp [intOf];omega):G:=h
theorem m_100{G:Prop}(h:G:=by
 have f1:(Za5 T != 0)=true:=by simpa using hE
 have f2:(Za5 T == 0)=false:=by simpa using hE
 go_wp2_with fail
 go_ret2
 exact⟨Or.inl ⟨HE.out,rfl⟩,HB2.out⟩):G:=h
theorem m_101{G:Prop}(h:G:=by
 have HN:=Zh hN
 clear hN
 go_wp2_with fail
 go_roundw
 case rel=>exact⟨i+1,by omega,by go_num,HN.out.1,HN.out.2.1,HN.out.2.2⟩
 case measure=>simp [intOf];omega):G:=h
theorem m_102{G:Prop}(h:G:=by
 obtain⟨z0,_⟩:∃ z:Nat,z=z:=⟨0,rfl⟩
 refine Zkh 131 rfl rfl ?_
 (try simp only [pa1,pa2,pa3,Act.put,pa4,pa5,pa6])
 exact wpList_nil (HM.out l1 z0 W3 hF)):G:=h
theorem m_103{G:Prop}(h:G:=by
 go_enter Tryz.func242,Tryz.ntmps242
 go_wp2_with fail
 go_ret
 exact⟨Zae HV.out.symm,Zab (Zad w _) _⟩):G:=h
theorem m_104{G:Prop}(h:G:=by
 ·have hvo:V.rg.ownBlock=some q:=by rw [hvr];rfl
  exact (((((FrV.of_below (HB0.out.drew)).reg hvo _ _).reg hvo _ _).reg hvo _ _).reg hvo _ _).reg hvo _ _):G:=h
theorem m_105{G:Prop}(h:G:=by
 refine⟨rfl,?_⟩
 repeat (first | exact Below.refl _ _ | with_reducible refine Below.setCell ?_ (by simp <;> omega) _ | with_reducible refine Zab ?_ _)):G:=h
theorem m_106{G:Prop}(h:G:=by
 go_enter Tryz.func167,Tryz.ntmps167
 go_wp2_with fail
 go_ret2
 exact⟨by rw [HR.out];rfl,Zad _ _⟩):G:=h
theorem m_107{G:Prop}(h:G:=by
 subst e
 unfold Zag
 go_enter Tryz.func163,Tryz.ntmps163
 go_wp2_with fail
 go_ret
 exact⟨Zae (by simp),rfl⟩):G:=h
theorem m_108{G:Prop}(h:G:=by
 go_enter Tryz.func52,Tryz.ntmps52
 go_wp2_with fail
 go_ret
 exact⟨Zah HV.out.symm,Zad _ _⟩):G:=h
theorem m_109{G:Prop}(h:G:=by
 go_enter Tryz.func303,Tryz.ntmps303
 go_wp2_with fail
 go_ret
 exact⟨Zae HF.out.symm,rfl⟩):G:=h
theorem m_110{G:Prop}(h:G:=by
 go_enter Tryz.func243,Tryz.ntmps243
 go_wp2_with fail
 go_ret
 exact⟨Zae HF.out.symm,rfl⟩):G:=h
theorem m_111{G:Prop}(h:G:=by
 clear hA hth hq k1
 go_wp2_with fail
 go_roundw
 case rel=>exact⟨i+1,by omega,by go_num,HOn.out,HWn.out,HBn.out⟩
 case measure=>simp [intOf];omega):G:=h
theorem m_112{G:Prop}(h:G:=by
 go_roundw
 case rel=>exact⟨i+1,by omega,by go_num,by rw [Zjf HY.out,HALL.out,HR.out];rfl,Zaa HBI.out HB2.out⟩
 case measure=>simp [intOf];omega):G:=h
theorem m_113{G:Prop}(h:G:=by
 go_enter Tryz.func111,Tryz.ntmps111
 go_wp2_with fail
 go_ret
 exact⟨Zae HF.out.symm,rfl⟩):G:=h
theorem m_114{G:Prop}(h:G:=by
 ·have HF:=Zh (Zf5 hp (by omega) HL.out (fun i hi h1=>H.out i hi h1 (by omega)))
  go_wp2_with fail
  go_ret
  exact⟨Zae HF.out.symm,rfl⟩):G:=h
theorem m_115{G:Prop}(h:G:=by
 ·have HF:=Zh (Zf5 hp (by omega) HL.out (fun i hi _=>H.out i hi (by omega)))
  go_wp2_with fail
  go_ret
  exact⟨Zae HF.out.symm,rfl⟩):G:=h
theorem m_116{G:Prop}(h:G:=by
 go_ret
 exact HRN.out.fell HX.out HF.out HS0.out rfl HR8.out ((HB1.out.mono hbs2).trans HB8.out) ((FrV.of_below HB1.out).trans HF8.out)):G:=h
theorem m_117{G:Prop}(h:G:=by
 go_enter Tryz.func246,Tryz.ntmps246
 go_wp2_with fail
 go_ret
 exact⟨rfl,HB.out⟩):G:=h
theorem m_118{G:Prop}(h:G:=by
 unfold putCells
 rw [Array.getElem?_toList,Array.getElem?_mapIdx]
 rw [Array.getElem?_eq_getElem (show i<cur.size by omega)]
 simp [hi]):G:=h
theorem m_119{G:Prop}(h:G:=by
 go_enter Tryz.func82,Tryz.ntmps82
 go_wp2_with fail
 go_ret
 exact⟨Zah HV.out.symm,Zad _ _⟩):G:=h
theorem m_120{G:Prop}(h:G:=by
 go_enter Tryz.func156,Tryz.ntmps156
 go_wp2_with fail
 go_ret
 exact⟨Zah HV.out.symm,HG.out⟩):G:=h
theorem m_121{G:Prop}(h:G:=by
 go_enter Tryz.func251,Tryz.ntmps251
 go_wp2_with fail
 go_ret
 exact⟨Zae HF.out.symm,rfl⟩):G:=h
theorem m_122{G:Prop}(h:G:=by
 unfold Zag
 go_enter Tryz.func161,Tryz.ntmps161
 go_wp2_with fail
 go_ret
 exact⟨rfl,rfl⟩):G:=h
theorem m_123{G:Prop}(h:G:=by
 go_enter Tryz.func314,Tryz.ntmps314
 go_wp2_with fail
 go_ret
 exact⟨Zae HF.out.symm,rfl⟩):G:=h
theorem m_124{G:Prop}(h:G:=by
 go_enter Tryz.func227,Tryz.ntmps227
 go_wp2_with fail
 go_ret
 exact⟨Zae HV.out.symm,Zad w _⟩):G:=h
theorem m_125{G:Prop}(h:G:=by
 simp only [List.mem_singleton] at hx
 subst hx
 unfold Zfw at h
 rw [if_pos h2] at h
 simp only [Bool.and_eq_true] at h
 exact h.1.1):G:=h
theorem m_126{G:Prop}(h:G:=by
 go_enter Tryz.func189,Tryz.ntmps189
 go_wp2_with fail
 go_ret
 exact⟨rfl,HB.out⟩):G:=h
theorem m_127{G:Prop}(h:G:=by
 go_enter Tryz.func98,Tryz.ntmps98
 go_wp2_with fail
 go_ret
 exact⟨rfl,HG.out⟩):G:=h
theorem m_128{G:Prop}(h:G:=by
 go_wp2_with fail
 go_end0
 exact⟨rfl,by rw [HT.out];have:=HAC.out;rw [HFIN.out] at this;simpa using this,HBR.out⟩):G:=h
theorem m_129{G:Prop}(h:G:=by
 clear h0 q0 q1
 go_wp2_with fail
 go_ret
 exact⟨Zae (by rw [<- HR.out,HF.out,HG.out];rfl),rfl⟩):G:=h
theorem m_130{G:Prop}(h:G:=by
 exact⟨by omega,by omega,by omega,by omega,h4 ▸ z32,fun _=>by omega,fun e2=>by omega,hlab⟩):G:=h
theorem m_131{G:Prop}(h:G:=by
 exact⟨_,rfl,HR2.out,(HB0.out.mono hbs).trans HB2.out,(FrV.of_below HB0.out).trans HF2.out⟩):G:=h
theorem m_132{G:Prop}(h:G:=by
 go_wp2_with fail
 go_ret
 exact Zhh.yes HV.out ⟨V1,rfl,HRN.out.run,HRN.out.below,HRN.out.fr⟩):G:=h
theorem m_133{G:Prop}(h:G:=by
 go_wp2_with fail
 go_ret
 exact⟨Zah HV.out.symm,HB0.out.trans (HBR.out.mono (by omega))⟩):G:=h
theorem m_134{G:Prop}(h:G:=by
 clear h1 h2 h3
 go_wp2_with fail
 go_ret
 exact⟨Zah HBAD.out.symm,Zaa HBW2.out (Zad _ _)⟩):G:=h
theorem m_135{G:Prop}(h:G:=by
 refine⟨by omega,?_⟩
 show p.1<((a.evs++r.evs).length:Int)
 rw [List.length_append];omega):G:=h
theorem m_136{G:Prop}(h:G:=by
 refine⟨?_,(Zfo (HBW.out) (Nat.le_succ _) _ _ _ _ _ _ _ _ _)⟩
 rw [HTR.out,HXE.out]
 rfl):G:=h
theorem m_137{G:Prop}(h:G:=by
 refine⟨this.1,?_⟩
 show p.1<((a.evs++r.evs).length:Int)
 rw [List.length_append];omega):G:=h
theorem m_138{G:Prop}(h:G:=by
 clear b1 b2 b3
 go_wp2_with fail
 go_ret
 exact⟨Zae (by rw [<- HR.out,HF.out]),rfl⟩):G:=h
theorem m_139{G:Prop}(h:G:=by
 have k3:=HBR1.out.cell 3
 go_wp2_with fail
 go_ret
 exact⟨Zah HV.out.symm,HBWR.out⟩):G:=h
theorem m_140{G:Prop}(h:G:=by
 go_wp2_with fail
 go_ret
 exact⟨Zae (by rw [<- HR.out,HF.out];rfl),rfl⟩):G:=h
theorem m_141{G:Prop}(h:G:=by
 go_wp2_with fail
 go_ret
 exact⟨Zae (by rw [<- HR.out,HF.out]),rfl⟩):G:=h
theorem m_142{G:Prop}(h:G:=by
 go_ret
 exact⟨Zah HV.out.symm,Zaa HB0.out (Zaa HBW.out HB2.out)⟩):G:=h
theorem m_143{G:Prop}(h:G:=by
 go_wp2_with fail
 go_ret
 exact⟨Zah HV.out.symm,Zan (Zad _ _) _⟩):G:=h
theorem m_144{G:Prop}(h:G:=by
 have h3:=hI.room
 rw [List.length_append,List.length_map];omega):G:=h
theorem m_145{G:Prop}(h:G:=by
 simp only [Option.some.injEq] at hg
 subst hg
 exact hI.next hk):G:=h
end Go.Proofs.YtoegmdnfbemppaaGreatDoor
