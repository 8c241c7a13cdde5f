/- Blocks of proof that stand in more than one place, each as the way of a theorem. -/
import Derived.Test.YtdfmcfppoohckaaGreatDoorProg
import Derived.WalkKit
import Derived.Lib.Hide
import Derived.Lib.LaidTab
import Derived.Lib.ItoaNum
import Derived.BigQuiet
import Derived.Deep.QuietTactic
import Derived.Deep.DeepFit
import Derived.Maps.AppendAt
import Derived.Laws.OwnMore
import Derived.StillTailTactics
import Derived.Deep.RegionHeld3
import Derived.Laws.Entries
import Derived.Laws.MakeOwn
import Derived.Laws.AppendOwnNone
import Derived.RegionTactic
import Derived.BigRegion
import Derived.Laws.StructEq
import Derived.Shelf.SlGeneric
import Derived.Shelf.SlSortCmp.WholeK
import Derived.Ground.SlsfProg
import Derived.Ground.SlgnProg
import Derived.Shelf.SlicesE.Clone
import Derived.ArgAppend
import Derived.Shelf.Strings.Trim
import Derived.Shelf.Small.Utf8
import Derived.Shelf.Small.Bits
import Derived.Shelf.Small.Strs
import Derived.Shelf.Strconv.Itoa0
import Derived.Shelf.Strings.Search1
import Derived.Shelf.Sort.Plain
import Derived.Shelf.Unicode.Decode
import Derived.Shelf.Strings.Runes
import Derived.Shelf.Strings.AsciiSet
import Derived.Shelf.Unicode.DecodeSlow
import Derived.Shelf.Unicode.DecodeAny
import Derived.Shelf.Unicode.DecodeLast
import Derived.Ground.Names2Prog
import Derived.Shelf.Slices.Clone
import Derived.Shelf.Slices.CompactS
import Derived.Shelf.Slices.Cells
import Derived.Shelf.Slices.In.SortNone
import Derived.Shelf.Strings.SlTrimAscii
import Derived.Lib.AppendIntMem
import Derived.Lib.AtoiErrMem
import Derived.Sort.Statements
import Derived.Lib.ItoaLen
import Derived.Sort.LotA
import Derived.Lib.SliceRun
import Derived.Lib.SlicesCompact
import Derived.Lib.LazyBuf
import Derived.Deep.Upon
import Derived.Shelf.SlSortCmp.NoneTotal
import Derived.Shelf.Strings.Builder1
import Derived.WalkLawsBesides
import Derived.Sort.Walk0
import Derived.Shelf.Spec.SearchS
import Derived.Maps.OwnOps
import Derived.DeepKeys4
import Derived.MapViews
import Derived.Maps.Views
import Derived.StringKeys
import Derived.Maps.OwnSet
import Derived.Outline
import Derived.Deep.MidRow
import Derived.Laws.CopyOwn
import Derived.ProofKit
import Derived.OpenShut
import Derived.Deep.DeepHandedRow
import Derived.Carry
import Derived.Deep.Slices
import Derived.Deep.Fields
import Derived.SizedLaws
import Derived.Deep.DeepWitnessRowRef
import Derived.LaidMore
import Derived.Shelf.Vars
import Derived.ChangeMaps5
namespace Go.Proofs.YtdfmcfppoohckaaGreatDoor
open Go.RowKit
theorem _root_.Go.RowKit.Hid.o{p:Prop}(h:Hid p):p:=Hid.out h
theorem ω{p:Prop}(h:p:=by omega):p:=h
theorem κ{p:Prop}(h:p:=by kernel_rfl):p:=h
theorem m_1{G:Prop}(h:G:=by
 have i0:=HBI3.o.cl 0;obtain⟨a0,a1,a2,a3,a4⟩:=BXA.o.c5;obtain⟨b0,b1,b2,b3,b4⟩:=BXB.o.c5;have hz3:=HW30.o.size;have HSS:=Zh (show ∀ y,Below W3.heap.size W3 y->(fun y:World=>y.cell? ⟨w.heap.size,0,none⟩=some (.int .i64 op)/\(y.cell? ⟨la,0,none⟩=some (Zah ra.h)/\y.cell? ⟨la,1,none⟩=some (.int .u64 (ra.on:Int))/\y.cell? ⟨la,2,none⟩=some (.int .u64 0)/\y.cell? ⟨la,3,none⟩=some (.int .u64 0)/\y.cell? ⟨la,4,none⟩=some (.int .u64 0))/\y.cell? ⟨lb,0,none⟩=some (Zah xb.h)/\y.cell? ⟨lb,1,none⟩=some (.int .u64 (xb.on:Int))/\y.cell? ⟨lb,2,none⟩=some (.int .u64 0)/\y.cell? ⟨lb,3,none⟩=some (.int .u64 0)/\y.cell? ⟨lb,4,none⟩=some (.int .u64 0)) y from fun y hb=>⟨Zac i0 hb,⟨Zac a0 hb,Zac a1 hb,Zac a2 hb,Zac a3 hb,Zac a4 hb⟩,Zac b0 hb,Zac b1 hb,Zac b2 hb,Zac b3 hb,Zac b4 hb⟩);clear BXA BXB
 go_wp2_with fail
 rename_i K9 hK9;have HK9:=Zh hK9;clear hK9 i0 a0 a1 a2 a3 a4 b0 b1 b2 b3 b4;apply Znz (K:=K9) (F:=fun lx _ W7=>Below w.heap.size w W7/\Blk W7 w.heap.size 118 #[.int .i64 op,.int .i64 (d:Int),.int .i64 (a:Int),.int .i64 (b:Int),.int .i64 imm,.string ⟨loc.toArray⟩,.string ⟨label.toArray⟩,.int .i64 fence]/\Blk W7 lx 114 #[.iface mt mv,.int .u64 (oo:Int),.int .u64 0,.int .u64 0,.int .u64 0]/\w.heap.size<lx)
 ·intro HM;have HM:=Zh HM;refine wz (fun y:World=>y.cell? ⟨w.heap.size,0,none⟩=some (.int .i64 op)/\(y.cell? ⟨la,0,none⟩=some (Zah ra.h)/\y.cell? ⟨la,1,none⟩=some (.int .u64 (ra.on:Int))/\y.cell? ⟨la,2,none⟩=some (.int .u64 0)/\y.cell? ⟨la,3,none⟩=some (.int .u64 0)/\y.cell? ⟨la,4,none⟩=some (.int .u64 0))/\y.cell? ⟨lb,0,none⟩=some (Zah xb.h)/\y.cell? ⟨lb,1,none⟩=some (.int .u64 (xb.on:Int))/\y.cell? ⟨lb,2,none⟩=some (.int .u64 0)/\y.cell? ⟨lb,3,none⟩=some (.int .u64 0)/\y.cell? ⟨lb,4,none⟩=some (.int .u64 0)) [1,3,5,6,8,10,13] (HSS.o _ (Below.refl _ _).drew) (fun hHeld=>?_);refine wq 0 ?_;refine wq 2 ?_;refine wq 4 ?_;refine wq 7 ?_;refine wq 9 ?_;refine wt 1 (by assumption) ?_;refine wt 3 (by assumption) ?_;refine wt 5 (by assumption) ?_;refine wt 8 (by assumption) ?_;refine wt 10 (by assumption) ?_;clear hHeld;refine Zd5 (i:=6) (j:=13) κ rfl rfl (fun K hK=>?_) (fun K hK=>?_)
  ·go_simp
   go_at_call 110
   refine (HMX.o _).mono ?_;rintro e w' ⟨rfl,rfl⟩;refine hK.o _ _ (HSS.o _ (by repeat (first | exact Below.refl _ _ | exact Below.refl _ _ | with_reducible refine Below.drew ?_ | with_reducible refine Zab ?_ _))) ?_;clear hK K;refine pu ?_;refine Zd5 (i:=11) (j:=13) κ rfl rfl (fun K hK=>?_) (fun K hK=>?_)
   ·go_simp
    go_at_call 111
    refine (HOR.o _).mono ?_;rintro e w5 ⟨rfl,hb5⟩;have HB6:=Zh (show Below (W3.drew).heap.size W3.drew w5 from hb5);have HB5:=Zh (show Below W3.heap.size W3 w5 from (by first | exact Zag hb5 | exact HW4.o.trans (hb5.mono HW4.o.size)));clear hb5;refine hK.o _ _ (HSS.o _ HB5.o) ?_;clear hK K;refine pu ?_;refine wq 12 ?_;refine Zar (i:=13) κ rfl (fun K hK=>?_);go_simp;refine hK.o _ _ (HSS.o _ (by repeat (first | exact Below.refl _ _ | exact HB5.o | with_reducible refine Below.drew ?_ | with_reducible refine Zab ?_ _))) ?_;clear hK K;refine pu ?_;refine wl 14 ?_;have hz5:=HB5.o.size;refine wpList_store_mid rfl _ _ _ rfl (w5.heap.size) 0 #[.iface mt mv,.int .u64 (oo:Int),.int .u64 0,.int .u64 0,.int .u64 0] rfl rfl (Zbi (Blk.new w5 114 #[.nilIface,.int .u64 0,.int .u64 0,.int .u64 0,.int .u64 0]) 5 (by simp)) κ (all_oneCell_toArray (cs:=[.iface mt mv,.int .u64 (oo:Int),.int .u64 0,.int .u64 0,.int .u64 0]) hone6) ?_;have hW:=Zau (show Below W3.heap.size W3 (w5.alloc (.cells #[.nilIface,.int .u64 0,.int .u64 0,.int .u64 0,.int .u64 0] 114 (0,0))) from Zab HB5.o _) (show W3.heap.size<=(w5.heap.size) by omega) [.iface mt mv,.int .u64 (oo:Int),.int .u64 0,.int .u64 0,.int .u64 0] 0
    have hF:Below w.heap.size w (World.setCells (w5.alloc (.cells #[.nilIface,.int .u64 0,.int .u64 0,.int .u64 0,.int .u64 0] 114 (0,0))) ((w5.heap.size)) 0 [.iface mt mv,.int .u64 (oo:Int),.int .u64 0,.int .u64 0,.int .u64 0])/\Blk (World.setCells (w5.alloc (.cells #[.nilIface,.int .u64 0,.int .u64 0,.int .u64 0,.int .u64 0] 114 (0,0))) ((w5.heap.size)) 0 [.iface mt mv,.int .u64 (oo:Int),.int .u64 0,.int .u64 0,.int .u64 0]) w.heap.size 118 #[.int .i64 op,.int .i64 (d:Int),.int .i64 (a:Int),.int .i64 (b:Int),.int .i64 imm,.string ⟨loc.toArray⟩,.string ⟨label.toArray⟩,.int .i64 fence]/\Blk (World.setCells (w5.alloc (.cells #[.nilIface,.int .u64 0,.int .u64 0,.int .u64 0,.int .u64 0] 114 (0,0))) ((w5.heap.size)) 0 [.iface mt mv,.int .u64 (oo:Int),.int .u64 0,.int .u64 0,.int .u64 0]) ((w5.heap.size)) 114 #[.iface mt mv,.int .u64 (oo:Int),.int .u64 0,.int .u64 0,.int .u64 0]/\w.heap.size<(w5.heap.size):=
     ⟨Zaa HW30.o hW,HBI3.o.go hW,Blk.sets5 (Blk.new w5 114 #[.nilIface,.int .u64 0,.int .u64 0,.int .u64 0,.int .u64 0]) rfl (.iface mt mv) (.int .u64 (oo:Int)) (.int .u64 0) (.int .u64 0) (.int .u64 0),ω⟩
    obtain⟨z0,_⟩:∃ z:Nat,z=z:=⟨0,rfl⟩;clear hW;generalize (World.setCells (w5.alloc (.cells #[.nilIface,.int .u64 0,.int .u64 0,.int .u64 0,.int .u64 0] 114 (0,0))) ((w5.heap.size)) 0 [.iface mt mv,.int .u64 (oo:Int),.int .u64 0,.int .u64 0,.int .u64 0])=W7 at hF ⊢;generalize (w5.heap.size)=p1 at hF ⊢;exact wpList_nil (HM.o p1 z0 W7 hF)
   ·go_simp;refine hK.o _ _ (HSS.o _ (by repeat (first | exact Below.refl _ _ | exact Below.refl _ _ | with_reducible refine Below.drew ?_ | with_reducible refine Zab ?_ _))) ?_;clear hK K;refine pu ?_;generalize hW4:(World.drew (World.alloc _ _))=W4;have BZ6:Hid (Blk W4 W3.heap.size 114 #[.nilIface,.int .u64 0,.int .u64 0,.int .u64 0,.int .u64 0]):=by rw [<- hW4];exact Zh (Blk.new W3 _ _).drew
    have HW4:Hid (Below W3.heap.size W3 W4):=by rw [<- hW4];exact Zh ((by repeat (first | exact Below.refl _ _ | exact Below.refl _ _ | with_reducible refine Below.drew ?_ | with_reducible refine Zab ?_ _)))
    clear hW4;refine Zar (i:=11) κ rfl (fun K hK=>?_);go_simp
    go_at_call 111
    refine (HOR.o _).mono ?_;rintro e w5 ⟨rfl,hb5⟩;have HB6:=Zh (show Below (W4).heap.size W4 w5 from hb5);have HB5:=Zh (show Below W3.heap.size W3 w5 from (by first | exact Zag hb5 | exact HW4.o.trans (hb5.mono HW4.o.size)));clear hb5;refine hK.o _ _ (HSS.o _ HB5.o) ?_;clear hK K;refine pu ?_;refine wq 12 ?_;refine wl 14 ?_;have hz5:=HB5.o.size;refine wpList_store_mid rfl _ _ _ rfl (W3.heap.size) 0 #[.iface mt mv,.int .u64 (oo:Int),.int .u64 0,.int .u64 0,.int .u64 0] rfl rfl (Zbi (BZ6.o.go HB6.o) 5 (by simp)) κ (all_oneCell_toArray (cs:=[.iface mt mv,.int .u64 (oo:Int),.int .u64 0,.int .u64 0,.int .u64 0]) hone6) ?_;have hW:=Zau (HB5.o) (show W3.heap.size<=(W3.heap.size) by omega) [.iface mt mv,.int .u64 (oo:Int),.int .u64 0,.int .u64 0,.int .u64 0] 0;have hF:Below w.heap.size w (World.setCells w5 ((W3.heap.size)) 0 [.iface mt mv,.int .u64 (oo:Int),.int .u64 0,.int .u64 0,.int .u64 0])/\Blk (World.setCells w5 ((W3.heap.size)) 0 [.iface mt mv,.int .u64 (oo:Int),.int .u64 0,.int .u64 0,.int .u64 0]) w.heap.size 118 #[.int .i64 op,.int .i64 (d:Int),.int .i64 (a:Int),.int .i64 (b:Int),.int .i64 imm,.string ⟨loc.toArray⟩,.string ⟨label.toArray⟩,.int .i64 fence]/\Blk (World.setCells w5 ((W3.heap.size)) 0 [.iface mt mv,.int .u64 (oo:Int),.int .u64 0,.int .u64 0,.int .u64 0]) ((W3.heap.size)) 114 #[.iface mt mv,.int .u64 (oo:Int),.int .u64 0,.int .u64 0,.int .u64 0]/\w.heap.size<(W3.heap.size):=
     ⟨Zaa HW30.o hW,HBI3.o.go hW,Blk.sets5 (BZ6.o.go HB6.o) rfl (.iface mt mv) (.int .u64 (oo:Int)) (.int .u64 0) (.int .u64 0) (.int .u64 0),ω⟩
    obtain⟨z0,_⟩:∃ z:Nat,z=z:=⟨0,rfl⟩;clear hW;generalize (World.setCells w5 ((W3.heap.size)) 0 [.iface mt mv,.int .u64 (oo:Int),.int .u64 0,.int .u64 0,.int .u64 0])=W7 at hF ⊢;generalize (W3.heap.size)=p1 at hF ⊢;exact wpList_nil (HM.o p1 z0 W7 hF)
  ·go_simp;refine hK.o _ _ (HSS.o _ (by repeat (first | exact Below.refl _ _ | exact Below.refl _ _ | with_reducible refine Below.drew ?_ | with_reducible refine Zab ?_ _))) ?_;clear hK K;refine pu ?_;generalize hW4:(World.drew (World.alloc _ _))=W4;have BZ6:Hid (Blk W4 W3.heap.size 114 #[.nilIface,.int .u64 0,.int .u64 0,.int .u64 0,.int .u64 0]):=by rw [<- hW4];exact Zh (Blk.new W3 _ _).drew
   have HW4:Hid (Below W3.heap.size W3 W4):=by rw [<- hW4];exact Zh ((by repeat (first | exact Below.refl _ _ | exact Below.refl _ _ | with_reducible refine Below.drew ?_ | with_reducible refine Zab ?_ _)))
   clear hW4;refine Zar (i:=6) κ rfl (fun K hK=>?_);go_simp
   go_at_call 110
   refine (HMX.o _).mono ?_;rintro e w' ⟨rfl,rfl⟩;refine hK.o _ _ (HSS.o _ HW4.o) ?_;clear hK K;refine pu ?_;refine Zar (i:=11) κ rfl (fun K hK=>?_);go_simp
   go_at_call 111
   refine (HOR.o _).mono ?_;rintro e w5 ⟨rfl,hb5⟩;have HB6:=Zh (show Below (W4).heap.size W4 w5 from hb5);have HB5:=Zh (show Below W3.heap.size W3 w5 from (by first | exact Zag hb5 | exact HW4.o.trans (hb5.mono HW4.o.size)));clear hb5;refine hK.o _ _ (HSS.o _ HB5.o) ?_;clear hK K;refine pu ?_;refine wq 12 ?_;refine wl 14 ?_;have hz5:=HB5.o.size;refine wpList_store_mid rfl _ _ _ rfl (W3.heap.size) 0 #[.iface mt mv,.int .u64 (oo:Int),.int .u64 0,.int .u64 0,.int .u64 0] rfl rfl (Zbi (BZ6.o.go HB6.o) 5 (by simp)) κ (all_oneCell_toArray (cs:=[.iface mt mv,.int .u64 (oo:Int),.int .u64 0,.int .u64 0,.int .u64 0]) hone6) ?_;have hW:=Zau (HB5.o) (show W3.heap.size<=(W3.heap.size) by omega) [.iface mt mv,.int .u64 (oo:Int),.int .u64 0,.int .u64 0,.int .u64 0] 0;have hF:Below w.heap.size w (World.setCells w5 ((W3.heap.size)) 0 [.iface mt mv,.int .u64 (oo:Int),.int .u64 0,.int .u64 0,.int .u64 0])/\Blk (World.setCells w5 ((W3.heap.size)) 0 [.iface mt mv,.int .u64 (oo:Int),.int .u64 0,.int .u64 0,.int .u64 0]) w.heap.size 118 #[.int .i64 op,.int .i64 (d:Int),.int .i64 (a:Int),.int .i64 (b:Int),.int .i64 imm,.string ⟨loc.toArray⟩,.string ⟨label.toArray⟩,.int .i64 fence]/\Blk (World.setCells w5 ((W3.heap.size)) 0 [.iface mt mv,.int .u64 (oo:Int),.int .u64 0,.int .u64 0,.int .u64 0]) ((W3.heap.size)) 114 #[.iface mt mv,.int .u64 (oo:Int),.int .u64 0,.int .u64 0,.int .u64 0]/\w.heap.size<(W3.heap.size):=
    ⟨Zaa HW30.o hW,HBI3.o.go hW,Blk.sets5 (BZ6.o.go HB6.o) rfl (.iface mt mv) (.int .u64 (oo:Int)) (.int .u64 0) (.int .u64 0) (.int .u64 0),ω⟩
   obtain⟨z0,_⟩:∃ z:Nat,z=z:=⟨0,rfl⟩;clear hW;generalize (World.setCells w5 ((W3.heap.size)) 0 [.iface mt mv,.int .u64 (oo:Int),.int .u64 0,.int .u64 0,.int .u64 0])=W7 at hF ⊢;generalize (W3.heap.size)=p1 at hF ⊢;exact wpList_nil (HM.o p1 z0 W7 hF)
 ·intro lx _ W7 ⟨hb7,hi7,hx7,hlx⟩;refine HK9.o _ _ ?_;clear HK9 K9 HSS HW30 HBI3;have HW7:=Zh hb7;obtain⟨j0,j1,j2,j3⟩:=hi7.c4;obtain⟨c0,c1,c2,c3,c4⟩:=hx7.c5;have f0:=hx7.frozen 0;have hlw:lx<W7.heap.size:=hx7.lt;have hne:¬ lx=w.heap.size:=ω;have hne2:¬ w.heap.size=lx:=ω;clear hb7 hi7 hx7;by_cases h9:op=9
  ·have g9:(op == 9)=true:=by simpa using h9
   by_cases hab:a=b
   ·have g10:((a:Int) == (b:Int))=true:=by simp [hab]
    have HX:=Zh (HX0.o h9 hab);have HB8:=Zh (HW7.o.setCell (p:=⟨lx,0,none⟩) (show w.heap.size<=lx by omega) (.iface 110 (.int .i64 0)));clear h9 hab;have HB7:=Zh (HB00.o.trans ((HB8.o).mono hbs));have HR7:=Zh (HR.o.below (HB8.o))
    go_wp2_with (go_at_call 58;refine (HPUT0.o _ HB7.o hd hl HR7.o).mono ?_;rintro e w8 ⟨V8,rfl,hR8,hb8,hf8⟩)
    go_end0
    rw [HX.o];exact⟨_,rfl,hR8,(HB8.o.mono hbs).trans hb8,(FrV.of_below HB8.o).trans hf8⟩
   ·have g10:((a:Int) == (b:Int))=false:=by simp;omega
    have HX:=Zh (HX1.o (fun h=>hab h.2));clear h9 hab;have HB7:=Zh (HB00.o.trans ((HW7.o).mono hbs));have HR7:=Zh (HR.o.below (HW7.o))
    go_wp2_with (go_at_call 58;refine (HPUT.o _ HB7.o hd hl HR7.o).mono ?_;rintro e w8 ⟨V8,rfl,hR8,hb8,hf8⟩)
    go_end0
    rw [HX.o];exact⟨_,rfl,hR8,(HW7.o.mono hbs).trans hb8,(FrV.of_below HW7.o).trans hf8⟩
  ·have g9:(op == 9)=false:=by simpa using h9
   have HX:=Zh (HX1.o (fun h=>h9 h.1));clear h9;have HB7:=Zh (HB00.o.trans ((HW7.o).mono hbs));have HR7:=Zh (HR.o.below (HW7.o))
   go_wp2_with (go_at_call 58;refine (HPUT.o _ HB7.o hd hl HR7.o).mono ?_;rintro e w8 ⟨V8,rfl,hR8,hb8,hf8⟩)
   go_end0
   rw [HX.o];exact⟨_,rfl,hR8,(HW7.o.mono hbs).trans hb8,(FrV.of_below HW7.o).trans hf8⟩):G:=h
theorem m_2{G:Prop}(h:G:=by
 have hini:=HINI.o x (List.mem_of_getElem? ex);obtain⟨b,o,hA,c0,c1,c2,c3,c4,_⟩:=(HII.o.below HB3.o) i x ex;subst hA;clear ex hx;obtain⟨xth,xrg,xloc,xvl,xvn⟩:=x;simp only at c0 c1 c2 c3 c4 hini;have hal:=Zad wr (.cells #[.int .i64 xth,.int .i64 xrg,.string ⟨xloc.toArray⟩,.string ⟨xvl.toArray⟩,.int .i64 xvn] 62 (0,0));have HO4:=Zh (HO3.o.below hal);have HG4:=Zh (HG3.o.go hal);have HT4:=Zh (HT3.o.go hal);have HQ4:=Zh (HQ3.o.go hal);have HB4:=Zh (Zaa HB3.o hal);clear hal;by_cases hth:xth=(S.C.th:Int)
 ·obtain⟨hr0,hr1⟩:=hini hth;rw [HN.o] at hr1;obtain⟨kr,hkr⟩:=Int.eq_ofNat_of_zero_le hr0;subst hkr hth;clear hini;have hkl:kr<L.length:=ω;have hk2:(kr:Int)<(L.length:Int):=ω;obtain⟨q1,cp1,hsv,hq1⟩:=Zi5 HO4.o (show 0<L.length by omega);have hob:s.v.ownBlock=some q1:=by rw [hsv];rfl
  have HNE:=Zh (Zcm HO4.o HG4.o (by decide));rw [hob] at HNE;have HNT:=Zh (Zcm HO4.o HT4.o (by decide));rw [hob] at HNT;have HNQ:=Zh (Zcm HO4.o HQ4.o (by decide));rw [hob] at HNQ;have k13:wr.cell? ⟨W.heap.size,13,none⟩=some (.slice (some ⟨q1,0,none⟩) L.length cp1):=by rw [<- hsv];exact HG3.o.cell 13
  have HTE:=Zh (Zh1 (by rw [hsv] at HO4;exact HO4.o) hkl);have HOB:=Zh hob;have HSV:=Zh hsv;clear hob hsv;by_cases hvl:xvl=[]
  ·subst hvl;have HIS:=Zh (show Zf2 S.C.th L ⟨(S.C.th:Int),(kr:Int),xloc,[],xvn⟩=L.set kr ⟨.num xvn,0⟩ by unfold Zf2;rw [if_pos rfl];rfl)
   go_wp2_with ((with_reducible refine Zas ?_);refine wpList_store_mid rfl _ _ _ rfl q1 (kr*4) #[.int .i64 1,.int .i64 xvn,.string ⟨#[]⟩,.int .u64 0] rfl rfl HTE.o κ κ ?_;refine Hid.o ?_)
   refine Zh ?_;have ho5:=Zgp HO4.o HOB.o hkl ⟨.num xvn,0⟩;simp only [Zax,Zb6,Zb5,Nat.zero_shiftLeft] at ho5;have HO5:Hid ((Zdj S.C.ahead).Own 87 w.heap.size (World.setCells (wr.alloc (.cells #[.int .i64 (S.C.th:Int),.int .i64 (kr:Int),.string ⟨xloc.toArray⟩,.string ⟨([]:List UInt8).toArray⟩,.int .i64 xvn] 62 (0,0))) q1 (kr*4) [.int .i64 1,.int .i64 xvn,.string ⟨#[]⟩,.int .u64 0]) s.v (L.set kr ⟨.num xvn,0⟩)):=Zh ho5;have HG5:=Zh (Zbc HG4.o (fun e=>HNE.o (by rw [e])) [.int .i64 1,.int .i64 xvn,.string ⟨#[]⟩,.int .u64 0] (kr*4));have HT5:=Zh (Zbc HT4.o (fun e=>HNT.o (by rw [e])) [.int .i64 1,.int .i64 xvn,.string ⟨#[]⟩,.int .u64 0] (kr*4));have HQ5:=Zh (Zbc HQ4.o (fun e=>HNQ.o (by rw [e])) [.int .i64 1,.int .i64 xvn,.string ⟨#[]⟩,.int .u64 0] (kr*4));have HB5:=Zh (Zau HB4.o hq1 [.int .i64 1,.int .i64 xvn,.string ⟨#[]⟩,.int .u64 0] (kr*4));clear ho5 HO4 HG4 HT4 HQ4 HB4 HTE HOB HSV k13 hq1 HNE HNT HNQ;generalize hW5:(World.setCells _ _ _ _:World)=W5 at *;clear hW5
   go_wp2_with fail
   go_roundw
   case rel=>exact⟨i+1,ω,by first | go_num | omega,L.set kr ⟨.num xvn,0⟩,by rw [HNX.o,HIS.o],by rw [List.length_set];exact hlen,HO5.o,HG5.o,HT5.o,HQ5.o,HB5.o⟩
   case measure=>exact msr
  ·have hve:xvl.isEmpty=false:=by simpa using hvl
   have HIS:=Zh (show Zf2 S.C.th L ⟨(S.C.th:Int),(kr:Int),xloc,xvl,xvn⟩=L.set kr ⟨.adr xvl,0⟩ by
    unfold Zf2;rw [if_pos rfl,show Zp7 ⟨(S.C.th:Int),(kr:Int),xloc,xvl,xvn⟩=⟨.adr xvl,0⟩ by unfold Zp7;rw [if_neg hvl]];rfl)
   go_wp2_with ((with_reducible refine Zas ?_);refine wpList_store_mid rfl _ _ _ rfl q1 (kr*4) #[.int .i64 2,.int .i64 0,.string ⟨xvl.toArray⟩,.int .u64 0] rfl rfl HTE.o κ κ ?_;refine Hid.o ?_)
   refine Zh ?_;have ho5:=Zgp HO4.o HOB.o hkl ⟨.adr xvl,0⟩;simp only [Zax,Zb6,Zb5,Nat.zero_shiftLeft] at ho5;have HO5:Hid ((Zdj S.C.ahead).Own 87 w.heap.size (World.setCells (wr.alloc (.cells #[.int .i64 (S.C.th:Int),.int .i64 (kr:Int),.string ⟨xloc.toArray⟩,.string ⟨xvl.toArray⟩,.int .i64 xvn] 62 (0,0))) q1 (kr*4) [.int .i64 2,.int .i64 0,.string ⟨xvl.toArray⟩,.int .u64 0]) s.v (L.set kr ⟨.adr xvl,0⟩)):=Zh ho5;have HG5:=Zh (Zbc HG4.o (fun e=>HNE.o (by rw [e])) [.int .i64 2,.int .i64 0,.string ⟨xvl.toArray⟩,.int .u64 0] (kr*4));have HT5:=Zh (Zbc HT4.o (fun e=>HNT.o (by rw [e])) [.int .i64 2,.int .i64 0,.string ⟨xvl.toArray⟩,.int .u64 0] (kr*4));have HQ5:=Zh (Zbc HQ4.o (fun e=>HNQ.o (by rw [e])) [.int .i64 2,.int .i64 0,.string ⟨xvl.toArray⟩,.int .u64 0] (kr*4));have HB5:=Zh (Zau HB4.o hq1 [.int .i64 2,.int .i64 0,.string ⟨xvl.toArray⟩,.int .u64 0] (kr*4));clear ho5 HO4 HG4 HT4 HQ4 HB4 HTE HOB HSV k13 hq1 HNE HNT HNQ;generalize hW5:(World.setCells _ _ _ _:World)=W5 at *;clear hW5
   go_wp2_with fail
   go_roundw
   case rel=>exact⟨i+1,ω,by first | go_num | omega,L.set kr ⟨.adr xvl,0⟩,by rw [HNX.o,HIS.o],by rw [List.length_set];exact hlen,HO5.o,HG5.o,HT5.o,HQ5.o,HB5.o⟩
   case measure=>exact msr
 ·have HIS:=Zh (show Zf2 S.C.th L ⟨xth,xrg,xloc,xvl,xvn⟩=L from if_neg hth);clear hini
  go_wp2_with fail
  go_roundw
  case rel=>exact⟨i+1,ω,by first | go_num | omega,L,by rw [HNX.o,HIS.o],hlen,HO4.o,HG4.o,HT4.o,HQ4.o,HB4.o⟩
  case measure=>exact msr):G:=h
theorem m_3{G:Prop}(h:G:=by
 have HOA:=Zh hoa;clear hoa
 go_wp2_with fail
 refine (HQB.o w7).mono ?_;rintro e w8 ⟨rfl,hb8⟩;have HR8:=Zh (HR7.o.below hb8);have HB08:=Zh (HB07.o.trans (hb8.mono (Nat.le_trans hbs HB07.o.size)));have HF8:=Zh (HF7.o.trans (FrV.of_below hb8));have a0:=Zac a0 hb8;have b0:=Zac b0 hb8;clear hb8 HR7 HB07 HF7;cases hob:Zby rb.h with
 | true=>
  have HOP:=Zh (show (Zby ra.h||Zby rb.h)=true by rw [HOA.o,hob];rfl);clear hob HOA;have HC8:=Zh (HC0.o.below (HB00.o.trans HB08.o));have hzw:=HB08.o.size;have hs1:((at_:Int)+1)<=(j:Int):=ω;have hs2:(j:Int)<=(c.length:Int):=ω;have hs3:(j:Int)<=(cc:Int):=ω;have hs4:¬ cc=at_+1:=ω;have hs5:at_+1<=j:=ω
  go_wp2_with fail
  obtain⟨m,hm⟩:∃ m,j - (at_+1)=m:=⟨_,rfl⟩;go_loopw [81] (fun v wr=>∃ i:Nat,i<=m/\v=.int .i64 i/\(∀ t z,t<i->c[at_+1+t]?=some z->z.op=12)/\Below (w8).heap.size w8 wr) (fun v _=>m - (intOf v).toNat)
  case atStart=>exact⟨0,Nat.zero_le _,rfl,(fun t z ht=>absurd ht (Nat.not_lt_zero _)),Below.refl _ _⟩
  case round=>
   obtain⟨i,hi,rfl,hno,hbr⟩:=hrel;have HN:=Zh hno;have HBR:=Zh hbr;have hzr:=hbr.size;have HBT:=Zh (HB08.o.trans (hbr.mono (Nat.le_trans hbs hzw)));have HRR:=Zh (HR8.o.below hbr);have HFR:=Zh (HF8.o.trans (FrV.of_below hbr));clear hno hbr;by_cases hlt:i<m
   ·have hjc:at_+1+i<c.length:=ω;obtain⟨z,hz⟩:∃ z,c[at_+1+i]?=some z:=⟨_,List.getElem?_eq_getElem hjc⟩;obtain⟨b',o',e,c0,c1,c2,c3,c4,c5,c6,c7⟩:=(HC8.o.below HBR.o).cells hz;simp only [Option.some.injEq,Addr.mk.injEq,and_true] at e;obtain⟨rfl,rfl⟩:=e;rw [show o+(at_+1+i)*8=o+(at_+1)*8+i*8 by omega] at c0 c1 c2 c3 c4 c5 c6 c7;have hi9:(i:Int)<((j:Int) - ((at_:Int)+1)):=ω;by_cases h12:z.op=12
    ·have HN2:=Zh (show ∀ t y,t<i+1->c[at_+1+t]?=some y->y.op=12 from fun t y ht hy=>by
      by_cases e:t=i
      ·subst e;rw [hz] at hy;cases hy;exact h12
      ·exact HN.o t y ω hy)
     rw [h12] at c0;clear hz h12
     go_wp2_with fail
     go_roundw
     case rel=>exact⟨i+1,ω,by go_num,HN2.o,HBR.o.trans ((Zad _ _).mono hzr)⟩
     case measure=>simp [intOf];omega
    ·have HV:=Zh (show brL r c at_ ⟨op,d,a,b,imm,loc,label,fence⟩=none by
      rw [Zes HGA.o HGB.o HOP.o,HL.o,if_pos];rw [List.any_eq_true];refine⟨z,?_,by simpa using h12⟩;apply List.mem_of_getElem? (i:=i);rw [List.getElem?_drop,List.getElem?_take,if_pos ω];exact hz)
     clear hz
     go_wp2_with fail
     go_ret2
     exact Zdu.no HV.o ⟨_,rfl,HRR.o.below (Zad _ _),HBT.o.trans ((Zad _ _).mono (by have:=HBT.o.size;omega)),HFR.o.trans (FrV.of_below (Zad _ _))⟩
   ·have hie:i=m:=ω;have HV:=Zh (show brL r c at_ ⟨op,d,a,b,imm,loc,label,fence⟩=some ({ r with ctrl:=r.ctrl|||ra.on|||rb.on },at_+1) by
     rw [Zes HGA.o HGB.o HOP.o,HL.o,if_neg];intro h;rw [List.any_eq_true] at h;obtain⟨y,hy,hy2⟩:=h;obtain⟨t,ht⟩:=List.getElem?_of_mem hy;rw [List.getElem?_drop,List.getElem?_take] at ht
     split at ht
     ·have:=HN.o t y ω ht;simp [this] at hy2
     ·cases ht)
    have hi9:¬ (i:Int)<((j:Int) - ((at_:Int)+1)):=ω
    go_wp2_with fail
    go_ret2
    exact Zdu.yes HV.o ⟨_,rfl,HRR.o,HBT.o,HFR.o⟩
 | false=>
  have HOP:=Zh (show (Zby ra.h||Zby rb.h)=false by rw [HOA.o,hob];rfl);clear hob HOA;cases hun:Zan ra.h rb.h with
  | true=>
   have HV:=Zh (show brL r c at_ ⟨op,d,a,b,imm,loc,label,fence⟩=some ({ r with ctrl:=r.ctrl|||ra.on|||rb.on },j) by rw [Zgl HGA.o HGB.o HOP.o,hun,HL.o];rfl);have HUV:=Zh (fun w=>by have:=HUN.o w;rw [hun] at this;exact this);clear hun
   go_wp2_with (go_at_call 112;refine (HUV.o _).mono ?_;rintro e w9 ⟨rfl,rfl⟩)
   go_ret2
   exact Zdu.yes HV.o ⟨_,rfl,HR8.o,HB08.o,HF8.o⟩
  | false=>
   have HV:=Zh (show brL r c at_ ⟨op,d,a,b,imm,loc,label,fence⟩=some ({ r with ctrl:=r.ctrl|||ra.on|||rb.on },at_+1) by rw [Zgl HGA.o HGB.o HOP.o,hun];rfl);have HUV:=Zh (fun w=>by have:=HUN.o w;rw [hun] at this;exact this);clear hun
   go_wp2_with (go_at_call 112;refine (HUV.o _).mono ?_;rintro e w9 ⟨rfl,rfl⟩)
   go_ret2
   exact Zdu.yes HV.o ⟨_,rfl,HR8.o,HB08.o,HF8.o⟩):G:=h
theorem m_4{G:Prop}(h:G:=by
 have e0:=HEB.o.cl 0;have e1:=HEB.o.cl 1;clear c0 c1 c2 c3 c4 c5 k0 k2 HEB HPL HNU HEV;have hwj:=HWJ.o;have hd1:decide (0<i)=true:=decide_eq_true hip;have hd2:decide ((0:Int)<(i:Int))=true:=decide_eq_true hjj;have hd3:decide (xt<yt)=false:=decide_eq_false ω;rcases HNL.o with hnl2 | ⟨rfl,hnl2⟩
 ·refine wz (fun y:World=>y.cell? ⟨w.heap.size,2,none⟩=some (.slice (some ⟨b,o,none⟩) ne ce)/\y.cell? ⟨b,o+j*6,none⟩=some (.int .i64 yt)/\y.cell? ⟨b,o+j*6+1,none⟩=some (.int .i64 yp)/\y.cell? ⟨wr.heap.size,0,none⟩=some (.int .i64 xt)/\y.cell? ⟨wr.heap.size,1,none⟩=some (.int .i64 xp)) [4,9,11,15,20,22] ⟨k2',d0',d1',e0,e1⟩ (fun hHeld=>?_);refine wq 0 ?_;refine wq 1 ?_;refine wq 2 ?_;refine wq 3 ?_;refine wq 5 ?_;refine wq 6 ?_;refine wq 10 ?_;refine wt 4 (by assumption) ?_;refine wq 7 ?_;refine wq 8 ?_;refine wt 9 (by assumption) ?_;refine wt 11 (by assumption) ?_;refine wq 12 ?_;refine wq 13 ?_;refine wq 14 ?_;refine wq 16 ?_;refine wq 17 ?_;refine wq 21 ?_;refine wt 15 (by assumption) ?_;refine wq 18 ?_;refine wq 19 ?_;refine wt 20 (by assumption) ?_;refine wt 22 (by assumption) ?_;refine wq 23 ?_;refine wq 24 ?_;refine ws 25 ?_;refine ws 27 ?_;refine ws 28 ?_;refine ws 32 ?_;refine ws 26 ?_;refine ws 29 ?_;refine ws 30 ?_;refine ws 31 ?_;refine ws 33 ?_;refine ws 34 ?_;refine wq 35 ?_;refine wq 36 ?_;refine wl 37 ?_
  go_wp2_with fail
  go_roundw
  case rel=>exact⟨i+1,ω,by go_num,HB1.o.drew,HKA.o⟩
  case measure=>simp [intOf];omega
 ·have hd4:decide (xp<=yp)=false:=decide_eq_false ω;refine wz (fun y:World=>y.cell? ⟨w.heap.size,2,none⟩=some (.slice (some ⟨b,o,none⟩) ne ce)/\y.cell? ⟨b,o+j*6,none⟩=some (.int .i64 yt)/\y.cell? ⟨b,o+j*6+1,none⟩=some (.int .i64 yp)/\y.cell? ⟨wr.heap.size,0,none⟩=some (.int .i64 yt)/\y.cell? ⟨wr.heap.size,1,none⟩=some (.int .i64 xp)) [4,9,11,15,20,22,26,31,33] ⟨k2',d0',d1',e0,e1⟩ (fun hHeld=>?_);refine wq 0 ?_;refine wq 1 ?_;refine wq 2 ?_;refine wq 3 ?_;refine wq 5 ?_;refine wq 6 ?_;refine wq 10 ?_;refine wt 4 (by assumption) ?_;refine wq 7 ?_;refine wq 8 ?_;refine wt 9 (by assumption) ?_;refine wt 11 (by assumption) ?_;refine wq 12 ?_;refine wq 13 ?_;refine wq 14 ?_;refine wq 16 ?_;refine wq 17 ?_;refine wq 21 ?_;refine wt 15 (by assumption) ?_;refine wq 18 ?_;refine wq 19 ?_;refine wt 20 (by assumption) ?_;refine wt 22 (by assumption) ?_;refine wq 23 ?_;refine wq 24 ?_;refine wq 25 ?_;refine wq 27 ?_;refine wq 28 ?_;refine wq 32 ?_;refine wt 26 (by assumption) ?_;refine wq 29 ?_;refine wq 30 ?_;refine wt 31 (by assumption) ?_;refine wt 33 (by assumption) ?_;refine wq 34 ?_;refine wq 35 ?_;refine wq 36 ?_;refine wl 37 ?_
  go_wp2_with fail
  go_roundw
  case rel=>exact⟨i+1,ω,by go_num,HB1.o.drew,HKA.o⟩
  case measure=>simp [intOf];omega):G:=h
theorem m_5{G:Prop}(h:G:=by
 have HOP:=Zh (show (Zby ra.h||Zby rb.h)=true by rw [hoa];rfl);clear hoa;have HC8:=Zh (HC0.o.below (HB00.o.trans HB07.o));have hzw:=HB07.o.size;have hs1:((at_:Int)+1)<=(j:Int):=ω;have hs2:(j:Int)<=(c.length:Int):=ω;have hs3:(j:Int)<=(cc:Int):=ω;have hs4:¬ cc=at_+1:=ω;have hs5:at_+1<=j:=ω
 go_wp2_with fail
 obtain⟨m,hm⟩:∃ m,j - (at_+1)=m:=⟨_,rfl⟩;go_loopw [81] (fun v wr=>∃ i:Nat,i<=m/\v=.int .i64 i/\(∀ t z,t<i->c[at_+1+t]?=some z->z.op=12)/\Below (w7).heap.size w7 wr) (fun v _=>m - (intOf v).toNat)
 case atStart=>exact⟨0,Nat.zero_le _,rfl,(fun t z ht=>absurd ht (Nat.not_lt_zero _)),Below.refl _ _⟩
 case round=>
  obtain⟨i,hi,rfl,hno,hbr⟩:=hrel;have HN:=Zh hno;have HBR:=Zh hbr;have hzr:=hbr.size;have HBT:=Zh (HB07.o.trans (hbr.mono (Nat.le_trans hbs hzw)));have HRR:=Zh (HR7.o.below hbr);have HFR:=Zh (HF7.o.trans (FrV.of_below hbr));clear hno hbr;by_cases hlt:i<m
  ·have hjc:at_+1+i<c.length:=ω;obtain⟨z,hz⟩:∃ z,c[at_+1+i]?=some z:=⟨_,List.getElem?_eq_getElem hjc⟩;obtain⟨b',o',e,c0,c1,c2,c3,c4,c5,c6,c7⟩:=(HC8.o.below HBR.o).cells hz;simp only [Option.some.injEq,Addr.mk.injEq,and_true] at e;obtain⟨rfl,rfl⟩:=e;rw [show o+(at_+1+i)*8=o+(at_+1)*8+i*8 by omega] at c0 c1 c2 c3 c4 c5 c6 c7;have hi9:(i:Int)<((j:Int) - ((at_:Int)+1)):=ω;by_cases h12:z.op=12
   ·have HN2:=Zh (show ∀ t y,t<i+1->c[at_+1+t]?=some y->y.op=12 from fun t y ht hy=>by
     by_cases e:t=i
     ·subst e;rw [hz] at hy;cases hy;exact h12
     ·exact HN.o t y ω hy)
    rw [h12] at c0;clear hz h12
    go_wp2_with fail
    go_roundw
    case rel=>exact⟨i+1,ω,by go_num,HN2.o,HBR.o.trans ((Zad _ _).mono hzr)⟩
    case measure=>simp [intOf];omega
   ·have HV:=Zh (show brL r c at_ ⟨op,d,a,b,imm,loc,label,fence⟩=none by
     rw [Zes HGA.o HGB.o HOP.o,HL.o,if_pos];rw [List.any_eq_true];refine⟨z,?_,by simpa using h12⟩;apply List.mem_of_getElem? (i:=i);rw [List.getElem?_drop,List.getElem?_take,if_pos ω];exact hz)
    clear hz
    go_wp2_with fail
    go_ret2
    exact Zdu.no HV.o ⟨_,rfl,HRR.o.below (Zad _ _),HBT.o.trans ((Zad _ _).mono (by have:=HBT.o.size;omega)),HFR.o.trans (FrV.of_below (Zad _ _))⟩
  ·have hie:i=m:=ω;have HV:=Zh (show brL r c at_ ⟨op,d,a,b,imm,loc,label,fence⟩=some ({ r with ctrl:=r.ctrl|||ra.on|||rb.on },at_+1) by
    rw [Zes HGA.o HGB.o HOP.o,HL.o,if_neg];intro h;rw [List.any_eq_true] at h;obtain⟨y,hy,hy2⟩:=h;obtain⟨t,ht⟩:=List.getElem?_of_mem hy;rw [List.getElem?_drop,List.getElem?_take] at ht
    split at ht
    ·have:=HN.o t y ω ht;simp [this] at hy2
    ·cases ht)
   have hi9:¬ (i:Int)<((j:Int) - ((at_:Int)+1)):=ω
   go_wp2_with fail
   go_ret2
   exact Zdu.yes HV.o ⟨_,rfl,HRR.o,HBT.o,HFR.o⟩):G:=h
theorem m_6{G:Prop}(h:G:=by
 ·have HE:Hid ((fl=false/\goL S.C c 0 r0=some r1)\/(fl=true/\goL S.C c 0 r0=none/\r1.full=false)):=by
   rcases HGO.o with ⟨h1,_,h2⟩ | h
   ·refine Zh (Or.inl ⟨h1,?_⟩);rw [<- h2];by_cases hk2:k<c.length
    ·exact Zhr (by
      cases h3:r1.full with
      | true=>rfl
      | false=>exact absurd ⟨hk2,h1,h3⟩ hend)
    ·exact Zg7 ω
   ·exact Zh (Or.inr h)
  clear HGO HLK2;by_cases hk2:k<c.length
  ·have hki:(k:Int)<(c.length:Int):=ω;cases fl with
   | true=>
    go_wp2_with (first | ((with_reducible refine Zas ?_);refine Zaw 83 7 G rfl rfl HU.o.blk Tryz.underlying83 rfl κ rfl ?_) | ((with_reducible refine Zas ?_);refine Zap 83 6 72 (w.heap.size+1+1) rfl rfl rfl hz (by exact hzs) κ (Zbg _ _ _ _) rfl rfl ?_))
    refine Zbt 83 6 (w.heap.size+1+1) rfl (hz.row _) Tryz.underlying83 rfl κ rfl rfl ?_;exact Zeg.of HU.o.ret (by have h:=HE.o;first | exact h | simpa using h)
   | false=>
    have hf2:r1.full=true:=by
     cases h3:r1.full with
     | true=>rfl
     | false=>exact absurd ⟨hk2,rfl,h3⟩ hend
    rw [hf2] at k25
    go_wp2_with (first | ((with_reducible refine Zas ?_);refine Zaw 83 7 G rfl rfl HU.o.blk Tryz.underlying83 rfl κ rfl ?_) | ((with_reducible refine Zas ?_);refine Zap 83 6 72 (w.heap.size+1+1) rfl rfl rfl hz (by exact hzs) κ (Zbg _ _ _ _) rfl rfl ?_))
    refine Zbt 83 6 (w.heap.size+1+1) rfl (hz.row _) Tryz.underlying83 rfl κ rfl rfl ?_;exact Zeg.of HU.o.ret (by have h:=HE.o;first | exact h | simpa using h)
  ·have hki:¬ (k:Int)<(c.length:Int):=ω
   go_wp2_with (first | ((with_reducible refine Zas ?_);refine Zaw 83 7 G rfl rfl HU.o.blk Tryz.underlying83 rfl κ rfl ?_) | ((with_reducible refine Zas ?_);refine Zap 83 6 72 (w.heap.size+1+1) rfl rfl rfl hz (by exact hzs) κ (Zbg _ _ _ _) rfl rfl ?_))
   refine Zbt 83 6 (w.heap.size+1+1) rfl (hz.row _) Tryz.underlying83 rfl κ rfl rfl ?_;exact Zeg.of HU.o.ret (by have h:=HE.o;first | exact h | simpa using h)):G:=h
theorem m_7{G:Prop}(h:G:=by
 have HBE:=Zh (Zam HBD.o nq);have HKE:Hid (Blk (w9.drewN nq) w.heap.size 41 #[.slice Al nl cl,.slice Ai ni ci,.slice Ae ne ce,.slice (some ⟨b,o,none⟩) nb cb,.slice Aa na ca,.slice Ad nd cd,.slice Ac nc cc,.slice At nt ct,.slice Ax nx cx]):=Zh HKD.o;have HBBE:Hid (Blk (w9.drewN nq) wk.heap.size 123 #[.int .i64 xt,.int .i64 xp,.int .i64 xf]):=Zh HBBD.o;generalize w9.drewN nq=w8 at *;have e2:w8.cell? ⟨w.heap.size,2,none⟩=some (.slice Ae ne ce):=HKE.o.cell 2;clear HBD HKD HBBD
 go_wp2_with fail
 clear e2;go_loopw [5] (fun v wr=>∃ m:Nat,m<=ne/\v=.int .i64 m/\Below w.heap.size w wr/\Blk wr w.heap.size 41 #[.slice Al nl cl,.slice Ai ni ci,.slice Ae ne ce,.slice (some ⟨b,o,none⟩) nb cb,.slice Aa na ca,.slice Ad nd cd,.slice Ac nc cc,.slice At nt ct,.slice Ax nx cx]/\Blk wr wk.heap.size 123 #[.int .i64 xt,.int .i64 xp,.int .i64 xf]) (fun v _=>ne - (intOf v).toNat)
 case atStart=>exact⟨0,Nat.zero_le _,rfl,HBE.o,HKE.o,HBBE.o⟩
 case round=>
  obtain⟨m,hm,rfl,hb,ht,hbb⟩:=hrel;have HB2:=Zh hb;have HK2:=Zh ht;have HBB2:=Zh hbb;have f0:=hbb.cl 0;have f1:=hbb.cl 1;have f2:wr.cell? ⟨w.heap.size,2,none⟩=some (.slice Ae ne ce):=ht.cell 2;have hmm:(0:Int)<=(m:Int):=ω;clear hb ht hbb HBE HKE HBBE;by_cases hlm:m<ne
  ·have hml:(m:Int)<(ne:Int):=ω;obtain⟨x,hx⟩:∃ x,L.a.evs[m]?=some x:=⟨_,List.getElem?_eq_getElem (by rw [<- hn3.o];exact hlm)⟩;obtain⟨be,oe,eA,c0,c1,-⟩:=Zc6 (HT.o.ev.below HB2.o) hx;simp only at eA;subst eA;have hne:=HNE.o x (List.mem_of_getElem? hx);obtain⟨qt,qp,qd,ql,qv,qr⟩:=x;simp only at c0 c1 hne;have HOR:Hid ((qt == xt)=false\/((qt == xt)=true/\(qp == xp)=false)):=Zh (by by_cases h:qt=xt <;> simp_all);clear hx hne
   go_wp2_with fail
   rcases HOR.o with hq | ⟨hq,hp⟩ <;>
   (go_quiet (fail)
    go_wp2_with fail
    go_roundw
    case rel=>exact⟨m+1,ω,by go_num,Zam HB2.o _,HK2.o,HBB2.o⟩
    case measure=>simp [intOf];omega)
  ·have hml:¬ (m:Int)<(ne:Int):=ω;clear f0 f1
   go_wp2_with fail
   go_roundw
   case rel=>exact⟨i+1,ω,by go_num,HB2.o,HK2.o⟩
   case measure=>simp [intOf];omega):G:=h
theorem m_8{G:Prop}(h:G:=by
 have HTH:=Zh (Zdg wr (.cells #[.int .i64 x.th,.int .i64 x.rg,.string ⟨x.loc.toArray⟩,.string ⟨x.vl.toArray⟩,.int .i64 x.vn] 62 (0,0)) 25 #[.int .i64 x.th,.int .i64 x.rg,.string ⟨x.loc.toArray⟩]);have HP:=Zh (Zfo.put (S:=T.init.take k) (v:=(k:Int)+1) HOK.o ω HD.o HAT.o)
 go_wp2_with (first | (at_lookup;refine wpList_lookup_own_int _ rfl _ _ 150 rfl 25 3 .i64 Zdl Tryz.underlying150 Tryz.underlying3 (Zc0 _) (w.heap.size+1) cnt D rfl HOW2.o _ (klT (Zea x)) rfl HKW.o ?_;intro cv hcv hwc;rw [HAX.o.1] at hcv;simp only [DataW.lit.injEq,Lit.int.injEq,true_and] at hcv;subst hcv;clear hwc) | (go_at_call 96;refine (HFST.o _).mono ?_;rw [HFB.o];rintro e w2 ⟨rfl,hb2⟩;have HB2:=Zh hb2;clear hb2;have HOW3:=Zh (Zi6 HOW2.o HB2.o);have hz2:=(Zaa HB1.o HB2.o).size;have g0:=(HTH.o.go HB2.o).cell 0;have g1:=(HTH.o.go HB2.o).cell 1;have g2:=(HTH.o.go HB2.o).cell 2) | (at_mapUpdate;refine wpList_mapUpdate_own _ rfl _ _ _ 150 rfl 25 3 Zdl Tryz.underlying150 (plainElem Tryz.prog 3) (w.heap.size+1) cnt D rfl HOW3.o (by unfold maxLen;omega) _ _ (klT (Zea x)) rfl rfl HKW.o (.lit (.int .i64 ((k:Int)+1))) [] (plainElem_int Tryz.underlying3 (WalkArith.wf_i64 ω)) ?_;intro w1 hown1 hgrow1;have HO1:=Zh hown1;have HG1:=Zh hgrow1;clear hown1 hgrow1))
 go_roundw
 case rel=>exact⟨k+1,cnt+1,ω,by go_num,ω,(fun j hj=>by (rcases Nat.lt_succ_iff_lt_or_eq.1 hj with h | h);exact HNO.o j h;rw [h];exact HGOOD.o),⟨_,HO1.o,HP.o.1,by rw [Zi9 HX.o];exact HP.o.2⟩,(HBR.o.trans ((Zaa HB1.o HB2.o).mono ω)).grown HG1.o (by have:=hz2;omega) (fun j hj=>by cases hj;exact Nat.le_refl _)⟩
 case measure=>exact msr):G:=h
theorem m_9{G:Prop}(h:G:=by
 obtain⟨k',t',r',l',v',kids',rest',hdr⟩:=kids.drop_lt j hlt;have hrow':=Zc4.keep (w':=wr) (fun b o hb=>HBR.o.cell (p:=⟨b,o,none⟩) (show b<bl by omega)) kids b o hb hrow;have hat:=Zc4.at_ kids b o j hrow';rw [hdr] at hat;obtain⟨kv',q0,q1,q2,q3,q4,q5,hl',hsl'⟩:=hat.head;obtain⟨A',cap',rfl,hsl''⟩:=hsl';have hsl3:Zec wr hi (.slice A' kids'.len cap') kids':=⟨A',cap',rfl,hsl''⟩;have HSL:=Zh (hsl3.keep (w':=wr.alloc (.cells #[.int .i64 k',.int .i64 t',.int .i64 r',.string ⟨l'.toArray⟩,.int .i64 v',.slice A' kids'.len cap'] 28 (0,0))) (fun b o hb=>(Zad wr _).cell (p:=⟨b,o,none⟩) (show b<wr.heap.size by omega)));have HC:=Zh (Z0o.at_ kids j HK.o hdr);have HNX:=Zh (kids.drop_next j hdr);have hall:(kids.drop j).all=1+kids'.all+rest'.all:=by rw [hdr];rfl
 have HAF:=Zh (show Za1 (kids.drop j)=atL k' t' r' l'++Za1 kids'++Za1 rest' by rw [hdr];rfl);have hat1:(atL k' t' r' l').length<=1:=by unfold atL;split <;> simp
 have haf1:=Zdb kids';have HAC2:=Zh (HAC.o.below (Zad wr (.cells #[.int .i64 k',.int .i64 t',.int .i64 r',.string ⟨l'.toArray⟩,.int .i64 v',.slice A' kids'.len cap'] 28 (0,0))));have HBR2:=Zh (HBR.o.trans ((Zad wr (.cells #[.int .i64 k',.int .i64 t',.int .i64 r',.string ⟨l'.toArray⟩,.int .i64 v',.slice A' kids'.len cap'] 28 (0,0))).mono (Nat.le_of_lt hltr)))
 go_wp2_with (go_at_call 102;refine (HC.o _ bl hi _ M hhi HAC2.o HSL.o hl' ω).mono ?_;rintro e w2 ⟨rfl,ha2,hb2⟩)
 go_roundw
 case rel=>exact⟨j+1,_,ω,by go_num,ha2,by rw [HNX.o,<- HMM.o,HAF.o];simp,by have:=HML.o;rw [HNX.o];simp only [List.length_append] at this ⊢;omega,HBR2.o.trans hb2⟩
 case measure=>exact msr):G:=h
theorem m_10{G:Prop}(h:G:=by
 refine Zh ?_;refine Enc.appW (Zyv S.C.ahead) _ rfl (.tmp 17) (.tmp 19) rfl r.regs W.heap.size [] (.slice none 0 0) q0 0 cp rfl rfl HAT.o (Enc.Own.nil _ _ _) (by simp;omega) (by simp;omega) (Nat.le_refl _) ?_;intro v' w1 ho1 hg1;rw [List.nil_append] at ho1;obtain⟨q1,cp1,rfl,hq1⟩:=Zi5 ho1 (show 0<r.regs.length by omega);have HT:=Zh (Zh1 ho1 hd);have HE1:=Zh (HE.o.go hg1.below);obtain⟨e0,e1,e2,e3⟩:=HE1.o.c4;have HO1:=Zh ho1;have HG1:=Zh hg1;clear ho1 hg1 k0 k13
 repeat (first | (refine wpList_store_mid rfl _ _ _ rfl q1 (d*4) #[.int .i64 (Zax x.h),.int .i64 (Zb6 S.C.ahead x.h),.string ⟨(Zb5 x.h).toArray⟩,.int .u64 ((x.on<<<S.C.ahead:Nat):Int)] rfl rfl HT.o κ (all_oneCell_toArray (cs:=(Zdj S.C.ahead).enc x) ((Zdj S.C.ahead).one x)) ?_;refine Hid.o ?_) | go_step)
 refine Zh ?_;have hw2:=Zau HG1.o.below hq1 [.int .i64 (Zax x.h),.int .i64 (Zb6 S.C.ahead x.h),.string ⟨(Zb5 x.h).toArray⟩,.int .u64 ((x.on<<<S.C.ahead:Nat):Int)] (d*4);have ho2:=Zgp HO1.o rfl hd x;have HU2:=Zh (HU.o.below hw2);have HU3:=Zh (HU2.o.regs (s:=⟨some ⟨q1,0,none⟩,r.regs.length,cp1⟩) (Zee ho2 (Nat.le_trans HU.o.hB HU.o.keep.size)));generalize hW2:(World.setCells _ _ _ _:World)=W2 at *;clear hW2 hw2 ho2 HO1 HG1 HT HE1 e0 e1 e2 e3 HU;have k13:W2.cell? ⟨w.heap.size,13,none⟩=some V.rg.v:=HU2.o.blk.cell 13;have f13:=HU2.o.blk.frozen 13
 repeat (first | ((with_reducible refine Zfw ?_);refine Zcg Tryz.f125 3 6 27 rfl rfl rfl rfl rfl rfl rfl HU3.o rfl rfl (by decide) (of_decide_eq_true rfl) rfl (fun _ _ h=>h)) | go_step)):G:=h
theorem m_11{G:Prop}(h:G:=by
 have hii:(0:Int)<=(i:Int):=ω;have k13:wr.cell? ⟨W.heap.size,13,none⟩=some s.v:=HG2.o.cell 13;have hal:=Zad wr (.cells #[.int .i64 1,.int .i64 0,.string ⟨#[]⟩,.int .u64 0] 87 (0,0));have HPA:=Zh (Zvk S.C.ahead wr);have HO3:=Zh (HO.o.below hal);have HG3:=Zh (HG2.o.go hal);have HT3:=Zh (HT2.o.go hal);have HQ3:=Zh (HQ2.o.go hal);have HB3:=Zh (Zaa HB2.o hal);clear hal
 go_wp2_with (at_builtin;refine Enc.appW (Zyv S.C.ahead) _ rfl (.tmp 25) (.tmp 27) rfl [⟨.num 0,0⟩] w.heap.size (List.replicate i ⟨.num 0,0⟩) _ wr.heap.size 0 1 rfl rfl HPA.o HO3.o (by simp;omega) (by simp;omega) HB3.o.size ?_;intro v' w3 hown3 hg3;obtain⟨s3,rfl,hs3⟩:=Zd7 hown3;clear hs3;have HO4:=Zh hown3;have HGR:=Zh hg3;have HG4:=Zh (Zat HG3.o HO3.o (by decide) hg3);have HT4:=Zh (Zat HT3.o HO3.o (by decide) hg3);have HQ4:=Zh (Zat HQ3.o HO3.o (by decide) hg3);clear hown3 hg3;have k13:w3.cell? ⟨W.heap.size,13,none⟩=some s.v:=HG4.o.cell 13;have f13:=HG4.o.frozen 13)
 go_roundw
 case rel=>exact⟨i+1,ω,by first | go_num | omega,s3,Zaf (by rw [List.replicate_succ'];exact HO4.o) HG4.o (by decide) _ _,HG4.o.set_ 13 _,HT4.o.far (p:=⟨W.heap.size,13,none⟩) (show w.heap.size≠W.heap.size by omega) _,HQ4.o.far (p:=⟨W.heap.size,13,none⟩) (show w.heap.size+1+1≠W.heap.size by omega) _,((HB3.o.trans HGR.o.below).setCell (p:=⟨W.heap.size,13,none⟩) (show w.heap.size<=W.heap.size by omega) _)⟩
 case measure=>exact msr):G:=h
theorem m_12{G:Prop}(h:G:=by
 clear hrt h2;refine wz (fun y:World=>y.cell? ⟨R,0,none⟩=some (.int .i64 (ne:Int))/\y.cell? ⟨R,1,none⟩=some (.slice (some ⟨q,0,none⟩) ne ne)/\y.cell? ⟨O3,2,none⟩=some (.slice (some ⟨b,o,none⟩) ne ce)/\y.cell? ⟨b,o+i*6,none⟩=some (.int .i64 xt)/\y.cell? ⟨b,o+j*6,none⟩=some (.int .i64 yt)) [0,3,9,11,12,13,15,17,18,19] (HSS.o _ (Below.refl _ _).drew) (fun hHeld=>?_);refine wq 1 ?_;refine wq 2 ?_;refine wq 4 ?_;refine wq 5 ?_;refine wq 6 ?_;refine wt 0 (by assumption) ?_;refine Zar (i:=3) κ rfl (fun K hK=>?_);go_simp
 go_at_call 10
 refine (HHS2.o _ HB2.o.drew).mono ?_;rintro e w9 ⟨rfl,hb9⟩;have HB9:=Zh (Zaa HB2.o (Zag hb9));have hS2:=HSS.o w9 (Zag hb9);refine hK.o _ _ hS2 ?_;clear hK K hb9;refine pu ?_;refine wq 7 ?_;refine wq 8 ?_;refine wq 10 ?_;refine wq 14 ?_;refine wq 16 ?_;refine wt 9 (by assumption) ?_;refine wt 15 (by assumption) ?_;refine wt 11 (by assumption) ?_;refine wt 17 (by assumption) ?_;refine wt 12 (by assumption) ?_;refine wt 18 (by assumption) ?_;refine wt 13 (by assumption) ?_;refine wt 19 (by assumption) ?_;refine wq 20 ?_;refine wq 21 ?_;refine wl 22 ?_;clear hHeld hS2
 go_wp2_with fail
 go_roundw
 case rel=>exact⟨j+1,ω,by go_num,HB9.o⟩
 case measure=>simp [intOf];omega):G:=h
theorem m_13{G:Prop}(h:G:=by
 have HK:=Zh hk;clear hk;cases q with
 | false=>
  go_enter Tryz.func121,Tryz.ntmps121
  go_wp2_with (first | (go_at_call 163;refine (Zer _ _).mono ?_;rintro e w' ⟨rfl,rfl⟩) | (go_at_call 162;refine (Zlr _ _ hs).mono ?_;rw [HK.o];rintro e w' ⟨rfl,rfl⟩))
  go_ret;refine⟨Zai (by simp [Zb7,Zb4, *]),?_⟩
  repeat (first | exact Below.refl _ _ | refine Zab ?_ _)
 | true=>
  obtain hd | hd:=Zbs d <;> obtain ha | ha:=Zbs a <;> obtain hb | hb:=Zbs b
  all_goals
   go_enter Tryz.func121,Tryz.ntmps121
   go_wp2_with (first | (go_at_call 163;refine (Zer _ _).mono ?_;rintro e w' ⟨rfl,rfl⟩) | (go_at_call 162;refine (Zlr _ _ hs).mono ?_;rw [HK.o];rintro e w' ⟨rfl,rfl⟩))
   go_ret;refine⟨Zai (by simp [Zb7,Zb4, *]),?_⟩
   repeat (first | exact Below.refl _ _ | refine Zab ?_ _)):G:=h
theorem m_14{G:Prop}(h:G:=by
 ·have hie:i=S.T.init.length:=ω;subst hie;have HU:Hid (Zbz w wr B W.heap.size (w.heap.size+1+1) S (rn0 S.C.risc S.T.init S.C.th) false { V with rg:=s }):=Zh ⟨by
   have e:(rn0 S.C.risc S.T.init S.C.th)={ rnE with regs:=L }:=by
    unfold rn0 Zx1;rw [HN.o,HL.o,List.take_length]
   rw [e];exact (HR.o.below HB3.o).rgG (Zee HO3.o HR.o.hB),Zba.of_below HB3.o HR.o.hB,HR.o.hB,HG3.o,⟨_,HQ3.o,rfl⟩,ω,ω,ω⟩
  obtain⟨z,hz,hzs⟩:=HU.o.o;clear HL HO3 HG3 HT3 HQ3 HB3
  go_wp2_with (first | ((with_reducible refine Zas ?_);refine Zaw 83 7 W.heap.size rfl rfl HU.o.blk Tryz.underlying83 rfl κ rfl ?_) | ((with_reducible refine Zas ?_);refine Zap 83 6 74 (w.heap.size+1+1) rfl rfl rfl hz (by exact hzs) κ (Zbg _ _ _ _) rfl rfl ?_))
  refine Zbt 83 6 (w.heap.size+1+1) rfl (hz.row _) Tryz.underlying83 rfl κ rfl rfl ?_;exact HU.o.ret):G:=h
theorem m_15{G:Prop}(h:G:=by
 obtain⟨x,hx⟩:∃ x,L.a.evs[m]?=some x:=⟨_,List.getElem?_eq_getElem (by rw [<- hn3.o];exact hlm)⟩;obtain⟨be,oe,eA,c0,c1,c2,c3,c4,c5⟩:=Zc6 (HT.o.ev.below HB2.o) hx;simp only at eA;subst eA;have hne:=HNE.o x (List.mem_of_getElem? hx);obtain⟨qt,qp,qd,ql,qv,qr⟩:=x;simp only at c0 c1 c2 c3 c4 c5 hne;have HB3:=Zh (Zab HB2.o (.cells #[.int .i64 qt,.int .i64 qp,.int .i64 qd,.int .i64 ql,.int .i64 qv,.int .i64 qr] 54 (0,0)));clear hx;by_cases hqt:qt=xt
 ·have hqp:(qp == xp)=false:=by simpa using hne hqt
  subst hqt;clear hne
  go_wp2_with fail
  go_roundw
  case rel=>exact⟨m+1,ω,by go_num,HB3.o,Blk.alloc HK2.o _,Blk.alloc HBB2.o _⟩
  case measure=>simp [intOf];omega
 ·have hqf:(qt == xt)=false:=by simpa using hqt
  clear hne
  go_wp2_with fail
  go_roundw
  case rel=>exact⟨m+1,ω,by go_num,HB3.o,Blk.alloc HK2.o _,Blk.alloc HBB2.o _⟩
  case measure=>simp [intOf];omega):G:=h
theorem m_16{G:Prop}(h:G:=by
 go_enter Tryz.func94,Tryz.ntmps94
 go_wp2_with fail
 refine (HF.o _).mono ?_;rintro e w2 ⟨rfl,hb2⟩;have HB:=Zh (((Blk.new w 118 #[.int .i64 op,.int .i64 d,.int .i64 a,.int .i64 b,.int .i64 imm,.string loc,.string label,.int .i64 fence]).go hb2).alloc (.cells #[.int .i64 op,.int .i64 d',.int .i64 a',.int .i64 b',.int .i64 imm',.string loc',.string label',.int .i64 fence'] 118 (0,0)));obtain⟨c0,c1,c2,c3,c4,c5,c6,c7⟩:=HB.o.c8;have HX:=Zh (Zab (Zaa (Zad w _) hb2) (.cells #[.int .i64 op,.int .i64 d',.int .i64 a',.int .i64 b',.int .i64 imm',.string loc',.string label',.int .i64 fence'] 118 (0,0)))
 go_wp2_with (go_at_call 139;refine (Z7f _ _).mono ?_;rintro e w' ⟨rfl,rfl⟩)
 go_ret;exact⟨Zai (by simp [Zb7,Zb4, *]),HX.o⟩):G:=h
theorem m_17{G:Prop}(h:G:=by
 have HV:=Zh (show Zak 1 n ⟨-1,rg,loc,vl,vn⟩=false by clear HNL HK2 HE2 HB2X HMAY;cases hvb:vl.isEmpty <;> first | (simp_all [Zak];done) | (simp_all [Zak] <;> omega));rw [HV.o]
 try (have Xr:=Zh hr;clear hr)
 try (have Xv:=Zh hv;clear hv)
 try (have Xl:=Zh hl;clear hl)
 go_enter Tryz.func116,Tryz.ntmps116
 go_wp2_with fail
 refine (HMAY.o _).mono ?_;rw [HMB.o];rintro e w2 ⟨rfl,hb2⟩;have HB2:=Zh (Zaa HB2X.o hb2);have k0:=(HK2.o.go hb2).cell 0;have k4:=(HK2.o.go hb2).cell 4;obtain⟨e0,e1,e2,e3⟩:=(HE2.o.go hb2).c4
 try have hr:=Xr.o
 try have hv:=Xv.o
 try have hl:=Xl.o
 go_wp2_with (go_at_call 83;refine (HNL.o _).mono ?_;(try rw [HNB.o]);rintro e w' ⟨rfl,rfl⟩)
 go_ret;exact⟨by first | rfl | exact Zae (by simp [hm]),HB2.o⟩):G:=h
theorem m_18{G:Prop}(h:G:=by
 have HV:=Zh (show Zak 2 n ⟨-1,rg,loc,vl,vn⟩=false by clear HNL HK2 HE2 HB2X HMAY;cases hvb:vl.isEmpty <;> first | (simp_all [Zak];done) | (simp_all [Zak] <;> omega));rw [HV.o]
 try (have Xr:=Zh hr;clear hr)
 try (have Xv:=Zh hv;clear hv)
 try (have Xl:=Zh hl;clear hl)
 go_enter Tryz.func116,Tryz.ntmps116
 go_wp2_with fail
 refine (HMAY.o _).mono ?_;rw [HMB.o];rintro e w2 ⟨rfl,hb2⟩;have HB2:=Zh (Zaa HB2X.o hb2);have k0:=(HK2.o.go hb2).cell 0;have k4:=(HK2.o.go hb2).cell 4;obtain⟨e0,e1,e2,e3⟩:=(HE2.o.go hb2).c4
 try have hr:=Xr.o
 try have hv:=Xv.o
 try have hl:=Xl.o
 go_wp2_with (go_at_call 83;refine (HNL.o _).mono ?_;(try rw [HNB.o]);rintro e w' ⟨rfl,rfl⟩)
 go_ret;exact⟨by first | rfl | exact Zae (by simp [hm]),HB2.o⟩):G:=h
theorem m_19{G:Prop}(h:G:=by
 have HRB8:=Zh HE10.o.nil;have HYN:=Zh (show Y=none by have:=HEI.o;rw [HST.o] at this;rw [<- this];rfl);have HXE:=Zh (Ze0 HGO.o HDC.o (Zih HF.o HGL.o HFL.o (HY.o.trans HYN.o)));have r0:=HRB8.o.cell 0;have r1:=HRB8.o.cell 1;have r2:=HRB8.o.cell 2;have r3:=HRB8.o.cell 3;have r4:=HRB8.o.cell 4;have r5:=HRB8.o.cell 5;have r6:=HRB8.o.cell 6;have r7:=HRB8.o.cell 7;have r8':=HRB8.o.cell 8;have fr:=HRB8.o.frozen
 go_wp2_with fail
 refine bodyPost_ret (v:=.tuple #[.agg #[.slice none 0 0,.slice none 0 0,.slice none 0 0,.slice none 0 0,.slice none 0 0,.slice none 0 0,.slice none 0 0,.slice none 0 0,.slice none 0 0],.int .i64 150,.int .i64 (k:Int)]) (by simp [results,Tryz.results4,go_sem, *]) rfl ?_;refine⟨?_,?_⟩
 ·rw [HTR.o,HXE.o];rfl
 ·exact (Zfv (HE12.o.bel) (Nat.le_succ _) _ _ _ _ _ _ _ _ _)):G:=h
theorem m_20{G:Prop}(h:G:=by
 obtain⟨k,hk,rfl,hall⟩:=hrel;have H:=Zh hall;by_cases hlt:k<s.size
 ·go_wp2
  all_goals first
   | (go_ret
      have hb:Zje s k hlt=false:=by
       cases hb:Zje s k hlt with
       | false=>rfl
       | true=>
        exfalso;simp [Zje,Zbl,Za3,Zb0] at hb;simp at *;omega
      exact⟨Zae (Zi3 k hlt hb).symm,rfl⟩)
   | (have hb:Zje s k hlt=true:=by
       cases hb:Zje s k hlt with
       | true=>rfl
       | false=>
        exfalso;simp [Zje,Zbl,Za3,Zb0] at hb;simp at *;omega
      go_round
      case rel=>exact⟨k+1,ω,by go_num,fun j hj h=>by
       by_cases e:j<k
       ·exact H.o j hj e
       ·obtain rfl:j=k:=ω;exact hb⟩
      case measure=>exact msr)
 ·go_wp2;go_ret;exact⟨Zae (Zg9 ω ω (fun i hi=>H.o i hi ω)).symm,rfl⟩):G:=h
theorem m_21{G:Prop}(h:G:=by
 rw [f1,f2,Bool.and_self];cases q with
 | false=>
  go_enter Tryz.func121,Tryz.ntmps121
  go_wp2_with (first | (go_at_call 163;refine (Zer _ _).mono ?_;rintro e w' ⟨rfl,rfl⟩))
  go_ret;refine⟨Zai (by simp [Zb7,Zb4, *]),?_⟩
  repeat (first | exact Below.refl _ _ | refine Zab ?_ _)
 | true=>
  obtain hd | hd:=Zbs d <;> obtain ha | ha:=Zbs a <;> obtain hb | hb:=Zbs b
  all_goals
   go_enter Tryz.func121,Tryz.ntmps121
   go_wp2_with (first | (go_at_call 163;refine (Zer _ _).mono ?_;rintro e w' ⟨rfl,rfl⟩))
   go_ret;refine⟨Zai (by simp [Zb7,Zb4, *]),?_⟩
   repeat (first | exact Below.refl _ _ | refine Zab ?_ _)):G:=h
theorem m_22{G:Prop}(h:G:=by
 have r0:=HRR.o.cell 0;have r1:=HRR.o.cell 1;have r2:=HRR.o.cell 2;have r3:=HRR.o.cell 3;have r4:=HRR.o.cell 4;have r5:=HRR.o.cell 5;have r6:=HRR.o.cell 6;have r7:=HRR.o.cell 7;have r8':=HRR.o.cell 8;have fr:=HRR.o.frozen
 go_wp2_with fail
 refine bodyPost_ret (v:=.tuple #[.agg #[.slice none 0 0,.slice none 0 0,.slice none 0 0,.slice none 0 0,.slice none 0 0,.slice none 0 0,.slice none 0 0,.slice none 0 0,.slice none 0 0],.int .i64 150,.int .i64 (k:Int)]) (by simp [results,Tryz.results5,go_sem, *]) rfl ?_;exact OfR.bad HTX.o (Zfv (HES.o.bel) (Nat.le_succ _) _ _ _ _ _ _ _ _ _)):G:=h
theorem m_23{G:Prop}(h:G:=by
 go_wp2_with (first | (at_lookup;refine wpList_lookup_own_int _ rfl _ _ 150 rfl 25 3 .i64 Zdl Tryz.underlying150 Tryz.underlying3 (Zc0 _) (w.heap.size+1) cnt D rfl HOW2.o _ (klT (Zea x)) rfl HKW.o ?_;intro cv hcv hwc;rw [HAX.o.1] at hcv;simp only [DataW.lit.injEq,Lit.int.injEq,true_and] at hcv;subst hcv;clear hwc) | (go_at_call 96;refine (HFST.o _).mono ?_;rw [HFB.o];rintro e w2 ⟨rfl,hb2⟩;have HB2:=Zh hb2;clear hb2))
 go_ret;exact⟨Zai HBAD.o.symm,Zaa HBWR.o (Zaa HB1.o HB2.o)⟩):G:=h
theorem m_24{G:Prop}(h:G:=by
 have ex:=List.getElem?_eq_getElem hlk;obtain⟨x,hx⟩:∃ x,T.code[k]=x:=⟨_,rfl⟩;rw [hx] at ex;obtain⟨b,o,A2,c2,rfl,hc0,hA2,hl1,hl2⟩:=HC.o.at_ ex;have HX:=Zh ex;have hkn:(k:Int)<(n:Int):=ω;by_cases hl:256<x.length
 ·have HV:=Zh (Zfb (a:=1) HX.o hl)
  go_wp2_with fail
  go_ret;exact⟨Zai HV.o.symm,HB0.o⟩
 ·go_wp2_with fail
  go_round
  case rel=>exact⟨k+1,ω,by go_num,fun j c hj hc=>by (rcases Nat.lt_succ_iff_lt_or_eq.1 hj with h | h);exact HNO.o j c h hc;rw [h,HX.o] at hc;cases hc;omega⟩
  case measure=>exact msr):G:=h
theorem m_25{G:Prop}(h:G:=by
 have ex:=List.getElem?_eq_getElem hlk;obtain⟨x,hx⟩:∃ x,T.code[k]=x:=⟨_,rfl⟩;rw [hx] at ex;obtain⟨b,o,A2,c2,rfl,hc0,hA2,hl1,hl2⟩:=HC.o.at_ ex;have HX:=Zh ex;have hkn:(k:Int)<(n:Int):=ω;by_cases hl:256<x.length
 ·have HV:=Zh (Zfb (a:=2) HX.o hl)
  go_wp2_with fail
  go_ret;exact⟨Zai HV.o.symm,HB0.o⟩
 ·go_wp2_with fail
  go_round
  case rel=>exact⟨k+1,ω,by go_num,fun j c hj hc=>by (rcases Nat.lt_succ_iff_lt_or_eq.1 hj with h | h);exact HNO.o j c h hc;rw [h,HX.o] at hc;cases hc;omega⟩
  case measure=>exact msr):G:=h
theorem m_26{G:Prop}(h:G:=by
 rw [HV.o];go_enter Tryz.func96,Tryz.ntmps96
 go_wp2_with (first
  | (go_at_call 142;(first | with_reducible refine (HNL.o _).mono ?_ | with_reducible refine (HNV.o _).mono ?_);(try rw [HNB.o]);rintro e w' ⟨rfl,rfl⟩)
  | (go_at_call 143;refine (Zhh _ _).mono ?_;(try rw [HMB.o]);rintro e w' ⟨rfl,rfl⟩))
 go_ret;exact⟨by first | rfl | exact Zae (by simp [hth,h0,h1,hl,h2,h3,hv,hn,hz]),Zao _ _ _⟩):G:=h
theorem m_27{G:Prop}(h:G:=by
 rw [HV.o];go_enter Tryz.func96,Tryz.ntmps96
 go_wp2_with (first
  | (go_at_call 142;(first | with_reducible refine (HNL.o _).mono ?_ | with_reducible refine (HNV.o _).mono ?_);(try rw [HNB.o]);rintro e w' ⟨rfl,rfl⟩)
  | (go_at_call 143;refine (Zhh _ _).mono ?_;(try rw [HMB.o]);rintro e w' ⟨rfl,rfl⟩))
 go_ret;exact⟨by first | rfl | exact Zae (by simp [hth,h0,h1,hl,h2,h3,hv,hm]),Zao _ _ _⟩):G:=h
theorem m_28{G:Prop}(h:G:=by
 rw [HV.o];go_enter Tryz.func96,Tryz.ntmps96
 go_wp2_with (first
  | (go_at_call 142;(first | with_reducible refine (HNL.o _).mono ?_ | with_reducible refine (HNV.o _).mono ?_);(try rw [HNB.o]);rintro e w' ⟨rfl,rfl⟩)
  | (go_at_call 143;refine (Zhh _ _).mono ?_;(try rw [HMB.o]);rintro e w' ⟨rfl,rfl⟩))
 go_ret;exact⟨by first | rfl | exact Zae (by simp [hth,h0,h1,hl,h2,h3,hv,hn]),Zao _ _ _⟩):G:=h
theorem m_29{G:Prop}(h:G:=by
 rw [f1,f2];go_enter Tryz.func138,Tryz.ntmps138
 go_wp2_with fail
 go_region
 go_wp2_with fail
 go_region
 go_wp2_with fail
 refine Zdr rfl (b:=w.heap.size+1) (by first | exact (Zdg w _ _ _).alloc _ | exact ((Zdg w _ _ _).alloc _).drew) rfl rfl rfl ?_;exact⟨rfl,by first | exact (Zab (Zab (Zad w _) _) _) | exact (Zab (Zab (Zad w _) _) _).drew | exact (Zab (Zab (Zad w _) _) _).drew.drew | exact (Zab (Zab (Zad w _) _) _).drew.drew.drew⟩):G:=h
theorem m_30{G:Prop}(h:G:=by
 have HNS:=Zh (show Zdk k f r8 (i+1) ((Za5 T).drop (i+1)) (m.set i (p1,p2))=Y by have:=HEI.o;rw [HST.o] at this;exact this)
 go_wp2_with fail
 go_roundw
 case rel=>first | exact⟨i+1,m.set i (p1,p2),ω,by go_num,HNS.o,by simp [hml],HE12.o⟩ | exact⟨u3,u4,.int .i64 (i:Int),.pointer (some ⟨wr.heap.size,0,none⟩),.bool true,.int .i64 ((i:Int)+1),⟨i+1,ω,by go_num,m.set i (p1,p2),HNS.o,by simp [hml],HE12.o⟩,rfl,rfl,rfl,rfl,rfl,rfl⟩
 case measure=>simp [intOf];omega):G:=h
theorem m_31{G:Prop}(h:G:=by
 rw [HV.o];go_enter Tryz.func96,Tryz.ntmps96
 go_wp2_with (first
  | (go_at_call 142;(first | with_reducible refine (HNL.o _).mono ?_ | with_reducible refine (HNV.o _).mono ?_);(try rw [HNB.o]);rintro e w' ⟨rfl,rfl⟩)
  | (go_at_call 143;refine (Zhh _ _).mono ?_;(try rw [HMB.o]);rintro e w' ⟨rfl,rfl⟩))
 go_ret;exact⟨by first | rfl | exact Zae (by simp [hn,hr,hv,hm]),Zao _ _ _⟩):G:=h
theorem m_32{G:Prop}(h:G:=by
 rw [HV.o];go_enter Tryz.func96,Tryz.ntmps96
 go_wp2_with (first
  | (go_at_call 142;(first | with_reducible refine (HNL.o _).mono ?_ | with_reducible refine (HNV.o _).mono ?_);(try rw [HNB.o]);rintro e w' ⟨rfl,rfl⟩)
  | (go_at_call 143;refine (Zhh _ _).mono ?_;(try rw [HMB.o]);rintro e w' ⟨rfl,rfl⟩))
 go_ret;exact⟨by first | rfl | exact Zae (by simp [hth,h3]),Zao _ _ _⟩):G:=h
theorem m_33{G:Prop}(h:G:=by
 rw [HV.o];go_enter Tryz.func96,Tryz.ntmps96
 go_wp2_with (first
  | (go_at_call 142;(first | with_reducible refine (HNL.o _).mono ?_ | with_reducible refine (HNV.o _).mono ?_);(try rw [HNB.o]);rintro e w' ⟨rfl,rfl⟩)
  | (go_at_call 143;refine (Zhh _ _).mono ?_;(try rw [HMB.o]);rintro e w' ⟨rfl,rfl⟩))
 go_ret;exact⟨by first | rfl | exact Zae (by simp [hth,h2]),Zao _ _ _⟩):G:=h
theorem m_34{G:Prop}(h:G:=by
 rw [HV.o];go_enter Tryz.func96,Tryz.ntmps96
 go_wp2_with (first
  | (go_at_call 142;(first | with_reducible refine (HNL.o _).mono ?_ | with_reducible refine (HNV.o _).mono ?_);(try rw [HNB.o]);rintro e w' ⟨rfl,rfl⟩)
  | (go_at_call 143;refine (Zhh _ _).mono ?_;(try rw [HMB.o]);rintro e w' ⟨rfl,rfl⟩))
 go_ret;exact⟨by first | rfl | exact Zae (by simp [hth,hl]),Zao _ _ _⟩):G:=h
theorem m_35{G:Prop}(h:G:=by
 rw [HV.o];go_enter Tryz.func96,Tryz.ntmps96
 go_wp2_with (first
  | (go_at_call 142;(first | with_reducible refine (HNL.o _).mono ?_ | with_reducible refine (HNV.o _).mono ?_);(try rw [HNB.o]);rintro e w' ⟨rfl,rfl⟩)
  | (go_at_call 143;refine (Zhh _ _).mono ?_;(try rw [HMB.o]);rintro e w' ⟨rfl,rfl⟩))
 go_ret;exact⟨by first | rfl | exact Zae (by simp [hth,h1]),Zao _ _ _⟩):G:=h
theorem m_36{G:Prop}(h:G:=by
 rw [HV.o];go_enter Tryz.func96,Tryz.ntmps96
 go_wp2_with (first
  | (go_at_call 142;(first | with_reducible refine (HNL.o _).mono ?_ | with_reducible refine (HNV.o _).mono ?_);(try rw [HNB.o]);rintro e w' ⟨rfl,rfl⟩)
  | (go_at_call 143;refine (Zhh _ _).mono ?_;(try rw [HMB.o]);rintro e w' ⟨rfl,rfl⟩))
 go_ret;exact⟨by first | rfl | exact Zae (by simp [hth,h0]),Zao _ _ _⟩):G:=h
theorem m_37{G:Prop}(h:G:=by
 rw [HV.o];go_enter Tryz.func96,Tryz.ntmps96
 go_wp2_with (first
  | (go_at_call 142;(first | with_reducible refine (HNL.o _).mono ?_ | with_reducible refine (HNV.o _).mono ?_);(try rw [HNB.o]);rintro e w' ⟨rfl,rfl⟩)
  | (go_at_call 143;refine (Zhh _ _).mono ?_;(try rw [HMB.o]);rintro e w' ⟨rfl,rfl⟩))
 go_ret;exact⟨by first | rfl | exact Zae (by simp [hn,hv]),Zao _ _ _⟩):G:=h
theorem m_38{G:Prop}(h:G:=by
 rw [HV.o];go_enter Tryz.func96,Tryz.ntmps96
 go_wp2_with (first
  | (go_at_call 142;(first | with_reducible refine (HNL.o _).mono ?_ | with_reducible refine (HNV.o _).mono ?_);(try rw [HNB.o]);rintro e w' ⟨rfl,rfl⟩)
  | (go_at_call 143;refine (Zhh _ _).mono ?_;(try rw [HMB.o]);rintro e w' ⟨rfl,rfl⟩))
 go_ret;exact⟨by first | rfl | exact Zae (by simp [hn,hr]),Zao _ _ _⟩):G:=h
theorem m_39{G:Prop}(h:G:=by
 rw [HV.o];go_enter Tryz.func96,Tryz.ntmps96
 go_wp2_with (first
  | (go_at_call 142;(first | with_reducible refine (HNL.o _).mono ?_ | with_reducible refine (HNV.o _).mono ?_);(try rw [HNB.o]);rintro e w' ⟨rfl,rfl⟩)
  | (go_at_call 143;refine (Zhh _ _).mono ?_;(try rw [HMB.o]);rintro e w' ⟨rfl,rfl⟩))
 go_ret;exact⟨by first | rfl | exact Zae (by simp [hn]),Zao _ _ _⟩):G:=h
theorem m_40{G:Prop}(h:G:=by
 rw [HV.o];go_enter Tryz.func96,Tryz.ntmps96
 go_wp2_with (first
  | (go_at_call 142;(first | with_reducible refine (HNL.o _).mono ?_ | with_reducible refine (HNV.o _).mono ?_);(try rw [HNB.o]);rintro e w' ⟨rfl,rfl⟩)
  | (go_at_call 143;refine (Zhh _ _).mono ?_;(try rw [HMB.o]);rintro e w' ⟨rfl,rfl⟩))
 go_ret;exact⟨by first | rfl | exact Zae (by simp [hz]),Zao _ _ _⟩):G:=h
theorem m_41{G:Prop}(h:G:=by
 rw [f1,f2];go_enter Tryz.func138,Tryz.ntmps138
 go_wp2_with fail
 go_region
 go_wp2_with fail
 refine Zdr rfl (b:=w.heap.size+1) (by first | exact (Zdg w _ _ _).alloc _ | exact ((Zdg w _ _ _).alloc _).drew) rfl rfl rfl ?_;exact⟨rfl,by first | exact (Zab (Zab (Zad w _) _) _) | exact (Zab (Zab (Zad w _) _) _).drew | exact (Zab (Zab (Zad w _) _) _).drew.drew | exact (Zab (Zab (Zad w _) _) _).drew.drew.drew⟩):G:=h
theorem m_42{G:Prop}(h:G:=by
 simp only [Znl,Zmy,Zp1,Zo7] at q1 q2;go_enter Tryz.func17,Tryz.ntmps17
 go_wp2_with fail
 have z0:=Zb2 w #[.int .i64 0,.int .i64 0] 76 (0,0) 0;have z1:=Zb2 w #[.int .i64 0,.int .i64 0] 76 (0,0) 1;refine bodyPost_ret (v:=.tuple #[.agg #[.int .i64 0,.int .i64 0],.bool false]) (by simp [results,Tryz.results17,go_sem,z0,z1]) rfl ⟨rfl,Zad _ _⟩):G:=h
theorem m_43{G:Prop}(h:G:=by
 have HK:=Zh hk;clear hk;go_enter Tryz.func121,Tryz.ntmps121
 go_wp2_with (first | (go_at_call 163;refine (Zer _ _).mono ?_;rintro e w' ⟨rfl,rfl⟩) | (go_at_call 162;refine (Zlr _ _ hs).mono ?_;rw [HK.o];rintro e w' ⟨rfl,rfl⟩))
 go_ret;refine⟨Zai (by simp [Zb7,Zb4, *]),?_⟩
 repeat (first | exact Below.refl _ _ | refine Zab ?_ _)):G:=h
theorem m_44{G:Prop}(h:G:=by
 go_wp2_with (at_lookup;refine wpList_lookup_own_int _ rfl _ _ 150 rfl 25 3 .i64 Zdl Tryz.underlying150 Tryz.underlying3 (Zc0 _) (w.heap.size+1) cnt D rfl HOW2.o _ (klT (Zea x)) rfl HKW.o ?_;intro cv hcv hwc;rw [HAX.o.1] at hcv;simp only [DataW.lit.injEq,Lit.int.injEq,true_and] at hcv;subst hcv;clear hwc)
 go_ret;exact⟨Zai HBAD.o.symm,Zaa HBWR.o HB1.o⟩):G:=h
theorem m_45{G:Prop}(h:G:=by
 clear hw HMM
 go_wp2_with (go_at_call 59;refine (HW.o _ HBC.o HR1.o).mono ?_;rintro e w8 ⟨V8,rfl,hR8,hb8,hf8⟩;have HR8:=Zh hR8;have HB8:=Zh hb8;have HF8:=Zh hf8;clear hR8 hb8 hf8)
 go_roundw
 case rel=>exact⟨k+1,_,_,by go_num,HRN.o.step HX.o HF.o HV.o HS0.o HR8.o ((HB1.o.mono hbs2).trans HB8.o) ((FrV.of_below HB1.o).trans HF8.o)⟩
 case measure=>have hkl:=HKL.o;simp [intOf];omega):G:=h
theorem m_46{G:Prop}(h:G:=by
 go_enter Tryz.func24,Tryz.ntmps24
 go_wp2_with fail
 refine bodyPost_ret (v:=.tuple #[.agg #[.int .i64 0,.int .i64 0],.bool false]) (by simp [results,Tryz.results24,go_sem, *]) rfl ?_;refine⟨rfl,?_⟩
 repeat (first | exact Below.refl _ _ | with_reducible refine Below.setCell ?_ (by simp <;> omega) _ | with_reducible refine Zab ?_ _)):G:=h
theorem m_47{G:Prop}(h:G:=by
 go_wp2_with (first | (go_at_call 225;refine (Ziz _ _).mono ?_;rw [HX.o];rintro e w' ⟨rfl,rfl⟩) | (go_at_call 226;refine (Zu1 _ _).mono ?_;rw [HY.o];rintro e w' ⟨rfl,rfl⟩))
 go_round
 case rel=>exact⟨k+1,ω,ω,by go_num,fun j hj h1 h=>by
  by_cases e:j<k
  ·exact H.o j hj h1 e
  ·obtain rfl:j=k:=ω;exact HB.o⟩
 case measure=>exact msr):G:=h
theorem m_48{G:Prop}(h:G:=by
 go_wp2_with (first | (go_at_call 199;refine (Zgr _ _).mono ?_;rw [HX.o];rintro e w' ⟨rfl,rfl⟩) | (go_at_call 200;refine (Zqk _ _).mono ?_;rw [HY.o];rintro e w' ⟨rfl,rfl⟩))
 go_round
 case rel=>exact⟨k+1,ω,ω,by go_num,fun j hj h1 h=>by
  by_cases e:j<k
  ·exact H.o j hj h1 e
  ·obtain rfl:j=k:=ω;exact HB.o⟩
 case measure=>exact msr):G:=h
theorem m_49{G:Prop}(h:G:=by
 obtain hd | hd:=Zbs d <;> obtain ha | ha:=Zbs a <;> obtain hb | hb:=Zbs b
 all_goals
  go_enter Tryz.func121,Tryz.ntmps121
  go_wp2_with (first | (go_at_call 163;refine (Zer _ _).mono ?_;rintro e w' ⟨rfl,rfl⟩))
  go_ret;refine⟨Zai (by simp [Zb7,Zb4, *]),?_⟩
  repeat (first | exact Below.refl _ _ | refine Zab ?_ _)):G:=h
theorem m_50{G:Prop}(h:G:=by
 go_wp2_with (first | (go_at_call 129;refine (Zgq _ _).mono ?_;rw [HX.o];rintro e w' ⟨rfl,rfl⟩) | (go_at_call 130;refine (Zqj _ _).mono ?_;rw [HY.o];rintro e w' ⟨rfl,rfl⟩))
 go_round
 case rel=>exact⟨k+1,ω,by go_num,fun j hj h=>by
  by_cases e:j<k
  ·exact H.o j hj e
  ·obtain rfl:j=k:=ω;exact HB.o⟩
 case measure=>exact msr):G:=h
theorem m_51{G:Prop}(h:G:=by
 ·have HALC:=Zh (show c.all (okX 1)=true by have:=HALL.o;rwa [List.take_of_length_le ω] at this);have HTH:=Zh (show Zjh 1 c=0 by unfold Zjh;rw [HALC.o];rfl)
  go_wp2_with fail
  go_roundw
  case rel=>exact⟨k+1,ω,by go_num,(fun j c' hj hc=>by (rcases Nat.lt_succ_iff_lt_or_eq.1 hj with h | h);exact HNO.o j c' h hc;rw [h,HX.o] at hc;cases hc;exact HTH.o),HBW.o⟩
  case measure=>exact msr):G:=h
theorem m_52{G:Prop}(h:G:=by
 go_wp2_with (first | (go_at_call 206;refine (Zi0 _ _).mono ?_;rw [HX.o];rintro e w' ⟨rfl,rfl⟩) | (go_at_call 207;refine (Zu2 _ _).mono ?_;rw [HY.o];rintro e w' ⟨rfl,rfl⟩))
 go_round
 case rel=>exact⟨k+1,ω,by go_num,fun j hj h=>by
  by_cases e:j<k
  ·exact H.o j hj e
  ·obtain rfl:j=k:=ω;exact HB.o⟩
 case measure=>exact msr):G:=h
theorem m_53{G:Prop}(h:G:=by
 go_wp2_with (first | (go_at_call 221;refine (Ziy _ _).mono ?_;rw [HX.o];rintro e w' ⟨rfl,rfl⟩) | (go_at_call 222;refine (Zu0 _ _).mono ?_;rw [HY.o];rintro e w' ⟨rfl,rfl⟩))
 go_round
 case rel=>exact⟨k+1,ω,by go_num,fun j hj h=>by
  by_cases e:j<k
  ·exact H.o j hj e
  ·obtain rfl:j=k:=ω;exact HB.o⟩
 case measure=>exact msr):G:=h
theorem m_54{G:Prop}(h:G:=by
 have hgb:g=b:=by simpa [Value.ownBlock] using hb
 subst hgb;refine hg.keep g (Array.getElem?_eq_some_iff.1 hh).1 (fun e2=>?_);rcases h2.2 with ⟨e3,_⟩ | ⟨g3,cap3,cur3,e3,_,hh3,_⟩
 ·subst e3;cases e2
 ·subst e3;have hg3:g3=g:=by simpa [Value.ownBlock] using e2
  subst hg3;rw [hh] at hh3;simp only [Option.some.injEq,Obj.cells.injEq] at hh3;exact hne hh3.2.1):G:=h
theorem m_55{G:Prop}(h:G:=by
 go_wp2_with fail
 go_region
 go_wp2_with fail
 refine Zdr rfl (b:=w.heap.size+1) (by first | exact (Zdg w _ _ _).alloc _ | exact ((Zdg w _ _ _).alloc _).drew) rfl rfl rfl ?_;exact⟨rfl,by first | exact (Zab (Zab (Zad w _) _) _) | exact (Zab (Zab (Zad w _) _) _).drew | exact (Zab (Zab (Zad w _) _) _).drew.drew | exact (Zab (Zab (Zad w _) _) _).drew.drew.drew⟩):G:=h
theorem m_56{G:Prop}(h:G:=by
 rw [f1,f2,Bool.and_false];go_enter Tryz.func121,Tryz.ntmps121
 go_wp2_with (first | (go_at_call 163;refine (Zer _ _).mono ?_;rintro e w' ⟨rfl,rfl⟩))
 go_ret;refine⟨Zai (by simp [Zb7,Zb4, *]),?_⟩
 repeat (first | exact Below.refl _ _ | refine Zab ?_ _)):G:=h
theorem m_57{G:Prop}(h:G:=by
 rw [f1,Bool.false_and];go_enter Tryz.func121,Tryz.ntmps121
 go_wp2_with (first | (go_at_call 163;refine (Zer _ _).mono ?_;rintro e w' ⟨rfl,rfl⟩))
 go_ret;refine⟨Zai (by simp [Zb7,Zb4, *]),?_⟩
 repeat (first | exact Below.refl _ _ | refine Zab ?_ _)):G:=h
theorem m_58{G:Prop}(h:G:=by
 clear hw HMM
 go_wp2_with (go_at_call 59;refine (HW.o _ HBC.o HR1.o).mono ?_;rintro e w8 ⟨V8,rfl,hR8,hb8,hf8⟩;have HR8:=Zh hR8;have HB8:=Zh hb8;have HF8:=Zh hf8;clear hR8 hb8 hf8)
 go_ret;exact HRN.o.fell HX.o HF.o HS0.o rfl HR8.o ((HB1.o.mono hbs2).trans HB8.o) ((FrV.of_below HB1.o).trans HF8.o)):G:=h
theorem m_59{G:Prop}(h:G:=by
 intro hm i hi;rw [Lib.compactUpTo_succ,List.mem_append];by_cases hlt:i<m
 ·exact .inl (ih ω i hlt)
 obtain rfl:i=m:=ω;by_cases hk:keeps d i=true
 ·rw [if_pos hk];exact .inr (by simp)
 ·unfold keeps at hk;simp only [decide_eq_true_eq,not_or,Decidable.not_not,ne_eq] at hk;rw [hk.2];exact .inl (ih ω (i - 1) ω)):G:=h
theorem m_60{G:Prop}(h:G:=by
 ·have e3:(x.loc == y.loc)=false:=by simpa using h3
  have HNX:=Zh (show (T.init.take (j+1)).any (fun y=>decide (Zea y=Zea x))=false by rw [Ze9 HY.o,HN2.o];simp [Zea];intro _ _;exact fun h=>h3 h.symm)
  go_wp2_with fail
  go_roundw
  case rel=>exact⟨j+1,ω,by go_num,HNX.o,Zaa HBJ.o HBK.o⟩
  case measure=>exact msr):G:=h
theorem m_61{G:Prop}(h:G:=by
 go_enter Tryz.func121,Tryz.ntmps121
 go_wp2_with (first | (go_at_call 163;refine (Zer _ _).mono ?_;rintro e w' ⟨rfl,rfl⟩))
 go_ret;refine⟨Zai (by simp [Zb7,Zb4, *]),?_⟩
 repeat (first | exact Below.refl _ _ | refine Zab ?_ _)):G:=h
theorem m_62{G:Prop}(h:G:=by
 ·have e2:(x.rg == y.rg)=false:=by simpa using h2
  have HNX:=Zh (show (T.init.take (j+1)).any (fun y=>decide (Zea y=Zea x))=false by rw [Ze9 HY.o,HN2.o];simp [Zea];intro _ h;exact absurd h.symm h2)
  go_wp2_with fail
  go_roundw
  case rel=>exact⟨j+1,ω,by go_num,HNX.o,Zaa HBJ.o HBK.o⟩
  case measure=>exact msr):G:=h
theorem m_63{G:Prop}(h:G:=by
 ·have e1:(x.th == y.th)=false:=by simpa using h1
  have HNX:=Zh (show (T.init.take (j+1)).any (fun y=>decide (Zea y=Zea x))=false by rw [Ze9 HY.o,HN2.o];simp [Zea];intro h;exact absurd h.symm h1)
  go_wp2_with fail
  go_roundw
  case rel=>exact⟨j+1,ω,by go_num,HNX.o,Zaa HBJ.o HBK.o⟩
  case measure=>exact msr):G:=h
theorem m_64{G:Prop}(h:G:=by
 go_enter Tryz.func98,Tryz.ntmps98
 go_wp2_with fail
 go_ret;refine⟨by rw [HR.o];rfl,?_,met+1,?_,by rw [HR.o];intro h;cases h⟩
 ·exact (((Ze8.refl g w).set 1 _).set 2 _).alloc _
 ·rw [HR.o];exact ((HW.o.set1 _).set2 _).al _):G:=h
theorem m_65{G:Prop}(h:G:=by
 ·skip
  simp only [Za2,Zax,Zb6,Zb5];go_enter Tryz.func122,Tryz.ntmps122
  go_wp2_with fail
  refine Zce 4 5 rfl rfl ?_;exact⟨_,rfl,fun hq=>by first | (simp [Zby] at hq;done) | (simp [Zan,e];done) | simp_all [Zan],Zao w _ _⟩):G:=h
theorem m_66{G:Prop}(h:G:=by
 simp only [Za2,Zax,Zb6,Zb5];go_enter Tryz.func122,Tryz.ntmps122
 go_wp2_with fail
 refine Zce 4 5 rfl rfl ?_;exact⟨_,rfl,fun hq=>by first | (simp [Zby] at hq;done) | (simp [Zan,true_and];done) | simp_all [Zan],Zao w _ _⟩):G:=h
theorem m_67{G:Prop}(h:G:=by
 simp only [Za2,Zax,Zb6,Zb5];go_enter Tryz.func122,Tryz.ntmps122
 go_wp2_with fail
 refine Zce 4 5 rfl rfl ?_;exact⟨_,rfl,fun hq=>by first | (simp [Zby] at hq;done) | (simp [Zan,e];done) | simp_all [Zan],Zao w _ _⟩):G:=h
theorem m_68{G:Prop}(h:G:=by
 refine bodyPost_ret (v:=.tuple #[.slice none 0 0,.int .i64 93,.int .i64 (k:Int)]) (by simp [results,Tryz.results95,go_sem]) rfl ?_;have e1:=Zgs hlen hlt HOK.o HLB.o HNO.o;exact Zf5.bad (by rw [e1];simp) (by rw [e1]) (Zaa HBR.o HB2.o)):G:=h
theorem m_69{G:Prop}(h:G:=by
 refine bodyPost_ret (v:=.tuple #[.slice none 0 0,.int .i64 93,.int .i64 (k:Int)]) (by simp [results,Tryz.results95,go_sem]) rfl ?_;have e1:=Zgs hlen hlt HOK.o HLB.o HNO.o;exact Zf5.bad (by rw [e1];simp) (by rw [e1]) (Zab HBR.o _)):G:=h
theorem m_70{G:Prop}(h:G:=by
 ·have HSM:=Zh (show Zf2 k L x=L from if_neg hth);clear hini
  go_wp2_with fail
  go_roundw
  case rel=>exact⟨i+1,L,ω,by go_num,by rw [HNX.o,HSM.o],HON.o,hlen,HR.o.below (Zad _ _),HT.o.go (Zad _ _),Zab HB.o _⟩
  case measure=>simp [intOf];omega):G:=h
theorem m_71{G:Prop}(h:G:=by
 go_wp2_with (go_at_call 50;refine (Zwb ci cc (Zfi XE1.o XE2.o) (HT.o.below HBWR.o)).mono ?_;rintro e w6 ⟨A6,c6,rfl,hat6,hnew6,hb⟩;have HB6:=Zh hb;clear hat6 hnew6 hb)
 go_ret;exact⟨Zai HV.o.symm,Zaa HBWR.o HB6.o⟩):G:=h
theorem m_72{G:Prop}(h:G:=by
 rcases hb1 with hb1 | hb1
 all_goals
  have f1:decide ((n:Int)<1)=decide (n<1):=by simp;omega
  go_enter Tryz.func67,Tryz.ntmps67
  go_wp2_with fail
  go_ret;exact⟨Zai HV.o.symm,HB0.o⟩):G:=h
theorem m_73{G:Prop}(h:G:=by
 go_wp2_with (go_at_call 116;refine (HFST.o _).mono ?_;rw [HFB.o];rintro e w2 ⟨rfl,hb2⟩;have HB2:=Zh (Zaa HB1.o hb2);have HX2:=Zh (HXB.o.go hb2);clear hb2)
 go_ret;exact⟨Zai HBAD.o.symm,Zaa HBWR.o HB2.o⟩):G:=h
theorem m_74{G:Prop}(h:G:=by
 ·have HV:=Zh (Zmn (a:=1) (by rw [HN.o];exact g1) (by rw [HN.o];exact g2) HL.o (fun j c hc=>HNO.o j c (by have:=(List.getElem?_eq_some_iff.1 hc).1;have:=HN.o;omega) hc))
  go_wp2_with fail
  go_ret;exact⟨Zai HV.o.symm,Zaa HB0.o HB.o⟩):G:=h
theorem m_75{G:Prop}(h:G:=by
 ·have HV:=Zh (Zmn (a:=2) (by rw [HN.o];exact g1) (by rw [HN.o];exact g2) HL.o (fun j c hc=>HNO.o j c (by have:=(List.getElem?_eq_some_iff.1 hc).1;have:=HN.o;omega) hc))
  go_wp2_with fail
  go_ret;exact⟨Zai HV.o.symm,Zaa HB0.o HB.o⟩):G:=h
theorem m_76{G:Prop}(h:G:=by
 go_wp2_with fail
 go_roundw
 case rel=>exact⟨i+1,ω,by go_num,HN.o,HG.o.far (by simp) _,HT.o.far (by simp) _,HB.o.setCell (p:=⟨w.heap.size+1,i*5,none⟩) (show w.heap.size<=w.heap.size+1 by omega) _⟩
 case measure=>simp [intOf];omega):G:=h
theorem m_77{G:Prop}(h:G:=by
 go_wp2_with (go_at_call 70;refine (Zm7 ci cc (Zfi XE1.o XE2.o) (HT.o.below HBW3.o)).mono ?_;rintro e w6 ⟨A6,c6,rfl,hat6,hb⟩;have HB6:=Zh hb;clear hat6 hb)
 go_ret;exact⟨Zai HR.o.symm,Zaa HBW3.o HB6.o⟩):G:=h
theorem m_78{G:Prop}(h:G:=by
 go_roundw
 case rel=>exact⟨k+1,ω,by go_num,(fun j c' hj hc=>by (rcases Nat.lt_succ_iff_lt_or_eq.1 hj with h | h);exact HNO.o j c' h hc;rw [h,HX.o] at hc;cases hc;rw [HTH.o];exact hE),Zaa HBW.o HB2.o⟩
 case measure=>exact msr):G:=h
theorem m_79{G:Prop}(h:G:=by
 go_enter Tryz.func40,Tryz.ntmps40
 go_wp2_with (go_at_call 85;refine (HAR.o _).mono ?_;rintro e w' ⟨rfl,rfl⟩)
 go_ret;exact⟨rfl,HBA.o⟩):G:=h
theorem m_80{G:Prop}(h:G:=by
 rcases hb1 with hb1 | hb1
 all_goals
  have f1:decide ((n:Int)<1)=decide (n<1):=by simp;omega
  go_enter Tryz.func46,Tryz.ntmps46
  go_wp2_with fail
  go_ret;exact⟨Zai HV.o.symm,HB0.o⟩):G:=h
theorem m_81{G:Prop}(h:G:=by
 have f3:(Zbe T.arch T.q T.k T.t T.r T.l T.v T.kids != 0)=true:=by simpa using hE3
 have f4:(Zbe T.arch T.q T.k T.t T.r T.l T.v T.kids == 0)=false:=by simpa using hE3
 go_wp2_with fail
 go_ret;exact⟨Zai HV.o.symm,HBW3.o⟩):G:=h
theorem m_82{G:Prop}(h:G:=by
 go_wp2_with fail
 go_roundw
 case rel=>exact⟨j+1,ω,by go_num,(fun i hi=>by (rcases Nat.lt_succ_iff_lt_or_eq.1 hi with h | h);exact HNO.o i h;rw [h];exact HGOOD.o),Zaa HBR.o (Zaa HB2.o HBJ.o)⟩
 case measure=>exact msr):G:=h
theorem m_83{G:Prop}(h:G:=by
 simp only [Znl,Zmy] at q1;go_enter Tryz.func56,Tryz.ntmps56
 go_wp2_with fail
 go_ret;exact⟨_,rfl,HR.o.below HB0.o,HB0.o.mono hbs,FrV.of_below HB0.o⟩):G:=h
theorem m_84{G:Prop}(h:G:=by
 by_cases hn:2<=n
 all_goals
  go_enter Tryz.func161,Tryz.ntmps161
  go_wp2_with fail
  go_ret;exact⟨Zae (by rw [HV.o];simp;try omega),Zab (Zad w _) _⟩):G:=h
theorem m_85{G:Prop}(h:G:=by
 simp only [Bool.and_eq_true,beq_iff_eq] at h;obtain⟨⟨⟨⟨⟨_,h1⟩,h2⟩,h3⟩,h4⟩,_⟩:=h;have:=Zcn h2;have:=Zcn h3;exact⟨ω,ω,ω,ω,h4 ▸ z32,fun _=>by omega,fun e2=>by omega,hlab⟩):G:=h
theorem m_86{G:Prop}(h:G:=by
 ·exact ((Zaa HB.o HB9.o).setCell (p:=⟨w.heap.size+1,0,none⟩) (show w.heap.size<=w.heap.size+1 by omega) _).setCell (p:=⟨w.heap.size+1,1,none⟩) (show w.heap.size<=w.heap.size+1 by omega) _):G:=h
theorem m_87{G:Prop}(h:G:=by
 simp only [Bool.and_eq_true,beq_iff_eq] at h;obtain⟨⟨⟨h1,h2⟩,h3⟩,h4⟩:=h;have:=Zcn h2;exact⟨ω,ω,ω,ω,h4 ▸ z32,fun _=>hloc (Zhy h1),fun e2=>by omega,fun e2=>by omega⟩):G:=h
theorem m_88{G:Prop}(h:G:=by
 go_enter Tryz.func197,Tryz.ntmps197
 go_wp2_with fail
 go_quiet (fail)
 go_wp2;go_ret;exact⟨Zae HV.o.symm,Zam (Zad _ _) _⟩):G:=h
theorem m_89{G:Prop}(h:G:=by
 by_cases hn:2<=n
 all_goals
  go_enter Tryz.func144,Tryz.ntmps144
  go_wp2_with fail
  go_ret;exact⟨Zae (by rw [HV.o];simp;try omega),Zad w _⟩):G:=h
theorem m_90{G:Prop}(h:G:=by
 refine Zh9 κ κ ?_
 repeat still_step
 refine wpStill_nil ?_
 go_wp2_with fail
 go_roundw
 case rel=>exact⟨j+1,ω,ω,by go_num,HBR.o.drew⟩
 case measure=>simp [intOf];omega):G:=h
theorem m_91{G:Prop}(h:G:=by
 go_enter Tryz.func120,Tryz.ntmps120
 go_wp2_with fail
 go_ret;exact⟨Zae (by rw [H.o];try simp),Zab (Zad _ _) _⟩):G:=h
theorem m_92{G:Prop}(h:G:=by
 clear HAC g0 g1 g2 g3 g4 g5
 go_wp2_with fail
 go_roundw
 case rel=>exact⟨k+1,s,acc,ω,by go_num,rfl,HSN.o,HOWN2.o,HB4.o,HK4.o,HR4.o⟩
 case measure=>simp [intOf];omega):G:=h
theorem m_93{G:Prop}(h:G:=by
 subst h1;clear hpx
 go_wp2_with fail
 go_roundw
 case rel=>exact⟨i+1,ω,by go_num,by rw [Zhm HX.o,HNO.o,HR.o];rfl,HB1.o,HKA.o,HKB.o⟩
 case measure=>simp [intOf];omega):G:=h
theorem m_94{G:Prop}(h:G:=by
 go_round
 case rel=>exact⟨k+1,ω,ω,by go_num,fun j hj h1 h=>by
  by_cases e:j<k
  ·exact H.o j hj h1 e
  ·obtain rfl:j=k:=ω;exact HB.o⟩
 case measure=>exact msr):G:=h
theorem m_95{G:Prop}(h:G:=by
 go_enter Tryz.func172,Tryz.ntmps172
 go_wp2_with fail
 go_quiet (fail)
 go_wp2;go_ret;exact⟨Zae HV.o.symm,Zam (Zad _ _) _⟩):G:=h
theorem m_96{G:Prop}(h:G:=by
 go_round
 case rel=>exact⟨k+1,ω,by go_num,fun j hj h=>by
  by_cases e:j<k
  ·exact H.o j hj e
  ·obtain rfl:j=k:=ω;exact HB.o⟩
 case measure=>exact msr):G:=h
theorem m_97{G:Prop}(h:G:=by
 obtain⟨z0,_⟩:∃ z:Nat,z=z:=⟨0,rfl⟩;refine Zj3 131 rfl rfl ?_
 (try simp only [pa1,pa2,pa3,Act.put,pa4,pa5,pa6])
 exact wpList_nil (HM.o l1 z0 W3 hF)):G:=h
theorem m_98{G:Prop}(h:G:=by
 have f1:(Za6 T != 0)=true:=by simpa using hE
 have f2:(Za6 T == 0)=false:=by simpa using hE
 go_wp2_with fail
 go_ret2
 exact⟨Or.inl ⟨HE.o,rfl⟩,HB2.o⟩):G:=h
theorem m_99{G:Prop}(h:G:=by
 have e:=HNX.o.trans HIS.o;simp only [List.reduceReplicate] at e;refine⟨i+1,ω,by go_num,?_⟩;rw [e];exact⟨HO2.o _,by simp [hlen],HRE.o,HTE.o,HBE.o⟩):G:=h
theorem m_100{G:Prop}(h:G:=by
 go_enter Tryz.func161,Tryz.ntmps161
 go_wp2_with fail
 go_ret;exact⟨Zae HV.o.symm,Zab (Zad w _) _⟩):G:=h
theorem m_101{G:Prop}(h:G:=by
 refine⟨rfl,?_⟩
 repeat (first | exact Below.refl _ _ | with_reducible refine Below.setCell ?_ (by simp <;> omega) _ | with_reducible refine Zab ?_ _)):G:=h
theorem m_102{G:Prop}(h:G:=by
 ·have hvo:V.rg.ownBlock=some q:=by rw [hvr];rfl
  exact (((((FrV.of_below (HB0.o.drew)).reg hvo _ _).reg hvo _ _).reg hvo _ _).reg hvo _ _).reg hvo _ _):G:=h
theorem m_103{G:Prop}(h:G:=by
 clear hne
 go_wp2_with fail
 go_roundw
 case rel=>exact⟨m+1,ω,by go_num,HB3.o,Blk.alloc HK2.o _,Blk.alloc HBB2.o _⟩
 case measure=>simp [intOf];omega):G:=h
theorem m_104{G:Prop}(h:G:=by
 clear h ha hb;go_enter Tryz.func40,Tryz.ntmps40
 go_wp2_with fail
 go_ret;exact⟨rfl,HBA.o⟩):G:=h
theorem m_105{G:Prop}(h:G:=by
 subst e;unfold Zah;go_enter Tryz.func112,Tryz.ntmps112
 go_wp2_with fail
 go_ret;exact⟨Zae (by simp),rfl⟩):G:=h
theorem m_106{G:Prop}(h:G:=by
 go_wp2_with fail
 go_quiet (fail)
 go_wp2_with fail
 go_roundw
 case rel=>exact⟨k+1,-1,ω,ω,by go_num,rfl,HNX.o,Zam HBK.o _⟩
 case measure=>exact msr):G:=h
theorem m_107{G:Prop}(h:G:=by
 go_enter Tryz.func119,Tryz.ntmps119
 go_wp2_with fail
 go_ret2
 exact⟨by rw [HR.o];rfl,Zad _ _⟩):G:=h
theorem m_108{G:Prop}(h:G:=by
 ·have hml:¬ (m:Int)<(ne:Int):=ω
  go_wp2_with fail
  go_roundw
  case rel=>exact⟨i+1,ω,by go_num,HB2.o,HK2.o⟩
  case measure=>simp [intOf];omega):G:=h
theorem m_109{G:Prop}(h:G:=by
 clear hq hb hbm hbt;go_enter Tryz.func42,Tryz.ntmps42
 go_wp2_with fail
 go_ret;exact⟨rfl,rfl⟩):G:=h
theorem m_110{G:Prop}(h:G:=by
 go_enter Tryz.func68,Tryz.ntmps68
 go_wp2_with fail
 go_ret;exact⟨Zai HV.o.symm,Zad _ _⟩):G:=h
theorem m_111{G:Prop}(h:G:=by
 go_enter Tryz.func218,Tryz.ntmps218
 go_wp2_with fail
 go_ret;exact⟨Zae HF.o.symm,rfl⟩):G:=h
theorem m_112{G:Prop}(h:G:=by
 go_enter Tryz.func162,Tryz.ntmps162
 go_wp2_with fail
 go_ret;exact⟨Zae HF.o.symm,rfl⟩):G:=h
theorem m_113{G:Prop}(h:G:=by
 go_enter Tryz.func83,Tryz.ntmps83
 go_wp2_with fail
 go_ret;exact⟨Zae HF.o.symm,rfl⟩):G:=h
theorem m_114{G:Prop}(h:G:=by
 go_wp2_with fail
 go_quiet (fail)
 go_wp2_with fail
 go_roundw
 case rel=>exact⟨k+1,ω,by go_num,HNX.o,Zam HBK.o _⟩
 case measure=>exact msr):G:=h
theorem m_115{G:Prop}(h:G:=by
 clear h ha hb;go_enter Tryz.func35,Tryz.ntmps35
 go_wp2_with fail
 go_ret;exact⟨rfl,HBA.o⟩):G:=h
theorem m_116{G:Prop}(h:G:=by
 unfold putCells;rw [Array.getElem?_toList,Array.getElem?_mapIdx];rw [Array.getElem?_eq_getElem (show i<cur.size by omega)];simp [hi]):G:=h
theorem m_117{G:Prop}(h:G:=by
 go_enter Tryz.func165,Tryz.ntmps165
 go_wp2_with fail
 go_ret;exact⟨rfl,HB.o⟩):G:=h
theorem m_118{G:Prop}(h:G:=by
 go_enter Tryz.func47,Tryz.ntmps47
 go_wp2_with fail
 go_ret;exact⟨Zai HV.o.symm,Zad _ _⟩):G:=h
theorem m_119{G:Prop}(h:G:=by
 unfold Zah;go_enter Tryz.func110,Tryz.ntmps110
 go_wp2_with fail
 go_ret;exact⟨rfl,rfl⟩):G:=h
theorem m_120{G:Prop}(h:G:=by
 go_enter Tryz.func170,Tryz.ntmps170
 go_wp2_with fail
 go_ret;exact⟨Zae HF.o.symm,rfl⟩):G:=h
theorem m_121{G:Prop}(h:G:=by
 go_enter Tryz.func105,Tryz.ntmps105
 go_wp2_with fail
 go_ret;exact⟨Zai HV.o.symm,HG.o⟩):G:=h
theorem m_122{G:Prop}(h:G:=by
 simp only [List.mem_singleton] at hx;subst hx;unfold Zf4 at h;rw [if_pos h2] at h;simp only [Bool.and_eq_true] at h;exact h.1.1):G:=h
theorem m_123{G:Prop}(h:G:=by
 go_enter Tryz.func208,Tryz.ntmps208
 go_wp2_with fail
 go_ret;exact⟨Zae HF.o.symm,rfl⟩):G:=h
theorem m_124{G:Prop}(h:G:=by
 go_enter Tryz.func144,Tryz.ntmps144
 go_wp2_with fail
 go_ret;exact⟨Zae HV.o.symm,Zad w _⟩):G:=h
theorem m_125{G:Prop}(h:G:=by
 go_enter Tryz.func141,Tryz.ntmps141
 go_wp2_with fail
 go_ret;exact⟨rfl,HB.o⟩):G:=h
theorem m_126{G:Prop}(h:G:=by
 go_enter Tryz.func63,Tryz.ntmps63
 go_wp2_with fail
 go_ret;exact⟨rfl,HG.o⟩):G:=h
theorem m_127{G:Prop}(h:G:=by
 have HF:=Zh (Zfp (f:=32) hlt (by simp [shC];omega))
 go_wp2_with fail
 go_ret;exact⟨Zae (by rw [<- HR.o,HF.o];rfl),rfl⟩):G:=h
theorem m_128{G:Prop}(h:G:=by
 go_roundw
 case rel=>exact⟨i+1,ω,by go_num,by rw [Zjq HY.o,HALL.o,HR.o];rfl,Zaa HBI.o HB2.o⟩
 case measure=>exact msr):G:=h
theorem m_129{G:Prop}(h:G:=by
 have HF:=Zh (Zfp (f:=33) hlt (by simp [shC];omega))
 go_wp2_with fail
 go_ret;exact⟨Zae (by rw [<- HR.o,HF.o]),rfl⟩):G:=h
theorem m_130{G:Prop}(h:G:=by
 ·have HF:=Zh (Zgd hp ω HL.o (fun i hi h1=>H.o i hi h1 ω))
  go_wp2_with fail
  go_ret;exact⟨Zae HF.o.symm,rfl⟩):G:=h
theorem m_131{G:Prop}(h:G:=by
 have HF:=Zh (Zfp (f:=f) hlt (by simp [shC];omega))
 go_wp2_with fail
 go_ret;exact⟨Zae (by rw [<- HR.o,HF.o]),rfl⟩):G:=h
theorem m_132{G:Prop}(h:G:=by
 go_ret;exact HRN.o.fell HX.o HF.o HS0.o rfl HR8.o ((HB1.o.mono hbs2).trans HB8.o) ((FrV.of_below HB1.o).trans HF8.o)):G:=h
theorem m_133{G:Prop}(h:G:=by
 ·have HF:=Zh (Zgd hp ω HL.o (fun i hi _=>H.o i hi ω))
  go_wp2_with fail
  go_ret;exact⟨Zae HF.o.symm,rfl⟩):G:=h
theorem m_134{G:Prop}(h:G:=by
 go_wp2_with fail
 go_end0
 exact⟨rfl,by rw [HT.o];have:=HAC.o;rw [HFIN.o] at this;simpa using this,HBR.o⟩):G:=h
theorem m_135{G:Prop}(h:G:=by
 refine⟨this.1,?_⟩;show p.1<((a.evs++r.evs).length:Int);rw [List.length_append];omega):G:=h
theorem m_136{G:Prop}(h:G:=by
 go_wp2_with fail
 go_ret;exact Zhj.yes HV.o ⟨V1,rfl,HRN.o.run,HRN.o.below,HRN.o.fr⟩):G:=h
theorem m_137{G:Prop}(h:G:=by
 exact⟨_,rfl,HR2.o,(HB0.o.mono hbs).trans HB2.o,(FrV.of_below HB0.o).trans HF2.o⟩):G:=h
theorem m_138{G:Prop}(h:G:=by
 refine⟨ω,?_⟩;show p.1<((a.evs++r.evs).length:Int);rw [List.length_append];omega):G:=h
theorem m_139{G:Prop}(h:G:=by
 refine⟨?_,(Zfv (HBW.o) (Nat.le_succ _) _ _ _ _ _ _ _ _ _)⟩;rw [HTR.o,HXE.o];rfl):G:=h
theorem m_140{G:Prop}(h:G:=by
 ·have hij:¬ (i:Int)<(nx:Int):=ω
  go_wp2_with fail
  go_ret;exact⟨rfl,HBR.o⟩):G:=h
theorem m_141{G:Prop}(h:G:=by
 ·have hij:¬ (i:Int)<(n:Int):=ω
  go_wp2_with fail
  go_ret;exact⟨rfl,HB.o⟩):G:=h
theorem m_142{G:Prop}(h:G:=by
 go_wp2_with fail
 go_ret;exact⟨Zae (by rw [<- HR.o,HF.o,HG.o];rfl),rfl⟩):G:=h
theorem m_143{G:Prop}(h:G:=by
 exact⟨ω,ω,ω,ω,h4 ▸ z32,fun _=>by omega,fun e2=>by omega,hlab⟩):G:=h
theorem m_144{G:Prop}(h:G:=by
 have h3:=hI.room;rw [List.length_append,List.length_map];omega):G:=h
theorem m_145{G:Prop}(h:G:=by
 simp only [Option.some.injEq] at hg;subst hg;exact hI.next hk):G:=h
theorem m_146{G:Prop}(h:G:=by
 simp only [Option.some.injEq] at hg;subst hg;exact hS.next hk):G:=h
end Go.Proofs.YtdfmcfppoohckaaGreatDoor
