/- Blocks of proof that stand in more than one place, each as the way of a theorem. -/
import Derived.Test.YtgjefdaaihgliaaGreatDoorProg
import Derived.WalkKit
import Derived.Lib.Hide
import Derived.Lib.LaidTab
import Derived.Lib.ItoaNum
import Derived.BigQuiet
import Derived.Deep.QuietTactic
import Derived.Deep.DeepFit
import Derived.Maps.AppendAt
import Derived.Laws.OwnMore
import Derived.StillTailTactics
import Derived.Deep.RegionHeld3
import Derived.Laws.MakeOwn
import Derived.Laws.AppendOwnNone
import Derived.Laws.Entries
import Derived.RegionTactic
import Derived.BigRegion
import Derived.Laws.StructEq
import Derived.Shelf.SlGeneric
import Derived.Shelf.SlSortCmp.WholeK
import Derived.Ground.SlsfProg
import Derived.Ground.SlgnProg
import Derived.Shelf.SlicesE.Clone
import Derived.ArgAppend
import Derived.Shelf.Strings.Builder1
import Derived.Shelf.Strings.Trim
import Derived.Shelf.Small.Utf8
import Derived.Shelf.Small.Bits
import Derived.Shelf.Small.Strs
import Derived.Shelf.Strings.BuilderF
import Derived.Shelf.Strings.BuilderK
import Derived.Shelf.Strconv.Itoa0
import Derived.Shelf.Strconv.Itoa1
import Derived.Shelf.LaysM
import Derived.Shelf.Strconv.Itoa2
import Derived.Shelf.Strconv.Itoa3
import Derived.Shelf.Strings.Search1
import Derived.Shelf.Sort.Plain
import Derived.Shelf.Unicode.Decode
import Derived.Shelf.Strings.Runes
import Derived.Shelf.Strings.AsciiSet
import Derived.Shelf.Unicode.DecodeSlow
import Derived.Shelf.Unicode.DecodeAny
import Derived.Shelf.Unicode.DecodeLast
import Derived.Shelf.Strings.BuilderCap
import Derived.Ground.Names2Prog
import Derived.Shelf.Slices.Clone
import Derived.Shelf.Slices.CompactS
import Derived.Shelf.Slices.Cells
import Derived.Shelf.Slices.In.SortNone
import Derived.Shelf.Strings.SlTrimAscii
import Derived.Lib.AppendIntMem
import Derived.Lib.AtoiErrMem
import Derived.Sort.Statements
import Derived.Lib.ItoaLen
import Derived.Sort.LotA
import Derived.Lib.SliceRun
import Derived.Lib.SlicesCompact
import Derived.Lib.LazyBuf
import Derived.Deep.Upon
import Derived.Shelf.SlSortCmp.NoneTotal
import Derived.WalkLawsBesides
import Derived.Sort.Walk0
import Derived.Shelf.Spec.SearchS
import Derived.IntWalk
import Derived.Outline
import Derived.OwnWalk
import Derived.Maps.OwnOps
import Derived.DeepKeys4
import Derived.MapViews
import Derived.Maps.Views
import Derived.StringKeys
import Derived.Maps.OwnSet
import Derived.Deep.MidRow
import Derived.Laws.CopyOwn
import Derived.Deep.LoopGhost
import Derived.Deep.CutBlock
import Derived.Deep.DeepCutAuto
import Derived.WalkSpells
import Derived.Laws.EntriesVeiled
import Derived.ScopeJumps
import Derived.WalkMore
import Derived.ProofKit
import Derived.OpenShut
import Derived.Deep.DeepHandedRow
import Derived.Carry
import Derived.Deep.Slices
import Derived.Deep.Fields
import Derived.SizedLaws
import Derived.Deep.DeepWitnessRowRef
import Derived.LaidMore
import Derived.Shelf.Vars
import Derived.ChangeMaps5
namespace Go.Proofs.YtgjefdaaihgliaaGreatDoor
open Go.RowKit
set_option maxRecDepth 100000
theorem _root_.Go.RowKit.Hid.o{p:Prop}(h:Hid p):p:=Hid.out h
theorem ω{p:Prop}(h:p:=by omega):p:=h
theorem κ{p:Prop}(h:p:=by kernel_rfl):p:=h
theorem m_1{G:Prop}(h:G:=by
 have hnm:nr<=32:=ω;clear h1 h2 hnr
 go_wp2_with fail
 generalize w3.alloc _=W2 at *;generalize w3.heap.size=g at *;rw [h15];clear h15;go_loopw [39] (fun i wr=>∃ (j:Nat) (V:MMv),j<=T.code.length/\i=.int .i64 j/\Zb3 wr w.heap.size g (mkM T j 0) V/\Zz3 V.tr/\Below w.heap.size w wr/\Blk wr w.heap.size 32 #[.int .i64 T.arch,.string ⟨T.name.toArray⟩,.string ⟨T.cycle.toArray⟩,.slice Ai T.init.length ci,.slice Ac T.code.length cc,.int .i64 T.q,.int .i64 T.k,.int .i64 T.t,.int .i64 T.r,.string ⟨T.l.toArray⟩,.int .i64 T.v,.slice A0 l0 q0]) (fun i _=>T.code.length - (intOf i).toNat)
 case atStart=>exact⟨0,_,Nat.zero_le _,rfl,HM0.o,List.Pairwise.nil,HW2.o,HTB2.o⟩
 case round=>
  obtain⟨j,V,hj,rfl,hM,hap,hbw,htb⟩:=hrel;have HM:=Zh hM;have HW:=Zh hbw;have HTb:=Zh htb;have HAp:=Zh hap;have hgr:=hM.blk.lt;have hzr:=hbw.size;have htr:=htb.lt;by_cases hjN:j<T.code.length
  ·have hx:=List.getElem?_eq_getElem hjN;obtain⟨c,hce⟩:∃ c,T.code[j]=c:=⟨_,rfl⟩;rw [hce] at hx;obtain⟨cb,co,Ax,cx,rfl,d0,hins,hcl,hcx⟩:=(HT0.o.below hbw).code j c hx;have hc256:=(HKs.o.2.2 j c hx).1
   have HNext:=Zh (show (mkM T (j+1) 0).code=(mkM T j 0).code++[c]/\(mkM T (j+1) 0).tds=(mkM T j 0).tds++[⟨List.replicate nr ([],0),0,[]⟩] from by
    refine⟨?_,?_⟩
    ·show T.code.take (j+1)=T.code.take j++[c];rw [List.take_succ_eq_append_getElem hjN,hce]
    ·show (List.range (j+1)).map _=(List.range j).map _++_;rw [List.range_succ,List.map_append,HNr.o]
     rfl)
   have hcw:=World.block_lt_of_cell? wr _ d0;have y1:(0:Int)<=(j:Int):=ω;have y2:(j:Int)<(T.code.length:Int):=ω;obtain⟨Ac1,nc1,cc1,ecv⟩:∃ A n c,V.cv=.slice A n c:=Zav hM.code;obtain⟨Ap1,np1,cp1,epv⟩:∃ A n c,V.pv=.slice A n c:=Zav hM.thr.own;have k2:wr.cell? ⟨g,2,none⟩=some (.slice Ac1 nc1 cc1):=by rw [<- ecv];exact hM.blk.cl 2
   have HCl:=Zh (Zub Ax cx c wr.drew hins hc256);clear hM hap hbw htb hx hce hins
   go_wp2_with fail
   refine wz (fun y:World=>y.cell? ⟨g,2,none⟩=some (.slice Ac1 nc1 cc1)) [4,6,7] k2 (fun hHeld=>?_);refine wq 0 ?_;refine wq 1 ?_;refine wq 2 ?_;refine wq 3 ?_;refine wq 5 ?_;refine wt 4 (by assumption) ?_;refine Zan (i:=6) κ rfl (fun K hK=>?_);go_simp;refine HCl.o.mono ?_;rintro e w3 ⟨Ar,cr,rfl,hrow,hb3⟩;have hb3:Below wr.heap.size wr w3:=Zas hb3;have k2:=Zac k2 hb3;refine hK.out _ _ k2 ?_;clear hK K;refine pu ?_;refine Zan (i:=7) κ rfl (fun K hK=>?_);go_simp;refine hK.out _ _ (Zao k2 _) ?_;clear hK K;refine pu ?_;refine wl 8 ?_;have HB3:=Zh (Zab hb3 (Zad w3 (.cells #[.slice Ar c.length cr] 66 (0,0))));have hcode:Z2a.Own 66 w.heap.size (w3.alloc (.cells #[.slice Ar c.length cr] 66 (0,0))) (.slice Ac1 nc1 cc1) V.cr:=by rw [<- ecv];exact Zah HM.o.code HB3.o
   have hcrl:V.cr.length=j:=by rw [HM.o.crl];show (T.code.take j).length=j;rw [List.length_take];omega
   have hz3:=HB3.o.size;have hrow2:=Zah hrow (Zad w3 (.cells #[.slice Ar c.length cr] 66 (0,0)));refine Enc.appW Z4x _ rfl (.tmp 47) (.tmp 50) rfl [(Ar,c.length,cr)] w.heap.size V.cr (.slice Ac1 nc1 cc1) w3.heap.size 0 1 rfl rfl (Zht Z2a w3 _ _) hcode (by simp;omega) (by simp;omega) ω ?_;intro v' w4 hown hg;obtain⟨Ac2,nc2,cc2,rfl⟩:=Zav hown;have HM5:=Zh ((HM.o.below HB3.o).addCode (ecv ▸ hg) hown (Za3 hrow2 (by have:wr.drew.heap.size=wr.heap.size:=rfl;omega)));have hb4:=Zdg (Zds hcode) (Zb6 hg) (HM.o.below HB3.o).blk (by decide);have HW5:=Zh ((HW.o.trans (HB3.o.mono hzr)).trans hg.below);have HTb4:=Zh (Zdg (Zds hcode) (Zb6 hg) (HTb.o.go HB3.o) (by decide));have d1:=hb4.cl 2;have df:=hb4.frozen 2;have hg4:=hb4.lt;have HTb5:=Zh (HTb4.o.far (p:=⟨g,2,none⟩) (Za5 HTb4.o hb4 (by decide)) (.slice Ac2 nc2 cc2));have HW5b:=Zh (HW5.o.setCell (p:=⟨g,2,none⟩) HM5.o.hg (.slice Ac2 nc2 cc2));clear hown hg hb4 hcode hrow hrow2 hb3 HTb4 HW5 HCl hcrl
   go_wp2_with fail
   generalize w4.setCell ⟨g,2,none⟩ (.slice Ac2 nc2 cc2)=W5 at *;have k5:W5.cell? ⟨g,5,none⟩=some (.slice Ap1 np1 cp1):=by rw [<- epv];exact HM5.o.blk.cl 5
   have hmk:=fun w=>Znd nr ω w
   clear k2 d1 df;refine wz (fun y:World=>y.cell? ⟨g,5,none⟩=some (.slice Ap1 np1 cp1)) [4,6,7,8] k5 (fun hHeld=>?_);refine wq 0 ?_;refine wq 1 ?_;refine wq 2 ?_;refine wq 3 ?_;refine wq 5 ?_;refine wt 4 (by assumption) ?_;refine Zan (i:=6) κ rfl (fun K hK=>?_);go_simp;refine hK.out _ _ (Zao k5 _) ?_;clear hK K;refine pu ?_;refine Zan (i:=7) κ rfl (fun K hK=>?_);go_simp;refine hK.out _ _ (Zao k5 _) ?_;clear hK K;refine pu ?_;refine Zan (i:=8) κ rfl (fun K hK=>?_);go_simp;refine hK.out _ _ (Zao (Zao k5 _) _) ?_;clear hK K;refine pu ?_;refine wl 9 ?_;obtain⟨W6,hW6⟩:∃ W,W=W5.alloc (.cells (Zd2.flat (List.replicate nr (([]:List UInt8),(0:Int)))).toArray 71 (0,0)):=⟨_,rfl⟩;have hX6:Below W5.heap.size W5 W6:=hW6 ▸ Zad _ _;have hR6:Blk W6 W5.heap.size 71 (Zd2.flat (List.replicate nr (([]:List UInt8),(0:Int)))).toArray:=hW6 ▸ Blk.new W5 _ _;have hX:=(Zaa hX6 (.cells #[.slice (some ⟨W5.heap.size,0,none⟩) nr nr,.int .i64 0] 65 (0,0))).drew;have hAt:=Zht Zun W6 65 (some ⟨W5.heap.size,0,none⟩,nr,nr,(0:Int));have hs6:W6.heap.size=W5.heap.size+1:=by rw [hW6];simp
   rw [hs6] at hAt;have hzw5:=HW5b.o.size;have hrg:Zd2.Own 71 w.heap.size W6 (.slice (some ⟨W5.heap.size,0,none⟩) nr nr) (List.replicate nr ([],0)):=Zgw ⟨W5.heap.size,by simp,hR6,hzw5⟩ (by simp;omega);have hthr:Zun.Own 65 w.heap.size W5 (.slice Ap1 np1 cp1) V.tr:=by rw [<- epv];exact HM5.o.thr.own
   have htl:V.tr.length=j:=by
    rw [show V.tr.length=_ from HM5.o.thr.len];show ((List.range j).map _).length=j;simp
   rw [<- hW6];refine Enc.appW Zx7 _ rfl (.tmp 58) (.tmp 62) rfl [(some ⟨W5.heap.size,0,none⟩,nr,nr,(0:Int))] w.heap.size V.tr (.slice Ap1 np1 cp1) (W5.heap.size+1) 0 1 rfl rfl (Z4g hAt) (Zah hthr hX) (by simp;omega) (by simp;omega) (Nat.le_trans hzw5 hX.size) ?_;intro v' w6 hown hg;obtain⟨Ap2,np2,cp2,rfl⟩:=Zav hown;have hown5:=Zah hthr hX;have hrg2:=Zah hrg (Zad W6 (.cells #[.slice (some ⟨W5.heap.size,0,none⟩) nr nr,.int .i64 0] 65 (0,0))).drew;have hF:=Zds hown5;have HM7:=Zh ((HM5.o.below hX).thread (fun x hx=>by obtain⟨u,cs,h1,h2⟩:=hF x hx;exact⟨u,cs,h1,by simp at h2;simp [h2]⟩) (Zb6 hg) (((HM5.o.thr.below hX).snoc (t:=⟨List.replicate nr ([],0),0,[]⟩) (epv ▸ hg) (by rw [show (List.replicate nr (([]:List UInt8),(0:Int))).length=nr by simp];exact hown) (by show Zd2.Own _ _ _ (.slice _ (List.replicate nr (([]:List UInt8),(0:Int))).length _) _;rw [List.length_replicate];exact hrg2))));have HAp7:=Zh (Zqz HAp.o HM5.o.thr (x:=(some ⟨W5.heap.size,0,none⟩,(List.replicate nr (([]:List UInt8),(0:Int))).length,nr,(0:Int))) rfl (Nat.le_refl _));have hb6:=Zdg hF (Zb6 hg) (HM5.o.below hX).blk (by decide);have HTb6:=Zh (Zdg hF (Zb6 hg) (HTb5.o.go hX) (by decide));have HW6:=Zh ((HW5b.o.trans (hX.mono hzw5)).trans hg.below);have d5:=hb6.cl 5;have df:=hb6.frozen 5;have hg6:=hb6.lt;have HTb7:=Zh (HTb6.o.far (p:=⟨g,5,none⟩) (Za5 HTb6.o hb6 (by decide)) (.slice Ap2 np2 cp2))
   have HW7:=Zh (HW6.o.setCell (p:=⟨g,5,none⟩) HM5.o.hg (.slice Ap2 np2 cp2));have HMe:=Zh (show mkM T (j+1) 0={ mkM T j 0 with code:=(mkM T j 0).code++[c],tds:=(mkM T j 0).tds++[⟨List.replicate nr ([],0),0,[]⟩] } from by rw [<- HNext.o.1,<- HNext.o.2];rfl);clear hX hX6 hR6 hs6 hAt hrg hrg2 hthr hown hg hown5 hF hb6 hmk
   go_wp2_with fail
   go_roundw
   case rel=>exact⟨j+1,_,ω,by go_num,by rw [HMe.o];exact HM7.o,HAp7.o,HW7.o,HTb7.o⟩
   case measure=>simp [intOf];omega
  ·have hjN2:j=T.code.length:=ω;subst hjN2;have tb3:=htb.cl 3;have y3:¬ ((T.code.length:Int)<(T.code.length:Int)):=ω
   go_wp2_with fail
   have hil:=HT0.o.ilen;have HMx:=Zh hM;have HAx:=Zh hap;have HWx:=Zh hbw;clear hM hap hbw htb HM HW HTb hgr hzr htr tb3 y3 hj hjN HW2 HM0 HTB2;go_loopw [70] (fun v wr=>∃ (i:Nat) (V:MMv),i<=T.init.length/\v=.int .i64 i/\Zb3 wr w.heap.size g (mkM T T.code.length i) V/\Zz3 V.tr/\Below w.heap.size w wr) (fun v _=>T.init.length - (intOf v).toNat)
   case atStart=>exact⟨0,_,Nat.zero_le _,rfl,HMx.o,HAx.o,HWx.o⟩
   case round=>
    obtain⟨i,V2,hi,rfl,hM,hap,hbw⟩:=hrel;have HM:=Zh hM;have HW:=Zh hbw;have HAp:=Zh hap;have hgr:=hM.blk.lt;have hzr:=hbw.size;by_cases hiN:i<T.init.length
    ·have hx:=List.getElem?_eq_getElem hiN;obtain⟨x,hxe⟩:∃ x,T.init[i]=x:=⟨_,rfl⟩;rw [hxe] at hx;obtain⟨ib,io,rfl,e0,e1,e2,e3,e4,_⟩:=(HT0.o.below hbw).init i x hx;have hok:=HOI.o x (List.mem_of_getElem? hx);have HTk:=Zh (show T.init.take (i+1)=T.init.take i++[x] from by rw [List.take_succ_eq_append_getElem hiN,hxe]);have y1:(0:Int)<=(i:Int):=ω;have y2:(i:Int)<(T.init.length:Int):=ω;obtain⟨th,rg,loc,vl,vn⟩:=x;simp only at e0 e1 e2 e3 e4;have HLx:=Zh (Blk.new wr 94 #[.int .i64 th,.int .i64 rg,.string ⟨loc.toArray⟩,.string ⟨vl.toArray⟩,.int .i64 vn]);have HBx:=Zh (Zad wr (.cells #[.int .i64 th,.int .i64 rg,.string ⟨loc.toArray⟩,.string ⟨vl.toArray⟩,.int .i64 vn] 94 (0,0)));clear hx hxe hM hap hbw;by_cases hth:0<=th
     ·obtain⟨⟨_,hk2⟩,⟨hr1,hr2⟩,_⟩:=hok.reg (by intro e;simp only at e;omega);simp only at hk2 hr1 hr2;obtain⟨k,rfl⟩:∃ k:Nat,th=(k:Int):=⟨th.toNat,ω⟩;obtain⟨r,rfl⟩:∃ r:Nat,rg=(r:Int):=⟨rg.toNat,ω⟩;have hkN:k<T.code.length:=ω;rw [HNr.o] at hr2;have hk:(mkM T T.code.length i).tds[k]?=some (tdK nr (T.init.take i) k):=by
       show ((List.range T.code.length).map (tdK (Zdn (isR T)) (T.init.take i)))[k]?=_;rw [HNr.o,List.getElem?_map,List.getElem?_range hkN];rfl
      have hvl:(tdK nr (T.init.take i) k).vs.length=nr:=Zei _ _ _;have htl:(mkM T T.code.length i).tds.length=T.code.length:=by
       show ((List.range T.code.length).map _).length=_;simp
      have HM2:=Zh (HM.o.below HBx.o);obtain⟨pb,cp,b,cap,epv,p0,p1,hreg,hte⟩:=HM2.o.thr.get hk;have k5:=HM2.o.blk.cl 5;rw [epv,htl] at k5;rw [hvl] at p0;have z1:(0:Int)<=(k:Int):=ω;have z2:(k:Int)<(T.code.length:Int):=ω;have z3:(0:Int)<=(r:Int):=ω;have z4:(r:Int)<(nr:Int):=ω
      have HNx:=Zh (show mkM T T.code.length (i+1)={ mkM T T.code.length i with tds:=(mkM T T.code.length i).tds.set k { tdK nr (T.init.take i) k with vs:=(tdK nr (T.init.take i) k).vs.set r (vl,vn) } } from by
       unfold mkM;simp only;rw [HTk.o,HNr.o,Zwt nr T.code.length k (T.init.take i) ⟨(k:Int),(r:Int),loc,vl,vn⟩ rfl]
       rfl)
      have l0:=HLx.o.cl 0;have l1:=HLx.o.cl 1;have l3:=HLx.o.cl 3;have l4:=HLx.o.cl 4;have HTh:=Zh (hreg.at_ (List.getElem?_eq_getElem (show r<(tdK nr (T.init.take i) k).vs.length by omega))).2.2.2;have HM9:=Zh (HM2.o.setReg HAp.o hk hte r (vl,vn));have hbB:=hreg.blk.1;have HW9:=Zh (((HW.o.trans (HBx.o.mono hzr)).setCell (p:=⟨b,r*2,none⟩) hbB (.string ⟨vl.toArray⟩)).setCell (p:=⟨b,r*2+1,none⟩) hbB (.int .i64 vn));clear hk2 hr1 hr2 hok hk epv hreg hvl htl hte p1 hbB
      go_wp2_with fail
      generalize wr.alloc _=w9 at *;refine wz (fun y:World=>y.cell? ⟨g,5,none⟩=some (.slice (some ⟨pb,0,none⟩) T.code.length cp)/\y.cell? ⟨wr.heap.size,0,none⟩=some (.int .i64 (k:Int))/\y.cell? ⟨pb,k*2,none⟩=some (.slice (some ⟨b,0,none⟩) nr cap)/\y.cell? ⟨wr.heap.size,1,none⟩=some (.int .i64 (r:Int))/\y.cell? ⟨wr.heap.size,3,none⟩=some (.string ⟨vl.toArray⟩)/\y.cell? ⟨wr.heap.size,4,none⟩=some (.int .i64 vn)) [3,5,8,10,12] ⟨k5,l0,p0,l1,l3,l4⟩ (fun hHeld=>?_);refine wq 0 ?_;refine wq 1 ?_;refine wq 2 ?_;refine wq 4 ?_;refine wq 9 ?_;refine wq 11 ?_;refine wt 3 (by assumption) ?_;refine wt 5 (by assumption) ?_;refine wq 6 ?_;refine wq 7 ?_;refine wt 8 (by assumption) ?_;refine wt 10 (by assumption) ?_;refine wt 12 (by assumption) ?_;refine wq 13 ?_;refine wl 14 ?_;refine wpList_store_mid rfl _ _ _ rfl b (r*2) #[.string ⟨vl.toArray⟩,.int .i64 vn] rfl rfl HTh.o κ (all_oneCell_toArray (cs:=Zd2.enc (vl,vn)) (Zd2.one _)) ?_
      go_wp2_with fail
      go_roundw
      case rel=>exact⟨i+1,_,ω,by go_num,by rw [HNx.o];exact Zb3.drew HM9.o,HAp.o,HW9.o.drew⟩
      case measure=>simp [intOf];omega
     ·have HNx:=Zh (show mkM T T.code.length (i+1)=mkM T T.code.length i from by
       unfold mkM
       rw [HTk.o,Zr3 _ _ _ _ (show (⟨th,rg,loc,vl,vn⟩:Ini).th<0 by simp only;omega)])
      have l0:=HLx.o.cl 0;have g3:decide (0<=th)=false:=by simpa using hth
      clear hok
      go_wp2_with fail
      go_roundw
      case rel=>exact⟨i+1,V2,ω,by go_num,by rw [HNx.o];exact HM.o.below HBx.o,HAp.o,HW.o.trans (HBx.o.mono hzr)⟩
      case measure=>simp [intOf];omega
    ·have hiN2:i=T.init.length:=ω;have HEn:=Zh (show mkM T T.code.length i=Zby T from by rw [hiN2];exact Zvn T);have y3:¬ (i:Int)<(T.init.length:Int):=ω;clear hiN2 hiN hM hap hbw
     go_wp2_with fail
     go_ret2
     exact⟨g,V2,rfl,by rw [<- HEn.o];exact HM.o,HW.o⟩):G:=h
theorem m_2{G:Prop}(h:G:=by
 have i0:=HBI3.o.cm 0;obtain⟨a0,a1,a2,a3,a4⟩:=BXA.out.c5;obtain⟨b0,b1,b2,b3,b4⟩:=BXB.out.c5;have hz3:=HW30.o.size;have HSS:=Zh (show ∀ y,Below W3.heap.size W3 y->(fun y:World=>y.cell? ⟨w.heap.size,0,none⟩=some (.int .i64 op)/\(y.cell? ⟨la,0,none⟩=some (Zai ra.h)/\y.cell? ⟨la,1,none⟩=some (.int .u64 (ra.on:Int))/\y.cell? ⟨la,2,none⟩=some (.int .u64 0)/\y.cell? ⟨la,3,none⟩=some (.int .u64 0)/\y.cell? ⟨la,4,none⟩=some (.int .u64 0))/\y.cell? ⟨lb,0,none⟩=some (Zai xb.h)/\y.cell? ⟨lb,1,none⟩=some (.int .u64 (xb.on:Int))/\y.cell? ⟨lb,2,none⟩=some (.int .u64 0)/\y.cell? ⟨lb,3,none⟩=some (.int .u64 0)/\y.cell? ⟨lb,4,none⟩=some (.int .u64 0)) y from fun y hb=>⟨Zac i0 hb,⟨Zac a0 hb,Zac a1 hb,Zac a2 hb,Zac a3 hb,Zac a4 hb⟩,Zac b0 hb,Zac b1 hb,Zac b2 hb,Zac b3 hb,Zac b4 hb⟩);clear BXA BXB
 go_wp2_with fail
 rename_i K9 hK9;have HK9:=Zh hK9;clear hK9 i0 a0 a1 a2 a3 a4 b0 b1 b2 b3 b4;apply Znq (K:=K9) (F:=fun lx _ W7=>Below w.heap.size w W7/\Blk W7 w.heap.size 92 #[.int .i64 op,.int .i64 (d:Int),.int .i64 (a:Int),.int .i64 (b:Int),.int .i64 imm,.string ⟨loc.toArray⟩,.string ⟨label.toArray⟩,.int .i64 fence]/\Blk W7 lx 163 #[.iface mt mv,.int .u64 (oo:Int),.int .u64 0,.int .u64 0,.int .u64 0]/\w.heap.size<lx)
 ·intro HM;have HM:=Zh HM;refine wz (fun y:World=>y.cell? ⟨w.heap.size,0,none⟩=some (.int .i64 op)/\(y.cell? ⟨la,0,none⟩=some (Zai ra.h)/\y.cell? ⟨la,1,none⟩=some (.int .u64 (ra.on:Int))/\y.cell? ⟨la,2,none⟩=some (.int .u64 0)/\y.cell? ⟨la,3,none⟩=some (.int .u64 0)/\y.cell? ⟨la,4,none⟩=some (.int .u64 0))/\y.cell? ⟨lb,0,none⟩=some (Zai xb.h)/\y.cell? ⟨lb,1,none⟩=some (.int .u64 (xb.on:Int))/\y.cell? ⟨lb,2,none⟩=some (.int .u64 0)/\y.cell? ⟨lb,3,none⟩=some (.int .u64 0)/\y.cell? ⟨lb,4,none⟩=some (.int .u64 0)) [1,3,5,6,8,10,13] (HSS.o _ (Below.refl _ _).drew) (fun hHeld=>?_);refine wq 0 ?_;refine wq 2 ?_;refine wq 4 ?_;refine wq 7 ?_;refine wq 9 ?_;refine wt 1 (by assumption) ?_;refine wt 3 (by assumption) ?_;refine wt 5 (by assumption) ?_;refine wt 8 (by assumption) ?_;refine wt 10 (by assumption) ?_;clear hHeld;refine Zcq (i:=6) (j:=13) κ rfl rfl (fun K hK=>?_) (fun K hK=>?_)
  ·go_simp
   go_at_call 125
   refine (HMX.o _).mono ?_;rintro e w' ⟨rfl,rfl⟩;refine hK.out _ _ (HSS.o _ (by repeat (first | exact Below.refl _ _ | exact Below.refl _ _ | with_reducible refine Below.drew ?_ | with_reducible refine Zaa ?_ _))) ?_;clear hK K;refine pu ?_;refine Zcq (i:=11) (j:=13) κ rfl rfl (fun K hK=>?_) (fun K hK=>?_)
   ·go_simp
    go_at_call 126
    refine (HOR.o _).mono ?_;rintro e w5 ⟨rfl,hb5⟩;have HB6:=Zh (show Below (W3.drew).heap.size W3.drew w5 from hb5);have HB5:=Zh (show Below W3.heap.size W3 w5 from (by first | exact Zas hb5 | exact HW4.o.trans (hb5.mono HW4.o.size)));clear hb5;refine hK.out _ _ (HSS.o _ HB5.o) ?_;clear hK K;refine pu ?_;refine wq 12 ?_;refine Zan (i:=13) κ rfl (fun K hK=>?_);go_simp;refine hK.out _ _ (HSS.o _ (by repeat (first | exact Below.refl _ _ | exact HB5.o | with_reducible refine Below.drew ?_ | with_reducible refine Zaa ?_ _))) ?_;clear hK K;refine pu ?_;refine wl 14 ?_;have hz5:=HB5.o.size;refine wpList_store_mid rfl _ _ _ rfl (w5.heap.size) 0 #[.iface mt mv,.int .u64 (oo:Int),.int .u64 0,.int .u64 0,.int .u64 0] rfl rfl (Zaw (Blk.new w5 163 #[.nilIface,.int .u64 0,.int .u64 0,.int .u64 0,.int .u64 0]) 5 (by simp)) κ (all_oneCell_toArray (cs:=[.iface mt mv,.int .u64 (oo:Int),.int .u64 0,.int .u64 0,.int .u64 0]) hone6) ?_;have hW:=Zam (show Below W3.heap.size W3 (w5.alloc (.cells #[.nilIface,.int .u64 0,.int .u64 0,.int .u64 0,.int .u64 0] 163 (0,0))) from Zaa HB5.o _) (show W3.heap.size<=(w5.heap.size) by omega) [.iface mt mv,.int .u64 (oo:Int),.int .u64 0,.int .u64 0,.int .u64 0] 0
    have hF:Below w.heap.size w (World.setCells (w5.alloc (.cells #[.nilIface,.int .u64 0,.int .u64 0,.int .u64 0,.int .u64 0] 163 (0,0))) ((w5.heap.size)) 0 [.iface mt mv,.int .u64 (oo:Int),.int .u64 0,.int .u64 0,.int .u64 0])/\Blk (World.setCells (w5.alloc (.cells #[.nilIface,.int .u64 0,.int .u64 0,.int .u64 0,.int .u64 0] 163 (0,0))) ((w5.heap.size)) 0 [.iface mt mv,.int .u64 (oo:Int),.int .u64 0,.int .u64 0,.int .u64 0]) w.heap.size 92 #[.int .i64 op,.int .i64 (d:Int),.int .i64 (a:Int),.int .i64 (b:Int),.int .i64 imm,.string ⟨loc.toArray⟩,.string ⟨label.toArray⟩,.int .i64 fence]/\Blk (World.setCells (w5.alloc (.cells #[.nilIface,.int .u64 0,.int .u64 0,.int .u64 0,.int .u64 0] 163 (0,0))) ((w5.heap.size)) 0 [.iface mt mv,.int .u64 (oo:Int),.int .u64 0,.int .u64 0,.int .u64 0]) ((w5.heap.size)) 163 #[.iface mt mv,.int .u64 (oo:Int),.int .u64 0,.int .u64 0,.int .u64 0]/\w.heap.size<(w5.heap.size):=
     ⟨Zab HW30.o hW,HBI3.o.go hW,Blk.sets5 (Blk.new w5 163 #[.nilIface,.int .u64 0,.int .u64 0,.int .u64 0,.int .u64 0]) rfl (.iface mt mv) (.int .u64 (oo:Int)) (.int .u64 0) (.int .u64 0) (.int .u64 0),ω⟩
    obtain⟨z0,_⟩:∃ z:Nat,z=z:=⟨0,rfl⟩;clear hW;generalize (World.setCells (w5.alloc (.cells #[.nilIface,.int .u64 0,.int .u64 0,.int .u64 0,.int .u64 0] 163 (0,0))) ((w5.heap.size)) 0 [.iface mt mv,.int .u64 (oo:Int),.int .u64 0,.int .u64 0,.int .u64 0])=W7 at hF ⊢;generalize (w5.heap.size)=p1 at hF ⊢;exact wpList_nil (HM.o p1 z0 W7 hF)
   ·go_simp;refine hK.out _ _ (HSS.o _ (by repeat (first | exact Below.refl _ _ | exact Below.refl _ _ | with_reducible refine Below.drew ?_ | with_reducible refine Zaa ?_ _))) ?_;clear hK K;refine pu ?_;generalize hW4:(World.drew (World.alloc _ _))=W4;have BZ6:Hid (Blk W4 W3.heap.size 163 #[.nilIface,.int .u64 0,.int .u64 0,.int .u64 0,.int .u64 0]):=by rw [<- hW4];exact Zh (Blk.new W3 _ _).drew
    have HW4:Hid (Below W3.heap.size W3 W4):=by rw [<- hW4];exact Zh ((by repeat (first | exact Below.refl _ _ | exact Below.refl _ _ | with_reducible refine Below.drew ?_ | with_reducible refine Zaa ?_ _)))
    clear hW4;refine Zan (i:=11) κ rfl (fun K hK=>?_);go_simp
    go_at_call 126
    refine (HOR.o _).mono ?_;rintro e w5 ⟨rfl,hb5⟩;have HB6:=Zh (show Below (W4).heap.size W4 w5 from hb5);have HB5:=Zh (show Below W3.heap.size W3 w5 from (by first | exact Zas hb5 | exact HW4.o.trans (hb5.mono HW4.o.size)));clear hb5;refine hK.out _ _ (HSS.o _ HB5.o) ?_;clear hK K;refine pu ?_;refine wq 12 ?_;refine wl 14 ?_;have hz5:=HB5.o.size;refine wpList_store_mid rfl _ _ _ rfl (W3.heap.size) 0 #[.iface mt mv,.int .u64 (oo:Int),.int .u64 0,.int .u64 0,.int .u64 0] rfl rfl (Zaw (BZ6.out.go HB6.o) 5 (by simp)) κ (all_oneCell_toArray (cs:=[.iface mt mv,.int .u64 (oo:Int),.int .u64 0,.int .u64 0,.int .u64 0]) hone6) ?_;have hW:=Zam (HB5.o) (show W3.heap.size<=(W3.heap.size) by omega) [.iface mt mv,.int .u64 (oo:Int),.int .u64 0,.int .u64 0,.int .u64 0] 0;have hF:Below w.heap.size w (World.setCells w5 ((W3.heap.size)) 0 [.iface mt mv,.int .u64 (oo:Int),.int .u64 0,.int .u64 0,.int .u64 0])/\Blk (World.setCells w5 ((W3.heap.size)) 0 [.iface mt mv,.int .u64 (oo:Int),.int .u64 0,.int .u64 0,.int .u64 0]) w.heap.size 92 #[.int .i64 op,.int .i64 (d:Int),.int .i64 (a:Int),.int .i64 (b:Int),.int .i64 imm,.string ⟨loc.toArray⟩,.string ⟨label.toArray⟩,.int .i64 fence]/\Blk (World.setCells w5 ((W3.heap.size)) 0 [.iface mt mv,.int .u64 (oo:Int),.int .u64 0,.int .u64 0,.int .u64 0]) ((W3.heap.size)) 163 #[.iface mt mv,.int .u64 (oo:Int),.int .u64 0,.int .u64 0,.int .u64 0]/\w.heap.size<(W3.heap.size):=
     ⟨Zab HW30.o hW,HBI3.o.go hW,Blk.sets5 (BZ6.out.go HB6.o) rfl (.iface mt mv) (.int .u64 (oo:Int)) (.int .u64 0) (.int .u64 0) (.int .u64 0),ω⟩
    obtain⟨z0,_⟩:∃ z:Nat,z=z:=⟨0,rfl⟩;clear hW;generalize (World.setCells w5 ((W3.heap.size)) 0 [.iface mt mv,.int .u64 (oo:Int),.int .u64 0,.int .u64 0,.int .u64 0])=W7 at hF ⊢;generalize (W3.heap.size)=p1 at hF ⊢;exact wpList_nil (HM.o p1 z0 W7 hF)
  ·go_simp;refine hK.out _ _ (HSS.o _ (by repeat (first | exact Below.refl _ _ | exact Below.refl _ _ | with_reducible refine Below.drew ?_ | with_reducible refine Zaa ?_ _))) ?_;clear hK K;refine pu ?_;generalize hW4:(World.drew (World.alloc _ _))=W4;have BZ6:Hid (Blk W4 W3.heap.size 163 #[.nilIface,.int .u64 0,.int .u64 0,.int .u64 0,.int .u64 0]):=by rw [<- hW4];exact Zh (Blk.new W3 _ _).drew
   have HW4:Hid (Below W3.heap.size W3 W4):=by rw [<- hW4];exact Zh ((by repeat (first | exact Below.refl _ _ | exact Below.refl _ _ | with_reducible refine Below.drew ?_ | with_reducible refine Zaa ?_ _)))
   clear hW4;refine Zan (i:=6) κ rfl (fun K hK=>?_);go_simp
   go_at_call 125
   refine (HMX.o _).mono ?_;rintro e w' ⟨rfl,rfl⟩;refine hK.out _ _ (HSS.o _ HW4.o) ?_;clear hK K;refine pu ?_;refine Zan (i:=11) κ rfl (fun K hK=>?_);go_simp
   go_at_call 126
   refine (HOR.o _).mono ?_;rintro e w5 ⟨rfl,hb5⟩;have HB6:=Zh (show Below (W4).heap.size W4 w5 from hb5);have HB5:=Zh (show Below W3.heap.size W3 w5 from (by first | exact Zas hb5 | exact HW4.o.trans (hb5.mono HW4.o.size)));clear hb5;refine hK.out _ _ (HSS.o _ HB5.o) ?_;clear hK K;refine pu ?_;refine wq 12 ?_;refine wl 14 ?_;have hz5:=HB5.o.size;refine wpList_store_mid rfl _ _ _ rfl (W3.heap.size) 0 #[.iface mt mv,.int .u64 (oo:Int),.int .u64 0,.int .u64 0,.int .u64 0] rfl rfl (Zaw (BZ6.out.go HB6.o) 5 (by simp)) κ (all_oneCell_toArray (cs:=[.iface mt mv,.int .u64 (oo:Int),.int .u64 0,.int .u64 0,.int .u64 0]) hone6) ?_;have hW:=Zam (HB5.o) (show W3.heap.size<=(W3.heap.size) by omega) [.iface mt mv,.int .u64 (oo:Int),.int .u64 0,.int .u64 0,.int .u64 0] 0;have hF:Below w.heap.size w (World.setCells w5 ((W3.heap.size)) 0 [.iface mt mv,.int .u64 (oo:Int),.int .u64 0,.int .u64 0,.int .u64 0])/\Blk (World.setCells w5 ((W3.heap.size)) 0 [.iface mt mv,.int .u64 (oo:Int),.int .u64 0,.int .u64 0,.int .u64 0]) w.heap.size 92 #[.int .i64 op,.int .i64 (d:Int),.int .i64 (a:Int),.int .i64 (b:Int),.int .i64 imm,.string ⟨loc.toArray⟩,.string ⟨label.toArray⟩,.int .i64 fence]/\Blk (World.setCells w5 ((W3.heap.size)) 0 [.iface mt mv,.int .u64 (oo:Int),.int .u64 0,.int .u64 0,.int .u64 0]) ((W3.heap.size)) 163 #[.iface mt mv,.int .u64 (oo:Int),.int .u64 0,.int .u64 0,.int .u64 0]/\w.heap.size<(W3.heap.size):=
    ⟨Zab HW30.o hW,HBI3.o.go hW,Blk.sets5 (BZ6.out.go HB6.o) rfl (.iface mt mv) (.int .u64 (oo:Int)) (.int .u64 0) (.int .u64 0) (.int .u64 0),ω⟩
   obtain⟨z0,_⟩:∃ z:Nat,z=z:=⟨0,rfl⟩;clear hW;generalize (World.setCells w5 ((W3.heap.size)) 0 [.iface mt mv,.int .u64 (oo:Int),.int .u64 0,.int .u64 0,.int .u64 0])=W7 at hF ⊢;generalize (W3.heap.size)=p1 at hF ⊢;exact wpList_nil (HM.o p1 z0 W7 hF)
 ·intro lx _ W7 ⟨hb7,hi7,hx7,hlx⟩;refine HK9.o _ _ ?_;clear HK9 K9 HSS HW30 HBI3;have HW7:=Zh hb7;obtain⟨j0,j1,j2,j3⟩:=hi7.c4;obtain⟨c0,c1,c2,c3,c4⟩:=hx7.c5;have f0:=hx7.frozen 0;have hlw:lx<W7.heap.size:=hx7.lt;have hne:¬ lx=w.heap.size:=ω;have hne2:¬ w.heap.size=lx:=ω;clear hb7 hi7 hx7;by_cases h9:op=9
  ·have g9:(op == 9)=true:=by simpa using h9
   by_cases hab:a=b
   ·have g10:((a:Int) == (b:Int))=true:=by simp [hab]
    have HX:=Zh (HX0.o h9 hab);have HB8:=Zh (HW7.o.setCell (p:=⟨lx,0,none⟩) (show w.heap.size<=lx by omega) (.iface 159 (.int .i64 0)));clear h9 hab;have HB7:=Zh (HB00.o.trans ((HB8.o).mono hbs));have HR7:=Zh (HR.o.below (HB8.o))
    go_wp2_with (go_at_call 74;refine (HPUT0.o _ HB7.o hd hl HR7.o).mono ?_;rintro e w8 ⟨V8,rfl,hR8,hb8,hf8⟩)
    go_end0
    rw [HX.o];exact⟨_,rfl,hR8,(HB8.o.mono hbs).trans hb8,(FrV.of_below HB8.o).trans hf8⟩
   ·have g10:((a:Int) == (b:Int))=false:=by simp;omega
    have HX:=Zh (HX1.o (fun h=>hab h.2));clear h9 hab;have HB7:=Zh (HB00.o.trans ((HW7.o).mono hbs));have HR7:=Zh (HR.o.below (HW7.o))
    go_wp2_with (go_at_call 74;refine (HPUT.o _ HB7.o hd hl HR7.o).mono ?_;rintro e w8 ⟨V8,rfl,hR8,hb8,hf8⟩)
    go_end0
    rw [HX.o];exact⟨_,rfl,hR8,(HW7.o.mono hbs).trans hb8,(FrV.of_below HW7.o).trans hf8⟩
  ·have g9:(op == 9)=false:=by simpa using h9
   have HX:=Zh (HX1.o (fun h=>h9 h.1));clear h9;have HB7:=Zh (HB00.o.trans ((HW7.o).mono hbs));have HR7:=Zh (HR.o.below (HW7.o))
   go_wp2_with (go_at_call 74;refine (HPUT.o _ HB7.o hd hl HR7.o).mono ?_;rintro e w8 ⟨V8,rfl,hR8,hb8,hf8⟩)
   go_end0
   rw [HX.o]
   exact⟨_,rfl,hR8,(HW7.o.mono hbs).trans hb8,(FrV.of_below HW7.o).trans hf8⟩):G:=h
theorem m_3{G:Prop}(h:G:=by
 have hnm:nr<=32:=ω;clear h1 h2 hnr
 go_wp2_with fail
 generalize w5.setCell _ _=W6 at *
 try rw [h15]
 clear h15 t0 k14 f14 g1;go_loopw [9] (fun v wo=>∃ (j:Nat) (pv:Value) (tr:List (Option Addr×Nat×Nat×Int)),j<=T.code.length/\v=.int .i64 (j:Int)/\Zdp wo w2.heap.size pv tr ((List.range j).map (tdK nr T.init))/\Blk wo g 54 (#[.int .i64 T.arch,.string ⟨T.name.toArray⟩,.string ⟨T.cycle.toArray⟩,.slice Ai T.init.length ci,.slice Ac T.code.length cc,.int .i64 T.q,.int .i64 T.k,.int .i64 T.t,.int .i64 T.r,.string ⟨T.l.toArray⟩,.int .i64 T.v,.slice A0 l0 q0,.slice Al (Zaq T).length cl,pv,.slice Am nm cm,.slice At (Za8 T).length ct])/\Zde.Own 3 w.heap.size wo (.slice Am nm cm) (Ze3 (Zaq T) T.init)/\Below w2.heap.size w2 wo) (fun v _=>T.code.length - (intOf v).toNat)
 case atStart=>exact⟨0,_,_,ω,rfl,Zdp.nil,HM6.o,HMe6.o,HB6.o⟩
 case round=>
  obtain⟨j,pv,tr,hj,rfl,hth,hm,hme,hb⟩:=hrel;generalize wr=wo at *;obtain⟨Ap,np,cp,rfl⟩:=Zav hth.own;have hii:(0:Int)<=(j:Int):=ω;have t4:wo.cell? ⟨w.heap.size,4,none⟩=some (.slice Ac T.code.length cc):=(HT2.o.go hb).cell 4;have HTr:=Zh hth;have HM:=Zh hm;have HMe:=Zh hme;have HB:=Zh hb;have hsz:=hb.size;have hgr:=hm.lt;clear hth hm hme hb HM6 HMe6 HB6;by_cases hlt:j<T.code.length
  ·have hij:(j:Int)<(T.code.length:Int):=ω;have hmk:=fun w=>Znd nr ω w
   obtain⟨X6,hX6⟩:∃ X,X=wo.alloc (.cells (Zd2.flat (List.replicate nr (([]:List UInt8),(0:Int)))).toArray 71 (0,0)):=⟨_,rfl⟩;have hXb:Below wo.heap.size wo X6:=hX6 ▸ Zad _ _;have hXs:X6.heap.size=wo.heap.size+1:=by rw [hX6];simp
   have hXr:Blk X6 wo.heap.size 71 (Zd2.flat (List.replicate nr (([]:List UInt8),(0:Int)))).toArray:=hX6 ▸ Blk.new wo _ _;have hrg:Zd2.Own 71 wo.heap.size X6 (.slice (some ⟨wo.heap.size,0,none⟩) nr nr) (List.replicate nr ([],0)):=Zgw ⟨wo.heap.size,by simp,hXr,Nat.le_refl _⟩ (by simp;omega);have HL:Hid (Blk (X6.alloc (.cells #[.slice (some ⟨wo.heap.size,0,none⟩) nr nr,.int .i64 0] 65 (0,0))) (wo.heap.size+1) 65 #[.slice (some ⟨wo.heap.size,0,none⟩) nr nr,.int .i64 0]):=Zh (by have:=Blk.new X6 65 #[.slice (some ⟨wo.heap.size,0,none⟩) nr nr,.int .i64 0];rwa [hXs] at this);have hal:=Zad X6 (.cells #[.slice (some ⟨wo.heap.size,0,none⟩) nr nr,.int .i64 0] 65 (0,0));have HRg:=Zh (Zah hrg hal);have HXb:=Zh (Zab hXb hal);have t3:(X6.alloc (.cells #[.slice (some ⟨wo.heap.size,0,none⟩) nr nr,.int .i64 0] 65 (0,0))).cell? ⟨w.heap.size,3,none⟩=some (.slice Ai T.init.length ci):=(HT2.o.go (Zab HB.o HXb.o)).cell 3;clear hXr hrg hal hXb
   go_wp2_with fail
   rw [<- hX6];generalize X6.alloc _=X7 at *;clear hXs hX6 hmk;go_loopw [11] (fun v wr=>∃ (i:Nat),i<=T.init.length/\v=.int .i64 (i:Int)/\Zd2.Own 71 wo.heap.size wr (.slice (some ⟨wo.heap.size,0,none⟩) nr nr) (Zc4 nr j (T.init.take i))/\Blk wr (wo.heap.size+1) 65 #[.slice (some ⟨wo.heap.size,0,none⟩) nr nr,.int .i64 0]/\Below wo.heap.size wo wr) (fun v _=>T.init.length - (intOf v).toNat)
   case atStart=>exact⟨0,ω,rfl,HRg.o,HL.o,HXb.o⟩
   case round=>
    obtain⟨i,hi,rfl,hrg,hl,hbq⟩:=hrel;have hbw:=Zab HB.o hbq;have t3:wr.cell? ⟨w.heap.size,3,none⟩=some (.slice Ai T.init.length ci):=(HT2.o.go hbw).cell 3;have HRg2:=Zh hrg;have HL2:=Zh hl;have HBq:=Zh hbq;have hi0:(0:Int)<=(i:Int):=ω;clear hrg hl hbq HRg HL HXb;by_cases hlt2:i<T.init.length
    ·have hij2:(i:Int)<(T.init.length:Int):=ω;have hx:=List.getElem?_eq_getElem hlt2;obtain⟨x,hxe⟩:∃ x,T.init[i]=x:=⟨_,rfl⟩;rw [hxe] at hx;obtain⟨ib,io,eAi,e0,e1,e2,e3,e4,_⟩:=(HTs.o.below hbw).init i x hx;have hok:=HOI.o x (List.mem_of_getElem? hx);have HIN:=Zh (show Zc4 nr j (T.init.take (i+1))=if x.th=(j:Int) then (Zc4 nr j (T.init.take i)).set x.rg.toNat (x.vl,x.vn) else Zc4 nr j (T.init.take i) by rw [List.take_succ_eq_append_getElem hlt2,hxe,Ze8]);obtain⟨th,rg,loc,vl,vn⟩:=x;simp only at e0 e1 e2 e3 e4 HIN;rw [eAi] at t3;clear hx hxe eAi hbw;by_cases hth:th=(j:Int)
     ·subst hth;obtain⟨_,⟨hr1,hr2⟩,_⟩:=hok.reg (by intro e;simp only at e;omega);simp only at hr1 hr2;rw [HNr.o] at hr2;obtain⟨r,rfl⟩:∃ r:Nat,rg=(r:Int):=⟨rg.toNat,ω⟩;have hrn:r<nr:=ω;have HIN2:=Zh (show Zc4 nr j (T.init.take (i+1))=(Zc4 nr j (T.init.take i)).set r (vl,vn) by rw [HIN.o,if_pos rfl];rfl);have hv:(Zc4 nr j (T.init.take i)).length=nr:=Zei _ _ _;have hrG:Zb1 wr wo.heap.size wo.heap.size nr (Zc4 nr j (T.init.take i)):=by
       show Zd2.Own _ _ _ (.slice _ (Zc4 nr j (T.init.take i)).length _) _;rw [hv];exact HRg2.o
      have HTE:=Zh (hrG.at_ (List.getElem?_eq_getElem (show r<(Zc4 nr j (T.init.take i)).length by omega))).2.2.2;have hs9:=hrG.set r (vl,vn);rw [hv] at hs9;have HRg9:=Zh hs9;have HL9:=Zh ((HL2.o.far (p:=⟨wo.heap.size,r*2,none⟩) (show wo.heap.size+1≠wo.heap.size by omega) (.string ⟨vl.toArray⟩)).far (p:=⟨wo.heap.size,r*2+1,none⟩) (show wo.heap.size+1≠wo.heap.size by omega) (.int .i64 vn));have HB9:=Zh ((HBq.o.setCell (p:=⟨wo.heap.size,r*2,none⟩) (Nat.le_refl _) (.string ⟨vl.toArray⟩)).setCell (p:=⟨wo.heap.size,r*2+1,none⟩) (Nat.le_refl _) (.int .i64 vn));have y5:=HL2.o.cl 0;have z3:(0:Int)<=(r:Int):=ω;have z4:(r:Int)<(nr:Int):=ω;clear hok hr1 hr2 hrn HIN hrG hs9 hv
      go_wp2_with fail
      refine wz (fun y:World=>y.cell? ⟨wo.heap.size+1,0,none⟩=some (.slice (some ⟨wo.heap.size,0,none⟩) nr nr)/\y.cell? ⟨w.heap.size,3,none⟩=some (.slice (some ⟨ib,io,none⟩) T.init.length ci)/\y.cell? ⟨ib,io+i*5+1,none⟩=some (.int .i64 (r:Int))/\y.cell? ⟨ib,io+i*5+3,none⟩=some (.string ⟨vl.toArray⟩)/\y.cell? ⟨ib,io+i*5+4,none⟩=some (.int .i64 vn)) [1,3,5,6,7,9,11,12,13] ⟨y5,t3,e1,e3,e4⟩ (fun hHeld=>?_);refine wq 0 ?_;refine wq 2 ?_;refine wq 4 ?_;refine wq 8 ?_;refine wq 10 ?_;refine wt 1 (by assumption) ?_;refine wt 3 (by assumption) ?_;refine wt 5 (by assumption) ?_;refine wt 6 (by assumption) ?_;refine wt 7 (by assumption) ?_;refine wt 9 (by assumption) ?_;refine wt 11 (by assumption) ?_;refine wt 12 (by assumption) ?_;refine wt 13 (by assumption) ?_;refine wq 14 ?_;refine wl 15 ?_;refine wpList_store_mid rfl _ _ _ rfl wo.heap.size (r*2) #[.string ⟨vl.toArray⟩,.int .i64 vn] rfl rfl HTE.o κ (all_oneCell_toArray (cs:=Zd2.enc (vl,vn)) (Zd2.one _)) ?_;clear hHeld
      go_wp2_with fail
      go_roundw
      case rel=>exact⟨i+1,ω,by first | go_num | omega,by rw [HIN2.o];exact HRg9.o,HL9.o,HB9.o.drew⟩
      case measure=>simp [intOf];omega
     ·have HIN2:=Zh (show Zc4 nr j (T.init.take (i+1))=Zc4 nr j (T.init.take i) by rw [HIN.o,if_neg hth]);have g3:(th == (j:Int))=false:=beq_eq_false_iff_ne.2 hth;clear hok HIN
      go_wp2_with fail
      go_roundw
      case rel=>exact⟨i+1,ω,by first | go_num | omega,by rw [HIN2.o];exact HRg2.o,HL2.o,HBq.o⟩
      case measure=>simp [intOf];omega
    ·have hin:i=T.init.length:=ω;have HI:=Zh (show Zc4 nr j (T.init.take i)=(tdK nr T.init j).vs by rw [hin,List.take_length];rfl);have g4:¬ (i:Int)<(T.init.length:Int):=ω;have hMq:=HM.o.go HBq.o;have k13:=hMq.cl 13;have f13:=hMq.frozen 13;have y5:=HL2.o.cl 0;have y6:=HL2.o.cl 1;have HBw:=Zh hbw;have HMq:=Zh hMq;have hwq:=hbw.size;clear hin hMq hbw
     go_wp2_with (at_builtin;refine Hid.o ?_)
     refine Zh ?_;have hal:=Zad wr (.cells #[.slice (some ⟨wo.heap.size,0,none⟩) nr nr,.int .i64 0] 65 (0,0));have hthr:=HTr.o.below (Zab HBq.o hal);have htl:tr.length=j:=by rw [HTr.o.len];simp
     have hvl:(tdK nr T.init j).vs.length=nr:=Zei _ _ _;refine Enc.appW Zx7 _ rfl (.tmp 78) (.tmp 80) rfl [(some ⟨wo.heap.size,0,none⟩,nr,nr,(0:Int))] w2.heap.size tr (.slice Ap np cp) wr.heap.size 0 1 rfl rfl (Zht Zun wr _ _) hthr.own (by simp;omega) (by simp;omega) (Nat.le_trans hwq hal.size) ?_;intro v' w6 hown hgr2;obtain⟨Ap2,np2,cp2,rfl⟩:=Zav hown;have hF:=Zds hthr.own
     have hsn:=hthr.snoc (t:=tdK nr T.init j) (b:=wo.heap.size) (cap:=nr) hgr2 (by rw [hvl];exact hown) (by
      show Zd2.Own _ _ _ (.slice _ (tdK nr T.init j).vs.length _) _;rw [hvl,<- HI.o]
      exact Za3 (Zah HRg2.o hal) hsz)
     have hb6:=Zdg hF (Zb6 hgr2) (HMq.o.alloc (.cells #[.slice (some ⟨wo.heap.size,0,none⟩) nr nr,.int .i64 0] 65 (0,0))) (by decide);have hm6:=Zcd hF (Zb6 hgr2) (Zah HMe.o (Zab HBq.o hal)) (by decide);have d13:=hb6.cl 13;have df:=hb6.frozen 13;have HB7:=Zh (((Zab HBw.o hal).trans hgr2.below).setCell (p:=⟨g,13,none⟩) hgw (.slice Ap2 np2 cp2));have HM7:=Zh (show Blk (w6.setCell ⟨g,13,none⟩ (.slice Ap2 np2 cp2)) g 54 (#[.int .i64 T.arch,.string ⟨T.name.toArray⟩,.string ⟨T.cycle.toArray⟩,.slice Ai T.init.length ci,.slice Ac T.code.length cc,.int .i64 T.q,.int .i64 T.k,.int .i64 T.t,.int .i64 T.r,.string ⟨T.l.toArray⟩,.int .i64 T.v,.slice A0 l0 q0,.slice Al (Zaq T).length cl,.slice Ap2 np2 cp2,.slice Am nm cm,.slice At (Za8 T).length ct]) from hb6.set_ 13 _);have HMe7:=Zh (Zae hm6 hb6 (by decide) 13 (.slice Ap2 np2 cp2));have HTr7:=Zh (hsn.chg (F:=fun x=>x=g) (w':=w6.setCell ⟨g,13,none⟩ (.slice Ap2 np2 cp2)) (l:=[54]) (fun x hx=>⟨_,_,hx ▸ hb6,by simp⟩) (Chg.set (F:=fun x=>x=g) (p:=⟨g,13,none⟩) Chg.refl rfl _) (by decide) (by decide));clear hal hthr htl hvl hown hgr2 hF hsn hb6 hm6
     go_wp2_with fail
     go_roundw
     case rel=>exact⟨j+1,_,_,ω,by first | go_num | omega,by rw [List.range_succ,List.map_append];exact HTr7.o,HM7.o,HMe7.o,HB7.o⟩
     case measure=>simp [intOf];omega
  ·have hjn:j=T.code.length:=ω;have g4:¬ (j:Int)<(T.code.length:Int):=ω;have HRq:=Zh (HR2.o.go HB.o);have HEn:=Zh (show (⟨T.arch,T.code,Zaq T,Za8 T,Ze3 (Zaq T) T.init,(List.range j).map (tdK nr T.init)⟩:BMc)=Zby T by rw [hjn,<- HNr.o];rfl);clear hjn
   go_wp2_with (first | ((with_reducible refine Zat ?_);refine Zaz 54 7 g rfl rfl HM.o Tryz.underlying54 rfl κ rfl ?_) | ((with_reducible refine Zat ?_);refine Zar 54 2 83 (w.heap.size+1) rfl rfl rfl HRq.o (by rfl) κ κ rfl rfl ?_))
   refine Zgv 54 2 (w.heap.size+1) 3 rfl (HRq.o.row _) Tryz.underlying54 rfl κ rfl rfl rfl ?_;have hbz:=below_setRow (Zab HB2.o HB.o) (Nat.le_succ w.heap.size) (#[.int .i64 T.arch,.string ⟨T.name.toArray⟩,.string ⟨T.cycle.toArray⟩,.slice Ai T.init.length ci,.slice Ac T.code.length cc,.int .i64 T.q,.int .i64 T.k,.int .i64 T.t,.int .i64 T.r,.string ⟨T.l.toArray⟩,.int .i64 T.v,.slice A0 l0 q0,.slice Al (Zaq T).length cl,.slice Ap np cp,.slice Am nm cm,.slice At (Za8 T).length ct]);have hC:Chg (fun x=>x=w.heap.size+1) wo (wo.setRow (w.heap.size+1) (#[.int .i64 T.arch,.string ⟨T.name.toArray⟩,.string ⟨T.cycle.toArray⟩,.slice Ai T.init.length ci,.slice Ac T.code.length cc,.int .i64 T.q,.int .i64 T.k,.int .i64 T.t,.int .i64 T.r,.string ⟨T.l.toArray⟩,.int .i64 T.v,.slice A0 l0 q0,.slice Al (Zaq T).length cl,.slice Ap np cp,.slice Am nm cm,.slice At (Za8 T).length ct])):=⟨rfl,rfl,rfl,by simp,fun b _ hn=>setRow_other wo _ b _ hn⟩;have hF:TyF wo (fun x=>x=w.heap.size+1) [54]:=fun x hx=>⟨_,_,hx ▸ HRq.o,by simp⟩
   refine⟨⟨Ai,Ac,ci,cc,.slice A0 l0 q0,.slice Al (Zaq T).length cl,.slice Ap np cp,.slice Am nm cm,.slice At (Za8 T).length ct,tr⟩,rfl,rfl,rfl,rfl,rfl,rfl,?_,hbz⟩;rw [<- HEn.o]
   exact⟨HT0.o.below hbz,rfl,rfl,⟨Al,cl,rfl,Zq0 (HLo.o.below HB.o) (fun p hp e=>by have:=HNl.o p hp;omega) _⟩,(HTr.o.chg hF hC (by decide) (by decide)).low hW2,Zcd hF hC HMe.o (by decide),⟨At,ct,rfl,Zq0 (Z6w (HTh.o.go HB.o)) (fun p hp e=>by have:=HNt.o p hp;omega) _⟩⟩):G:=h
theorem m_4{G:Prop}(h:G:=by
 have HOA:=Zh hoa;clear hoa
 go_wp2_with fail
 refine (HQB.o w7).mono ?_;rintro e w8 ⟨rfl,hb8⟩;have HR8:=Zh (HR7.o.below hb8);have HB08:=Zh (HB07.o.trans (hb8.mono (Nat.le_trans hbs HB07.o.size)));have HF8:=Zh (HF7.o.trans (FrV.of_below hb8));have a0:=Zac a0 hb8;have b0:=Zac b0 hb8;clear hb8 HR7 HB07 HF7;cases hob:Zbz rb.h with
 | true=>
  have HOP:=Zh (show (Zbz ra.h||Zbz rb.h)=true by rw [HOA.o,hob];rfl);clear hob HOA;have HC8:=Zh (HC0.o.below (HB00.o.trans HB08.o));have hzw:=HB08.o.size;have hs1:((at_:Int)+1)<=(j:Int):=ω;have hs2:(j:Int)<=(c.length:Int):=ω;have hs3:(j:Int)<=(cc:Int):=ω;have hs4:¬ cc=at_+1:=ω;have hs5:at_+1<=j:=ω
  go_wp2_with fail
  obtain⟨m,hm⟩:∃ m,j - (at_+1)=m:=⟨_,rfl⟩;go_loopw [81] (fun v wr=>∃ i:Nat,i<=m/\v=.int .i64 i/\(∀ t z,t<i->c[at_+1+t]?=some z->z.op=12)/\Below (w8).heap.size w8 wr) (fun v _=>m - (intOf v).toNat)
  case atStart=>exact⟨0,Nat.zero_le _,rfl,(fun t z ht=>absurd ht (Nat.not_lt_zero _)),Below.refl _ _⟩
  case round=>
   obtain⟨i,hi,rfl,hno,hbr⟩:=hrel;have HN:=Zh hno;have HBR:=Zh hbr;have hzr:=hbr.size;have HBT:=Zh (HB08.o.trans (hbr.mono (Nat.le_trans hbs hzw)));have HRR:=Zh (HR8.o.below hbr);have HFR:=Zh (HF8.o.trans (FrV.of_below hbr));clear hno hbr;by_cases hlt:i<m
   ·have hjc:at_+1+i<c.length:=ω;obtain⟨z,hz⟩:∃ z,c[at_+1+i]?=some z:=⟨_,List.getElem?_eq_getElem hjc⟩;obtain⟨b',o',e,c0,c1,c2,c3,c4,c5,c6,c7⟩:=(HC8.o.below HBR.o).cells hz;simp only [Option.some.injEq,Addr.mk.injEq,and_true] at e;obtain⟨rfl,rfl⟩:=e;rw [show o+(at_+1+i)*8=o+(at_+1)*8+i*8 by omega] at c0 c1 c2 c3 c4 c5 c6 c7;have hi9:(i:Int)<((j:Int) - ((at_:Int)+1)):=ω;by_cases h12:z.op=12
    ·have HN2:=Zh (show ∀ t y,t<i+1->c[at_+1+t]?=some y->y.op=12 from fun t y ht hy=>by
      by_cases e:t=i
      ·subst e;rw [hz] at hy;cases hy;exact h12
      ·exact HN.o t y ω hy)
     rw [h12] at c0;clear hz h12
     go_wp2_with fail
     go_roundw
     case rel=>exact⟨i+1,ω,by go_num,HN2.o,HBR.o.trans ((Zad _ _).mono hzr)⟩
     case measure=>simp [intOf];omega
    ·have HV:=Zh (show brL r c at_ ⟨op,d,a,b,imm,loc,label,fence⟩=none by
      rw [Zeq HGA.o HGB.o HOP.o,HL.o,if_pos];rw [List.any_eq_true];refine⟨z,?_,by simpa using h12⟩;apply List.mem_of_getElem? (i:=i);rw [List.getElem?_drop,List.getElem?_take,if_pos ω]
      exact hz)
     clear hz
     go_wp2_with fail
     go_ret2
     exact Zdz.no HV.o ⟨_,rfl,HRR.o.below (Zad _ _),HBT.o.trans ((Zad _ _).mono (by have:=HBT.o.size;omega)),HFR.o.trans (FrV.of_below (Zad _ _))⟩
   ·have hie:i=m:=ω
    have HV:=Zh (show brL r c at_ ⟨op,d,a,b,imm,loc,label,fence⟩=some ({ r with ctrl:=r.ctrl|||ra.on|||rb.on },at_+1) by
     rw [Zeq HGA.o HGB.o HOP.o,HL.o,if_neg];intro h;rw [List.any_eq_true] at h;obtain⟨y,hy,hy2⟩:=h;obtain⟨t,ht⟩:=List.getElem?_of_mem hy;rw [List.getElem?_drop,List.getElem?_take] at ht
     split at ht
     ·have:=HN.o t y ω ht;simp [this] at hy2
     ·cases ht)
    have hi9:¬ (i:Int)<((j:Int) - ((at_:Int)+1)):=ω
    go_wp2_with fail
    go_ret2
    exact Zdz.yes HV.o ⟨_,rfl,HRR.o,HBT.o,HFR.o⟩
 | false=>
  have HOP:=Zh (show (Zbz ra.h||Zbz rb.h)=false by rw [HOA.o,hob];rfl);clear hob HOA;cases hun:Zap ra.h rb.h with
  | true=>
   have HV:=Zh (show brL r c at_ ⟨op,d,a,b,imm,loc,label,fence⟩=some ({ r with ctrl:=r.ctrl|||ra.on|||rb.on },j) by rw [Zgl HGA.o HGB.o HOP.o,hun,HL.o];rfl);have HUV:=Zh (fun w=>by have:=HUN.o w;rw [hun] at this;exact this);clear hun
   go_wp2_with (go_at_call 127;refine (HUV.o _).mono ?_;rintro e w9 ⟨rfl,rfl⟩)
   go_ret2
   exact Zdz.yes HV.o ⟨_,rfl,HR8.o,HB08.o,HF8.o⟩
  | false=>
   have HV:=Zh (show brL r c at_ ⟨op,d,a,b,imm,loc,label,fence⟩=some ({ r with ctrl:=r.ctrl|||ra.on|||rb.on },at_+1) by rw [Zgl HGA.o HGB.o HOP.o,hun];rfl);have HUV:=Zh (fun w=>by have:=HUN.o w;rw [hun] at this;exact this);clear hun
   go_wp2_with (go_at_call 127;refine (HUV.o _).mono ?_;rintro e w9 ⟨rfl,rfl⟩)
   go_ret2
   exact Zdz.yes HV.o ⟨_,rfl,HR8.o,HB08.o,HF8.o⟩):G:=h
theorem m_5{G:Prop}(h:G:=by
 have HOP:=Zh (show (Zbz ra.h||Zbz rb.h)=true by rw [hoa];rfl);clear hoa;have HC8:=Zh (HC0.o.below (HB00.o.trans HB07.o));have hzw:=HB07.o.size;have hs1:((at_:Int)+1)<=(j:Int):=ω;have hs2:(j:Int)<=(c.length:Int):=ω;have hs3:(j:Int)<=(cc:Int):=ω;have hs4:¬ cc=at_+1:=ω;have hs5:at_+1<=j:=ω
 go_wp2_with fail
 obtain⟨m,hm⟩:∃ m,j - (at_+1)=m:=⟨_,rfl⟩;go_loopw [81] (fun v wr=>∃ i:Nat,i<=m/\v=.int .i64 i/\(∀ t z,t<i->c[at_+1+t]?=some z->z.op=12)/\Below (w7).heap.size w7 wr) (fun v _=>m - (intOf v).toNat)
 case atStart=>exact⟨0,Nat.zero_le _,rfl,(fun t z ht=>absurd ht (Nat.not_lt_zero _)),Below.refl _ _⟩
 case round=>
  obtain⟨i,hi,rfl,hno,hbr⟩:=hrel;have HN:=Zh hno;have HBR:=Zh hbr;have hzr:=hbr.size;have HBT:=Zh (HB07.o.trans (hbr.mono (Nat.le_trans hbs hzw)));have HRR:=Zh (HR7.o.below hbr);have HFR:=Zh (HF7.o.trans (FrV.of_below hbr));clear hno hbr;by_cases hlt:i<m
  ·have hjc:at_+1+i<c.length:=ω;obtain⟨z,hz⟩:∃ z,c[at_+1+i]?=some z:=⟨_,List.getElem?_eq_getElem hjc⟩;obtain⟨b',o',e,c0,c1,c2,c3,c4,c5,c6,c7⟩:=(HC8.o.below HBR.o).cells hz;simp only [Option.some.injEq,Addr.mk.injEq,and_true] at e;obtain⟨rfl,rfl⟩:=e;rw [show o+(at_+1+i)*8=o+(at_+1)*8+i*8 by omega] at c0 c1 c2 c3 c4 c5 c6 c7;have hi9:(i:Int)<((j:Int) - ((at_:Int)+1)):=ω;by_cases h12:z.op=12
   ·have HN2:=Zh (show ∀ t y,t<i+1->c[at_+1+t]?=some y->y.op=12 from fun t y ht hy=>by
     by_cases e:t=i
     ·subst e;rw [hz] at hy;cases hy;exact h12
     ·exact HN.o t y ω hy)
    rw [h12] at c0;clear hz h12
    go_wp2_with fail
    go_roundw
    case rel=>exact⟨i+1,ω,by go_num,HN2.o,HBR.o.trans ((Zad _ _).mono hzr)⟩
    case measure=>simp [intOf];omega
   ·have HV:=Zh (show brL r c at_ ⟨op,d,a,b,imm,loc,label,fence⟩=none by
     rw [Zeq HGA.o HGB.o HOP.o,HL.o,if_pos];rw [List.any_eq_true];refine⟨z,?_,by simpa using h12⟩;apply List.mem_of_getElem? (i:=i);rw [List.getElem?_drop,List.getElem?_take,if_pos ω]
     exact hz)
    clear hz
    go_wp2_with fail
    go_ret2
    exact Zdz.no HV.o ⟨_,rfl,HRR.o.below (Zad _ _),HBT.o.trans ((Zad _ _).mono (by have:=HBT.o.size;omega)),HFR.o.trans (FrV.of_below (Zad _ _))⟩
  ·have hie:i=m:=ω
   have HV:=Zh (show brL r c at_ ⟨op,d,a,b,imm,loc,label,fence⟩=some ({ r with ctrl:=r.ctrl|||ra.on|||rb.on },at_+1) by
    rw [Zeq HGA.o HGB.o HOP.o,HL.o,if_neg];intro h;rw [List.any_eq_true] at h;obtain⟨y,hy,hy2⟩:=h;obtain⟨t,ht⟩:=List.getElem?_of_mem hy;rw [List.getElem?_drop,List.getElem?_take] at ht
    split at ht
    ·have:=HN.o t y ω ht;simp [this] at hy2
    ·cases ht)
   have hi9:¬ (i:Int)<((j:Int) - ((at_:Int)+1)):=ω
   go_wp2_with fail
   go_ret2
   exact Zdz.yes HV.o ⟨_,rfl,HRR.o,HBT.o,HFR.o⟩):G:=h
theorem m_6{G:Prop}(h:G:=by
 refine Zh ?_;obtain⟨X,hXe⟩:∃ X,X=(w3.alloc (.cells #[.int .i64 x.1,.int .i64 x.2] 42 (0,0))).alloc (.cells #[.int .i64 x.1,.int .i64 x.2] 42 (0,0)):=⟨_,rfl⟩;have hX3:Below w3.heap.size w3 X:=hXe ▸ Zau w3 _ _;have hAx:Zsg.At X (some ⟨w3.heap.size+1,0,none⟩) [x]:=by
  have:=Zht Zsg (w3.alloc (.cells #[.int .i64 x.1,.int .i64 x.2] 42 (0,0))) 42 x;rw [World.size_alloc] at this;rw [hXe];exact this
 have HOx:=Zh (Zah (Zpc (Zah HO.o HB2.o) HK3.o (by decide) (by decide)) hX3);have HMx:=Zh (HM3.o.below hX3);have HRx:=Zh ((HK3.o _ _ _ (HRs.o.go HB2.o) (by decide) (by decide)).go hX3);have HObx:=Zh ((HK3.o _ _ _ (HOb.o.go HB2.o) (by decide) (by decide)).go hX3);have HWx:=Zh (((HW.o.trans (HB2.o.mono hz)).trans (HB3.o.mono (Nat.le_add_right _ 2))).trans (hX3.mono (Nat.le_trans (Nat.le_trans (Nat.le_add_right _ 2) hB2) (Nat.le_trans HB2.o.size HB3.o.size))));have hzx:w.heap.size+2<=X.heap.size:=Nat.le_trans hB2 (Nat.le_trans HB2.o.size (Nat.le_trans HB3.o.size hX3.size));rw [<- hXe];clear hX3 hXe HOb4 o1 of oz HM3 HB3 HK3 HB2 HO HM HRs HOb HW HMv HD;refine Enc.appW Zx8 _ rfl (.tmp 45) (.tmp 47) rfl [x] (w.heap.size+2) ms (.slice Av ms.length cv) _ 0 1 rfl rfl hAx HOx.o (by simp;omega) (by simp;omega) hzx ?_;intro v5 w5 hown5 hg5;obtain⟨Av5,nv5,cv5,rfl⟩:=Zav hown5;have hF:=Zds HOx.o;have hc5:=Zb6 hg5;have hm5:=HMx.o.far hF hc5 (by decide);have hr5:Blk w5 (w.heap.size+1) 96 #[.slice none 0 0,.slice none 0 0]:=Zdg hF hc5 HRx.o (by decide);have ho5:=Zdg hF hc5 HObx.o (by decide);have hne:w.heap.size+1≠ob:=fun e=>hobn e.symm
 have hF2:TyF w5 (fun b=>b=ob) [96]:=fun b hb=>⟨_,_,hb ▸ ho5,by simp⟩
 have hc2:Chg (fun b=>b=ob) w5 (w5.setCell ⟨ob,1,none⟩ (.slice Av5 nv5 cv5)):=Chg.set (F:=fun b=>b=ob) (p:=⟨ob,1,none⟩) Chg.refl rfl _;have HM7:=Zh (hm5.far hF2 hc2 (by decide));have HR7:=Zh (hr5.far (p:=⟨ob,1,none⟩) hne (.slice Av5 nv5 cv5));have HO7:=Zh (Zcd hF2 hc2 hown5 (by decide));have HOb7:=Zh (show Blk (w5.setCell ⟨ob,1,none⟩ (.slice Av5 nv5 cv5)) ob 96 #[.slice none 0 0,.slice Av5 nv5 cv5] from ho5.set_ 1 _);have HW7:=Zh ((HWx.o.trans (hg5.below.mono (Nat.le_add_right _ 2))).setCell (p:=⟨ob,1,none⟩) hobw (.slice Av5 nv5 cv5));have o1:=ho5.cl 1;have of:=ho5.frozen;clear hown5 hg5 hF hc5 hm5 hr5 ho5 hF2 hc2 HMx HRx HObx HWx HOx hAx
 go_wp2_with fail
 go_step3
 refine⟨rfl,⟨g,ob,?_⟩,?_⟩
 ·refine Z30.intro (k:=k+1) (M:=V3) (mvv:=.slice Av5 nv5 cv5) rfl rfl rfl rfl rfl rfl (by simp) ω ?_ HW7.o HR7.o HOb7.o ?_ hob2
  ·rw [HE.o];exact HM7.o
  ·rw [HE.o];exact HO7.o
 ·simp [intOf]
  omega):G:=h
theorem m_7{G:Prop}(h:G:=by
 ·have HE:Hid ((fl=false/\goL S.C c 0 r0=some r1)\/(fl=true/\goL S.C c 0 r0=none/\r1.full=false)):=by
   rcases HGO.o with ⟨h1,_,h2⟩ | h
   ·refine Zh (Or.inl ⟨h1,?_⟩);rw [<- h2];by_cases hk2:k<c.length
    ·exact Zje (by
      cases h3:r1.full with
      | true=>rfl
      | false=>exact absurd ⟨hk2,h1,h3⟩ hend)
    ·exact Zj2 ω
   ·exact Zh (Or.inr h)
  clear HGO HLK2;by_cases hk2:k<c.length
  ·have hki:(k:Int)<(c.length:Int):=ω;cases fl with
   | true=>
    go_wp2_with (first | ((with_reducible refine Zat ?_);refine Zaz 137 7 G rfl rfl HU.o.blk Tryz.underlying137 rfl κ rfl ?_) | ((with_reducible refine Zat ?_);refine Zar 137 6 72 (w.heap.size+1+1) rfl rfl rfl hz (by exact hzs) κ (Zbk _ _ _ _) rfl rfl ?_))
    refine Zbv 137 6 (w.heap.size+1+1) rfl (hz.row _) Tryz.underlying137 rfl κ rfl rfl ?_;exact Zee.of HU.o.ret (by have h:=HE.o;first | exact h | simpa using h)
   | false=>
    have hf2:r1.full=true:=by
     cases h3:r1.full with
     | true=>rfl
     | false=>exact absurd ⟨hk2,rfl,h3⟩ hend
    rw [hf2] at k25
    go_wp2_with (first | ((with_reducible refine Zat ?_);refine Zaz 137 7 G rfl rfl HU.o.blk Tryz.underlying137 rfl κ rfl ?_) | ((with_reducible refine Zat ?_);refine Zar 137 6 72 (w.heap.size+1+1) rfl rfl rfl hz (by exact hzs) κ (Zbk _ _ _ _) rfl rfl ?_))
    refine Zbv 137 6 (w.heap.size+1+1) rfl (hz.row _) Tryz.underlying137 rfl κ rfl rfl ?_;exact Zee.of HU.o.ret (by have h:=HE.o;first | exact h | simpa using h)
  ·have hki:¬ (k:Int)<(c.length:Int):=ω
   go_wp2_with (first | ((with_reducible refine Zat ?_);refine Zaz 137 7 G rfl rfl HU.o.blk Tryz.underlying137 rfl κ rfl ?_) | ((with_reducible refine Zat ?_);refine Zar 137 6 72 (w.heap.size+1+1) rfl rfl rfl hz (by exact hzs) κ (Zbk _ _ _ _) rfl rfl ?_))
   refine Zbv 137 6 (w.heap.size+1+1) rfl (hz.row _) Tryz.underlying137 rfl κ rfl rfl ?_
   exact Zee.of HU.o.ret (by have h:=HE.o;first | exact h | simpa using h)):G:=h
theorem m_8{G:Prop}(h:G:=by
 obtain⟨k',t',r',l',v',kids',rest',hdr⟩:=kids.drop_lt j hlt;have hrow':=Zc3.keep (w':=wr) (fun b o hb=>HBR.o.cell (p:=⟨b,o,none⟩) (show b<bl by omega)) kids b o hb hrow;have hat:=Zc3.at_ kids b o j hrow';rw [hdr] at hat;obtain⟨kv',q0,q1,q2,q3,q4,q5,hl',hsl'⟩:=hat.head;obtain⟨A',cap',rfl,hsl''⟩:=hsl';have hsl3:Zd7 wr hi (.slice A' kids'.len cap') kids':=⟨A',cap',rfl,hsl''⟩;have HSL:=Zh (hsl3.keep (w':=wr.alloc (.cells #[.int .i64 k',.int .i64 t',.int .i64 r',.string ⟨l'.toArray⟩,.int .i64 v',.slice A' kids'.len cap'] 28 (0,0))) (fun b o hb=>(Zad wr _).cell (p:=⟨b,o,none⟩) (show b<wr.heap.size by omega)));have HC:=Zh (Zz2.at_ kids j HK.o hdr);have HNX:=Zh (kids.drop_next j hdr);have hall:(kids.drop j).all=1+kids'.all+rest'.all:=by rw [hdr];rfl
 have HAF:=Zh (show Za4 (kids.drop j)=atL k' t' r' l'++Za4 kids'++Za4 rest' by rw [hdr];rfl);have hat1:(atL k' t' r' l').length<=1:=by unfold atL;split <;> simp
 have haf1:=Zda kids';have HAC2:=Zh (HAC.o.below (Zad wr (.cells #[.int .i64 k',.int .i64 t',.int .i64 r',.string ⟨l'.toArray⟩,.int .i64 v',.slice A' kids'.len cap'] 28 (0,0))));have HBR2:=Zh (HBR.o.trans ((Zad wr (.cells #[.int .i64 k',.int .i64 t',.int .i64 r',.string ⟨l'.toArray⟩,.int .i64 v',.slice A' kids'.len cap'] 28 (0,0))).mono (Nat.le_of_lt hltr)))
 go_wp2_with (go_at_call 117;refine (HC.o _ bl hi _ M hhi HAC2.o HSL.o hl' ω).mono ?_;rintro e w2 ⟨rfl,ha2,hb2⟩)
 go_roundw
 case rel=>exact⟨j+1,_,ω,by go_num,ha2,by rw [HNX.o,<- HMM.o,HAF.o];simp,by have:=HML.o;rw [HNX.o];simp only [List.length_append] at this ⊢;omega,HBR2.o.trans hb2⟩
 case measure=>exact msr):G:=h
theorem m_9{G:Prop}(h:G:=by
 have HK:=Zh hk;clear hk;cases q with
 | false=>
  go_enter Tryz.func136,Tryz.ntmps136
  go_wp2_with (first | (go_at_call 196;refine (Zep _ _).mono ?_;rintro e w' ⟨rfl,rfl⟩) | (go_at_call 195;refine (Zlk _ _ hs).mono ?_;rw [HK.o];rintro e w' ⟨rfl,rfl⟩))
  go_ret;refine⟨Zak (by simp [Zcc,Zb9, *]),?_⟩
  repeat (first | exact Below.refl _ _ | refine Zaa ?_ _)
 | true=>
  obtain hd | hd:=Zbt d <;> obtain ha | ha:=Zbt a <;> obtain hb | hb:=Zbt b
  all_goals
   go_enter Tryz.func136,Tryz.ntmps136
   go_wp2_with (first | (go_at_call 196;refine (Zep _ _).mono ?_;rintro e w' ⟨rfl,rfl⟩) | (go_at_call 195;refine (Zlk _ _ hs).mono ?_;rw [HK.o];rintro e w' ⟨rfl,rfl⟩))
   go_ret;refine⟨Zak (by simp [Zcc,Zb9, *]),?_⟩
   repeat (first | exact Below.refl _ _ | refine Zaa ?_ _)):G:=h
theorem m_10{G:Prop}(h:G:=by
 go_enter Tryz.func111,Tryz.ntmps111
 go_wp2_with fail
 refine (HF.o _).mono ?_;rintro e w2 ⟨rfl,hb2⟩;have HB:=Zh (((Blk.new w 92 #[.int .i64 op,.int .i64 d,.int .i64 a,.int .i64 b,.int .i64 imm,.string loc,.string label,.int .i64 fence]).go hb2).alloc (.cells #[.int .i64 op,.int .i64 d',.int .i64 a',.int .i64 b',.int .i64 imm',.string loc',.string label',.int .i64 fence'] 92 (0,0)));obtain⟨c0,c1,c2,c3,c4,c5,c6,c7⟩:=HB.o.c8;have HX:=Zh (Zaa (Zab (Zad w _) hb2) (.cells #[.int .i64 op,.int .i64 d',.int .i64 a',.int .i64 b',.int .i64 imm',.string loc',.string label',.int .i64 fence'] 92 (0,0)))
 go_wp2_with (go_at_call 174;refine (Z8g _ _).mono ?_;rintro e w' ⟨rfl,rfl⟩)
 go_ret
 exact⟨Zak (by simp [Zcc,Zb9, *]),HX.o⟩):G:=h
theorem m_11{G:Prop}(h:G:=by
 have HRB8:=Zh HE10.o.nil;have HYN:=Zh (show Y=none by have:=HEI.o;rw [HST.o] at this;rw [<- this];rfl);have HXE:=Zh (Zey HGO.o HDC.o (Zh5 HF.o HGL.o HFL.o (HY.o.trans HYN.o)));have r0:=HRB8.o.cell 0;have r1:=HRB8.o.cell 1;have r2:=HRB8.o.cell 2;have r3:=HRB8.o.cell 3;have r4:=HRB8.o.cell 4;have r5:=HRB8.o.cell 5;have r6:=HRB8.o.cell 6;have r7:=HRB8.o.cell 7;have r8':=HRB8.o.cell 8;have fr:=HRB8.o.frozen
 go_wp2_with fail
 refine bodyPost_ret (v:=.tuple #[.agg #[.slice none 0 0,.slice none 0 0,.slice none 0 0,.slice none 0 0,.slice none 0 0,.slice none 0 0,.slice none 0 0,.slice none 0 0,.slice none 0 0],.int .i64 150,.int .i64 (k:Int)]) (by simp [results,Tryz.results24,go_sem, *]) rfl ?_;refine⟨?_,?_⟩
 ·rw [HTR.o,HXE.o];rfl
 ·exact (Zfv (HE12.o.bel) (Nat.le_succ _) _ _ _ _ _ _ _ _ _)):G:=h
theorem m_12{G:Prop}(h:G:=by
 obtain⟨k,hk,rfl,hall⟩:=hrel;have H:=Zh hall;by_cases hlt:k<s.size
 ·go_wp2
  all_goals first
   | (go_ret
      have hb:Znf s k hlt=false:=by
       cases hb:Znf s k hlt with
       | false=>rfl
       | true=>
        exfalso;simp [Znf,Zbp,Za9,Zb8] at hb;simp at *;omega
      exact⟨Zaf (Zll k hlt hb).symm,rfl⟩)
   | (have hb:Znf s k hlt=true:=by
       cases hb:Znf s k hlt with
       | true=>rfl
       | false=>
        exfalso;simp [Znf,Zbp,Za9,Zb8] at hb;simp at *;omega
      go_round
      case rel=>exact⟨k+1,ω,by go_num,fun j hj h=>by
       by_cases e:j<k
       ·exact H.o j hj e
       ·obtain rfl:j=k:=ω
        exact hb⟩
      case measure=>exact msr)
 ·go_wp2;go_ret
  exact⟨Zaf (Zkb ω ω (fun i hi=>H.o i hi ω)).symm,rfl⟩):G:=h
theorem m_13{G:Prop}(h:G:=by
 rw [f1,f2,Bool.and_self];cases q with
 | false=>
  go_enter Tryz.func136,Tryz.ntmps136
  go_wp2_with (first | (go_at_call 196;refine (Zep _ _).mono ?_;rintro e w' ⟨rfl,rfl⟩))
  go_ret;refine⟨Zak (by simp [Zcc,Zb9, *]),?_⟩
  repeat (first | exact Below.refl _ _ | refine Zaa ?_ _)
 | true=>
  obtain hd | hd:=Zbt d <;> obtain ha | ha:=Zbt a <;> obtain hb | hb:=Zbt b
  all_goals
   go_enter Tryz.func136,Tryz.ntmps136
   go_wp2_with (first | (go_at_call 196;refine (Zep _ _).mono ?_;rintro e w' ⟨rfl,rfl⟩))
   go_ret;refine⟨Zak (by simp [Zcc,Zb9, *]),?_⟩
   repeat (first | exact Below.refl _ _ | refine Zaa ?_ _)):G:=h
theorem m_14{G:Prop}(h:G:=by
 simp only [Value.slice.injEq,true_and] at e';obtain⟨rfl,rfl⟩:=e';obtain⟨pb,rfl,hpb,kk⟩:=kk j hlt2;obtain⟨u0,k0⟩:=Option.isSome_iff_exists.1 (kk 0 ω).1;have f0:=(kk 0 ω).2;simp only [Nat.mul_one,Nat.add_zero] at k0 f0;clear kk
 go_wp2_with fail
 go_roundw
 case rel=>exact⟨j+1,ω,by go_num,by repeat (first | exact HC.o | (refine Below.setCell ?_ (by dsimp only;omega) _) | refine Below.drew ?_),by repeat (first | exact HA.o | refine ShS.set ?_ _ _),by repeat (first | exact HE.o | refine ShS.set ?_ _ _),by repeat (first | exact HF.o | refine ShS.set ?_ _ _)⟩
 case measure=>simp [intOf];omega):G:=h
theorem m_15{G:Prop}(h:G:=by
 have r0:=HRR.o.cell 0;have r1:=HRR.o.cell 1;have r2:=HRR.o.cell 2;have r3:=HRR.o.cell 3;have r4:=HRR.o.cell 4;have r5:=HRR.o.cell 5;have r6:=HRR.o.cell 6;have r7:=HRR.o.cell 7;have r8':=HRR.o.cell 8;have fr:=HRR.o.frozen
 go_wp2_with fail
 refine bodyPost_ret (v:=.tuple #[.agg #[.slice none 0 0,.slice none 0 0,.slice none 0 0,.slice none 0 0,.slice none 0 0,.slice none 0 0,.slice none 0 0,.slice none 0 0,.slice none 0 0],.int .i64 150,.int .i64 (k:Int)]) (by simp [results,Tryz.results26,go_sem, *]) rfl ?_
 exact OfR.bad HTX.o (Zfv (HES.o.bel) (Nat.le_succ _) _ _ _ _ _ _ _ _ _)):G:=h
theorem m_16{G:Prop}(h:G:=by
 have ex:=List.getElem?_eq_getElem hlk;obtain⟨x,hx⟩:∃ x,T.code[k]=x:=⟨_,rfl⟩;rw [hx] at ex;obtain⟨b,o,A2,c2,rfl,hc0,hA2,hl1,hl2⟩:=HC.o.at_ ex;have HX:=Zh ex;have hkn:(k:Int)<(n:Int):=ω;clear ex hx hlk hA2 hl2;by_cases hl:256<x.length
 ·have HV:=Zh (Zhk (a:=T.arch) HX.o hl)
  go_wp2_with fail
  go_ret;exact⟨Zak HV.o.symm,HB0.o⟩
 ·go_wp2_with fail
  go_round
  case rel=>exact⟨k+1,ω,by go_num,fun j c hj hc=>by (rcases Nat.lt_succ_iff_lt_or_eq.1 hj with h | h);exact HNO.o j c h hc;rw [h,HX.o] at hc;cases hc;omega⟩
  case measure=>exact msr):G:=h
theorem m_17{G:Prop}(h:G:=by
 rw [f1,f2];go_enter Tryz.func173,Tryz.ntmps173
 go_wp2_with fail
 go_region
 go_wp2_with fail
 go_region
 go_wp2_with fail
 refine Zdu rfl (b:=w.heap.size+1) (by first | exact (Zdm w _ _ _).alloc _ | exact ((Zdm w _ _ _).alloc _).drew) rfl rfl rfl ?_
 exact⟨rfl,by first | exact (Zaa (Zaa (Zad w _) _) _) | exact (Zaa (Zaa (Zad w _) _) _).drew | exact (Zaa (Zaa (Zad w _) _) _).drew.drew | exact (Zaa (Zaa (Zad w _) _) _).drew.drew.drew⟩):G:=h
theorem m_18{G:Prop}(h:G:=by
 have HNS:=Zh (show Ze7 k f r8 (i+1) ((Za8 T).drop (i+1)) (m.set i (p1,p2))=Y by have:=HEI.o;rw [HST.o] at this;exact this)
 go_wp2_with fail
 go_roundw
 case rel=>first | exact⟨i+1,m.set i (p1,p2),ω,by go_num,HNS.o,by simp [hml],HE12.o⟩ | exact⟨u3,u4,.int .i64 (i:Int),.pointer (some ⟨wr.heap.size,0,none⟩),.bool true,.int .i64 ((i:Int)+1),⟨i+1,ω,by go_num,m.set i (p1,p2),HNS.o,by simp [hml],HE12.o⟩,rfl,rfl,rfl,rfl,rfl,rfl⟩
 case measure=>simp [intOf];omega):G:=h
theorem m_19{G:Prop}(h:G:=by
 rw [f1,f2];go_enter Tryz.func173,Tryz.ntmps173
 go_wp2_with fail
 go_region
 go_wp2_with fail
 refine Zdu rfl (b:=w.heap.size+1) (by first | exact (Zdm w _ _ _).alloc _ | exact ((Zdm w _ _ _).alloc _).drew) rfl rfl rfl ?_
 exact⟨rfl,by first | exact (Zaa (Zaa (Zad w _) _) _) | exact (Zaa (Zaa (Zad w _) _) _).drew | exact (Zaa (Zaa (Zad w _) _) _).drew.drew | exact (Zaa (Zaa (Zad w _) _) _).drew.drew.drew⟩):G:=h
theorem m_20{G:Prop}(h:G:=by
 simp only [Zne,Zmr,Zpp,Zov] at q1 q2;go_enter Tryz.func46,Tryz.ntmps46
 go_wp2_with fail
 have z0:=Zbq w #[.int .i64 0,.int .i64 0] 130 (0,0) 0;have z1:=Zbq w #[.int .i64 0,.int .i64 0] 130 (0,0) 1
 refine bodyPost_ret (v:=.tuple #[.agg #[.int .i64 0,.int .i64 0],.bool false]) (by simp [results,Tryz.results46,go_sem,z0,z1]) rfl ⟨rfl,Zad _ _⟩):G:=h
theorem m_21{G:Prop}(h:G:=by
 have HK:=Zh hk;clear hk;go_enter Tryz.func136,Tryz.ntmps136
 go_wp2_with (first | (go_at_call 196;refine (Zep _ _).mono ?_;rintro e w' ⟨rfl,rfl⟩) | (go_at_call 195;refine (Zlk _ _ hs).mono ?_;rw [HK.o];rintro e w' ⟨rfl,rfl⟩))
 go_ret;refine⟨Zak (by simp [Zcc,Zb9, *]),?_⟩
 repeat (first | exact Below.refl _ _ | refine Zaa ?_ _)):G:=h
theorem m_22{G:Prop}(h:G:=by
 go_enter Tryz.func53,Tryz.ntmps53
 go_wp2_with fail
 refine bodyPost_ret (v:=.tuple #[.agg #[.int .i64 0,.int .i64 0],.bool false]) (by simp [results,Tryz.results53,go_sem, *]) rfl ?_;refine⟨rfl,?_⟩
 repeat (first | exact Below.refl _ _ | with_reducible refine Below.setCell ?_ (by simp <;> omega) _ | with_reducible refine Zaa ?_ _)):G:=h
theorem m_23{G:Prop}(h:G:=by
 clear hw HMM
 go_wp2_with (go_at_call 75;refine (HW.o _ HBC.o HR1.o).mono ?_;rintro e w8 ⟨V8,rfl,hR8,hb8,hf8⟩;have HR8:=Zh hR8;have HB8:=Zh hb8;have HF8:=Zh hf8;clear hR8 hb8 hf8)
 go_roundw
 case rel=>exact⟨k+1,_,_,by go_num,HRN.o.step HX.o HF.o HV.o HS0.o HR8.o ((HB1.o.mono hbs2).trans HB8.o) ((FrV.of_below HB1.o).trans HF8.o)⟩
 case measure=>have hkl:=HKL.o;simp [intOf];omega):G:=h
theorem m_24{G:Prop}(h:G:=by
 go_wp2_with (first | (go_at_call 270;refine (Zik _ _).mono ?_;rw [HX.o];rintro e w' ⟨rfl,rfl⟩) | (go_at_call 271;refine (Zui _ _).mono ?_;rw [HY.o];rintro e w' ⟨rfl,rfl⟩))
 go_round
 case rel=>exact⟨k+1,ω,ω,by go_num,fun j hj h1 h=>by
  by_cases e:j<k
  ·exact H.o j hj h1 e
  ·obtain rfl:j=k:=ω
   exact HB.o⟩
 case measure=>exact msr):G:=h
theorem m_25{G:Prop}(h:G:=by
 go_wp2_with (first | (go_at_call 243;refine (Zgq _ _).mono ?_;rw [HX.o];rintro e w' ⟨rfl,rfl⟩) | (go_at_call 244;refine (Zp4 _ _).mono ?_;rw [HY.o];rintro e w' ⟨rfl,rfl⟩))
 go_round
 case rel=>exact⟨k+1,ω,ω,by go_num,fun j hj h1 h=>by
  by_cases e:j<k
  ·exact H.o j hj h1 e
  ·obtain rfl:j=k:=ω
   exact HB.o⟩
 case measure=>exact msr):G:=h
theorem m_26{G:Prop}(h:G:=by
 obtain hd | hd:=Zbt d <;> obtain ha | ha:=Zbt a <;> obtain hb | hb:=Zbt b
 all_goals
  go_enter Tryz.func136,Tryz.ntmps136
  go_wp2_with (first | (go_at_call 196;refine (Zep _ _).mono ?_;rintro e w' ⟨rfl,rfl⟩))
  go_ret;refine⟨Zak (by simp [Zcc,Zb9, *]),?_⟩
  repeat (first | exact Below.refl _ _ | refine Zaa ?_ _)):G:=h
theorem m_27{G:Prop}(h:G:=by
 go_wp2_with (first | (go_at_call 239;refine (Zgp _ _).mono ?_;rw [HX.o];rintro e w' ⟨rfl,rfl⟩) | (go_at_call 240;refine (Zp3 _ _).mono ?_;rw [HY.o];rintro e w' ⟨rfl,rfl⟩))
 go_round
 case rel=>exact⟨k+1,ω,by go_num,fun j hj h=>by
  by_cases e:j<k
  ·exact H.o j hj e
  ·obtain rfl:j=k:=ω
   exact HB.o⟩
 case measure=>exact msr):G:=h
theorem m_28{G:Prop}(h:G:=by
 go_wp2_with (first | (go_at_call 246;refine (Zil _ _).mono ?_;rw [HX.o];rintro e w' ⟨rfl,rfl⟩) | (go_at_call 247;refine (Zuj _ _).mono ?_;rw [HY.o];rintro e w' ⟨rfl,rfl⟩))
 go_round
 case rel=>exact⟨k+1,ω,by go_num,fun j hj h=>by
  by_cases e:j<k
  ·exact H.o j hj e
  ·obtain rfl:j=k:=ω
   exact HB.o⟩
 case measure=>exact msr):G:=h
theorem m_29{G:Prop}(h:G:=by
 go_wp2_with (first | (go_at_call 266;refine (Zij _ _).mono ?_;rw [HX.o];rintro e w' ⟨rfl,rfl⟩) | (go_at_call 267;refine (Zuh _ _).mono ?_;rw [HY.o];rintro e w' ⟨rfl,rfl⟩))
 go_round
 case rel=>exact⟨k+1,ω,by go_num,fun j hj h=>by
  by_cases e:j<k
  ·exact H.o j hj e
  ·obtain rfl:j=k:=ω
   exact HB.o⟩
 case measure=>exact msr):G:=h
theorem m_30{G:Prop}(h:G:=by
 have hgb:g=b:=by simpa [Value.ownBlock] using hb
 subst hgb;refine hg.keep g (Array.getElem?_eq_some_iff.1 hh).1 (fun e2=>?_);rcases h2.2 with ⟨e3,_⟩ | ⟨g3,cap3,cur3,e3,_,hh3,_⟩
 ·subst e3;cases e2
 ·subst e3;have hg3:g3=g:=by simpa [Value.ownBlock] using e2
  subst hg3;rw [hh] at hh3;simp only [Option.some.injEq,Obj.cells.injEq] at hh3
  exact hne hh3.2.1):G:=h
theorem m_31{G:Prop}(h:G:=by
 go_wp2_with fail
 go_region
 go_wp2_with fail
 refine Zdu rfl (b:=w.heap.size+1) (by first | exact (Zdm w _ _ _).alloc _ | exact ((Zdm w _ _ _).alloc _).drew) rfl rfl rfl ?_
 exact⟨rfl,by first | exact (Zaa (Zaa (Zad w _) _) _) | exact (Zaa (Zaa (Zad w _) _) _).drew | exact (Zaa (Zaa (Zad w _) _) _).drew.drew | exact (Zaa (Zaa (Zad w _) _) _).drew.drew.drew⟩):G:=h
theorem m_32{G:Prop}(h:G:=by
 rw [f1,f2,Bool.and_false];go_enter Tryz.func136,Tryz.ntmps136
 go_wp2_with (first | (go_at_call 196;refine (Zep _ _).mono ?_;rintro e w' ⟨rfl,rfl⟩))
 go_ret;refine⟨Zak (by simp [Zcc,Zb9, *]),?_⟩
 repeat (first | exact Below.refl _ _ | refine Zaa ?_ _)):G:=h
theorem m_33{G:Prop}(h:G:=by
 rw [f1,Bool.false_and];go_enter Tryz.func136,Tryz.ntmps136
 go_wp2_with (first | (go_at_call 196;refine (Zep _ _).mono ?_;rintro e w' ⟨rfl,rfl⟩))
 go_ret;refine⟨Zak (by simp [Zcc,Zb9, *]),?_⟩
 repeat (first | exact Below.refl _ _ | refine Zaa ?_ _)):G:=h
theorem m_34{G:Prop}(h:G:=by
 clear hw HMM
 go_wp2_with (go_at_call 75;refine (HW.o _ HBC.o HR1.o).mono ?_;rintro e w8 ⟨V8,rfl,hR8,hb8,hf8⟩;have HR8:=Zh hR8;have HB8:=Zh hb8;have HF8:=Zh hf8;clear hR8 hb8 hf8)
 go_ret
 exact HRN.o.fell HX.o HF.o HS0.o rfl HR8.o ((HB1.o.mono hbs2).trans HB8.o) ((FrV.of_below HB1.o).trans HF8.o)):G:=h
theorem m_35{G:Prop}(h:G:=by
 intro hm i hi;rw [Lib.compactUpTo_succ,List.mem_append];by_cases hlt:i<m
 ·exact .inl (ih ω i hlt)
 obtain rfl:i=m:=ω;by_cases hk:keeps d i=true
 ·rw [if_pos hk];exact .inr (by simp)
 ·unfold keeps at hk;simp only [decide_eq_true_eq,not_or,Decidable.not_not,ne_eq] at hk;rw [hk.2]
  exact .inl (ih ω (i - 1) ω)):G:=h
theorem m_36{G:Prop}(h:G:=by
 go_enter Tryz.func136,Tryz.ntmps136
 go_wp2_with (first | (go_at_call 196;refine (Zep _ _).mono ?_;rintro e w' ⟨rfl,rfl⟩))
 go_ret;refine⟨Zak (by simp [Zcc,Zb9, *]),?_⟩
 repeat (first | exact Below.refl _ _ | refine Zaa ?_ _)):G:=h
theorem m_37{G:Prop}(h:G:=by
 go_enter Tryz.func114,Tryz.ntmps114
 go_wp2_with fail
 go_ret;refine⟨by rw [HR.o];rfl,?_,met+1,?_,by rw [HR.o];intro h;cases h⟩
 ·exact (((Zd1.refl g w).set 1 _).set 2 _).alloc _
 ·rw [HR.o];exact ((HW.o.set1 _).set2 _).al _):G:=h
theorem m_38{G:Prop}(h:G:=by
 ·skip
  simp only [Za6,Za2,Zcf,Zce];go_enter Tryz.func137,Tryz.ntmps137
  go_wp2_with fail
  refine Zcm 4 5 rfl rfl ?_
  exact⟨_,rfl,fun hq=>by first | (simp [Zbz] at hq;done) | (simp [Zap,e];done) | simp_all [Zap],Zau w _ _⟩):G:=h
theorem m_39{G:Prop}(h:G:=by
 simp only [Za6,Za2,Zcf,Zce];go_enter Tryz.func137,Tryz.ntmps137
 go_wp2_with fail
 refine Zcm 4 5 rfl rfl ?_
 exact⟨_,rfl,fun hq=>by first | (simp [Zbz] at hq;done) | (simp [Zap,true_and];done) | simp_all [Zap],Zau w _ _⟩):G:=h
theorem m_40{G:Prop}(h:G:=by
 refine hK v' w1 ?_ ⟨?_,fun i hi hne=>?_⟩
 ·show w1.ownsRow B T E.size v' (l++ys).length (E.flat (l++ys));rw [E.flat_append,List.length_append];exact hown'
 ·exact (Below.refl _ _).grown hgrow hB (fun j hj=>(hown.lt j hj).1)
 ·exact hgrow.block i hi (fun e=>hne e.symm)):G:=h
theorem m_41{G:Prop}(h:G:=by
 simp only [Za6,Za2,Zcf,Zce];go_enter Tryz.func137,Tryz.ntmps137
 go_wp2_with fail
 refine Zcm 4 5 rfl rfl ?_
 exact⟨_,rfl,fun hq=>by first | (simp [Zbz] at hq;done) | (simp [Zap,e];done) | simp_all [Zap],Zau w _ _⟩):G:=h
theorem m_42{G:Prop}(h:G:=by
 refine bodyPost_ret (v:=.tuple #[.slice none 0 0,.int .i64 93,.int .i64 (k:Int)]) (by simp [results,Tryz.results97,go_sem]) rfl ?_;have e1:=Zgr hlen hlt HOK.o HLB.o HNO.o
 exact Zf3.bad (by rw [e1];simp) (by rw [e1]) (Zab HBR.o HB2.o)):G:=h
theorem m_43{G:Prop}(h:G:=by
 refine bodyPost_ret (v:=.tuple #[.slice none 0 0,.int .i64 93,.int .i64 (k:Int)]) (by simp [results,Tryz.results97,go_sem]) rfl ?_;have e1:=Zgr hlen hlt HOK.o HLB.o HNO.o
 exact Zf3.bad (by rw [e1];simp) (by rw [e1]) (Zaa HBR.o _)):G:=h
theorem m_44{G:Prop}(h:G:=by
 rw [ha] at k0i;clear ha
 go_wp2_with fail
 go_roundw
 case rel=>exact⟨k+1,ω,by go_num,(fun j c' hj hc=>by (rcases Nat.lt_succ_iff_lt_or_eq.1 hj with h | h);exact HNO.o j c' h hc;rw [h,HX.o] at hc;cases hc;exact HTH.o),HBW.o⟩
 case measure=>exact msr):G:=h
theorem m_45{G:Prop}(h:G:=by
 go_wp2_with (go_at_call 68;refine (Zvq ci cc (Zfc XE1.out XE2.out) (HT.o.below HBWR.o)).mono ?_;rintro e w6 ⟨A6,c6,rfl,hat6,hnew6,hb⟩;have HB6:=Zh hb;clear hat6 hnew6 hb)
 go_ret
 exact⟨Zak HV.o.symm,Zab HBWR.o HB6.o⟩):G:=h
theorem m_46{G:Prop}(h:G:=by
 ·have HV:=Zh (Zuf (a:=T.arch) (by rw [HN.o];exact g1) (by rw [HN.o];exact g2) HL.o (fun j c hc=>HNO.o j c (by have:=(List.getElem?_eq_some_iff.1 hc).1;have:=HN.o;omega) hc))
  go_wp2_with fail
  go_ret
  exact⟨Zak HV.o.symm,Zab HB0.o HB.o⟩):G:=h
theorem m_47{G:Prop}(h:G:=by
 go_wp2_with (go_at_call 86;refine (Zmz ci cc (Zfc XE1.out XE2.out) (HT.o.below HBW3.o)).mono ?_;rintro e w6 ⟨A6,c6,rfl,hat6,hb⟩;have HB6:=Zh hb;clear hat6 hb)
 go_ret
 exact⟨Zak HR.o.symm,Zab HBW3.o HB6.o⟩):G:=h
theorem m_48{G:Prop}(h:G:=by
 go_roundw
 case rel=>exact⟨k+1,ω,by go_num,(fun j c' hj hc=>by (rcases Nat.lt_succ_iff_lt_or_eq.1 hj with h | h);exact HNO.o j c' h hc;rw [h,HX.o] at hc;cases hc;rw [HTH.o];exact hE),Zab HBW.o HB2.o⟩
 case measure=>exact msr):G:=h
theorem m_49{G:Prop}(h:G:=by
 have f3:(Zbg T.arch T.q T.k T.t T.r T.l T.v T.kids != 0)=true:=by simpa using hE3
 have f4:(Zbg T.arch T.q T.k T.t T.r T.l T.v T.kids == 0)=false:=by simpa using hE3
 go_wp2_with fail
 go_ret
 exact⟨Zak HV.o.symm,HBW3.o⟩):G:=h
theorem m_50{G:Prop}(h:G:=by
 simp only [Zne,Zmr] at q1;go_enter Tryz.func72,Tryz.ntmps72
 go_wp2_with fail
 go_ret
 exact⟨_,rfl,HR.o.below HB0.o,HB0.o.mono hbs,FrV.of_below HB0.o⟩):G:=h
theorem m_51{G:Prop}(h:G:=by
 clear hc hd hx
 go_wp2_with fail
 go_quiet (fail)
 go_wp2_with fail
 go_roundw
 case rel=>exact⟨i+1,ω,by go_num,by first | exact HB.o | exact HB.o.drew | exact Zag HB.o _⟩
 case measure=>simp [intOf];omega):G:=h
theorem m_52{G:Prop}(h:G:=by
 by_cases hn:2<=n
 all_goals
  go_enter Tryz.func194,Tryz.ntmps194
  go_wp2_with fail
  go_ret
  exact⟨Zaf (by rw [HV.o];simp;try omega),Zaa (Zad w _) _⟩):G:=h
theorem m_53{G:Prop}(h:G:=by
 simp only [Bool.and_eq_true,beq_iff_eq] at h;obtain⟨⟨⟨⟨⟨_,h1⟩,h2⟩,h3⟩,h4⟩,_⟩:=h;have:=Zcr h2;have:=Zcr h3
 exact⟨ω,ω,ω,ω,h4 ▸ z32,fun _=>by omega,fun e2=>by omega,hlab⟩):G:=h
theorem m_54{G:Prop}(h:G:=by
 simp only [Bool.and_eq_true,beq_iff_eq] at h;obtain⟨⟨⟨h1,h2⟩,h3⟩,h4⟩:=h;have:=Zcr h2
 exact⟨ω,ω,ω,ω,h4 ▸ z32,fun _=>hloc (Zgt h1),fun e2=>by omega,fun e2=>by omega⟩):G:=h
theorem m_55{G:Prop}(h:G:=by
 go_enter Tryz.func241,Tryz.ntmps241
 go_wp2_with fail
 go_quiet (fail)
 go_wp2;go_ret
 exact⟨Zaf HV.o.symm,Zag (Zad _ _) _⟩):G:=h
theorem m_56{G:Prop}(h:G:=by
 by_cases hn:2<=n
 all_goals
  go_enter Tryz.func177,Tryz.ntmps177
  go_wp2_with fail
  go_ret
  exact⟨Zaf (by rw [HV.o];simp;try omega),Zad w _⟩):G:=h
theorem m_57{G:Prop}(h:G:=by
 go_wp2_with fail
 go_ret
 exact⟨rfl,by first | exact Zab HBx.o (by repeat (first | exact Below.refl _ _ | refine Zag ?_ _ | refine Below.drew ?_ | refine Zaa ?_ _)) | skip⟩):G:=h
theorem m_58{G:Prop}(h:G:=by
 refine Zh3 κ κ ?_
 repeat still_step
 refine wpStill_nil ?_
 go_wp2_with fail
 go_roundw
 case rel=>exact⟨j+1,ω,ω,by go_num,HBR.o.drew⟩
 case measure=>simp [intOf];omega):G:=h
theorem m_59{G:Prop}(h:G:=by
 go_enter Tryz.func135,Tryz.ntmps135
 go_wp2_with fail
 go_ret
 exact⟨Zaf (by rw [H.o];try simp),Zaa (Zad _ _) _⟩):G:=h
theorem m_60{G:Prop}(h:G:=by
 go_round
 case rel=>exact⟨k+1,ω,ω,by go_num,fun j hj h1 h=>by
  by_cases e:j<k
  ·exact H.o j hj h1 e
  ·obtain rfl:j=k:=ω
   exact HB.o⟩
 case measure=>exact msr):G:=h
theorem m_61{G:Prop}(h:G:=by
 go_enter Tryz.func213,Tryz.ntmps213
 go_wp2_with fail
 go_quiet (fail)
 go_wp2;go_ret
 exact⟨Zaf HV.o.symm,Zag (Zad _ _) _⟩):G:=h
theorem m_62{G:Prop}(h:G:=by
 go_round
 case rel=>exact⟨k+1,ω,by go_num,fun j hj h=>by
  by_cases e:j<k
  ·exact H.o j hj e
  ·obtain rfl:j=k:=ω
   exact HB.o⟩
 case measure=>exact msr):G:=h
theorem m_63{G:Prop}(h:G:=by
 obtain⟨z0,_⟩:∃ z:Nat,z=z:=⟨0,rfl⟩;refine Zb5 131 rfl rfl ?_
 (try simp only [pa1,pa2,pa3,Act.put,pa4,pa5,pa6])
 exact wpList_nil (HM.o l1 z0 W3 hF)):G:=h
theorem m_64{G:Prop}(h:G:=by
 have f1:(Zbb T != 0)=true:=by simpa using hE
 have f2:(Zbb T == 0)=false:=by simpa using hE
 go_wp2_with fail
 go_ret2
 exact⟨Or.inl ⟨HE.o,rfl⟩,HB2.o⟩):G:=h
theorem m_65{G:Prop}(h:G:=by
 go_enter Tryz.func194,Tryz.ntmps194
 go_wp2_with fail
 go_ret
 exact⟨Zaf HV.o.symm,Zaa (Zad w _) _⟩):G:=h
theorem m_66{G:Prop}(h:G:=by
 refine⟨rfl,?_⟩
 repeat (first | exact Below.refl _ _ | with_reducible refine Below.setCell ?_ (by simp <;> omega) _ | with_reducible refine Zaa ?_ _)):G:=h
theorem m_67{G:Prop}(h:G:=by
 ·have hvo:V.rg.ownBlock=some q:=by rw [hvr];rfl
  exact (((((FrV.of_below (HB0.o.drew)).reg hvo _ _).reg hvo _ _).reg hvo _ _).reg hvo _ _).reg hvo _ _):G:=h
theorem m_68{G:Prop}(h:G:=by
 subst e;unfold Zai;go_enter Tryz.func127,Tryz.ntmps127
 go_wp2_with fail
 go_ret
 exact⟨Zaf (by simp),rfl⟩):G:=h
theorem m_69{G:Prop}(h:G:=by
 go_wp2_with fail
 go_quiet (fail)
 go_wp2_with fail
 go_roundw
 case rel=>exact⟨k+1,-1,ω,ω,by go_num,rfl,HNX.o,Zag HBK.o _⟩
 case measure=>exact msr):G:=h
theorem m_70{G:Prop}(h:G:=by
 go_enter Tryz.func134,Tryz.ntmps134
 go_wp2_with fail
 go_ret2
 exact⟨by rw [HR.o];rfl,Zad _ _⟩):G:=h
theorem m_71{G:Prop}(h:G:=by
 go_enter Tryz.func263,Tryz.ntmps263
 go_wp2_with fail
 go_ret
 exact⟨Zaf HF.o.symm,rfl⟩):G:=h
theorem m_72{G:Prop}(h:G:=by
 go_enter Tryz.func195,Tryz.ntmps195
 go_wp2_with fail
 go_ret
 exact⟨Zaf HF.o.symm,rfl⟩):G:=h
theorem m_73{G:Prop}(h:G:=by
 go_enter Tryz.func193,Tryz.ntmps193
 go_wp2_with fail
 go_ret
 exact⟨Zaf HF.o.symm,rfl⟩):G:=h
theorem m_74{G:Prop}(h:G:=by
 go_wp2_with fail
 go_quiet (fail)
 go_wp2_with fail
 go_roundw
 case rel=>exact⟨k+1,ω,by go_num,HNX.o,Zag HBK.o _⟩
 case measure=>exact msr):G:=h
theorem m_75{G:Prop}(h:G:=by
 go_enter Tryz.func36,Tryz.ntmps36
 go_wp2_with fail
 go_end0
 exact⟨rfl,rfl⟩):G:=h
theorem m_76{G:Prop}(h:G:=by
 unfold putCells;rw [Array.getElem?_toList,Array.getElem?_mapIdx];rw [Array.getElem?_eq_getElem (show i<cur.size by omega)]
 simp [hi]):G:=h
theorem m_77{G:Prop}(h:G:=by
 go_enter Tryz.func198,Tryz.ntmps198
 go_wp2_with fail
 go_ret
 exact⟨rfl,HB.o⟩):G:=h
theorem m_78{G:Prop}(h:G:=by
 have g1:¬ (k:Int)<(n:Int):=ω;clear hkn2 hkn hown hbw
 go_wp2_with fail
 go_ret;rw [HE.o]
 exact⟨_,rfl,Za3 HO.o HWA.o.size,HW.o⟩):G:=h
theorem m_79{G:Prop}(h:G:=by
 unfold Zai;go_enter Tryz.func125,Tryz.ntmps125
 go_wp2_with fail
 go_ret
 exact⟨rfl,rfl⟩):G:=h
theorem m_80{G:Prop}(h:G:=by
 go_enter Tryz.func202,Tryz.ntmps202
 go_wp2_with fail
 go_ret
 exact⟨Zaf HF.o.symm,rfl⟩):G:=h
theorem m_81{G:Prop}(h:G:=by
 go_enter Tryz.func120,Tryz.ntmps120
 go_wp2_with fail
 go_ret
 exact⟨Zak HV.o.symm,HG.o⟩):G:=h
theorem m_82{G:Prop}(h:G:=by
 simp only [List.mem_singleton] at hx;subst hx;unfold Zf2 at h;rw [if_pos h2] at h;simp only [Bool.and_eq_true] at h
 exact h.1.1):G:=h
theorem m_83{G:Prop}(h:G:=by
 go_enter Tryz.func253,Tryz.ntmps253
 go_wp2_with fail
 go_ret
 exact⟨Zaf HF.o.symm,rfl⟩):G:=h
theorem m_84{G:Prop}(h:G:=by
 go_enter Tryz.func177,Tryz.ntmps177
 go_wp2_with fail
 go_ret
 exact⟨Zaf HV.o.symm,Zad w _⟩):G:=h
theorem m_85{G:Prop}(h:G:=by
 go_enter Tryz.func152,Tryz.ntmps152
 go_wp2_with fail
 go_ret
 exact⟨rfl,HB.o⟩):G:=h
theorem m_86{G:Prop}(h:G:=by
 go_enter Tryz.func79,Tryz.ntmps79
 go_wp2_with fail
 go_ret
 exact⟨rfl,HG.o⟩):G:=h
theorem m_87{G:Prop}(h:G:=by
 have HF:=Zh (Zfk (f:=32) hlt (by simp [shC];omega))
 go_wp2_with fail
 go_ret
 exact⟨Zaf (by rw [<- HR.o,HF.o];rfl),rfl⟩):G:=h
theorem m_88{G:Prop}(h:G:=by
 go_roundw
 case rel=>exact⟨k+1,_,rfl,ω,by go_num,by rw [HS2.o];exact HO3.o,HB3.o⟩
 case measure=>simp [intOf];omega):G:=h
theorem m_89{G:Prop}(h:G:=by
 have HF:=Zh (Zfk (f:=33) hlt (by simp [shC];omega))
 go_wp2_with fail
 go_ret
 exact⟨Zaf (by rw [<- HR.o,HF.o]),rfl⟩):G:=h
theorem m_90{G:Prop}(h:G:=by
 go_roundw
 case rel=>exact⟨k+1,_,rfl,ω,by go_num,by rw [HS.o];exact HO3.o,HB3.o⟩
 case measure=>simp [intOf];omega):G:=h
theorem m_91{G:Prop}(h:G:=by
 ·have HF:=Zh (Zge hp ω HL.o (fun i hi h1=>H.o i hi h1 ω))
  go_wp2_with fail
  go_ret
  exact⟨Zaf HF.o.symm,rfl⟩):G:=h
theorem m_92{G:Prop}(h:G:=by
 have HF:=Zh (Zfk (f:=f) hlt (by simp [shC];omega))
 go_wp2_with fail
 go_ret
 exact⟨Zaf (by rw [<- HR.o,HF.o]),rfl⟩):G:=h
theorem m_93{G:Prop}(h:G:=by
 go_ret
 exact HRN.o.fell HX.o HF.o HS0.o rfl HR8.o ((HB1.o.mono hbs2).trans HB8.o) ((FrV.of_below HB1.o).trans HF8.o)):G:=h
theorem m_94{G:Prop}(h:G:=by
 ·have HF:=Zh (Zge hp ω HL.o (fun i hi _=>H.o i hi ω))
  go_wp2_with fail
  go_ret
  exact⟨Zaf HF.o.symm,rfl⟩):G:=h
theorem m_95{G:Prop}(h:G:=by
 go_wp2_with fail
 go_roundw
 case rel=>exact⟨j+1,ω,by go_num,HNX.o,Zab HBJ.o HBK.o⟩
 case measure=>exact msr):G:=h
theorem m_96{G:Prop}(h:G:=by
 go_wp2_with fail
 go_end0
 exact⟨rfl,by rw [HT.o];have:=HAC.o;rw [HFIN.o] at this;simpa using this,HBR.o⟩):G:=h
theorem m_97{G:Prop}(h:G:=by
 have g1:¬ k<n:=hkn;clear hkn2 hkn hown hbw;go_wp2;go_ret;rw [HE.o]
 exact⟨_,rfl,HO.o,HW.o⟩):G:=h
theorem m_98{G:Prop}(h:G:=by
 refine⟨this.1,?_⟩;show p.1<((a.evs++r.evs).length:Int)
 rw [List.length_append];omega):G:=h
theorem m_99{G:Prop}(h:G:=by
 go_wp2_with fail
 go_ret
 exact Zhg.yes HV.o ⟨V1,rfl,HRN.o.run,HRN.o.below,HRN.o.fr⟩):G:=h
theorem m_100{G:Prop}(h:G:=by
 unfold madeCells;have hc:m % 2=0\/m % 2=1:=ω
 rcases hc with hc | hc <;> simp [hc,hm]):G:=h
theorem m_101{G:Prop}(h:G:=by
 exact⟨_,rfl,HR2.o,(HB0.o.mono hbs).trans HB2.o,(FrV.of_below HB0.o).trans HF2.o⟩):G:=h
theorem m_102{G:Prop}(h:G:=by
 go_roundw
 case rel=>exact⟨k+1,ω,by go_num,hb2⟩
 case measure=>simp [intOf];omega):G:=h
theorem m_103{G:Prop}(h:G:=by
 refine⟨ω,?_⟩;show p.1<((a.evs++r.evs).length:Int)
 rw [List.length_append];omega):G:=h
theorem m_104{G:Prop}(h:G:=by
 refine⟨?_,(Zfv (HBW.o) (Nat.le_succ _) _ _ _ _ _ _ _ _ _)⟩;rw [HTR.o,HXE.o]
 rfl):G:=h
theorem m_105{G:Prop}(h:G:=by
 ·have hil:i=l.length:=ω;subst hil
  go_wp2_with fail
  go_ret
  exact⟨rfl,HB.o⟩):G:=h
theorem m_106{G:Prop}(h:G:=by
 go_wp2_with fail
 go_ret
 exact⟨Zaf (by rw [<- HR.o,HF.o,HG.o];rfl),rfl⟩):G:=h
theorem m_107{G:Prop}(h:G:=by
 exact⟨ω,ω,ω,ω,h4 ▸ z32,fun _=>by omega,fun e2=>by omega,hlab⟩):G:=h
theorem m_108{G:Prop}(h:G:=by
 have h3:=hI.room
 rw [List.length_append,List.length_map];omega):G:=h
theorem m_109{G:Prop}(h:G:=by
 simp only [Option.some.injEq] at hg;subst hg
 exact hI.next hk):G:=h
end Go.Proofs.YtgjefdaaihgliaaGreatDoor
