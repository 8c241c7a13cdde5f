/- - -/
import Derived.Test.YtoegmdnfbemppaaGreatDoorTf37

namespace Go.Proofs.YtoegmdnfbemppaaGreatDoor
open Go.RowKit
section
def Zpo (S:Zgi)(r:Rn)(w:World)(e:Ending)(w':World):Prop:=∃ g V,e=.returned (.pointer (some ⟨g,0,none⟩))/\Za1 w' w.heap.size g S r V/\Below w.heap.size w w'
section
set_option maxHeartbeats 4000000
set_option maxRecDepth 100000
theorem Zxd (T:Tst)(Ai Ac Al:Option Addr)(ci cc nl cl k ahead:Nat)(kv:Value)(locs:List Nm)(w:World)(ha:T.arch=1)(hT:Zb4 w T Ai Ac kv)(hini:∀ x∈T.init,x.th=(k:Int)->0<=x.rg/\x.rg<15) :
  Calls Tryz.prog 32 #[Zbm T (.slice Ai T.init.length ci) (.slice Ac T.code.length cc) kv,.int .i64 (k:Int),.slice Al nl cl,.int .i64 (ahead:Int)] w
   (Zpo ⟨T,.slice Ai T.init.length ci,.slice Ac T.code.length cc,kv,.slice Al nl cl,⟨k,false,ahead,locs⟩⟩ (rn0 false T.init k) w):=by
 obtain⟨A0,l0,q0,rfl⟩:∃ A n c,kv=.slice A n c:=by obtain⟨A,cap,e,_⟩:=hT.kids;exact⟨A,_,cap,e⟩
 simp only [Zbm,ha]
 have HTB:=Zh (Blk.new w 32 #[.int .i64 1,.string ⟨T.name.toArray⟩,.string ⟨T.cycle.toArray⟩,.slice Ai T.init.length ci,.slice Ac T.code.length cc,.int .i64 T.q,.int .i64 T.k,.int .i64 T.t,.int .i64 T.r,.string ⟨T.l.toArray⟩,.int .i64 T.v,.slice A0 l0 q0])
 have HB0:=Zh (Zad w (.cells #[.int .i64 1,.string ⟨T.name.toArray⟩,.string ⟨T.cycle.toArray⟩,.slice Ai T.init.length ci,.slice Ac T.code.length cc,.int .i64 T.q,.int .i64 T.k,.int .i64 T.t,.int .i64 T.r,.string ⟨T.l.toArray⟩,.int .i64 T.v,.slice A0 l0 q0] 32 (0,0)))
 have HZ:=Zh (show (w.alloc (.cells #[.int .i64 1,.string ⟨T.name.toArray⟩,.string ⟨T.cycle.toArray⟩,.slice Ai T.init.length ci,.slice Ac T.code.length cc,.int .i64 T.q,.int .i64 T.k,.int .i64 T.t,.int .i64 T.r,.string ⟨T.l.toArray⟩,.int .i64 T.v,.slice A0 l0 q0] 32 (0,0))).heap.size=w.heap.size+1 by simp)
 have HI:=Zh hT.init
 have HINI:=Zh hini
 have hil:=hT.ilen
 have HAR:=Zh ha
 clear hT hini ha
 go_enter Tryz.func32,Tryz.ntmps32
 go_wp2_with fail
 generalize hw1:w.alloc (.cells #[.int .i64 1,.string ⟨T.name.toArray⟩,.string ⟨T.cycle.toArray⟩,.slice Ai T.init.length ci,.slice Ac T.code.length cc,.int .i64 T.q,.int .i64 T.k,.int .i64 T.t,.int .i64 T.r,.string ⟨T.l.toArray⟩,.int .i64 T.v,.slice A0 l0 q0] 32 (0,0))=w1 at *
 clear hw1
 have hz1:w1.heap.size=w.heap.size+1:=HZ.out
 have t0:=HTB.out.cm 0
 have t1:=HTB.out.cm 1
 have t2:=HTB.out.cm 2
 have t3:w1.cell? ⟨w.heap.size,3,none⟩=some (.slice Ai T.init.length ci):=HTB.out.cell 3
 have t4:w1.cell? ⟨w.heap.size,4,none⟩=some (.slice Ac T.code.length cc):=HTB.out.cell 4
 have t5:=HTB.out.cm 5
 have t6:=HTB.out.cm 6
 have t7:=HTB.out.cm 7
 have t8:=HTB.out.cm 8
 have t9:=HTB.out.cm 9
 have ta:=HTB.out.cm 10
 have tb:w1.cell? ⟨w.heap.size,11,none⟩=some (.slice A0 l0 q0):=HTB.out.cell 11
 refine wz (fun y:World=>y.cell? ⟨w.heap.size,0,none⟩=some (.int .i64 1)/\y.cell? ⟨w.heap.size,1,none⟩=some (.string ⟨T.name.toArray⟩)/\y.cell? ⟨w.heap.size,2,none⟩=some (.string ⟨T.cycle.toArray⟩)/\y.cell? ⟨w.heap.size,3,none⟩=some (.slice Ai T.init.length ci)/\y.cell? ⟨w.heap.size,4,none⟩=some (.slice Ac T.code.length cc)/\y.cell? ⟨w.heap.size,5,none⟩=some (.int .i64 T.q)/\y.cell? ⟨w.heap.size,6,none⟩=some (.int .i64 T.k)/\y.cell? ⟨w.heap.size,7,none⟩=some (.int .i64 T.t)/\y.cell? ⟨w.heap.size,8,none⟩=some (.int .i64 T.r)/\y.cell? ⟨w.heap.size,9,none⟩=some (.string ⟨T.l.toArray⟩)/\y.cell? ⟨w.heap.size,10,none⟩=some (.int .i64 T.v)/\y.cell? ⟨w.heap.size,11,none⟩=some (.slice A0 l0 q0)) [0,4] ⟨t0,t1,t2,t3,t4,t5,t6,t7,t8,t9,ta,tb⟩ (fun hHeld=>?_)
 refine wq 1 ?_
 refine wq 2 ?_
 refine wq 3 ?_
 refine wq 5 ?_
 refine wt 0 (by assumption) ?_
 have hmk:∀ w,(Instr.makeSlice 109 (.int .i64 15) (.int .i64 15)).run Tryz.prog w=.ok (.slice (some ⟨w.heap.size,0,none⟩) 15 15) (w.alloc (.cells (Zft.flat (zl 0 15)).toArray 163 (0,0))):=fun w=>Zvz 15 (by omega) w
 refine Zav (i:=4) (by kernel_rfl) rfl (fun K hK=>?_)
 go_simp
 refine hK.out _ _ ⟨Zal hHeld.1 _,Zal hHeld.2.1 _,Zal hHeld.2.2.1 _,Zal hHeld.2.2.2.1 _,Zal hHeld.2.2.2.2.1 _,Zal hHeld.2.2.2.2.2.1 _,Zal hHeld.2.2.2.2.2.2.1 _,Zal hHeld.2.2.2.2.2.2.2.1 _,Zal hHeld.2.2.2.2.2.2.2.2.1 _,Zal hHeld.2.2.2.2.2.2.2.2.2.1 _,Zal hHeld.2.2.2.2.2.2.2.2.2.2.1 _,Zal hHeld.2.2.2.2.2.2.2.2.2.2.2 _⟩ ?_
 clear hK K
 refine pu ?_
 refine wl 6 ?_
 clear hHeld t0 t1 t2 t3 t4 t5 t6 t7 t8 t9 ta tb hmk
 have HW2:=Zh (Zaa HB0.out (Zap w1 (.cells (Zft.flat (zl 0 15)).toArray 163 (0,0)) (.cells #[.int .i64 1,.string ⟨T.name.toArray⟩,.string ⟨T.cycle.toArray⟩,.slice Ai T.init.length ci,.slice Ac T.code.length cc,.int .i64 T.q,.int .i64 T.k,.int .i64 T.t,.int .i64 T.r,.string ⟨T.l.toArray⟩,.int .i64 T.v,.slice A0 l0 q0,.int .i64 (k:Int),.slice Al nl cl,.slice (some ⟨w.heap.size+1,0,none⟩) 15 15,.int .u64 0,.int .u64 0,.int .u64 0,.int .u64 0,.slice none 0 0,.slice none 0 0,.slice none 0 0,.slice none 0 0,.slice none 0 0,.int .i64 (ahead:Int),.bool false] 114 (0,0))).drew)
 have HQ2:=Zh (((Blk.new w1 163 (Zft.flat (zl 0 15)).toArray).alloc (.cells #[.int .i64 1,.string ⟨T.name.toArray⟩,.string ⟨T.cycle.toArray⟩,.slice Ai T.init.length ci,.slice Ac T.code.length cc,.int .i64 T.q,.int .i64 T.k,.int .i64 T.t,.int .i64 T.r,.string ⟨T.l.toArray⟩,.int .i64 T.v,.slice A0 l0 q0,.int .i64 (k:Int),.slice Al nl cl,.slice (some ⟨w.heap.size+1,0,none⟩) 15 15,.int .u64 0,.int .u64 0,.int .u64 0,.int .u64 0,.slice none 0 0,.slice none 0 0,.slice none 0 0,.slice none 0 0,.slice none 0 0,.int .i64 (ahead:Int),.bool false] 114 (0,0))).drew)
 have HG2:=Zh ((Zcw w1 (.cells (Zft.flat (zl 0 15)).toArray 163 (0,0)) 114 #[.int .i64 1,.string ⟨T.name.toArray⟩,.string ⟨T.cycle.toArray⟩,.slice Ai T.init.length ci,.slice Ac T.code.length cc,.int .i64 T.q,.int .i64 T.k,.int .i64 T.t,.int .i64 T.r,.string ⟨T.l.toArray⟩,.int .i64 T.v,.slice A0 l0 q0,.int .i64 (k:Int),.slice Al nl cl,.slice (some ⟨w.heap.size+1,0,none⟩) 15 15,.int .u64 0,.int .u64 0,.int .u64 0,.int .u64 0,.slice none 0 0,.slice none 0 0,.slice none 0 0,.slice none 0 0,.slice none 0 0,.int .i64 (ahead:Int),.bool false]).drew)
 have HT2:=Zh (HTB.out.go (Zap w1 (.cells (Zft.flat (zl 0 15)).toArray 163 (0,0)) (.cells #[.int .i64 1,.string ⟨T.name.toArray⟩,.string ⟨T.cycle.toArray⟩,.slice Ai T.init.length ci,.slice Ac T.code.length cc,.int .i64 T.q,.int .i64 T.k,.int .i64 T.t,.int .i64 T.r,.string ⟨T.l.toArray⟩,.int .i64 T.v,.slice A0 l0 q0,.int .i64 (k:Int),.slice Al nl cl,.slice (some ⟨w.heap.size+1,0,none⟩) 15 15,.int .u64 0,.int .u64 0,.int .u64 0,.int .u64 0,.slice none 0 0,.slice none 0 0,.slice none 0 0,.slice none 0 0,.slice none 0 0,.int .i64 (ahead:Int),.bool false] 114 (0,0))).drew)
 rw [hz1] at HQ2 HG2
 go_wp2_with fail
 generalize ((w1.alloc (.cells (Zft.flat (zl 0 15)).toArray 163 (0,0))).alloc (.cells #[.int .i64 1,.string ⟨T.name.toArray⟩,.string ⟨T.cycle.toArray⟩,.slice Ai T.init.length ci,.slice Ac T.code.length cc,.int .i64 T.q,.int .i64 T.k,.int .i64 T.t,.int .i64 T.r,.string ⟨T.l.toArray⟩,.int .i64 T.v,.slice A0 l0 q0,.int .i64 (k:Int),.slice Al nl cl,.slice (some ⟨w.heap.size+1,0,none⟩) 15 15,.int .u64 0,.int .u64 0,.int .u64 0,.int .u64 0,.slice none 0 0,.slice none 0 0,.slice none 0 0,.slice none 0 0,.slice none 0 0,.int .i64 (ahead:Int),.bool false] 114 (0,0))).drew=w2 at *
 go_loopw [30] (fun v wr=>∃ i:Nat,i<=15/\v=.int .i64 i/\Blk wr (w.heap.size+1) 163 (Zft.flat (zl i 15)).toArray/\Blk wr (w.heap.size+1+1) 114 #[.int .i64 1,.string ⟨T.name.toArray⟩,.string ⟨T.cycle.toArray⟩,.slice Ai T.init.length ci,.slice Ac T.code.length cc,.int .i64 T.q,.int .i64 T.k,.int .i64 T.t,.int .i64 T.r,.string ⟨T.l.toArray⟩,.int .i64 T.v,.slice A0 l0 q0,.int .i64 (k:Int),.slice Al nl cl,.slice (some ⟨w.heap.size+1,0,none⟩) 15 15,.int .u64 0,.int .u64 0,.int .u64 0,.int .u64 0,.slice none 0 0,.slice none 0 0,.slice none 0 0,.slice none 0 0,.slice none 0 0,.int .i64 (ahead:Int),.bool false]/\Blk wr w.heap.size 32 #[.int .i64 1,.string ⟨T.name.toArray⟩,.string ⟨T.cycle.toArray⟩,.slice Ai T.init.length ci,.slice Ac T.code.length cc,.int .i64 T.q,.int .i64 T.k,.int .i64 T.t,.int .i64 T.r,.string ⟨T.l.toArray⟩,.int .i64 T.v,.slice A0 l0 q0]/\Below w.heap.size w wr) (fun v _=>15 - (intOf v).toNat)
 case atStart=>exact⟨0,by omega,rfl,HQ2.out,HG2.out,HT2.out,HW2.out⟩
 case round=>
  obtain⟨i,hi,rfl,hq,hg,ht,hb⟩:=hrel
  have HQ:=Zh hq
  have HG:=Zh hg
  have HT:=Zh ht
  have HB:=Zh hb
  clear hq hg ht hb HQ2 HG2 HT2 HW2
  by_cases hlt:i<15
  ·have hii:(0:Int)<=(i:Int):=by omega
   have hij:(i:Int)<15:=by omega
   have g14:wr.cell? ⟨w.heap.size+1+1,14,none⟩=some (.slice (some ⟨w.heap.size+1,0,none⟩) 15 15):=HG.out.cell 14
   have hz:wr.cell? ⟨w.heap.size+1,i*5,none⟩=some .nilIface:=by
    rw [HQ.out.cell,List.getElem?_toArray]
    have:=Zft.flat_at (Z3m hlt) (show 0<5 by omega)
    exact this
   have fz:=HQ.out.frozen (i*5)
   have HN:=Zh (show Blk (wr.setCell ⟨w.heap.size+1,i*5,none⟩ (.iface 159 (.int .i64 0))) (w.heap.size+1) 163 (Zft.flat (zl (i+1) 15)).toArray by
    have:=HQ.out.set_ (i*5) (.iface 159 (.int .i64 0))
    rw [Zn4 _ _ (by rw [Ztl hi];exact hlt),Zzx hlt] at this
    exact this)
   exact m_75
  ·have hie:i=15:=by omega
   subst hie
   have hr:Zft.flat (zl 15 15)=Zde.flat (List.replicate 15 ⟨.num 0,0⟩):=Zli 15
   rw [hr] at HQ
   have HR:=Zh (show Za1 wr w.heap.size (w.heap.size+1+1) ⟨T,.slice Ai T.init.length ci,.slice Ac T.code.length cc,.slice A0 l0 q0,.slice Al nl cl,⟨k,false,ahead,locs⟩⟩ ⟨List.replicate 15 ⟨.num 0,0⟩,0,[],[],[],[],[],false⟩ ⟨.slice (some ⟨w.heap.size+1,0,none⟩) 15 15,.slice none 0 0,.slice none 0 0,.slice none 0 0,.slice none 0 0,.slice none 0 0⟩ from
    ⟨by have:=HG.out;rw [<- HAR.out] at this;exact this,by omega,⟨w.heap.size+1,by simp,HQ.out,by omega⟩,Enc.Own.nil _ _ _,Enc.Own.nil _ _ _,Enc.Own.nil _ _ _,Enc.Own.nil _ _ _,Enc.Own.nil _ _ _,(fun x hx=>by cases hx),(fun x hx=>by cases hx),(fun x hx=>by cases hx)⟩)
   have u3:wr.cell? ⟨w.heap.size,3,none⟩=some (.slice Ai T.init.length ci):=HT.out.cell 3
   have g14:wr.cell? ⟨w.heap.size+1+1,14,none⟩=some (.slice (some ⟨w.heap.size+1,0,none⟩) 15 15):=HG.out.cell 14
   go_wp2_with fail
   have HR0:=Zh HR.out
   have HT0:=Zh HT.out
   have HB0':=Zh HB.out
   clear HR HT HB HQ HG u3 g14 hr HB0
   go_loopw [45] (fun v wr2=>∃ (i:Nat) (L:List Rg),i<=T.init.length/\v=.int .i64 i/\L=(T.init.take i).foldl (Zfr k) (List.replicate 15 ⟨.num 0,0⟩)/\(∀ y∈L,y.on=0)/\L.length=15/\Za1 wr2 w.heap.size (w.heap.size+1+1) ⟨T,.slice Ai T.init.length ci,.slice Ac T.code.length cc,.slice A0 l0 q0,.slice Al nl cl,⟨k,false,ahead,locs⟩⟩ ⟨L,0,[],[],[],[],[],false⟩ ⟨.slice (some ⟨w.heap.size+1,0,none⟩) 15 15,.slice none 0 0,.slice none 0 0,.slice none 0 0,.slice none 0 0,.slice none 0 0⟩/\Blk wr2 w.heap.size 32 #[.int .i64 1,.string ⟨T.name.toArray⟩,.string ⟨T.cycle.toArray⟩,.slice Ai T.init.length ci,.slice Ac T.code.length cc,.int .i64 T.q,.int .i64 T.k,.int .i64 T.t,.int .i64 T.r,.string ⟨T.l.toArray⟩,.int .i64 T.v,.slice A0 l0 q0]/\Below w.heap.size w wr2) (fun v _=>T.init.length - (intOf v).toNat)
   case atStart=>exact⟨0,_,Nat.zero_le _,rfl,rfl,(fun y hy=>by rw [List.eq_of_mem_replicate hy]),by simp,HR0.out,HT0.out,HB0'.out⟩
   case round=>
    obtain⟨i,L,hi,rfl,hL,h0,hlen,hr,ht,hb⟩:=hrel
    have HLL:=Zh hL
    have HON:=Zh h0
    have HR:=Zh hr
    have HT:=Zh ht
    have HB:=Zh hb
    have hzb:=hb.size
    clear hL h0 hr ht hb HR0 HT0 HB0'
    by_cases hlt:i<T.init.length
    ·have ex:=List.getElem?_eq_getElem hlt
     obtain⟨x,hx⟩:∃ x,T.init[i]=x:=⟨_,rfl⟩
     rw [hx] at ex
     have HX:=Zh ex
     have HNX:=Zh (show (T.init.take (i+1)).foldl (Zfr k) (List.replicate 15 ⟨.num 0,0⟩)=Zfr k L x by
      obtain⟨h1,h2⟩:=List.getElem?_eq_some_iff.1 ex
      rw [List.take_succ_eq_append_getElem h1,List.foldl_append,<- HLL.out,h2];rfl)
     have hini:=HINI.out x (List.mem_of_getElem? ex)
     obtain⟨b,o,hA,c0,c1,c2,c3,c4,_⟩:=(HI.out.below HB.out) i x ex
     subst hA
     have hii:(0:Int)<=(i:Int):=by omega
     have hij:(i:Int)<(T.init.length:Int):=by omega
     clear ex hx
     by_cases hth:x.th=(k:Int)
     ·obtain⟨hr0,hr1⟩:=hini hth
      obtain⟨kr,hkr⟩:=Int.eq_ofNat_of_zero_le hr0
      rw [hkr] at c1 hr1
      have HKR:=Zh hkr
      have HTH:=Zh hth
      have hkl:kr<L.length:=by omega
      obtain⟨y,hy⟩:∃ y,L[kr]?=some y:=⟨_,List.getElem?_eq_getElem hkl⟩
      have hyo:=HON.out y (List.mem_of_getElem? hy)
      have HY:=Zh hy
      have hk1:(0:Int)<=(kr:Int):=by omega
      have hk2:(kr:Int)<15:=by omega
      have HLB:=Zh (Blk.new wr 102 #[.int .i64 (k:Int),.int .i64 (kr:Int),.string ⟨x.loc.toArray⟩,.string ⟨x.vl.toArray⟩,.int .i64 x.vn])
      have HL0:=Zh (Zad wr (.cells #[.int .i64 (k:Int),.int .i64 (kr:Int),.string ⟨x.loc.toArray⟩,.string ⟨x.vl.toArray⟩,.int .i64 x.vn] 102 (0,0)))
      have hxt:¬ x.th≠(k:Int):=fun h=>h hth
      clear hini hr0 hkr hy
      have htk:(x.th == (k:Int))=true:=by simpa using hth
      go_wp2_with fail
      generalize wr.alloc (.cells #[.int .i64 (k:Int),.int .i64 (kr:Int),.string ⟨x.loc.toArray⟩,.string ⟨x.vl.toArray⟩,.int .i64 x.vn] 102 (0,0))=w4 at *
      have HR4:=Zh (HR.out.below HL0.out)
      obtain⟨q,hvr,hqb,hqB⟩:=HR4.out.regs
      have hqe:q=w.heap.size+1:=by
       simp only [Value.slice.injEq,Option.some.injEq,Addr.mk.injEq,and_true] at hvr
       exact hvr.1.symm
      subst hqe
      have g14:w4.cell? ⟨w.heap.size+1+1,14,none⟩=some (.slice (some ⟨w.heap.size+1,0,none⟩) 15 15):=HR4.out.blk.cell 14
      have n1:=HLB.out.cm 1
      have n4:=HLB.out.cm 4
      have n3:=HLB.out.cm 3
      have hgz:w.heap.size+1+1<w4.heap.size:=HR4.out.blk.lt
      have hrz:w.heap.size+1+1<wr.heap.size:=HR.out.blk.lt
      have hlz:wr.heap.size<w4.heap.size:=HLB.out.lt
      refine wz (fun y:World=>y.cell? ⟨w.heap.size+1+1,14,none⟩=some (.slice (some ⟨w.heap.size+1,0,none⟩) 15 15)/\y.cell? ⟨wr.heap.size,1,none⟩=some (.int .i64 (kr:Int))/\y.cell? ⟨wr.heap.size,4,none⟩=some (.int .i64 x.vn)/\y.cell? ⟨wr.heap.size,3,none⟩=some (.string ⟨x.vl.toArray⟩)) [3,5,8,9] ⟨g14,n1,n4,n3⟩ (fun hHeld=>?_)
      refine wq 0 ?_
      refine wq 1 ?_
      refine wq 2 ?_
      refine wq 4 ?_
      refine wq 6 ?_
      refine wq 7 ?_
      refine wt 3 (by assumption) ?_
      refine wt 5 (by assumption) ?_
      refine wt 8 (by assumption) ?_
      refine wt 9 (by assumption) ?_
      refine wq 10 ?_
      refine wq 11 ?_
      refine wl 12 ?_
      clear hHeld g14 n1 n4
      have HRD:=Zh (show Za1 (w4.setCell ⟨w.heap.size+1,kr*5,none⟩ (.iface 159 (.int .i64 x.vn))).drew _ _ _ _ _ from (HR4.out.has HY.out (q:=w.heap.size+1) (V:=⟨.slice (some ⟨w.heap.size+1,0,none⟩) 15 15,.slice none 0 0,.slice none 0 0,.slice none 0 0,.slice none 0 0,.slice none 0 0⟩) (by simp [hlen]) (.num x.vn)).drew)
      have HLD:=Zh (HLB.out.far (p:=⟨w.heap.size+1,kr*5,none⟩) (show wr.heap.size≠w.heap.size+1 by omega) (.iface 159 (.int .i64 x.vn))).drew
      have HTD:=Zh ((HT.out.go HL0.out).far (p:=⟨w.heap.size+1,kr*5,none⟩) (show w.heap.size≠w.heap.size+1 by omega) (.iface 159 (.int .i64 x.vn))).drew
      have HBD:=Zh ((Zaa HB.out HL0.out).setCell (p:=⟨w.heap.size+1,kr*5,none⟩) (show w.heap.size<=w.heap.size+1 by omega) (.iface 159 (.int .i64 x.vn))).drew
      have z0:=(Zbq hqb HY.out).1
      have f0:=hqb.frozen (kr*5)
      rw [hyo] at HRD
      have HO2:=Zh (show ∀ h:Zd6,∀ y2∈L.set kr ⟨h,0⟩,y2.on=0 from fun h y2 hy2=>by
       rcases List.mem_or_eq_of_mem_set hy2 with h | rfl
       ·exact HON.out y2 h
       ·rfl)
      clear hqb hvr htk hxt hyo HLB HR4 HR
      by_cases hvl:x.vl=[]
      ·have HIS:=Zh (show Zfr k L x=L.set kr ⟨.num x.vn,0⟩ by
        unfold Zfr;rw [if_pos HTH.out,HKR.out,show Zpm x=⟨.num x.vn,0⟩ by unfold Zpm;rw [if_pos hvl]];rfl)
       go_wp2_with fail
       generalize (w4.setCell ⟨w.heap.size+1,kr*5,none⟩ (.iface 159 (.int .i64 x.vn))).drew=w5 at *
       go_roundw
       case rel=>exact⟨i+1,_,by omega,by go_num,by rw [HNX.out,HIS.out],HO2.out _,by simp [hlen],HRD.out,HTD.out,HBD.out⟩
       case measure=>simp [intOf];omega
      ·have HIS:=Zh (show Zfr k L x=L.set kr ⟨.adr x.vl,0⟩ by
        unfold Zfr;rw [if_pos HTH.out,HKR.out,show Zpm x=⟨.adr x.vl,0⟩ by unfold Zpm;rw [if_neg hvl]];rfl)
       have hve:x.vl.isEmpty=false:=by simpa using hvl
       go_wp2_with fail
       generalize (w4.setCell ⟨w.heap.size+1,kr*5,none⟩ (.iface 159 (.int .i64 x.vn))).drew=w5 at *
       clear z0 f0 n3 hve
       obtain⟨q,hvr,hqb,hqB⟩:=HRD.out.regs
       have hqe:q=w.heap.size+1:=by
        simp only [Value.slice.injEq,Option.some.injEq,Addr.mk.injEq,and_true] at hvr
        exact hvr.1.symm
       subst hqe
       have g14:w5.cell? ⟨w.heap.size+1+1,14,none⟩=some (.slice (some ⟨w.heap.size+1,0,none⟩) 15 15):=HRD.out.blk.cell 14
       have n1:=HLD.out.cm 1
       have n3:=HLD.out.cm 3
       have hgz5:w.heap.size+1+1<w5.heap.size:=HRD.out.blk.lt
       refine wz (fun y:World=>y.cell? ⟨w.heap.size+1+1,14,none⟩=some (.slice (some ⟨w.heap.size+1,0,none⟩) 15 15)/\y.cell? ⟨wr.heap.size,1,none⟩=some (.int .i64 (kr:Int))/\y.cell? ⟨wr.heap.size,3,none⟩=some (.string ⟨x.vl.toArray⟩)) [3,5,8,9] ⟨g14,n1,n3⟩ (fun hHeld=>?_)
       refine wq 0 ?_
       refine wq 1 ?_
       refine wq 2 ?_
       refine wq 4 ?_
       refine wq 6 ?_
       refine wq 7 ?_
       refine wt 3 (by assumption) ?_
       refine wt 5 (by assumption) ?_
       refine wt 8 (by assumption) ?_
       refine wt 9 (by assumption) ?_
       refine wq 10 ?_
       refine wq 11 ?_
       refine wl 12 ?_
       clear hHeld g14 n1 n3
       have hk5:(L.set kr ⟨.num x.vn,0⟩)[kr]?=some ⟨.num x.vn,0⟩:=by rw [List.getElem?_set_self (by rw [hlen];omega)]
       have HRE:=Zh (show Za1 (w5.setCell ⟨w.heap.size+1,kr*5,none⟩ (.iface 164 (.string ⟨x.vl.toArray⟩))).drew _ _ _ _ _ from (HRD.out.has hk5 (q:=w.heap.size+1) (V:=⟨.slice (some ⟨w.heap.size+1,0,none⟩) 15 15,.slice none 0 0,.slice none 0 0,.slice none 0 0,.slice none 0 0,.slice none 0 0⟩) (by simp [hlen]) (.adr x.vl)).drew)
       simp only [List.set_set] at HRE
       have HTE:=Zh (HTD.out.far (p:=⟨w.heap.size+1,kr*5,none⟩) (show w.heap.size≠w.heap.size+1 by omega) (.iface 164 (.string ⟨x.vl.toArray⟩))).drew
       have HBE:=Zh (HBD.out.setCell (p:=⟨w.heap.size+1,kr*5,none⟩) (show w.heap.size<=w.heap.size+1 by omega) (.iface 164 (.string ⟨x.vl.toArray⟩))).drew
       have z0:=(Zbq hqb hk5).1
       have f0:=hqb.frozen (kr*5)
       clear hqb hvr HRD HLD HTD HBD
       go_wp2_with fail
       generalize (w5.setCell ⟨w.heap.size+1,kr*5,none⟩ (.iface 164 (.string ⟨x.vl.toArray⟩))).drew=w6 at *
       go_roundw
       case rel=>
        exact m_94
       case measure=>simp [intOf];omega
     exact m_68
    ·have hie:i=T.init.length:=by omega
     have hij:¬ (i:Int)<(T.init.length:Int):=by omega
     have HEND:=Zh (show L=Zwr k 15 T.init by rw [HLL.out,hie,List.take_length];rfl)
     go_wp2_with fail
     go_ret
     exact⟨w.heap.size+1+1,⟨.slice (some ⟨w.heap.size+1,0,none⟩) 15 15,.slice none 0 0,.slice none 0 0,.slice none 0 0,.slice none 0 0,.slice none 0 0⟩,rfl,(by have:=HR.out;rw [HEND.out] at this;exact this),HB.out⟩
theorem Zxq (T:Tst)(Ai Ac Al:Option Addr)(ci cc nl cl k ahead:Nat)(kv:Value)(locs:List Nm)(w:World)(ha:T.arch=2)(hT:Zb4 w T Ai Ac kv)(hini:∀ x∈T.init,x.th=(k:Int)->0<=x.rg/\x.rg<32) :
  Calls Tryz.prog 32 #[Zbm T (.slice Ai T.init.length ci) (.slice Ac T.code.length cc) kv,.int .i64 (k:Int),.slice Al nl cl,.int .i64 (ahead:Int)] w
   (Zpo ⟨T,.slice Ai T.init.length ci,.slice Ac T.code.length cc,kv,.slice Al nl cl,⟨k,true,ahead,locs⟩⟩ (rn0 true T.init k) w):=by
 obtain⟨A0,l0,q0,rfl⟩:∃ A n c,kv=.slice A n c:=by obtain⟨A,cap,e,_⟩:=hT.kids;exact⟨A,_,cap,e⟩
 simp only [Zbm,ha]
 have HTB:=Zh (Blk.new w 32 #[.int .i64 2,.string ⟨T.name.toArray⟩,.string ⟨T.cycle.toArray⟩,.slice Ai T.init.length ci,.slice Ac T.code.length cc,.int .i64 T.q,.int .i64 T.k,.int .i64 T.t,.int .i64 T.r,.string ⟨T.l.toArray⟩,.int .i64 T.v,.slice A0 l0 q0])
 have HB0:=Zh (Zad w (.cells #[.int .i64 2,.string ⟨T.name.toArray⟩,.string ⟨T.cycle.toArray⟩,.slice Ai T.init.length ci,.slice Ac T.code.length cc,.int .i64 T.q,.int .i64 T.k,.int .i64 T.t,.int .i64 T.r,.string ⟨T.l.toArray⟩,.int .i64 T.v,.slice A0 l0 q0] 32 (0,0)))
 have HZ:=Zh (show (w.alloc (.cells #[.int .i64 2,.string ⟨T.name.toArray⟩,.string ⟨T.cycle.toArray⟩,.slice Ai T.init.length ci,.slice Ac T.code.length cc,.int .i64 T.q,.int .i64 T.k,.int .i64 T.t,.int .i64 T.r,.string ⟨T.l.toArray⟩,.int .i64 T.v,.slice A0 l0 q0] 32 (0,0))).heap.size=w.heap.size+1 by simp)
 have HI:=Zh hT.init
 have HINI:=Zh hini
 have hil:=hT.ilen
 have HAR:=Zh ha
 clear hT hini ha
 go_enter Tryz.func32,Tryz.ntmps32
 go_wp2_with fail
 generalize hw1:w.alloc (.cells #[.int .i64 2,.string ⟨T.name.toArray⟩,.string ⟨T.cycle.toArray⟩,.slice Ai T.init.length ci,.slice Ac T.code.length cc,.int .i64 T.q,.int .i64 T.k,.int .i64 T.t,.int .i64 T.r,.string ⟨T.l.toArray⟩,.int .i64 T.v,.slice A0 l0 q0] 32 (0,0))=w1 at *
 clear hw1
 have hz1:w1.heap.size=w.heap.size+1:=HZ.out
 have t0:=HTB.out.cm 0
 have t1:=HTB.out.cm 1
 have t2:=HTB.out.cm 2
 have t3:w1.cell? ⟨w.heap.size,3,none⟩=some (.slice Ai T.init.length ci):=HTB.out.cell 3
 have t4:w1.cell? ⟨w.heap.size,4,none⟩=some (.slice Ac T.code.length cc):=HTB.out.cell 4
 have t5:=HTB.out.cm 5
 have t6:=HTB.out.cm 6
 have t7:=HTB.out.cm 7
 have t8:=HTB.out.cm 8
 have t9:=HTB.out.cm 9
 have ta:=HTB.out.cm 10
 have tb:w1.cell? ⟨w.heap.size,11,none⟩=some (.slice A0 l0 q0):=HTB.out.cell 11
 refine wz (fun y:World=>y.cell? ⟨w.heap.size,0,none⟩=some (.int .i64 2)/\y.cell? ⟨w.heap.size,1,none⟩=some (.string ⟨T.name.toArray⟩)/\y.cell? ⟨w.heap.size,2,none⟩=some (.string ⟨T.cycle.toArray⟩)/\y.cell? ⟨w.heap.size,3,none⟩=some (.slice Ai T.init.length ci)/\y.cell? ⟨w.heap.size,4,none⟩=some (.slice Ac T.code.length cc)/\y.cell? ⟨w.heap.size,5,none⟩=some (.int .i64 T.q)/\y.cell? ⟨w.heap.size,6,none⟩=some (.int .i64 T.k)/\y.cell? ⟨w.heap.size,7,none⟩=some (.int .i64 T.t)/\y.cell? ⟨w.heap.size,8,none⟩=some (.int .i64 T.r)/\y.cell? ⟨w.heap.size,9,none⟩=some (.string ⟨T.l.toArray⟩)/\y.cell? ⟨w.heap.size,10,none⟩=some (.int .i64 T.v)/\y.cell? ⟨w.heap.size,11,none⟩=some (.slice A0 l0 q0)) [0,4] ⟨t0,t1,t2,t3,t4,t5,t6,t7,t8,t9,ta,tb⟩ (fun hHeld=>?_)
 refine wq 1 ?_
 refine wq 2 ?_
 refine wq 3 ?_
 refine wq 5 ?_
 refine wt 0 (by assumption) ?_
 have hmk:∀ w,(Instr.makeSlice 109 (.int .i64 32) (.int .i64 32)).run Tryz.prog w=.ok (.slice (some ⟨w.heap.size,0,none⟩) 32 32) (w.alloc (.cells (Zft.flat (zl 0 32)).toArray 163 (0,0))):=fun w=>Zvz 32 (by omega) w
 refine Zav (i:=4) (by kernel_rfl) rfl (fun K hK=>?_)
 go_simp
 refine hK.out _ _ ⟨Zal hHeld.1 _,Zal hHeld.2.1 _,Zal hHeld.2.2.1 _,Zal hHeld.2.2.2.1 _,Zal hHeld.2.2.2.2.1 _,Zal hHeld.2.2.2.2.2.1 _,Zal hHeld.2.2.2.2.2.2.1 _,Zal hHeld.2.2.2.2.2.2.2.1 _,Zal hHeld.2.2.2.2.2.2.2.2.1 _,Zal hHeld.2.2.2.2.2.2.2.2.2.1 _,Zal hHeld.2.2.2.2.2.2.2.2.2.2.1 _,Zal hHeld.2.2.2.2.2.2.2.2.2.2.2 _⟩ ?_
 clear hK K
 refine pu ?_
 refine wl 6 ?_
 clear hHeld t0 t1 t2 t3 t4 t5 t6 t7 t8 t9 ta tb hmk
 have HW2:=Zh (Zaa HB0.out (Zap w1 (.cells (Zft.flat (zl 0 32)).toArray 163 (0,0)) (.cells #[.int .i64 2,.string ⟨T.name.toArray⟩,.string ⟨T.cycle.toArray⟩,.slice Ai T.init.length ci,.slice Ac T.code.length cc,.int .i64 T.q,.int .i64 T.k,.int .i64 T.t,.int .i64 T.r,.string ⟨T.l.toArray⟩,.int .i64 T.v,.slice A0 l0 q0,.int .i64 (k:Int),.slice Al nl cl,.slice (some ⟨w.heap.size+1,0,none⟩) 32 32,.int .u64 0,.int .u64 0,.int .u64 0,.int .u64 0,.slice none 0 0,.slice none 0 0,.slice none 0 0,.slice none 0 0,.slice none 0 0,.int .i64 (ahead:Int),.bool false] 114 (0,0))).drew)
 have HQ2:=Zh (((Blk.new w1 163 (Zft.flat (zl 0 32)).toArray).alloc (.cells #[.int .i64 2,.string ⟨T.name.toArray⟩,.string ⟨T.cycle.toArray⟩,.slice Ai T.init.length ci,.slice Ac T.code.length cc,.int .i64 T.q,.int .i64 T.k,.int .i64 T.t,.int .i64 T.r,.string ⟨T.l.toArray⟩,.int .i64 T.v,.slice A0 l0 q0,.int .i64 (k:Int),.slice Al nl cl,.slice (some ⟨w.heap.size+1,0,none⟩) 32 32,.int .u64 0,.int .u64 0,.int .u64 0,.int .u64 0,.slice none 0 0,.slice none 0 0,.slice none 0 0,.slice none 0 0,.slice none 0 0,.int .i64 (ahead:Int),.bool false] 114 (0,0))).drew)
 have HG2:=Zh ((Zcw w1 (.cells (Zft.flat (zl 0 32)).toArray 163 (0,0)) 114 #[.int .i64 2,.string ⟨T.name.toArray⟩,.string ⟨T.cycle.toArray⟩,.slice Ai T.init.length ci,.slice Ac T.code.length cc,.int .i64 T.q,.int .i64 T.k,.int .i64 T.t,.int .i64 T.r,.string ⟨T.l.toArray⟩,.int .i64 T.v,.slice A0 l0 q0,.int .i64 (k:Int),.slice Al nl cl,.slice (some ⟨w.heap.size+1,0,none⟩) 32 32,.int .u64 0,.int .u64 0,.int .u64 0,.int .u64 0,.slice none 0 0,.slice none 0 0,.slice none 0 0,.slice none 0 0,.slice none 0 0,.int .i64 (ahead:Int),.bool false]).drew)
 have HT2:=Zh (HTB.out.go (Zap w1 (.cells (Zft.flat (zl 0 32)).toArray 163 (0,0)) (.cells #[.int .i64 2,.string ⟨T.name.toArray⟩,.string ⟨T.cycle.toArray⟩,.slice Ai T.init.length ci,.slice Ac T.code.length cc,.int .i64 T.q,.int .i64 T.k,.int .i64 T.t,.int .i64 T.r,.string ⟨T.l.toArray⟩,.int .i64 T.v,.slice A0 l0 q0,.int .i64 (k:Int),.slice Al nl cl,.slice (some ⟨w.heap.size+1,0,none⟩) 32 32,.int .u64 0,.int .u64 0,.int .u64 0,.int .u64 0,.slice none 0 0,.slice none 0 0,.slice none 0 0,.slice none 0 0,.slice none 0 0,.int .i64 (ahead:Int),.bool false] 114 (0,0))).drew)
 rw [hz1] at HQ2 HG2
 go_wp2_with fail
 generalize ((w1.alloc (.cells (Zft.flat (zl 0 32)).toArray 163 (0,0))).alloc (.cells #[.int .i64 2,.string ⟨T.name.toArray⟩,.string ⟨T.cycle.toArray⟩,.slice Ai T.init.length ci,.slice Ac T.code.length cc,.int .i64 T.q,.int .i64 T.k,.int .i64 T.t,.int .i64 T.r,.string ⟨T.l.toArray⟩,.int .i64 T.v,.slice A0 l0 q0,.int .i64 (k:Int),.slice Al nl cl,.slice (some ⟨w.heap.size+1,0,none⟩) 32 32,.int .u64 0,.int .u64 0,.int .u64 0,.int .u64 0,.slice none 0 0,.slice none 0 0,.slice none 0 0,.slice none 0 0,.slice none 0 0,.int .i64 (ahead:Int),.bool false] 114 (0,0))).drew=w2 at *
 go_loopw [30] (fun v wr=>∃ i:Nat,i<=32/\v=.int .i64 i/\Blk wr (w.heap.size+1) 163 (Zft.flat (zl i 32)).toArray/\Blk wr (w.heap.size+1+1) 114 #[.int .i64 2,.string ⟨T.name.toArray⟩,.string ⟨T.cycle.toArray⟩,.slice Ai T.init.length ci,.slice Ac T.code.length cc,.int .i64 T.q,.int .i64 T.k,.int .i64 T.t,.int .i64 T.r,.string ⟨T.l.toArray⟩,.int .i64 T.v,.slice A0 l0 q0,.int .i64 (k:Int),.slice Al nl cl,.slice (some ⟨w.heap.size+1,0,none⟩) 32 32,.int .u64 0,.int .u64 0,.int .u64 0,.int .u64 0,.slice none 0 0,.slice none 0 0,.slice none 0 0,.slice none 0 0,.slice none 0 0,.int .i64 (ahead:Int),.bool false]/\Blk wr w.heap.size 32 #[.int .i64 2,.string ⟨T.name.toArray⟩,.string ⟨T.cycle.toArray⟩,.slice Ai T.init.length ci,.slice Ac T.code.length cc,.int .i64 T.q,.int .i64 T.k,.int .i64 T.t,.int .i64 T.r,.string ⟨T.l.toArray⟩,.int .i64 T.v,.slice A0 l0 q0]/\Below w.heap.size w wr) (fun v _=>32 - (intOf v).toNat)
 case atStart=>exact⟨0,by omega,rfl,HQ2.out,HG2.out,HT2.out,HW2.out⟩
 case round=>
  obtain⟨i,hi,rfl,hq,hg,ht,hb⟩:=hrel
  have HQ:=Zh hq
  have HG:=Zh hg
  have HT:=Zh ht
  have HB:=Zh hb
  clear hq hg ht hb HQ2 HG2 HT2 HW2
  by_cases hlt:i<32
  ·have hii:(0:Int)<=(i:Int):=by omega
   have hij:(i:Int)<32:=by omega
   have g14:wr.cell? ⟨w.heap.size+1+1,14,none⟩=some (.slice (some ⟨w.heap.size+1,0,none⟩) 32 32):=HG.out.cell 14
   have hz:wr.cell? ⟨w.heap.size+1,i*5,none⟩=some .nilIface:=by
    rw [HQ.out.cell,List.getElem?_toArray]
    have:=Zft.flat_at (Z3m hlt) (show 0<5 by omega)
    exact this
   have fz:=HQ.out.frozen (i*5)
   have HN:=Zh (show Blk (wr.setCell ⟨w.heap.size+1,i*5,none⟩ (.iface 159 (.int .i64 0))) (w.heap.size+1) 163 (Zft.flat (zl (i+1) 32)).toArray by
    have:=HQ.out.set_ (i*5) (.iface 159 (.int .i64 0))
    rw [Zn4 _ _ (by rw [Ztl hi];exact hlt),Zzx hlt] at this
    exact this)
   exact m_75
  ·have hie:i=32:=by omega
   subst hie
   have hr:Zft.flat (zl 32 32)=Zde.flat (List.replicate 32 ⟨.num 0,0⟩):=Zli 32
   rw [hr] at HQ
   have HR:=Zh (show Za1 wr w.heap.size (w.heap.size+1+1) ⟨T,.slice Ai T.init.length ci,.slice Ac T.code.length cc,.slice A0 l0 q0,.slice Al nl cl,⟨k,true,ahead,locs⟩⟩ ⟨List.replicate 32 ⟨.num 0,0⟩,0,[],[],[],[],[],false⟩ ⟨.slice (some ⟨w.heap.size+1,0,none⟩) 32 32,.slice none 0 0,.slice none 0 0,.slice none 0 0,.slice none 0 0,.slice none 0 0⟩ from
    ⟨by have:=HG.out;rw [<- HAR.out] at this;exact this,by omega,⟨w.heap.size+1,by simp,HQ.out,by omega⟩,Enc.Own.nil _ _ _,Enc.Own.nil _ _ _,Enc.Own.nil _ _ _,Enc.Own.nil _ _ _,Enc.Own.nil _ _ _,(fun x hx=>by cases hx),(fun x hx=>by cases hx),(fun x hx=>by cases hx)⟩)
   have u3:wr.cell? ⟨w.heap.size,3,none⟩=some (.slice Ai T.init.length ci):=HT.out.cell 3
   have g14:wr.cell? ⟨w.heap.size+1+1,14,none⟩=some (.slice (some ⟨w.heap.size+1,0,none⟩) 32 32):=HG.out.cell 14
   go_wp2_with fail
   have HR0:=Zh HR.out
   have HT0:=Zh HT.out
   have HB0':=Zh HB.out
   clear HR HT HB HQ HG u3 g14 hr HB0
   go_loopw [45] (fun v wr2=>∃ (i:Nat) (L:List Rg),i<=T.init.length/\v=.int .i64 i/\L=(T.init.take i).foldl (Zfr k) (List.replicate 32 ⟨.num 0,0⟩)/\(∀ y∈L,y.on=0)/\L.length=32/\Za1 wr2 w.heap.size (w.heap.size+1+1) ⟨T,.slice Ai T.init.length ci,.slice Ac T.code.length cc,.slice A0 l0 q0,.slice Al nl cl,⟨k,true,ahead,locs⟩⟩ ⟨L,0,[],[],[],[],[],false⟩ ⟨.slice (some ⟨w.heap.size+1,0,none⟩) 32 32,.slice none 0 0,.slice none 0 0,.slice none 0 0,.slice none 0 0,.slice none 0 0⟩/\Blk wr2 w.heap.size 32 #[.int .i64 2,.string ⟨T.name.toArray⟩,.string ⟨T.cycle.toArray⟩,.slice Ai T.init.length ci,.slice Ac T.code.length cc,.int .i64 T.q,.int .i64 T.k,.int .i64 T.t,.int .i64 T.r,.string ⟨T.l.toArray⟩,.int .i64 T.v,.slice A0 l0 q0]/\Below w.heap.size w wr2) (fun v _=>T.init.length - (intOf v).toNat)
   case atStart=>exact⟨0,_,Nat.zero_le _,rfl,rfl,(fun y hy=>by rw [List.eq_of_mem_replicate hy]),by simp,HR0.out,HT0.out,HB0'.out⟩
   case round=>
    obtain⟨i,L,hi,rfl,hL,h0,hlen,hr,ht,hb⟩:=hrel
    have HLL:=Zh hL
    have HON:=Zh h0
    have HR:=Zh hr
    have HT:=Zh ht
    have HB:=Zh hb
    have hzb:=hb.size
    clear hL h0 hr ht hb HR0 HT0 HB0'
    by_cases hlt:i<T.init.length
    ·have ex:=List.getElem?_eq_getElem hlt
     obtain⟨x,hx⟩:∃ x,T.init[i]=x:=⟨_,rfl⟩
     rw [hx] at ex
     have HX:=Zh ex
     have HNX:=Zh (show (T.init.take (i+1)).foldl (Zfr k) (List.replicate 32 ⟨.num 0,0⟩)=Zfr k L x by
      obtain⟨h1,h2⟩:=List.getElem?_eq_some_iff.1 ex
      rw [List.take_succ_eq_append_getElem h1,List.foldl_append,<- HLL.out,h2];rfl)
     have hini:=HINI.out x (List.mem_of_getElem? ex)
     obtain⟨b,o,hA,c0,c1,c2,c3,c4,_⟩:=(HI.out.below HB.out) i x ex
     subst hA
     have hii:(0:Int)<=(i:Int):=by omega
     have hij:(i:Int)<(T.init.length:Int):=by omega
     clear ex hx
     by_cases hth:x.th=(k:Int)
     ·obtain⟨hr0,hr1⟩:=hini hth
      obtain⟨kr,hkr⟩:=Int.eq_ofNat_of_zero_le hr0
      rw [hkr] at c1 hr1
      have HKR:=Zh hkr
      have HTH:=Zh hth
      have hkl:kr<L.length:=by omega
      obtain⟨y,hy⟩:∃ y,L[kr]?=some y:=⟨_,List.getElem?_eq_getElem hkl⟩
      have hyo:=HON.out y (List.mem_of_getElem? hy)
      have HY:=Zh hy
      have hk1:(0:Int)<=(kr:Int):=by omega
      have hk2:(kr:Int)<32:=by omega
      have HLB:=Zh (Blk.new wr 102 #[.int .i64 (k:Int),.int .i64 (kr:Int),.string ⟨x.loc.toArray⟩,.string ⟨x.vl.toArray⟩,.int .i64 x.vn])
      have HL0:=Zh (Zad wr (.cells #[.int .i64 (k:Int),.int .i64 (kr:Int),.string ⟨x.loc.toArray⟩,.string ⟨x.vl.toArray⟩,.int .i64 x.vn] 102 (0,0)))
      have hxt:¬ x.th≠(k:Int):=fun h=>h hth
      clear hini hr0 hkr hy
      have htk:(x.th == (k:Int))=true:=by simpa using hth
      go_wp2_with fail
      generalize wr.alloc (.cells #[.int .i64 (k:Int),.int .i64 (kr:Int),.string ⟨x.loc.toArray⟩,.string ⟨x.vl.toArray⟩,.int .i64 x.vn] 102 (0,0))=w4 at *
      have HR4:=Zh (HR.out.below HL0.out)
      obtain⟨q,hvr,hqb,hqB⟩:=HR4.out.regs
      have hqe:q=w.heap.size+1:=by
       simp only [Value.slice.injEq,Option.some.injEq,Addr.mk.injEq,and_true] at hvr
       exact hvr.1.symm
      subst hqe
      have g14:w4.cell? ⟨w.heap.size+1+1,14,none⟩=some (.slice (some ⟨w.heap.size+1,0,none⟩) 32 32):=HR4.out.blk.cell 14
      have n1:=HLB.out.cm 1
      have n4:=HLB.out.cm 4
      have n3:=HLB.out.cm 3
      have hgz:w.heap.size+1+1<w4.heap.size:=HR4.out.blk.lt
      have hrz:w.heap.size+1+1<wr.heap.size:=HR.out.blk.lt
      have hlz:wr.heap.size<w4.heap.size:=HLB.out.lt
      refine wz (fun y:World=>y.cell? ⟨w.heap.size+1+1,14,none⟩=some (.slice (some ⟨w.heap.size+1,0,none⟩) 32 32)/\y.cell? ⟨wr.heap.size,1,none⟩=some (.int .i64 (kr:Int))/\y.cell? ⟨wr.heap.size,4,none⟩=some (.int .i64 x.vn)/\y.cell? ⟨wr.heap.size,3,none⟩=some (.string ⟨x.vl.toArray⟩)) [3,5,8,9] ⟨g14,n1,n4,n3⟩ (fun hHeld=>?_)
      refine wq 0 ?_
      refine wq 1 ?_
      refine wq 2 ?_
      refine wq 4 ?_
      refine wq 6 ?_
      refine wq 7 ?_
      refine wt 3 (by assumption) ?_
      refine wt 5 (by assumption) ?_
      refine wt 8 (by assumption) ?_
      refine wt 9 (by assumption) ?_
      refine wq 10 ?_
      refine wq 11 ?_
      refine wl 12 ?_
      clear hHeld g14 n1 n4
      have HRD:=Zh (show Za1 (w4.setCell ⟨w.heap.size+1,kr*5,none⟩ (.iface 159 (.int .i64 x.vn))).drew _ _ _ _ _ from (HR4.out.has HY.out (q:=w.heap.size+1) (V:=⟨.slice (some ⟨w.heap.size+1,0,none⟩) 32 32,.slice none 0 0,.slice none 0 0,.slice none 0 0,.slice none 0 0,.slice none 0 0⟩) (by simp [hlen]) (.num x.vn)).drew)
      have HLD:=Zh (HLB.out.far (p:=⟨w.heap.size+1,kr*5,none⟩) (show wr.heap.size≠w.heap.size+1 by omega) (.iface 159 (.int .i64 x.vn))).drew
      have HTD:=Zh ((HT.out.go HL0.out).far (p:=⟨w.heap.size+1,kr*5,none⟩) (show w.heap.size≠w.heap.size+1 by omega) (.iface 159 (.int .i64 x.vn))).drew
      have HBD:=Zh ((Zaa HB.out HL0.out).setCell (p:=⟨w.heap.size+1,kr*5,none⟩) (show w.heap.size<=w.heap.size+1 by omega) (.iface 159 (.int .i64 x.vn))).drew
      have z0:=(Zbq hqb HY.out).1
      have f0:=hqb.frozen (kr*5)
      rw [hyo] at HRD
      have HO2:=Zh (show ∀ h:Zd6,∀ y2∈L.set kr ⟨h,0⟩,y2.on=0 from fun h y2 hy2=>by
       rcases List.mem_or_eq_of_mem_set hy2 with h | rfl
       ·exact HON.out y2 h
       ·rfl)
      clear hqb hvr htk hxt hyo HLB HR4 HR
      by_cases hvl:x.vl=[]
      ·have HIS:=Zh (show Zfr k L x=L.set kr ⟨.num x.vn,0⟩ by
        unfold Zfr;rw [if_pos HTH.out,HKR.out,show Zpm x=⟨.num x.vn,0⟩ by unfold Zpm;rw [if_pos hvl]];rfl)
       go_wp2_with fail
       generalize (w4.setCell ⟨w.heap.size+1,kr*5,none⟩ (.iface 159 (.int .i64 x.vn))).drew=w5 at *
       go_roundw
       case rel=>exact⟨i+1,_,by omega,by go_num,by rw [HNX.out,HIS.out],HO2.out _,by simp [hlen],HRD.out,HTD.out,HBD.out⟩
       case measure=>simp [intOf];omega
      ·have HIS:=Zh (show Zfr k L x=L.set kr ⟨.adr x.vl,0⟩ by
        unfold Zfr;rw [if_pos HTH.out,HKR.out,show Zpm x=⟨.adr x.vl,0⟩ by unfold Zpm;rw [if_neg hvl]];rfl)
       have hve:x.vl.isEmpty=false:=by simpa using hvl
       go_wp2_with fail
       generalize (w4.setCell ⟨w.heap.size+1,kr*5,none⟩ (.iface 159 (.int .i64 x.vn))).drew=w5 at *
       clear z0 f0 n3 hve
       obtain⟨q,hvr,hqb,hqB⟩:=HRD.out.regs
       have hqe:q=w.heap.size+1:=by
        simp only [Value.slice.injEq,Option.some.injEq,Addr.mk.injEq,and_true] at hvr
        exact hvr.1.symm
       subst hqe
       have g14:w5.cell? ⟨w.heap.size+1+1,14,none⟩=some (.slice (some ⟨w.heap.size+1,0,none⟩) 32 32):=HRD.out.blk.cell 14
       have n1:=HLD.out.cm 1
       have n3:=HLD.out.cm 3
       have hgz5:w.heap.size+1+1<w5.heap.size:=HRD.out.blk.lt
       refine wz (fun y:World=>y.cell? ⟨w.heap.size+1+1,14,none⟩=some (.slice (some ⟨w.heap.size+1,0,none⟩) 32 32)/\y.cell? ⟨wr.heap.size,1,none⟩=some (.int .i64 (kr:Int))/\y.cell? ⟨wr.heap.size,3,none⟩=some (.string ⟨x.vl.toArray⟩)) [3,5,8,9] ⟨g14,n1,n3⟩ (fun hHeld=>?_)
       refine wq 0 ?_
       refine wq 1 ?_
       refine wq 2 ?_
       refine wq 4 ?_
       refine wq 6 ?_
       refine wq 7 ?_
       refine wt 3 (by assumption) ?_
       refine wt 5 (by assumption) ?_
       refine wt 8 (by assumption) ?_
       refine wt 9 (by assumption) ?_
       refine wq 10 ?_
       refine wq 11 ?_
       refine wl 12 ?_
       clear hHeld g14 n1 n3
       have hk5:(L.set kr ⟨.num x.vn,0⟩)[kr]?=some ⟨.num x.vn,0⟩:=by rw [List.getElem?_set_self (by rw [hlen];omega)]
       have HRE:=Zh (show Za1 (w5.setCell ⟨w.heap.size+1,kr*5,none⟩ (.iface 164 (.string ⟨x.vl.toArray⟩))).drew _ _ _ _ _ from (HRD.out.has hk5 (q:=w.heap.size+1) (V:=⟨.slice (some ⟨w.heap.size+1,0,none⟩) 32 32,.slice none 0 0,.slice none 0 0,.slice none 0 0,.slice none 0 0,.slice none 0 0⟩) (by simp [hlen]) (.adr x.vl)).drew)
       simp only [List.set_set] at HRE
       have HTE:=Zh (HTD.out.far (p:=⟨w.heap.size+1,kr*5,none⟩) (show w.heap.size≠w.heap.size+1 by omega) (.iface 164 (.string ⟨x.vl.toArray⟩))).drew
       have HBE:=Zh (HBD.out.setCell (p:=⟨w.heap.size+1,kr*5,none⟩) (show w.heap.size<=w.heap.size+1 by omega) (.iface 164 (.string ⟨x.vl.toArray⟩))).drew
       have z0:=(Zbq hqb hk5).1
       have f0:=hqb.frozen (kr*5)
       clear hqb hvr HRD HLD HTD HBD
       go_wp2_with fail
       generalize (w5.setCell ⟨w.heap.size+1,kr*5,none⟩ (.iface 164 (.string ⟨x.vl.toArray⟩))).drew=w6 at *
       go_roundw
       case rel=>
        exact m_94
       case measure=>simp [intOf];omega
     exact m_68
    ·have hie:i=T.init.length:=by omega
     have hij:¬ (i:Int)<(T.init.length:Int):=by omega
     have HEND:=Zh (show L=Zwr k 32 T.init by rw [HLL.out,hie,List.take_length];rfl)
     go_wp2_with fail
     go_ret
     exact⟨w.heap.size+1+1,⟨.slice (some ⟨w.heap.size+1,0,none⟩) 32 32,.slice none 0 0,.slice none 0 0,.slice none 0 0,.slice none 0 0,.slice none 0 0⟩,rfl,(by have:=HR.out;rw [HEND.out] at this;exact this),HB.out⟩
theorem Z5g (T:Tst)(hE:Za5 T=0)(Ai Ac Al:Option Addr)(ci cc nl cl k ahead:Nat)(kv:Value)(locs:List Nm)(w:World)(hT:Zb4 w T Ai Ac kv) :
  Calls Tryz.prog 32 #[Zbm T (.slice Ai T.init.length ci) (.slice Ac T.code.length cc) kv,.int .i64 (k:Int),.slice Al nl cl,.int .i64 (ahead:Int)] w
   (Zpo ⟨T,.slice Ai T.init.length ci,.slice Ac T.code.length cc,kv,.slice Al nl cl,⟨k,isR T,ahead,locs⟩⟩ (rn0 (isR T) T.init k) w):=by
 have hr:∀ x∈T.init,x.th=(k:Int)->0<=x.rg/\x.rg<Zfz (isR T):=fun x hx hth=>((Znu hE hx).reg (by omega)).2.1
 obtain⟨_,_,harch,_,_,_⟩:=Zbe hE
 rcases Zlb harch with ⟨ha,hi⟩ | ⟨ha,hi⟩
 ·rw [hi] at hr ⊢
  exact Zxd T Ai Ac Al ci cc nl cl k ahead kv locs w ha hT hr
 ·rw [hi] at hr ⊢
  exact Zxq T Ai Ac Al ci cc nl cl k ahead kv locs w ha hT hr
end
end
end Go.Proofs.YtoegmdnfbemppaaGreatDoor
