/- Layer 15: a runner at a thread's beginning: the program's begun. -/
import Derived.Test.YtgjefdaaihgliaaGreatDoorMn35

namespace Go.Proofs.YtgjefdaaihgliaaGreatDoor
open Go.RowKit
section
def Ztm (S:Zgk)(r:Rn)(w:World)(e:Ending)(w':World):Prop:=∃ g V,e=.returned (.pointer (some ⟨g,0,none⟩))/\Za7 w' w.heap.size g S r V/\Below w.heap.size w w'
section
set_option maxHeartbeats 4000000
set_option maxRecDepth 100000
theorem Z1e (T:Tst)(Ai Ac Al:Option Addr)(ci cc nl cl k ahead:Nat)(kv:Value)(locs:List Nm)(w:World)(q:Bool)(hq:T.arch=1/\q=false\/T.arch=2/\q=true)(hT:Zcu w T Ai Ac kv)(hini:∀ x∈T.init,x.th=(k:Int)->0<=x.rg/\x.rg<Zdn q) :
  Calls Tryz.prog 44 #[Zbu T (.slice Ai T.init.length ci) (.slice Ac T.code.length cc) kv,.int .i64 (k:Int),.slice Al nl cl,.int .i64 (ahead:Int)] w
   (Ztm ⟨T,.slice Ai T.init.length ci,.slice Ac T.code.length cc,kv,.slice Al nl cl,⟨k,q,ahead,locs⟩⟩ (rn0 q T.init k) w):=by
 obtain⟨A0,l0,q0,rfl⟩:∃ A n c,kv=.slice A n c:=by obtain⟨A,cap,e,_⟩:=hT.kids;exact⟨A,_,cap,e⟩
 simp only [Zbu];obtain⟨N,hNq⟩:∃ N,Zdn q=N:=⟨_,rfl⟩;rw [hNq] at hini;have HNQ:=Zh hNq;have hN1:15<=N:=by rw [<- hNq];unfold Zdn;split <;> omega
 have hN2:N<=32:=by rw [<- hNq];unfold Zdn;split <;> omega
 have HTB:=Zh (Blk.new w 32 #[.int .i64 T.arch,.string ⟨T.name.toArray⟩,.string ⟨T.cycle.toArray⟩,.slice Ai T.init.length ci,.slice Ac T.code.length cc,.int .i64 T.q,.int .i64 T.k,.int .i64 T.t,.int .i64 T.r,.string ⟨T.l.toArray⟩,.int .i64 T.v,.slice A0 l0 q0]);have HB0:=Zh (Zad w (.cells #[.int .i64 T.arch,.string ⟨T.name.toArray⟩,.string ⟨T.cycle.toArray⟩,.slice Ai T.init.length ci,.slice Ac T.code.length cc,.int .i64 T.q,.int .i64 T.k,.int .i64 T.t,.int .i64 T.r,.string ⟨T.l.toArray⟩,.int .i64 T.v,.slice A0 l0 q0] 32 (0,0)));have HZ:=Zh (show (w.alloc (.cells #[.int .i64 T.arch,.string ⟨T.name.toArray⟩,.string ⟨T.cycle.toArray⟩,.slice Ai T.init.length ci,.slice Ac T.code.length cc,.int .i64 T.q,.int .i64 T.k,.int .i64 T.t,.int .i64 T.r,.string ⟨T.l.toArray⟩,.int .i64 T.v,.slice A0 l0 q0] 32 (0,0))).heap.size=w.heap.size+1 by simp);have HI:=Zh hT.init;have HINI:=Zh hini;have hil:=hT.ilen;have HAR:=Zh hq;have HOR:Hid ((T.arch == 2)=false/\N=15\/(T.arch == 2)=true/\N=32):=Zh (by rcases hq with ⟨h1,h2⟩ | ⟨h1,h2⟩;exact Or.inl ⟨by simp [h1],by rw [<- hNq,h2];rfl⟩;exact Or.inr ⟨by simp [h1],by rw [<- hNq,h2];rfl⟩);clear hT hini hq hNq;rcases HOR.o with ⟨f2,hN⟩ | ⟨f2,hN⟩
 all_goals
  go_enter Tryz.func44,Tryz.ntmps44
  go_wp2_with fail
  first | rw [show (15:Int)=(N:Int) from by omega] | rw [show (32:Int)=(N:Int) from by omega]
  clear f2 hN HOR;generalize hw1:w.alloc (.cells #[.int .i64 T.arch,.string ⟨T.name.toArray⟩,.string ⟨T.cycle.toArray⟩,.slice Ai T.init.length ci,.slice Ac T.code.length cc,.int .i64 T.q,.int .i64 T.k,.int .i64 T.t,.int .i64 T.r,.string ⟨T.l.toArray⟩,.int .i64 T.v,.slice A0 l0 q0] 32 (0,0))=w1 at *;clear hw1;have hz1:w1.heap.size=w.heap.size+1:=HZ.o;have t0:=HTB.o.cm 0;have t1:=HTB.o.cm 1;have t2:=HTB.o.cm 2;have t3:w1.cell? ⟨w.heap.size,3,none⟩=some (.slice Ai T.init.length ci):=HTB.o.cell 3;have t4:w1.cell? ⟨w.heap.size,4,none⟩=some (.slice Ac T.code.length cc):=HTB.o.cell 4;have t5:=HTB.o.cm 5;have t6:=HTB.o.cm 6;have t7:=HTB.o.cm 7;have t8:=HTB.o.cm 8;have t9:=HTB.o.cm 9;have ta:=HTB.o.cm 10;have tb:w1.cell? ⟨w.heap.size,11,none⟩=some (.slice A0 l0 q0):=HTB.o.cell 11
  refine wz (fun y:World=>y.cell? ⟨w.heap.size,0,none⟩=some (.int .i64 T.arch)/\y.cell? ⟨w.heap.size,1,none⟩=some (.string ⟨T.name.toArray⟩)/\y.cell? ⟨w.heap.size,2,none⟩=some (.string ⟨T.cycle.toArray⟩)/\y.cell? ⟨w.heap.size,3,none⟩=some (.slice Ai T.init.length ci)/\y.cell? ⟨w.heap.size,4,none⟩=some (.slice Ac T.code.length cc)/\y.cell? ⟨w.heap.size,5,none⟩=some (.int .i64 T.q)/\y.cell? ⟨w.heap.size,6,none⟩=some (.int .i64 T.k)/\y.cell? ⟨w.heap.size,7,none⟩=some (.int .i64 T.t)/\y.cell? ⟨w.heap.size,8,none⟩=some (.int .i64 T.r)/\y.cell? ⟨w.heap.size,9,none⟩=some (.string ⟨T.l.toArray⟩)/\y.cell? ⟨w.heap.size,10,none⟩=some (.int .i64 T.v)/\y.cell? ⟨w.heap.size,11,none⟩=some (.slice A0 l0 q0)) [0,4] ⟨t0,t1,t2,t3,t4,t5,t6,t7,t8,t9,ta,tb⟩ (fun hHeld=>?_);refine wq 1 ?_;refine wq 2 ?_;refine wq 3 ?_;refine wq 5 ?_;refine wt 0 (by assumption) ?_;have hmk:∀ w,(Instr.makeSlice 123 (.int .i64 (N:Int)) (.int .i64 (N:Int))).run Tryz.prog w=.ok (.slice (some ⟨w.heap.size,0,none⟩) N N) (w.alloc (.cells (Zii.flat (zl 0 N)).toArray 163 (0,0))):=fun w=>Z2t N ω w
  refine Zan (i:=4) κ rfl (fun K hK=>?_);go_simp;refine hK.out _ _ ⟨Zao hHeld.1 _,Zao hHeld.2.1 _,Zao hHeld.2.2.1 _,Zao hHeld.2.2.2.1 _,Zao hHeld.2.2.2.2.1 _,Zao hHeld.2.2.2.2.2.1 _,Zao hHeld.2.2.2.2.2.2.1 _,Zao hHeld.2.2.2.2.2.2.2.1 _,Zao hHeld.2.2.2.2.2.2.2.2.1 _,Zao hHeld.2.2.2.2.2.2.2.2.2.1 _,Zao hHeld.2.2.2.2.2.2.2.2.2.2.1 _,Zao hHeld.2.2.2.2.2.2.2.2.2.2.2 _⟩ ?_;clear hK K;refine pu ?_;refine wl 6 ?_;clear hHeld t0 t1 t2 t3 t4 t5 t6 t7 t8 t9 ta tb hmk;have HW2:=Zh (Zab HB0.o (Zau w1 (.cells (Zii.flat (zl 0 N)).toArray 163 (0,0)) (.cells #[.int .i64 T.arch,.string ⟨T.name.toArray⟩,.string ⟨T.cycle.toArray⟩,.slice Ai T.init.length ci,.slice Ac T.code.length cc,.int .i64 T.q,.int .i64 T.k,.int .i64 T.t,.int .i64 T.r,.string ⟨T.l.toArray⟩,.int .i64 T.v,.slice A0 l0 q0,.int .i64 (k:Int),.slice Al nl cl,.slice (some ⟨w.heap.size+1,0,none⟩) N N,.int .u64 0,.int .u64 0,.int .u64 0,.int .u64 0,.slice none 0 0,.slice none 0 0,.slice none 0 0,.slice none 0 0,.slice none 0 0,.int .i64 (ahead:Int),.bool false] 128 (0,0))).drew)
  have HQ2:=Zh (((Blk.new w1 163 (Zii.flat (zl 0 N)).toArray).alloc (.cells #[.int .i64 T.arch,.string ⟨T.name.toArray⟩,.string ⟨T.cycle.toArray⟩,.slice Ai T.init.length ci,.slice Ac T.code.length cc,.int .i64 T.q,.int .i64 T.k,.int .i64 T.t,.int .i64 T.r,.string ⟨T.l.toArray⟩,.int .i64 T.v,.slice A0 l0 q0,.int .i64 (k:Int),.slice Al nl cl,.slice (some ⟨w.heap.size+1,0,none⟩) N N,.int .u64 0,.int .u64 0,.int .u64 0,.int .u64 0,.slice none 0 0,.slice none 0 0,.slice none 0 0,.slice none 0 0,.slice none 0 0,.int .i64 (ahead:Int),.bool false] 128 (0,0))).drew);have HG2:=Zh ((Zd9 w1 (.cells (Zii.flat (zl 0 N)).toArray 163 (0,0)) 128 #[.int .i64 T.arch,.string ⟨T.name.toArray⟩,.string ⟨T.cycle.toArray⟩,.slice Ai T.init.length ci,.slice Ac T.code.length cc,.int .i64 T.q,.int .i64 T.k,.int .i64 T.t,.int .i64 T.r,.string ⟨T.l.toArray⟩,.int .i64 T.v,.slice A0 l0 q0,.int .i64 (k:Int),.slice Al nl cl,.slice (some ⟨w.heap.size+1,0,none⟩) N N,.int .u64 0,.int .u64 0,.int .u64 0,.int .u64 0,.slice none 0 0,.slice none 0 0,.slice none 0 0,.slice none 0 0,.slice none 0 0,.int .i64 (ahead:Int),.bool false]).drew)
  have HT2:=Zh (HTB.o.go (Zau w1 (.cells (Zii.flat (zl 0 N)).toArray 163 (0,0)) (.cells #[.int .i64 T.arch,.string ⟨T.name.toArray⟩,.string ⟨T.cycle.toArray⟩,.slice Ai T.init.length ci,.slice Ac T.code.length cc,.int .i64 T.q,.int .i64 T.k,.int .i64 T.t,.int .i64 T.r,.string ⟨T.l.toArray⟩,.int .i64 T.v,.slice A0 l0 q0,.int .i64 (k:Int),.slice Al nl cl,.slice (some ⟨w.heap.size+1,0,none⟩) N N,.int .u64 0,.int .u64 0,.int .u64 0,.int .u64 0,.slice none 0 0,.slice none 0 0,.slice none 0 0,.slice none 0 0,.slice none 0 0,.int .i64 (ahead:Int),.bool false] 128 (0,0))).drew);rw [hz1] at HQ2 HG2
  go_wp2_with fail
  generalize ((w1.alloc (.cells (Zii.flat (zl 0 N)).toArray 163 (0,0))).alloc (.cells #[.int .i64 T.arch,.string ⟨T.name.toArray⟩,.string ⟨T.cycle.toArray⟩,.slice Ai T.init.length ci,.slice Ac T.code.length cc,.int .i64 T.q,.int .i64 T.k,.int .i64 T.t,.int .i64 T.r,.string ⟨T.l.toArray⟩,.int .i64 T.v,.slice A0 l0 q0,.int .i64 (k:Int),.slice Al nl cl,.slice (some ⟨w.heap.size+1,0,none⟩) N N,.int .u64 0,.int .u64 0,.int .u64 0,.int .u64 0,.slice none 0 0,.slice none 0 0,.slice none 0 0,.slice none 0 0,.slice none 0 0,.int .i64 (ahead:Int),.bool false] 128 (0,0))).drew=w2 at *
  go_loopw [30] (fun v wr=>∃ i:Nat,i<=N/\v=.int .i64 i/\Blk wr (w.heap.size+1) 163 (Zii.flat (zl i N)).toArray/\Blk wr (w.heap.size+1+1) 128 #[.int .i64 T.arch,.string ⟨T.name.toArray⟩,.string ⟨T.cycle.toArray⟩,.slice Ai T.init.length ci,.slice Ac T.code.length cc,.int .i64 T.q,.int .i64 T.k,.int .i64 T.t,.int .i64 T.r,.string ⟨T.l.toArray⟩,.int .i64 T.v,.slice A0 l0 q0,.int .i64 (k:Int),.slice Al nl cl,.slice (some ⟨w.heap.size+1,0,none⟩) N N,.int .u64 0,.int .u64 0,.int .u64 0,.int .u64 0,.slice none 0 0,.slice none 0 0,.slice none 0 0,.slice none 0 0,.slice none 0 0,.int .i64 (ahead:Int),.bool false]/\Blk wr w.heap.size 32 #[.int .i64 T.arch,.string ⟨T.name.toArray⟩,.string ⟨T.cycle.toArray⟩,.slice Ai T.init.length ci,.slice Ac T.code.length cc,.int .i64 T.q,.int .i64 T.k,.int .i64 T.t,.int .i64 T.r,.string ⟨T.l.toArray⟩,.int .i64 T.v,.slice A0 l0 q0]/\Below w.heap.size w wr) (fun v _=>N - (intOf v).toNat)
  case atStart=>exact⟨0,ω,rfl,HQ2.o,HG2.o,HT2.o,HW2.o⟩
  case round=>
   obtain⟨i,hi,rfl,hq,hg,ht,hb⟩:=hrel;have HQ:=Zh hq;have HG:=Zh hg;have HT:=Zh ht;have HB:=Zh hb;clear hq hg ht hb HQ2 HG2 HT2 HW2;by_cases hlt:i<N
   ·have hii:(0:Int)<=(i:Int):=ω;have hij:(i:Int)<N:=ω;have g14:wr.cell? ⟨w.heap.size+1+1,14,none⟩=some (.slice (some ⟨w.heap.size+1,0,none⟩) N N):=HG.o.cell 14;have hz:wr.cell? ⟨w.heap.size+1,i*5,none⟩=some .nilIface:=by
     rw [HQ.o.cell,List.getElem?_toArray];have:=Zii.flat_at (Z8q hlt) (show 0<5 by omega);exact this
    have fz:=HQ.o.frozen (i*5)
    have HN:=Zh (show Blk (wr.setCell ⟨w.heap.size+1,i*5,none⟩ (.iface 159 (.int .i64 0))) (w.heap.size+1) 163 (Zii.flat (zl (i+1) N)).toArray by
     have:=HQ.o.set_ (i*5) (.iface 159 (.int .i64 0));rw [Zuz _ _ (by rw [Z02 hi];exact hlt),Z63 hlt] at this
     exact this)
    go_wp2_with fail
    go_roundw
    case rel=>exact⟨i+1,ω,by go_num,HN.o,HG.o.far (by simp) _,HT.o.far (by simp) _,HB.o.setCell (p:=⟨w.heap.size+1,i*5,none⟩) (show w.heap.size<=w.heap.size+1 by omega) _⟩
    case measure=>simp [intOf];omega
   ·have hie:N=i:=ω;subst hie;have hr:Zii.flat (zl N N)=Zdf.flat (List.replicate N ⟨.num 0,0⟩):=Zsq N;rw [hr] at HQ
    have HR:=Zh (show Za7 wr w.heap.size (w.heap.size+1+1) ⟨T,.slice Ai T.init.length ci,.slice Ac T.code.length cc,.slice A0 l0 q0,.slice Al nl cl,⟨k,q,ahead,locs⟩⟩ ⟨List.replicate N ⟨.num 0,0⟩,0,[],[],[],[],[],false⟩ ⟨.slice (some ⟨w.heap.size+1,0,none⟩) N N,.slice none 0 0,.slice none 0 0,.slice none 0 0,.slice none 0 0,.slice none 0 0⟩ from
     ⟨HG.o,ω,⟨w.heap.size+1,by simp,HQ.o,ω⟩,Enc.Own.nil _ _ _,Enc.Own.nil _ _ _,Enc.Own.nil _ _ _,Enc.Own.nil _ _ _,Enc.Own.nil _ _ _,(fun x hx=>by cases hx),(fun x hx=>by cases hx),(fun x hx=>by cases hx)⟩)
    have u3:wr.cell? ⟨w.heap.size,3,none⟩=some (.slice Ai T.init.length ci):=HT.o.cell 3;have g14:wr.cell? ⟨w.heap.size+1+1,14,none⟩=some (.slice (some ⟨w.heap.size+1,0,none⟩) N N):=HG.o.cell 14
    go_wp2_with fail
    have HR0:=Zh HR.o;have HT0:=Zh HT.o;have HB0':=Zh HB.o;clear HR HT HB HQ HG u3 g14 hr HB0;go_loopw [45] (fun v wr2=>∃ (i:Nat) (L:List Rg),i<=T.init.length/\v=.int .i64 i/\L=(T.init.take i).foldl (Zkv k) (List.replicate N ⟨.num 0,0⟩)/\(∀ y∈L,y.on=0)/\L.length=N/\Za7 wr2 w.heap.size (w.heap.size+1+1) ⟨T,.slice Ai T.init.length ci,.slice Ac T.code.length cc,.slice A0 l0 q0,.slice Al nl cl,⟨k,q,ahead,locs⟩⟩ ⟨L,0,[],[],[],[],[],false⟩ ⟨.slice (some ⟨w.heap.size+1,0,none⟩) N N,.slice none 0 0,.slice none 0 0,.slice none 0 0,.slice none 0 0,.slice none 0 0⟩/\Blk wr2 w.heap.size 32 #[.int .i64 T.arch,.string ⟨T.name.toArray⟩,.string ⟨T.cycle.toArray⟩,.slice Ai T.init.length ci,.slice Ac T.code.length cc,.int .i64 T.q,.int .i64 T.k,.int .i64 T.t,.int .i64 T.r,.string ⟨T.l.toArray⟩,.int .i64 T.v,.slice A0 l0 q0]/\Below w.heap.size w wr2) (fun v _=>T.init.length - (intOf v).toNat)
    case atStart=>exact⟨0,_,Nat.zero_le _,rfl,rfl,(fun y hy=>by rw [List.eq_of_mem_replicate hy]),by simp,HR0.o,HT0.o,HB0'.o⟩
    case round=>
     obtain⟨i,L,hi,rfl,hL,h0,hlen,hr,ht,hb⟩:=hrel;have HLL:=Zh hL;have HON:=Zh h0;have HR:=Zh hr;have HT:=Zh ht;have HB:=Zh hb;have hzb:=hb.size;clear hL h0 hr ht hb HR0 HT0 HB0';by_cases hlt:i<T.init.length
     ·have ex:=List.getElem?_eq_getElem hlt;obtain⟨x,hx⟩:∃ x,T.init[i]=x:=⟨_,rfl⟩;rw [hx] at ex;have HX:=Zh ex
      have HNX:=Zh (show (T.init.take (i+1)).foldl (Zkv k) (List.replicate N ⟨.num 0,0⟩)=Zkv k L x by
       obtain⟨h1,h2⟩:=List.getElem?_eq_some_iff.1 ex
       rw [List.take_succ_eq_append_getElem h1,List.foldl_append,<- HLL.o,h2];rfl)
      have hini:=HINI.o x (List.mem_of_getElem? ex);obtain⟨b,o,hA,c0,c1,c2,c3,c4,_⟩:=(HI.o.below HB.o) i x ex;subst hA;have hii:(0:Int)<=(i:Int):=ω;have hij:(i:Int)<(T.init.length:Int):=ω;clear ex hx;by_cases hth:x.th=(k:Int)
      ·obtain⟨hr0,hr1⟩:=hini hth;obtain⟨kr,hkr⟩:=Int.eq_ofNat_of_zero_le hr0;rw [hkr] at c1 hr1;have HKR:=Zh hkr;have HTH:=Zh hth;have hkl:kr<L.length:=ω;obtain⟨y,hy⟩:∃ y,L[kr]?=some y:=⟨_,List.getElem?_eq_getElem hkl⟩;have hyo:=HON.o y (List.mem_of_getElem? hy);have HY:=Zh hy;have hk1:(0:Int)<=(kr:Int):=ω;have hk2:(kr:Int)<N:=ω;have HLB:=Zh (Blk.new wr 94 #[.int .i64 (k:Int),.int .i64 (kr:Int),.string ⟨x.loc.toArray⟩,.string ⟨x.vl.toArray⟩,.int .i64 x.vn]);have HL0:=Zh (Zad wr (.cells #[.int .i64 (k:Int),.int .i64 (kr:Int),.string ⟨x.loc.toArray⟩,.string ⟨x.vl.toArray⟩,.int .i64 x.vn] 94 (0,0)));have hxt:¬ x.th≠(k:Int):=fun h=>h hth
       clear hini hr0 hkr hy;have htk:(x.th == (k:Int))=true:=by simpa using hth
       go_wp2_with fail
       generalize wr.alloc (.cells #[.int .i64 (k:Int),.int .i64 (kr:Int),.string ⟨x.loc.toArray⟩,.string ⟨x.vl.toArray⟩,.int .i64 x.vn] 94 (0,0))=w4 at *;have HR4:=Zh (HR.o.below HL0.o);obtain⟨q,hvr,hqb,hqB⟩:=HR4.o.regs;have hqe:q=w.heap.size+1:=by
        simp only [Value.slice.injEq,Option.some.injEq,Addr.mk.injEq,and_true] at hvr;exact hvr.1.symm
       subst hqe;have g14:w4.cell? ⟨w.heap.size+1+1,14,none⟩=some (.slice (some ⟨w.heap.size+1,0,none⟩) N N):=HR4.o.blk.cell 14;have n1:=HLB.o.cm 1;have n4:=HLB.o.cm 4;have n3:=HLB.o.cm 3;have hgz:w.heap.size+1+1<w4.heap.size:=HR4.o.blk.lt;have hrz:w.heap.size+1+1<wr.heap.size:=HR.o.blk.lt;have hlz:wr.heap.size<w4.heap.size:=HLB.o.lt;refine wz (fun y:World=>y.cell? ⟨w.heap.size+1+1,14,none⟩=some (.slice (some ⟨w.heap.size+1,0,none⟩) N N)/\y.cell? ⟨wr.heap.size,1,none⟩=some (.int .i64 (kr:Int))/\y.cell? ⟨wr.heap.size,4,none⟩=some (.int .i64 x.vn)/\y.cell? ⟨wr.heap.size,3,none⟩=some (.string ⟨x.vl.toArray⟩)) [3,5,8,9] ⟨g14,n1,n4,n3⟩ (fun hHeld=>?_);refine wq 0 ?_;refine wq 1 ?_;refine wq 2 ?_;refine wq 4 ?_;refine wq 6 ?_;refine wq 7 ?_;refine wt 3 (by assumption) ?_;refine wt 5 (by assumption) ?_;refine wt 8 (by assumption) ?_;refine wt 9 (by assumption) ?_;refine wq 10 ?_;refine wq 11 ?_;refine wl 12 ?_;clear hHeld g14 n1 n4;have HRD:=Zh (show Za7 (w4.setCell ⟨w.heap.size+1,kr*5,none⟩ (.iface 159 (.int .i64 x.vn))).drew _ _ _ _ _ from (HR4.o.has HY.o (q:=w.heap.size+1) (V:=⟨.slice (some ⟨w.heap.size+1,0,none⟩) N N,.slice none 0 0,.slice none 0 0,.slice none 0 0,.slice none 0 0,.slice none 0 0⟩) (by simp [hlen]) (.num x.vn)).drew);have HLD:=Zh (HLB.o.far (p:=⟨w.heap.size+1,kr*5,none⟩) (show wr.heap.size≠w.heap.size+1 by omega) (.iface 159 (.int .i64 x.vn))).drew
       have HTD:=Zh ((HT.o.go HL0.o).far (p:=⟨w.heap.size+1,kr*5,none⟩) (show w.heap.size≠w.heap.size+1 by omega) (.iface 159 (.int .i64 x.vn))).drew;have HBD:=Zh ((Zab HB.o HL0.o).setCell (p:=⟨w.heap.size+1,kr*5,none⟩) (show w.heap.size<=w.heap.size+1 by omega) (.iface 159 (.int .i64 x.vn))).drew;have z0:=(Zb0 hqb HY.o).1;have f0:=hqb.frozen (kr*5);rw [hyo] at HRD
       have HO2:=Zh (show ∀ h:Zeb,∀ y2∈L.set kr ⟨h,0⟩,y2.on=0 from fun h y2 hy2=>by
        rcases List.mem_or_eq_of_mem_set hy2 with h | rfl
        ·exact HON.o y2 h
        ·rfl)
       clear hqb hvr htk hxt hyo HLB HR4 HR;by_cases hvl:x.vl=[]
       ·have HIS:=Zh (show Zkv k L x=L.set kr ⟨.num x.vn,0⟩ by
         unfold Zkv;rw [if_pos HTH.o,HKR.o,show Zxe x=⟨.num x.vn,0⟩ by unfold Zxe;rw [if_pos hvl]];rfl)
        go_wp2_with fail
        generalize (w4.setCell ⟨w.heap.size+1,kr*5,none⟩ (.iface 159 (.int .i64 x.vn))).drew=w5 at *;go_roundw
        case rel=>exact⟨i+1,_,ω,by go_num,by rw [HNX.o,HIS.o],HO2.o _,by simp [hlen],HRD.o,HTD.o,HBD.o⟩
        case measure=>simp [intOf];omega
       ·have HIS:=Zh (show Zkv k L x=L.set kr ⟨.adr x.vl,0⟩ by
         unfold Zkv;rw [if_pos HTH.o,HKR.o,show Zxe x=⟨.adr x.vl,0⟩ by unfold Zxe;rw [if_neg hvl]];rfl)
        have hve:x.vl.isEmpty=false:=by simpa using hvl
        go_wp2_with fail
        generalize (w4.setCell ⟨w.heap.size+1,kr*5,none⟩ (.iface 159 (.int .i64 x.vn))).drew=w5 at *;clear z0 f0 n3 hve;obtain⟨q,hvr,hqb,hqB⟩:=HRD.o.regs;have hqe:q=w.heap.size+1:=by
         simp only [Value.slice.injEq,Option.some.injEq,Addr.mk.injEq,and_true] at hvr;exact hvr.1.symm
        subst hqe;have g14:w5.cell? ⟨w.heap.size+1+1,14,none⟩=some (.slice (some ⟨w.heap.size+1,0,none⟩) N N):=HRD.o.blk.cell 14;have n1:=HLD.o.cm 1;have n3:=HLD.o.cm 3;have hgz5:w.heap.size+1+1<w5.heap.size:=HRD.o.blk.lt;refine wz (fun y:World=>y.cell? ⟨w.heap.size+1+1,14,none⟩=some (.slice (some ⟨w.heap.size+1,0,none⟩) N N)/\y.cell? ⟨wr.heap.size,1,none⟩=some (.int .i64 (kr:Int))/\y.cell? ⟨wr.heap.size,3,none⟩=some (.string ⟨x.vl.toArray⟩)) [3,5,8,9] ⟨g14,n1,n3⟩ (fun hHeld=>?_);refine wq 0 ?_;refine wq 1 ?_;refine wq 2 ?_;refine wq 4 ?_;refine wq 6 ?_;refine wq 7 ?_;refine wt 3 (by assumption) ?_;refine wt 5 (by assumption) ?_;refine wt 8 (by assumption) ?_;refine wt 9 (by assumption) ?_;refine wq 10 ?_;refine wq 11 ?_;refine wl 12 ?_;clear hHeld g14 n1 n3;have hk5:(L.set kr ⟨.num x.vn,0⟩)[kr]?=some ⟨.num x.vn,0⟩:=by rw [List.getElem?_set_self (by rw [hlen];omega)]
        have HRE:=Zh (show Za7 (w5.setCell ⟨w.heap.size+1,kr*5,none⟩ (.iface 164 (.string ⟨x.vl.toArray⟩))).drew _ _ _ _ _ from (HRD.o.has hk5 (q:=w.heap.size+1) (V:=⟨.slice (some ⟨w.heap.size+1,0,none⟩) N N,.slice none 0 0,.slice none 0 0,.slice none 0 0,.slice none 0 0,.slice none 0 0⟩) (by simp [hlen]) (.adr x.vl)).drew);simp only [List.set_set] at HRE;have HTE:=Zh (HTD.o.far (p:=⟨w.heap.size+1,kr*5,none⟩) (show w.heap.size≠w.heap.size+1 by omega) (.iface 164 (.string ⟨x.vl.toArray⟩))).drew;have HBE:=Zh (HBD.o.setCell (p:=⟨w.heap.size+1,kr*5,none⟩) (show w.heap.size<=w.heap.size+1 by omega) (.iface 164 (.string ⟨x.vl.toArray⟩))).drew;have z0:=(Zb0 hqb hk5).1;have f0:=hqb.frozen (kr*5);clear hqb hvr HRD HLD HTD HBD
        go_wp2_with fail
        generalize (w5.setCell ⟨w.heap.size+1,kr*5,none⟩ (.iface 164 (.string ⟨x.vl.toArray⟩))).drew=w6 at *;go_roundw
        case rel=>exact⟨i+1,_,ω,by go_num,by rw [HNX.o,HIS.o],HO2.o _,by simp [hlen],HRE.o,HTE.o,HBE.o⟩
        case measure=>simp [intOf];omega
      ·have HSM:=Zh (show Zkv k L x=L from if_neg hth);clear hini
       go_wp2_with fail
       go_roundw
       case rel=>exact⟨i+1,L,ω,by go_num,by rw [HNX.o,HSM.o],HON.o,hlen,HR.o.below (Zad _ _),HT.o.go (Zad _ _),Zaa HB.o _⟩
       case measure=>simp [intOf];omega
     ·have hie:i=T.init.length:=ω;have hij:¬ (i:Int)<(T.init.length:Int):=ω;have HEND:=Zh (show L=Z0c k N T.init by rw [HLL.o,hie,List.take_length];rfl)
      go_wp2_with fail
      go_ret;exact⟨w.heap.size+1+1,⟨.slice (some ⟨w.heap.size+1,0,none⟩) N N,.slice none 0 0,.slice none 0 0,.slice none 0 0,.slice none 0 0,.slice none 0 0⟩,rfl,(by rw [show rn0 q T.init k=⟨Z0c k N T.init,0,[],[],[],[],[],false⟩ by (unfold rn0;rw [HNQ.o])];have:=HR.o;rw [HEND.o] at this;exact this),HB.o⟩
theorem Z4h (T:Tst)(hE:Zbb T=0)(Ai Ac Al:Option Addr)(ci cc nl cl k ahead:Nat)(kv:Value)(locs:List Nm)(w:World)(hT:Zcu w T Ai Ac kv) :
  Calls Tryz.prog 44 #[Zbu T (.slice Ai T.init.length ci) (.slice Ac T.code.length cc) kv,.int .i64 (k:Int),.slice Al nl cl,.int .i64 (ahead:Int)] w
   (Ztm ⟨T,.slice Ai T.init.length ci,.slice Ac T.code.length cc,kv,.slice Al nl cl,⟨k,isR T,ahead,locs⟩⟩ (rn0 (isR T) T.init k) w):=by
 have hr:∀ x∈T.init,x.th=(k:Int)->0<=x.rg/\x.rg<Zdn (isR T):=fun x hx hth=>((Zkc hE hx).reg ω).2.1
 obtain⟨_,_,harch,_,_,_⟩:=Za0 hE;refine Z1e T Ai Ac Al ci cc nl cl k ahead kv locs w (isR T) ?_ hT hr;rcases Zho harch with ⟨ha,hi⟩ | ⟨ha,hi⟩
 ·exact Or.inl ⟨ha,hi⟩
 ·exact Or.inr ⟨ha,hi⟩
end
end
end Go.Proofs.YtgjefdaaihgliaaGreatDoor
