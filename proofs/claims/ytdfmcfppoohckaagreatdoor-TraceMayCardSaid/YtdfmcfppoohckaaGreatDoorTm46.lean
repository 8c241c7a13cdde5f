/- Layer 15: the reference's begun. -/
import Derived.Test.YtdfmcfppoohckaaGreatDoorTm45

namespace Go.Proofs.YtdfmcfppoohckaaGreatDoor
open Go.RowKit
theorem Zbz.o{w W:World}{B g q:Nat}{S:RrS}{r:Rn}{fl:Bool}{V:RrV}(h:Zbz w W B g q S r fl V):∃ z,Blk W q 83 z/\z.size=26:=h.out
section
abbrev rnE:Rn:=⟨[],0,[],[],[],[],[],false⟩
theorem Z7g (S:RrS)(V:RrV)(hv:V.rg=⟨none,0,0⟩):rrC S rnE false V=#[.int .i64 S.T.arch,.string ⟨S.T.name.toArray⟩,.string ⟨S.T.cycle.toArray⟩,S.iv.v,S.cv.v,.int .i64 S.T.q,.int .i64 S.T.k,.int .i64 S.T.t,.int .i64 S.T.r,.string ⟨S.T.l.toArray⟩,.int .i64 S.T.v,S.kv.v,.int .i64 (S.C.th:Int),.slice none 0 0,.int .u64 0,S.lo.v,S.ini.v,V.ev.v,V.br.v,V.ad.v,V.da.v,V.ct.v,S.th.v,S.en.v,.bool false,.bool false]:=by
 simp only [rrC,hv,Nat.zero_shiftLeft];rfl
theorem Zvk (f:Nat)(w:World):(Zdj f).At (w.alloc (.cells #[.int .i64 1,.int .i64 0,.string ⟨#[]⟩,.int .u64 0] 87 (0,0))) (some ⟨w.heap.size,0,none⟩) [⟨.num 0,0⟩]:=by
 have hB:=Blk.new w 87 #[.int .i64 1,.int .i64 0,.string ⟨#[]⟩,.int .u64 0];intro i x hx;refine⟨w.heap.size,0,rfl,fun j u hj=>?_⟩
 match i,hx with
 | 0,hx=>
  simp at hx;subst hx;rw [show 0+0*(Zdj f).size+j=j by omega,hB.cell];rw [<- hj];simp only [Zax,Zb6,Zb5,Nat.zero_shiftLeft];simp
set_option maxHeartbeats 4000000
set_option maxRecDepth 100000
theorem Z4l (B:Nat)(S:RrS)(V:RrV)(Ai:Option Addr)(ci:Nat)(w:World)(hiv:S.iv=⟨Ai,S.T.init.length,ci⟩)(HI:Zjm w Ai S.T.init)(hrisc:S.C.risc=decide (S.T.arch=2))(hini:∀ x∈S.T.init,x.th=(S.C.th:Int)->0<=x.rg/\x.rg<((Zfg S.C.risc:Nat):Int))(hil:S.T.init.length<=9223372036854775806)(hvr:V.rg=⟨none,0,0⟩)(hR:Za7 w B S rnE V) :
  Calls Tryz.prog 73 #[.agg #[.int .i64 S.T.arch,.string ⟨S.T.name.toArray⟩,.string ⟨S.T.cycle.toArray⟩,S.iv.v,S.cv.v,.int .i64 S.T.q,.int .i64 S.T.k,.int .i64 S.T.t,.int .i64 S.T.r,.string ⟨S.T.l.toArray⟩,.int .i64 S.T.v,S.kv.v],.agg #[S.lo.v,S.ini.v,V.ev.v,V.br.v,V.ad.v,V.da.v,V.ct.v,S.th.v,S.en.v],.int .i64 (S.C.th:Int)] w (Ze4 B S (rn0 S.C.risc S.T.init S.C.th) false w):=by
 have HR:=Zh hR;have HII:=Zh HI;have HIV:=Zh hiv;have HRI:=Zh hrisc;have HVR:=Zh hvr;have HINI:=Zh hini;obtain⟨tc,htc⟩:∃ c,c=#[.int .i64 S.T.arch,.string ⟨S.T.name.toArray⟩,.string ⟨S.T.cycle.toArray⟩,S.iv.v,S.cv.v,.int .i64 S.T.q,.int .i64 S.T.k,.int .i64 S.T.t,.int .i64 S.T.r,.string ⟨S.T.l.toArray⟩,.int .i64 S.T.v,S.kv.v]:=⟨_,rfl⟩;obtain⟨oc,hoc⟩:∃ c,c=#[S.lo.v,S.ini.v,V.ev.v,V.br.v,V.ad.v,V.da.v,V.ct.v,S.th.v,S.en.v]:=⟨_,rfl⟩;rw [<- htc,<- hoc];have HTC:=Zh htc;have HOC:=Zh hoc;clear htc hoc hR hini HI hiv hrisc hvr;go_enter Tryz.func73,Tryz.ntmps73;apply wp_seq_k;intro K hK;have HK:=Zh hK;clear hK
 go_wp2_with fail
 refine Zhf (P:=fun X=>K _ X) w _ _ _ _ _ _ ?_;intro W b0 b1 b2 hz hbW;refine HK.o _ _ ?_;clear HK K;rw [HTC.o] at b0;rw [HOC.o] at b1;have HT:=Zh b0;have HO:=Zh b1;have HQ:=Zh b2;have HBW:=Zh hbW;have hz0:w.heap.size<W.heap.size:=ω;have hz1:w.heap.size+1<W.heap.size:=ω;have hz2:w.heap.size+1+1<W.heap.size:=ω;clear b0 b1 b2 hbW hz;have HZ:=Zh (Blk.new W 83 #[.int .i64 0,.string ⟨#[]⟩,.string ⟨#[]⟩,.slice none 0 0,.slice none 0 0,.int .i64 0,.int .i64 0,.int .i64 0,.int .i64 0,.string ⟨#[]⟩,.int .i64 0,.slice none 0 0,.int .i64 0,.slice none 0 0,.int .u64 0,.slice none 0 0,.slice none 0 0,.slice none 0 0,.slice none 0 0,.slice none 0 0,.slice none 0 0,.slice none 0 0,.slice none 0 0,.slice none 0 0,.bool false,.bool false])
 repeat (first | ((with_reducible refine Zas ?_);refine Zaw 32 3 w.heap.size rfl rfl HT.o Tryz.underlying32 rfl κ rfl ?_) | ((with_reducible refine Zas ?_);refine Zaw 41 4 (w.heap.size+1) rfl rfl HO.o Tryz.underlying41 rfl κ rfl ?_) | ((with_reducible refine Zas ?_);refine Zap 83 7 15 W.heap.size (c:=#[.int .i64 S.T.arch,.string ⟨S.T.name.toArray⟩,.string ⟨S.T.cycle.toArray⟩,S.iv.v,S.cv.v,.int .i64 S.T.q,.int .i64 S.T.k,.int .i64 S.T.t,.int .i64 S.T.r,.string ⟨S.T.l.toArray⟩,.int .i64 S.T.v,S.kv.v,.int .i64 (S.C.th:Int),.slice none 0 0,.int .u64 0,S.lo.v,S.ini.v,V.ev.v,V.br.v,V.ad.v,V.da.v,V.ct.v,S.th.v,S.en.v,.bool false,.bool false]) rfl rfl rfl HZ.o (by rfl) κ κ rfl rfl ?_;refine Hid.o ?_) | go_step)
 refine Zh ?_;have hB1:=below_setRow (Zad W (.cells #[.int .i64 0,.string ⟨#[]⟩,.string ⟨#[]⟩,.slice none 0 0,.slice none 0 0,.int .i64 0,.int .i64 0,.int .i64 0,.int .i64 0,.string ⟨#[]⟩,.int .i64 0,.slice none 0 0,.int .i64 0,.slice none 0 0,.int .u64 0,.slice none 0 0,.slice none 0 0,.slice none 0 0,.slice none 0 0,.slice none 0 0,.slice none 0 0,.slice none 0 0,.slice none 0 0,.slice none 0 0,.bool false,.bool false] 83 (0,0))) (Nat.le_refl _) #[.int .i64 S.T.arch,.string ⟨S.T.name.toArray⟩,.string ⟨S.T.cycle.toArray⟩,S.iv.v,S.cv.v,.int .i64 S.T.q,.int .i64 S.T.k,.int .i64 S.T.t,.int .i64 S.T.r,.string ⟨S.T.l.toArray⟩,.int .i64 S.T.v,S.kv.v,.int .i64 (S.C.th:Int),.slice none 0 0,.int .u64 0,S.lo.v,S.ini.v,V.ev.v,V.br.v,V.ad.v,V.da.v,V.ct.v,S.th.v,S.en.v,.bool false,.bool false]
 have HG:=Zh (show Blk ((W.alloc (.cells #[.int .i64 0,.string ⟨#[]⟩,.string ⟨#[]⟩,.slice none 0 0,.slice none 0 0,.int .i64 0,.int .i64 0,.int .i64 0,.int .i64 0,.string ⟨#[]⟩,.int .i64 0,.slice none 0 0,.int .i64 0,.slice none 0 0,.int .u64 0,.slice none 0 0,.slice none 0 0,.slice none 0 0,.slice none 0 0,.slice none 0 0,.slice none 0 0,.slice none 0 0,.slice none 0 0,.slice none 0 0,.bool false,.bool false] 83 (0,0))).setRow W.heap.size #[.int .i64 S.T.arch,.string ⟨S.T.name.toArray⟩,.string ⟨S.T.cycle.toArray⟩,S.iv.v,S.cv.v,.int .i64 S.T.q,.int .i64 S.T.k,.int .i64 S.T.t,.int .i64 S.T.r,.string ⟨S.T.l.toArray⟩,.int .i64 S.T.v,S.kv.v,.int .i64 (S.C.th:Int),.slice none 0 0,.int .u64 0,S.lo.v,S.ini.v,V.ev.v,V.br.v,V.ad.v,V.da.v,V.ct.v,S.th.v,S.en.v,.bool false,.bool false]) W.heap.size 83 (rrC S rnE false V) by rw [Z7g S V HVR.o];exact HZ.o.row _);have HT1:=Zh (HT.o.go hB1);have HQ1:=Zh (HQ.o.go hB1);have HB:=Zh (Zaa HBW.o hB1);clear hB1 HT HQ HO HBW HZ
 generalize ((W.alloc (.cells #[.int .i64 0,.string ⟨#[]⟩,.string ⟨#[]⟩,.slice none 0 0,.slice none 0 0,.int .i64 0,.int .i64 0,.int .i64 0,.int .i64 0,.string ⟨#[]⟩,.int .i64 0,.slice none 0 0,.int .i64 0,.slice none 0 0,.int .u64 0,.slice none 0 0,.slice none 0 0,.slice none 0 0,.slice none 0 0,.slice none 0 0,.slice none 0 0,.slice none 0 0,.slice none 0 0,.slice none 0 0,.bool false,.bool false] 83 (0,0))).setRow W.heap.size #[.int .i64 S.T.arch,.string ⟨S.T.name.toArray⟩,.string ⟨S.T.cycle.toArray⟩,S.iv.v,S.cv.v,.int .i64 S.T.q,.int .i64 S.T.k,.int .i64 S.T.t,.int .i64 S.T.r,.string ⟨S.T.l.toArray⟩,.int .i64 S.T.v,S.kv.v,.int .i64 (S.C.th:Int),.slice none 0 0,.int .u64 0,S.lo.v,S.ini.v,V.ev.v,V.br.v,V.ad.v,V.da.v,V.ct.v,S.th.v,S.en.v,.bool false,.bool false])=W1 at *;generalize (Value.agg #[.int .i64 S.T.arch,.string ⟨S.T.name.toArray⟩,.string ⟨S.T.cycle.toArray⟩,S.iv.v,S.cv.v,.int .i64 S.T.q,.int .i64 S.T.k,.int .i64 S.T.t,.int .i64 S.T.r,.string ⟨S.T.l.toArray⟩,.int .i64 S.T.v,S.kv.v,.int .i64 (S.C.th:Int),.slice none 0 0,.int .u64 0,S.lo.v,S.ini.v,V.ev.v,V.br.v,V.ad.v,V.da.v,V.ct.v,S.th.v,S.en.v,.bool false,.bool false])=x15;generalize (Value.agg #[.int .i64 S.T.arch,.string ⟨S.T.name.toArray⟩,.string ⟨S.T.cycle.toArray⟩,S.iv.v,S.cv.v,.int .i64 S.T.q,.int .i64 S.T.k,.int .i64 S.T.t,.int .i64 S.T.r,.string ⟨S.T.l.toArray⟩,.int .i64 S.T.v,S.kv.v])=x12
 generalize (Value.agg #[S.lo.v,S.ini.v,V.ev.v,V.br.v,V.ad.v,V.da.v,V.ct.v,S.th.v,S.en.v])=x14;by_cases ha:S.T.arch=2
 ·have hnr:Zfg S.C.risc=32:=by rw [HRI.o,ha];rfl
  have HN:=Zh hnr;clear hnr;have t0:W1.cell? ⟨w.heap.size,0,none⟩=some (.int .i64 2):=(by rw [<- ha];exact HT1.o.cell 0)
  go_wp2_with fail
  clear t0;go_loopw [9] (fun v wr=>∃ i:Nat,i<=32/\v=.int .i64 (i:Int)/\∃ s:Sl,(Zdj S.C.ahead).Own 87 w.heap.size wr s.v (List.replicate i ⟨.num 0,0⟩)/\Blk wr W.heap.size 83 (rrC S { rnE with regs:=List.replicate i ⟨.num 0,0⟩ } false { V with rg:=s })/\Blk wr w.heap.size 32 #[.int .i64 S.T.arch,.string ⟨S.T.name.toArray⟩,.string ⟨S.T.cycle.toArray⟩,S.iv.v,S.cv.v,.int .i64 S.T.q,.int .i64 S.T.k,.int .i64 S.T.t,.int .i64 S.T.r,.string ⟨S.T.l.toArray⟩,.int .i64 S.T.v,S.kv.v]/\Blk wr (w.heap.size+1+1) 83 #[.int .i64 0,.string ⟨#[]⟩,.string ⟨#[]⟩,.slice none 0 0,.slice none 0 0,.int .i64 0,.int .i64 0,.int .i64 0,.int .i64 0,.string ⟨#[]⟩,.int .i64 0,.slice none 0 0,.int .i64 0,.slice none 0 0,.int .u64 0,.slice none 0 0,.slice none 0 0,.slice none 0 0,.slice none 0 0,.slice none 0 0,.slice none 0 0,.slice none 0 0,.slice none 0 0,.slice none 0 0,.bool false,.bool false]/\Below w.heap.size w wr) (fun v _=>32 - (intOf v).toNat)
  case atStart=>exact⟨0,ω,rfl,⟨none,0,0⟩,Enc.Own.nil _ _ _,by rw [<- HVR.o];exact HG.o,HT1.o,HQ1.o,HB.o⟩
  case round=>
   obtain⟨i,hi,rfl,s,ho,hg,ht,hq,hb⟩:=hrel;have HO:=Zh ho;have HG2:=Zh hg;have HT2:=Zh ht;have HQ2:=Zh hq;have HB2:=Zh hb;have hsz:=hb.size;clear ho hg ht hq hb HG HT1 HQ1 HB;by_cases hlt:i<32
   ·have hij:(i:Int)<32:=ω;exact m_11
   ·have hin:i=32:=ω;subst hin;have t3:wr.cell? ⟨w.heap.size,3,none⟩=some (.slice Ai S.T.init.length ci):=by have:=HT2.o.cell 3;rw [this,HIV.o];rfl
    go_wp2_with fail
    clear t3;go_loopw [10] (fun v wr2=>∃ i:Nat,i<=S.T.init.length/\v=.int .i64 (i:Int)/\∃ L:List Rg,L=(S.T.init.take i).foldl (Zf2 S.C.th) (List.replicate 32 ⟨.num 0,0⟩)/\L.length=32/\(Zdj S.C.ahead).Own 87 w.heap.size wr2 s.v L/\Blk wr2 W.heap.size 83 (rrC S { rnE with regs:=L } false { V with rg:=s })/\Blk wr2 w.heap.size 32 #[.int .i64 S.T.arch,.string ⟨S.T.name.toArray⟩,.string ⟨S.T.cycle.toArray⟩,S.iv.v,S.cv.v,.int .i64 S.T.q,.int .i64 S.T.k,.int .i64 S.T.t,.int .i64 S.T.r,.string ⟨S.T.l.toArray⟩,.int .i64 S.T.v,S.kv.v]/\Blk wr2 (w.heap.size+1+1) 83 #[.int .i64 0,.string ⟨#[]⟩,.string ⟨#[]⟩,.slice none 0 0,.slice none 0 0,.int .i64 0,.int .i64 0,.int .i64 0,.int .i64 0,.string ⟨#[]⟩,.int .i64 0,.slice none 0 0,.int .i64 0,.slice none 0 0,.int .u64 0,.slice none 0 0,.slice none 0 0,.slice none 0 0,.slice none 0 0,.slice none 0 0,.slice none 0 0,.slice none 0 0,.slice none 0 0,.slice none 0 0,.bool false,.bool false]/\Below w.heap.size w wr2) (fun v _=>S.T.init.length - (intOf v).toNat)
    case atStart=>exact⟨0,ω,rfl,_,rfl,by simp,HO.o,HG2.o,HT2.o,HQ2.o,HB2.o⟩
    case round=>
     obtain⟨i,hi2,rfl,L,hL,hlen,ho,hg,ht,hq,hb⟩:=hrel;have HL:=Zh hL;have HO3:=Zh ho;have HG3:=Zh hg;have HT3:=Zh ht;have HQ3:=Zh hq;have HB3:=Zh hb;have hsz2:=hb.size;have hgz:W.heap.size<wr.heap.size:=hg.lt;clear hL ho hg ht hq hb HO HG2 HT2 HQ2 HB2;have t3:wr.cell? ⟨w.heap.size,3,none⟩=some (.slice Ai S.T.init.length ci):=by have:=HT3.o.cell 3;rw [this,HIV.o];rfl
     have hii2:(0:Int)<=(i:Int):=ω;by_cases hlt2:i<S.T.init.length
     ·have hij2:(i:Int)<(S.T.init.length:Int):=ω;have ex:=List.getElem?_eq_getElem hlt2;obtain⟨x,hx⟩:∃ x,S.T.init[i]=x:=⟨_,rfl⟩;rw [hx] at ex;have HNX:=Zh (show (S.T.init.take (i+1)).foldl (Zf2 S.C.th) (List.replicate 32 ⟨.num 0,0⟩)=Zf2 S.C.th L x by
       obtain⟨h1,h2⟩:=List.getElem?_eq_some_iff.1 ex;rw [List.take_succ_eq_append_getElem h1,List.foldl_append,<- HL.o,h2];rfl)
      exact m_2
     exact m_14
 ·have hnr:Zfg S.C.risc=15:=by rw [HRI.o];unfold Zfg;simp [ha]
  have HN:=Zh hnr;clear hnr;have t0:=HT1.o.cm 0
  go_wp2_with fail
  clear t0;go_loopw [9] (fun v wr=>∃ i:Nat,i<=15/\v=.int .i64 (i:Int)/\∃ s:Sl,(Zdj S.C.ahead).Own 87 w.heap.size wr s.v (List.replicate i ⟨.num 0,0⟩)/\Blk wr W.heap.size 83 (rrC S { rnE with regs:=List.replicate i ⟨.num 0,0⟩ } false { V with rg:=s })/\Blk wr w.heap.size 32 #[.int .i64 S.T.arch,.string ⟨S.T.name.toArray⟩,.string ⟨S.T.cycle.toArray⟩,S.iv.v,S.cv.v,.int .i64 S.T.q,.int .i64 S.T.k,.int .i64 S.T.t,.int .i64 S.T.r,.string ⟨S.T.l.toArray⟩,.int .i64 S.T.v,S.kv.v]/\Blk wr (w.heap.size+1+1) 83 #[.int .i64 0,.string ⟨#[]⟩,.string ⟨#[]⟩,.slice none 0 0,.slice none 0 0,.int .i64 0,.int .i64 0,.int .i64 0,.int .i64 0,.string ⟨#[]⟩,.int .i64 0,.slice none 0 0,.int .i64 0,.slice none 0 0,.int .u64 0,.slice none 0 0,.slice none 0 0,.slice none 0 0,.slice none 0 0,.slice none 0 0,.slice none 0 0,.slice none 0 0,.slice none 0 0,.slice none 0 0,.bool false,.bool false]/\Below w.heap.size w wr) (fun v _=>15 - (intOf v).toNat)
  case atStart=>exact⟨0,ω,rfl,⟨none,0,0⟩,Enc.Own.nil _ _ _,by rw [<- HVR.o];exact HG.o,HT1.o,HQ1.o,HB.o⟩
  case round=>
   obtain⟨i,hi,rfl,s,ho,hg,ht,hq,hb⟩:=hrel;have HO:=Zh ho;have HG2:=Zh hg;have HT2:=Zh ht;have HQ2:=Zh hq;have HB2:=Zh hb;have hsz:=hb.size;clear ho hg ht hq hb HG HT1 HQ1 HB;by_cases hlt:i<15
   ·have hij:(i:Int)<15:=ω;exact m_11
   ·have hin:i=15:=ω;subst hin;have t3:wr.cell? ⟨w.heap.size,3,none⟩=some (.slice Ai S.T.init.length ci):=by have:=HT2.o.cell 3;rw [this,HIV.o];rfl
    go_wp2_with fail
    clear t3;go_loopw [10] (fun v wr2=>∃ i:Nat,i<=S.T.init.length/\v=.int .i64 (i:Int)/\∃ L:List Rg,L=(S.T.init.take i).foldl (Zf2 S.C.th) (List.replicate 15 ⟨.num 0,0⟩)/\L.length=15/\(Zdj S.C.ahead).Own 87 w.heap.size wr2 s.v L/\Blk wr2 W.heap.size 83 (rrC S { rnE with regs:=L } false { V with rg:=s })/\Blk wr2 w.heap.size 32 #[.int .i64 S.T.arch,.string ⟨S.T.name.toArray⟩,.string ⟨S.T.cycle.toArray⟩,S.iv.v,S.cv.v,.int .i64 S.T.q,.int .i64 S.T.k,.int .i64 S.T.t,.int .i64 S.T.r,.string ⟨S.T.l.toArray⟩,.int .i64 S.T.v,S.kv.v]/\Blk wr2 (w.heap.size+1+1) 83 #[.int .i64 0,.string ⟨#[]⟩,.string ⟨#[]⟩,.slice none 0 0,.slice none 0 0,.int .i64 0,.int .i64 0,.int .i64 0,.int .i64 0,.string ⟨#[]⟩,.int .i64 0,.slice none 0 0,.int .i64 0,.slice none 0 0,.int .u64 0,.slice none 0 0,.slice none 0 0,.slice none 0 0,.slice none 0 0,.slice none 0 0,.slice none 0 0,.slice none 0 0,.slice none 0 0,.slice none 0 0,.bool false,.bool false]/\Below w.heap.size w wr2) (fun v _=>S.T.init.length - (intOf v).toNat)
    case atStart=>exact⟨0,ω,rfl,_,rfl,by simp,HO.o,HG2.o,HT2.o,HQ2.o,HB2.o⟩
    case round=>
     obtain⟨i,hi2,rfl,L,hL,hlen,ho,hg,ht,hq,hb⟩:=hrel;have HL:=Zh hL;have HO3:=Zh ho;have HG3:=Zh hg;have HT3:=Zh ht;have HQ3:=Zh hq;have HB3:=Zh hb;have hsz2:=hb.size;have hgz:W.heap.size<wr.heap.size:=hg.lt;clear hL ho hg ht hq hb HO HG2 HT2 HQ2 HB2;have t3:wr.cell? ⟨w.heap.size,3,none⟩=some (.slice Ai S.T.init.length ci):=by have:=HT3.o.cell 3;rw [this,HIV.o];rfl
     have hii2:(0:Int)<=(i:Int):=ω;by_cases hlt2:i<S.T.init.length
     ·have hij2:(i:Int)<(S.T.init.length:Int):=ω;have ex:=List.getElem?_eq_getElem hlt2;obtain⟨x,hx⟩:∃ x,S.T.init[i]=x:=⟨_,rfl⟩;rw [hx] at ex;have HNX:=Zh (show (S.T.init.take (i+1)).foldl (Zf2 S.C.th) (List.replicate 15 ⟨.num 0,0⟩)=Zf2 S.C.th L x by
       obtain⟨h1,h2⟩:=List.getElem?_eq_some_iff.1 ex;rw [List.take_succ_eq_append_getElem h1,List.foldl_append,<- HL.o,h2];rfl)
      exact m_2
     exact m_14
end
theorem Z48 {T:Tst}(hE:Za6 T=0){t:Nat}{c:List Ins}(hc:T.code[t]?=some c)(hr:isR T=true):(Zfm c).1=0:=by
 obtain⟨_,_,ha,hcod,_⟩:=Za8 hE;obtain⟨_,hthr⟩:=(Zb9 hcod).2.2 t c hc;obtain⟨_,hlnk⟩:=Zig hthr;rcases Zln ha with ⟨e1,e2⟩ | ⟨e1,e2⟩
 ·rw [e2] at hr;cases hr
 ·exact hlnk e1
theorem Z3d {T:Tst}(hE:Za6 T=0){t k:Nat}{c:List Ins}{x:Ins}(hc:T.code[t]?=some c)(hx:c[k]?=some x)(h11:x.op=11):isR T=true:=by
 obtain⟨_,_,ha,hcod,_⟩:=Za8 hE;obtain⟨_,hthr⟩:=(Zb9 hcod).2.2 t c hc;obtain⟨hok,_⟩:=Zig hthr;have hox:=hok x (List.mem_of_getElem? hx);rcases Zln ha with ⟨e1,e2⟩ | ⟨e1,e2⟩
 ·exfalso;unfold okX at hox;rw [if_pos e1] at hox;unfold Zo4 Zhg at hox;rw [h11] at hox;simp at hox
 ·exact e2
section
set_option maxHeartbeats 4000000
set_option maxRecDepth 100000
theorem Z2q (L:Ze2)(V:Ze5)(w:World)(h:Zc1 w L V)(G:Zc5 L)(hp0:L.a.addr=[])(hp1:L.a.data=[])(hp2:L.a.hang=[])(hth:L.th.length<=1):Calls Tryz.prog 27 #[Zd4 V] w (Zmd L w):=by
 have HB1:=Zh (Zao w (.cells (Zjb V) 41 (0,0)) (.cells #[.int .i64 0,.slice none 0 0] 48 (0,0)));have HK1:=Zh (Blk.alloc (Blk.new w 41 (Zjb V)) (.cells #[.int .i64 0,.slice none 0 0] 48 (0,0)));have HR1:Hid (Blk _ (w.heap.size+1) 48 #[.int .i64 0,.slice none 0 0]):=Zh (Zcl w (.cells (Zjb V) 41 (0,0)) 48 #[.int .i64 0,.slice none 0 0]);have HBT:=Zh (Zx9 L V w.heap.size _ (h.below HB1.o) G hp0 hp1 hp2 hth (HK1.o.cell 3));obtain⟨n,hn⟩:∃ n,L.a.evs.length=n:=⟨_,rfl⟩;unfold Zmd at HBT ⊢;rw [hn] at HBT ⊢;clear hn h G;obtain⟨⟨Al,nl,cl⟩,⟨Ai,ni,ci⟩,⟨Ae,ne,ce⟩,⟨Ab,nb,cb⟩,⟨Aa,na,ca⟩,⟨Ad,nd,cd⟩,⟨Ac,nc,cc⟩,⟨At,nt,ct⟩,⟨Ax,nx,cx⟩⟩:=V;simp only [Zd4,Zjb,Sl.v] at HBT HB1 HK1 HR1 ⊢;have hz:((w.alloc (.cells #[.slice Al nl cl,.slice Ai ni ci,.slice Ae ne ce,.slice Ab nb cb,.slice Aa na ca,.slice Ad nd cd,.slice Ac nc cc,.slice At nt ct,.slice Ax nx cx] 41 (0,0))).alloc (.cells #[.int .i64 0,.slice none 0 0] 48 (0,0))).heap.size=w.heap.size+1+1:=by simp
 go_enter Tryz.func27,Tryz.ntmps27
 go_wp2_with (go_at_call 28;refine HBT.o.mono ?_;rintro e w9 ⟨q9,rfl,hq9,hb9⟩;have HQ9:=Zh hq9;have HB9:=Zh hb9;have HR9:=Zh (HR1.o.go hb9);clear hq9 hb9;have r0:=HR9.o.cell 0;have r1:=HR9.o.cell 1;have fr:=HR9.o.frozen)
 refine bodyPost_ret (v:=.tuple #[.agg #[.int .i64 (n:Int),.slice (some ⟨q9,0,none⟩) n n],.int .i64 0]) (by simp [results,Tryz.results27,go_sem, *]) rfl ?_;have hne:=Za4 HQ9.o HR9.o (by decide);refine⟨q9,rfl,?_,?_⟩
 ·exact (HQ9.o.far (p:=⟨w.heap.size+1,0,none⟩) hne _).far (p:=⟨w.heap.size+1,1,none⟩) hne _
 ·exact ((Zaa HB1.o HB9.o).setCell (p:=⟨w.heap.size+1,0,none⟩) (show w.heap.size<=w.heap.size+1 by omega) _).setCell (p:=⟨w.heap.size+1,1,none⟩) (show w.heap.size<=w.heap.size+1 by omega) _
end
def Zbw:Tst:=⟨1,[116],[],[],[[⟨1,0,0,0,3,[120],[],0⟩,⟨5,0,0,0,0,[],[],0⟩,⟨3,1,0,0,0,[121],[],0⟩]],1,2,0,1,[],0,.nil⟩
def Zct:Tr:=⟨[⟨0,0,2,0,3,0⟩,⟨0,2,1,1,0,1⟩],[⟨0,1,1⟩],[],[],[],[(2,1)]⟩
set_option maxRecDepth 100000 in
theorem Zkq:Zbe 2 1 2 0 1 [] 0 .nil=0/\Zbe 1 1 2 0 1 [] 0 .nil=0:=by decide
set_option maxRecDepth 100000 in
theorem Zh8:Za5 Zbw=[(0,1,[])]:=by
 unfold Za5 Zk4;rw [if_pos (show Zbe 2 Zbw.q Zbw.k Zbw.t Zbw.r Zbw.l Zbw.v Zbw.kids=0 from Zkq.1),<- Zo0]
 ·decide
 ·intro x hx;have:x=(0,1,[]):=by simpa [Zbw,atL,Za1] using hx
  subst this;exact (by decide:Za9 2 0 1 []=true)
theorem Zgv:Zaq Zbw=[[120],[121]]:=by
 refine Zhb (Zf9 _) (by unfold Zj0;simp;decide) (fun x=>?_);unfold Zaq;rw [Zfe];have:Zel Zbw=[[120],[],[121],[]]:=by
  unfold Zel;rw [show Zk4 Zbw.q Zbw.k Zbw.t Zbw.r Zbw.l Zbw.v Zbw.kids=[(0,1,[])] from Zh8];rfl
 rw [this];simp
 constructor
 ·rintro⟨h | h | h,h2⟩ <;> simp_all
 ·rintro (rfl | rfl) <;> simp
set_option maxRecDepth 100000 in
theorem Ztr:Za6 Zbw=0:=by
 unfold Za6;rw [if_neg (by decide +kernel),if_neg (by decide +kernel),if_neg (by decide +kernel),if_neg (by decide +kernel),if_neg (by rw [show Zbw.arch=1 from rfl];exact fun h=>h Zkq.2),Zh8,if_neg (by decide),if_neg (by rw [show Zdp (Zel Zbw)=[[120],[121]] from Zgv];decide)]
set_option maxRecDepth 100000 in
theorem Zz7:Zcv Zbw=.ok Zct:=by
 unfold Zcv;rw [if_neg (by rw [Ztr];decide),Zgv,Zh8]
 first | kernel_rfl | rfl | decide
section
theorem Zts:Zc5 ⟨[[120],[121]],[0,0],[(0,1,[])],Zct⟩:=by
 refine⟨by decide,rfl,?_,?_,?_,by decide,?_,?_,by decide,?_,?_,?_,?_,?_,?_,?_,?_,?_,rfl,by decide,?_,?_⟩
 ·intro x hx;simp at hx;rcases hx with rfl | rfl <;> decide
 ·unfold Zj0;simp;decide
 ·intro n hn;simp at hn;subst hn;decide
 ·intro e he;simp [Zct] at he;rcases he with rfl | rfl
  ·exact⟨by decide,by decide,by decide,by decide,by decide,Or.inr ⟨rfl,rfl⟩⟩
  ·exact⟨by decide,by decide,by decide,by decide,by decide,Or.inl ⟨rfl,rfl⟩⟩
 ·intro i x y hx hy
  match i,hx,hy with
  | 0,hx,hy=>simp [Zct] at hx hy;subst hx hy;unfold Zri;decide
  | i+1,hx,hy=>simp [Zct] at hy
 ·intro b hb;simp [Zct] at hb;subst hb;exact⟨by decide,by decide,by decide⟩
 ·intro i x y hx hy;simp [Zct] at hy
 ·intro b hb e he;simp [Zct] at hb he;subst hb;rcases he with rfl | rfl <;> decide
 ·intro p hp;simp [Zct] at hp
 ·intro i x y hx;simp [Zct] at hx
 ·intro p hp;simp [Zct] at hp
 ·intro i x y hx;simp [Zct] at hx
 ·intro p hp;simp [Zct] at hp
 ·intro i x y hx;simp [Zct] at hx
 ·intro i x y hx hy;simp at hy
 ·intro i x e hx he
  match i,hx,he with
  | 0,hx,he=>
   simp [Zct] at hx he;subst hx he;exact Or.inr ⟨by decide,by decide,by decide,by decide,rfl,Or.inr ⟨rfl,1,⟨0,2,1,1,0,1⟩,rfl,rfl,rfl,rfl⟩⟩
  | i+1,hx,he=>simp at hx
section
set_option maxHeartbeats 4000000
set_option maxRecDepth 100000
theorem Z50 (w:World):Calls Tryz.prog 26 #[] w fun e w'=>∃ Ac,e=.returned (Zbr Zbw (.slice none 0 0) (.slice Ac 1 1) (.slice none 0 0))/\Zcb w' Zbw none Ac (.slice none 0 0)/\Below w.heap.size w w':=by
 go_enter Tryz.func26,Tryz.ntmps26
 go_wp2_with fail
 refine bodyPost_ret (v:=Zbr Zbw (.slice none 0 0) (.slice (some ⟨w.heap.size+1+1+1,0,none⟩) 1 1) (.slice none 0 0)) (by simp [results,Tryz.results26,go_sem,Zbw]) rfl ?_;have HI:=Zh (Blk.alloc (Blk.new ((w.alloc (.cells #[.int .i64 1,.string ⟨#[116]⟩,.string ⟨#[]⟩,.slice none 0 0,.slice (some ⟨w.heap.size+1+1+1,0,none⟩) 1 1,.int .i64 1,.int .i64 2,.int .i64 0,.int .i64 1,.string ⟨#[]⟩,.int .i64 0,.slice none 0 0] 32 (0,0))).alloc (.cells #[.int .i64 0,.int .i64 1,.string ⟨#[]⟩] 25 (0,0))) 118 #[.int .i64 1,.int .i64 0,.int .i64 0,.int .i64 0,.int .i64 3,.string ⟨#[120]⟩,.string ⟨#[]⟩,.int .i64 0,.int .i64 5,.int .i64 0,.int .i64 0,.int .i64 0,.int .i64 0,.string ⟨#[]⟩,.string ⟨#[]⟩,.int .i64 0,.int .i64 3,.int .i64 1,.int .i64 0,.int .i64 0,.int .i64 0,.string ⟨#[121]⟩,.string ⟨#[]⟩,.int .i64 0]) (.cells #[.slice (some ⟨w.heap.size+1+1,0,none⟩) 3 3] 116 (0,0)))
 have HC:=Zh (Blk.new (((w.alloc (.cells #[.int .i64 1,.string ⟨#[116]⟩,.string ⟨#[]⟩,.slice none 0 0,.slice (some ⟨w.heap.size+1+1+1,0,none⟩) 1 1,.int .i64 1,.int .i64 2,.int .i64 0,.int .i64 1,.string ⟨#[]⟩,.int .i64 0,.slice none 0 0] 32 (0,0))).alloc (.cells #[.int .i64 0,.int .i64 1,.string ⟨#[]⟩] 25 (0,0))).alloc (.cells #[.int .i64 1,.int .i64 0,.int .i64 0,.int .i64 0,.int .i64 3,.string ⟨#[120]⟩,.string ⟨#[]⟩,.int .i64 0,.int .i64 5,.int .i64 0,.int .i64 0,.int .i64 0,.int .i64 0,.string ⟨#[]⟩,.string ⟨#[]⟩,.int .i64 0,.int .i64 3,.int .i64 1,.int .i64 0,.int .i64 0,.int .i64 0,.string ⟨#[121]⟩,.string ⟨#[]⟩,.int .i64 0] 118 (0,0))) 116 #[.slice (some ⟨w.heap.size+1+1,0,none⟩) 3 3]);simp only [World.size_alloc] at HI HC;refine⟨some ⟨w.heap.size+1+1+1,0,none⟩,rfl,⟨?_,?_,Zec.nil _ _ _ _ (by decide),by decide,by decide,by decide,by decide,by decide⟩,Zab (Zab (Zab (Zab (Below.refl _ _) _) _) _) _⟩
 ·intro i x hx;simp [Zbw] at hx
 ·intro i c hc
  match i,hc with
  | 0,hc=>
   simp [Zbw] at hc;subst hc;refine⟨_,0,some ⟨w.heap.size+1+1,0,none⟩,3,rfl,HC.o.cell 0,?_,by decide,by decide⟩;intro j x hx
   match j,hx with
   | 0,hx=>
    simp at hx;subst hx;exact⟨_,0,rfl,(HI.o.cell 0).trans rfl,(HI.o.cell 1).trans rfl,(HI.o.cell 2).trans rfl,(HI.o.cell 3).trans rfl,(HI.o.cell 4).trans rfl,(HI.o.cell 5).trans rfl,(HI.o.cell 6).trans rfl,(HI.o.cell 7).trans rfl,by decide,by decide⟩
   | 1,hx=>
    simp at hx;subst hx;exact⟨_,0,rfl,(HI.o.cell 8).trans rfl,(HI.o.cell 9).trans rfl,(HI.o.cell 10).trans rfl,(HI.o.cell 11).trans rfl,(HI.o.cell 12).trans rfl,(HI.o.cell 13).trans rfl,(HI.o.cell 14).trans rfl,(HI.o.cell 15).trans rfl,by decide,by decide⟩
   | 2,hx=>
    simp at hx;subst hx;exact⟨_,0,rfl,(HI.o.cell 16).trans rfl,(HI.o.cell 17).trans rfl,(HI.o.cell 18).trans rfl,(HI.o.cell 19).trans rfl,(HI.o.cell 20).trans rfl,(HI.o.cell 21).trans rfl,(HI.o.cell 22).trans rfl,(HI.o.cell 23).trans rfl,by decide,by decide⟩
   | j+3,hx=>simp at hx
  | i+1,hc=>simp [Zbw] at hc
end
end
end Go.Proofs.YtdfmcfppoohckaaGreatDoor
