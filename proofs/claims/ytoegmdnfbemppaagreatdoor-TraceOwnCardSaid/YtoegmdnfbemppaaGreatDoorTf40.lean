/- - -/
import Derived.Test.YtoegmdnfbemppaaGreatDoorTf39

namespace Go.Proofs.YtoegmdnfbemppaaGreatDoor
open Go.RowKit
section
abbrev rnE:Rn:=⟨[],0,[],[],[],[],[],false⟩
theorem Z6c (S:RrS)(V:RrV)(hv:V.rg=⟨none,0,0⟩):rrC S rnE false V=#[.int .i64 S.T.arch,.string ⟨S.T.name.toArray⟩,.string ⟨S.T.cycle.toArray⟩,S.iv.v,S.cv.v,.int .i64 S.T.q,.int .i64 S.T.k,.int .i64 S.T.t,.int .i64 S.T.r,.string ⟨S.T.l.toArray⟩,.int .i64 S.T.v,S.kv.v,.int .i64 (S.C.th:Int),.slice none 0 0,.int .u64 0,S.lo.v,S.ini.v,V.ev.v,V.br.v,V.ad.v,V.da.v,V.ct.v,S.th.v,S.en.v,.bool false,.bool false]:=by
 simp only [rrC,hv,Nat.zero_shiftLeft]
 rfl
theorem Ztv (f:Nat)(w:World):(Zdi f).At (w.alloc (.cells #[.int .i64 1,.int .i64 0,.string ⟨#[]⟩,.int .u64 0] 125 (0,0))) (some ⟨w.heap.size,0,none⟩) [⟨.num 0,0⟩]:=by
 have hB:=Blk.new w 125 #[.int .i64 1,.int .i64 0,.string ⟨#[]⟩,.int .u64 0]
 intro i x hx
 refine⟨w.heap.size,0,rfl,fun j u hj=>?_⟩
 match i,hx with
 | 0,hx=>
  simp at hx;subst hx
  rw [show 0+0*(Zdi f).size+j=j by omega,hB.cell]
  rw [<- hj]
  simp only [Zax,Zb8,Zb7,Nat.zero_shiftLeft]
  simp
set_option maxHeartbeats 4000000
set_option maxRecDepth 100000
theorem Z3d (B:Nat)(S:RrS)(V:RrV)(Ai:Option Addr)(ci:Nat)(w:World)(hiv:S.iv=⟨Ai,S.T.init.length,ci⟩)(HI:Zi7 w Ai S.T.init)(hrisc:S.C.risc=decide (S.T.arch=2))(hini:∀ x∈S.T.init,x.th=(S.C.th:Int)->0<=x.rg/\x.rg<((Zfz S.C.risc:Nat):Int))(hil:S.T.init.length<=9223372036854775806)(hvr:V.rg=⟨none,0,0⟩)(hR:Za7 w B S rnE V) :
  Calls Tryz.prog 101 #[.agg #[.int .i64 S.T.arch,.string ⟨S.T.name.toArray⟩,.string ⟨S.T.cycle.toArray⟩,S.iv.v,S.cv.v,.int .i64 S.T.q,.int .i64 S.T.k,.int .i64 S.T.t,.int .i64 S.T.r,.string ⟨S.T.l.toArray⟩,.int .i64 S.T.v,S.kv.v],.agg #[S.lo.v,S.ini.v,V.ev.v,V.br.v,V.ad.v,V.da.v,V.ct.v,S.th.v,S.en.v],.int .i64 (S.C.th:Int)] w (Zew B S (rn0 S.C.risc S.T.init S.C.th) false w):=by
 have HR:=Zh hR
 have HII:=Zh HI
 have HIV:=Zh hiv
 have HRI:=Zh hrisc
 have HVR:=Zh hvr
 have HINI:=Zh hini
 obtain⟨tc,htc⟩:∃ c,c=#[.int .i64 S.T.arch,.string ⟨S.T.name.toArray⟩,.string ⟨S.T.cycle.toArray⟩,S.iv.v,S.cv.v,.int .i64 S.T.q,.int .i64 S.T.k,.int .i64 S.T.t,.int .i64 S.T.r,.string ⟨S.T.l.toArray⟩,.int .i64 S.T.v,S.kv.v]:=⟨_,rfl⟩
 obtain⟨oc,hoc⟩:∃ c,c=#[S.lo.v,S.ini.v,V.ev.v,V.br.v,V.ad.v,V.da.v,V.ct.v,S.th.v,S.en.v]:=⟨_,rfl⟩
 rw [<- htc,<- hoc]
 have HTC:=Zh htc
 have HOC:=Zh hoc
 clear htc hoc hR hini HI hiv hrisc hvr
 go_enter Tryz.func101,Tryz.ntmps101
 apply wp_seq_k
 intro K hK
 have HK:=Zh hK
 clear hK
 go_wp2_with fail
 refine Zg5 (P:=fun X=>K _ X) w _ _ _ _ _ _ ?_
 intro W b0 b1 b2 hz hbW
 refine HK.out _ _ ?_
 clear HK K
 rw [HTC.out] at b0
 rw [HOC.out] at b1
 have HT:=Zh b0
 have HO:=Zh b1
 have HQ:=Zh b2
 have HBW:=Zh hbW
 have hz0:w.heap.size<W.heap.size:=by omega
 have hz1:w.heap.size+1<W.heap.size:=by omega
 have hz2:w.heap.size+1+1<W.heap.size:=by omega
 clear b0 b1 b2 hbW hz
 have HZ:=Zh (Blk.new W 121 #[.int .i64 0,.string ⟨#[]⟩,.string ⟨#[]⟩,.slice none 0 0,.slice none 0 0,.int .i64 0,.int .i64 0,.int .i64 0,.int .i64 0,.string ⟨#[]⟩,.int .i64 0,.slice none 0 0,.int .i64 0,.slice none 0 0,.int .u64 0,.slice none 0 0,.slice none 0 0,.slice none 0 0,.slice none 0 0,.slice none 0 0,.slice none 0 0,.slice none 0 0,.slice none 0 0,.slice none 0 0,.bool false,.bool false])
 repeat (first | ((with_reducible refine Zao ?_);refine Zaw 32 3 w.heap.size rfl rfl HT.out Tryz.underlying32 rfl (by kernel_rfl) rfl ?_) | ((with_reducible refine Zao ?_);refine Zaw 41 4 (w.heap.size+1) rfl rfl HO.out Tryz.underlying41 rfl (by kernel_rfl) rfl ?_) | ((with_reducible refine Zao ?_);refine Zam 121 7 15 W.heap.size (c:=#[.int .i64 S.T.arch,.string ⟨S.T.name.toArray⟩,.string ⟨S.T.cycle.toArray⟩,S.iv.v,S.cv.v,.int .i64 S.T.q,.int .i64 S.T.k,.int .i64 S.T.t,.int .i64 S.T.r,.string ⟨S.T.l.toArray⟩,.int .i64 S.T.v,S.kv.v,.int .i64 (S.C.th:Int),.slice none 0 0,.int .u64 0,S.lo.v,S.ini.v,V.ev.v,V.br.v,V.ad.v,V.da.v,V.ct.v,S.th.v,S.en.v,.bool false,.bool false]) rfl rfl rfl HZ.out (by rfl) (by kernel_rfl) (by kernel_rfl) rfl rfl ?_;refine Hid.out ?_) | go_step)
 refine Zh ?_
 have hB1:=below_setRow (Zad W (.cells #[.int .i64 0,.string ⟨#[]⟩,.string ⟨#[]⟩,.slice none 0 0,.slice none 0 0,.int .i64 0,.int .i64 0,.int .i64 0,.int .i64 0,.string ⟨#[]⟩,.int .i64 0,.slice none 0 0,.int .i64 0,.slice none 0 0,.int .u64 0,.slice none 0 0,.slice none 0 0,.slice none 0 0,.slice none 0 0,.slice none 0 0,.slice none 0 0,.slice none 0 0,.slice none 0 0,.slice none 0 0,.bool false,.bool false] 121 (0,0))) (Nat.le_refl _) #[.int .i64 S.T.arch,.string ⟨S.T.name.toArray⟩,.string ⟨S.T.cycle.toArray⟩,S.iv.v,S.cv.v,.int .i64 S.T.q,.int .i64 S.T.k,.int .i64 S.T.t,.int .i64 S.T.r,.string ⟨S.T.l.toArray⟩,.int .i64 S.T.v,S.kv.v,.int .i64 (S.C.th:Int),.slice none 0 0,.int .u64 0,S.lo.v,S.ini.v,V.ev.v,V.br.v,V.ad.v,V.da.v,V.ct.v,S.th.v,S.en.v,.bool false,.bool false]
 have HG:=Zh (show Blk ((W.alloc (.cells #[.int .i64 0,.string ⟨#[]⟩,.string ⟨#[]⟩,.slice none 0 0,.slice none 0 0,.int .i64 0,.int .i64 0,.int .i64 0,.int .i64 0,.string ⟨#[]⟩,.int .i64 0,.slice none 0 0,.int .i64 0,.slice none 0 0,.int .u64 0,.slice none 0 0,.slice none 0 0,.slice none 0 0,.slice none 0 0,.slice none 0 0,.slice none 0 0,.slice none 0 0,.slice none 0 0,.slice none 0 0,.bool false,.bool false] 121 (0,0))).setRow W.heap.size #[.int .i64 S.T.arch,.string ⟨S.T.name.toArray⟩,.string ⟨S.T.cycle.toArray⟩,S.iv.v,S.cv.v,.int .i64 S.T.q,.int .i64 S.T.k,.int .i64 S.T.t,.int .i64 S.T.r,.string ⟨S.T.l.toArray⟩,.int .i64 S.T.v,S.kv.v,.int .i64 (S.C.th:Int),.slice none 0 0,.int .u64 0,S.lo.v,S.ini.v,V.ev.v,V.br.v,V.ad.v,V.da.v,V.ct.v,S.th.v,S.en.v,.bool false,.bool false]) W.heap.size 121 (rrC S rnE false V) by rw [Z6c S V HVR.out];exact HZ.out.row _)
 have HT1:=Zh (HT.out.go hB1)
 have HQ1:=Zh (HQ.out.go hB1)
 have HB:=Zh (Zaa HBW.out hB1)
 clear hB1 HT HQ HO HBW HZ
 generalize ((W.alloc (.cells #[.int .i64 0,.string ⟨#[]⟩,.string ⟨#[]⟩,.slice none 0 0,.slice none 0 0,.int .i64 0,.int .i64 0,.int .i64 0,.int .i64 0,.string ⟨#[]⟩,.int .i64 0,.slice none 0 0,.int .i64 0,.slice none 0 0,.int .u64 0,.slice none 0 0,.slice none 0 0,.slice none 0 0,.slice none 0 0,.slice none 0 0,.slice none 0 0,.slice none 0 0,.slice none 0 0,.slice none 0 0,.bool false,.bool false] 121 (0,0))).setRow W.heap.size #[.int .i64 S.T.arch,.string ⟨S.T.name.toArray⟩,.string ⟨S.T.cycle.toArray⟩,S.iv.v,S.cv.v,.int .i64 S.T.q,.int .i64 S.T.k,.int .i64 S.T.t,.int .i64 S.T.r,.string ⟨S.T.l.toArray⟩,.int .i64 S.T.v,S.kv.v,.int .i64 (S.C.th:Int),.slice none 0 0,.int .u64 0,S.lo.v,S.ini.v,V.ev.v,V.br.v,V.ad.v,V.da.v,V.ct.v,S.th.v,S.en.v,.bool false,.bool false])=W1 at *
 generalize (Value.agg #[.int .i64 S.T.arch,.string ⟨S.T.name.toArray⟩,.string ⟨S.T.cycle.toArray⟩,S.iv.v,S.cv.v,.int .i64 S.T.q,.int .i64 S.T.k,.int .i64 S.T.t,.int .i64 S.T.r,.string ⟨S.T.l.toArray⟩,.int .i64 S.T.v,S.kv.v,.int .i64 (S.C.th:Int),.slice none 0 0,.int .u64 0,S.lo.v,S.ini.v,V.ev.v,V.br.v,V.ad.v,V.da.v,V.ct.v,S.th.v,S.en.v,.bool false,.bool false])=x15
 generalize (Value.agg #[.int .i64 S.T.arch,.string ⟨S.T.name.toArray⟩,.string ⟨S.T.cycle.toArray⟩,S.iv.v,S.cv.v,.int .i64 S.T.q,.int .i64 S.T.k,.int .i64 S.T.t,.int .i64 S.T.r,.string ⟨S.T.l.toArray⟩,.int .i64 S.T.v,S.kv.v])=x12
 generalize (Value.agg #[S.lo.v,S.ini.v,V.ev.v,V.br.v,V.ad.v,V.da.v,V.ct.v,S.th.v,S.en.v])=x14
 by_cases ha:S.T.arch=2
 ·have hnr:Zfz S.C.risc=32:=by rw [HRI.out,ha];rfl
  have HN:=Zh hnr
  clear hnr
  have t0:W1.cell? ⟨w.heap.size,0,none⟩=some (.int .i64 2):=(by rw [<- ha];exact HT1.out.cell 0)
  go_wp2_with fail
  clear t0
  go_loopw [9] (fun v wr=>∃ i:Nat,i<=32/\v=.int .i64 (i:Int)/\∃ s:Sl,(Zdi S.C.ahead).Own 125 w.heap.size wr s.v (List.replicate i ⟨.num 0,0⟩)/\Blk wr W.heap.size 121 (rrC S { rnE with regs:=List.replicate i ⟨.num 0,0⟩ } false { V with rg:=s })/\Blk wr w.heap.size 32 #[.int .i64 S.T.arch,.string ⟨S.T.name.toArray⟩,.string ⟨S.T.cycle.toArray⟩,S.iv.v,S.cv.v,.int .i64 S.T.q,.int .i64 S.T.k,.int .i64 S.T.t,.int .i64 S.T.r,.string ⟨S.T.l.toArray⟩,.int .i64 S.T.v,S.kv.v]/\Blk wr (w.heap.size+1+1) 121 #[.int .i64 0,.string ⟨#[]⟩,.string ⟨#[]⟩,.slice none 0 0,.slice none 0 0,.int .i64 0,.int .i64 0,.int .i64 0,.int .i64 0,.string ⟨#[]⟩,.int .i64 0,.slice none 0 0,.int .i64 0,.slice none 0 0,.int .u64 0,.slice none 0 0,.slice none 0 0,.slice none 0 0,.slice none 0 0,.slice none 0 0,.slice none 0 0,.slice none 0 0,.slice none 0 0,.slice none 0 0,.bool false,.bool false]/\Below w.heap.size w wr) (fun v _=>32 - (intOf v).toNat)
  case atStart=>exact⟨0,by omega,rfl,⟨none,0,0⟩,Enc.Own.nil _ _ _,by rw [<- HVR.out];exact HG.out,HT1.out,HQ1.out,HB.out⟩
  case round=>
   obtain⟨i,hi,rfl,s,ho,hg,ht,hq,hb⟩:=hrel
   have HO:=Zh ho
   have HG2:=Zh hg
   have HT2:=Zh ht
   have HQ2:=Zh hq
   have HB2:=Zh hb
   have hsz:=hb.size
   clear ho hg ht hq hb HG HT1 HQ1 HB
   by_cases hlt:i<32
   ·have hij:(i:Int)<32:=by omega
    exact m_10
   ·have hin:i=32:=by omega
    subst hin
    have t3:wr.cell? ⟨w.heap.size,3,none⟩=some (.slice Ai S.T.init.length ci):=by have:=HT2.out.cell 3;rw [this,HIV.out];rfl
    go_wp2_with fail
    clear t3
    go_loopw [10] (fun v wr2=>∃ i:Nat,i<=S.T.init.length/\v=.int .i64 (i:Int)/\∃ L:List Rg,L=(S.T.init.take i).foldl (Zfr S.C.th) (List.replicate 32 ⟨.num 0,0⟩)/\L.length=32/\(Zdi S.C.ahead).Own 125 w.heap.size wr2 s.v L/\Blk wr2 W.heap.size 121 (rrC S { rnE with regs:=L } false { V with rg:=s })/\Blk wr2 w.heap.size 32 #[.int .i64 S.T.arch,.string ⟨S.T.name.toArray⟩,.string ⟨S.T.cycle.toArray⟩,S.iv.v,S.cv.v,.int .i64 S.T.q,.int .i64 S.T.k,.int .i64 S.T.t,.int .i64 S.T.r,.string ⟨S.T.l.toArray⟩,.int .i64 S.T.v,S.kv.v]/\Blk wr2 (w.heap.size+1+1) 121 #[.int .i64 0,.string ⟨#[]⟩,.string ⟨#[]⟩,.slice none 0 0,.slice none 0 0,.int .i64 0,.int .i64 0,.int .i64 0,.int .i64 0,.string ⟨#[]⟩,.int .i64 0,.slice none 0 0,.int .i64 0,.slice none 0 0,.int .u64 0,.slice none 0 0,.slice none 0 0,.slice none 0 0,.slice none 0 0,.slice none 0 0,.slice none 0 0,.slice none 0 0,.slice none 0 0,.slice none 0 0,.bool false,.bool false]/\Below w.heap.size w wr2) (fun v _=>S.T.init.length - (intOf v).toNat)
    case atStart=>exact⟨0,by omega,rfl,_,rfl,by simp,HO.out,HG2.out,HT2.out,HQ2.out,HB2.out⟩
    case round=>
     obtain⟨i,hi2,rfl,L,hL,hlen,ho,hg,ht,hq,hb⟩:=hrel
     have HL:=Zh hL
     have HO3:=Zh ho
     have HG3:=Zh hg
     have HT3:=Zh ht
     have HQ3:=Zh hq
     have HB3:=Zh hb
     have hsz2:=hb.size
     have hgz:W.heap.size<wr.heap.size:=hg.lt
     clear hL ho hg ht hq hb HO HG2 HT2 HQ2 HB2
     have t3:wr.cell? ⟨w.heap.size,3,none⟩=some (.slice Ai S.T.init.length ci):=by have:=HT3.out.cell 3;rw [this,HIV.out];rfl
     have hii2:(0:Int)<=(i:Int):=by omega
     by_cases hlt2:i<S.T.init.length
     ·have hij2:(i:Int)<(S.T.init.length:Int):=by omega
      have ex:=List.getElem?_eq_getElem hlt2
      obtain⟨x,hx⟩:∃ x,S.T.init[i]=x:=⟨_,rfl⟩
      rw [hx] at ex
      have HNX:=Zh (show (S.T.init.take (i+1)).foldl (Zfr S.C.th) (List.replicate 32 ⟨.num 0,0⟩)=Zfr S.C.th L x by
       obtain⟨h1,h2⟩:=List.getElem?_eq_some_iff.1 ex
       rw [List.take_succ_eq_append_getElem h1,List.foldl_append,<- HL.out,h2];rfl)
      exact m_2
     exact m_11
 ·have hnr:Zfz S.C.risc=15:=by rw [HRI.out];unfold Zfz;simp [ha]
  have HN:=Zh hnr
  clear hnr
  have t0:=HT1.out.cm 0
  go_wp2_with fail
  clear t0
  go_loopw [9] (fun v wr=>∃ i:Nat,i<=15/\v=.int .i64 (i:Int)/\∃ s:Sl,(Zdi S.C.ahead).Own 125 w.heap.size wr s.v (List.replicate i ⟨.num 0,0⟩)/\Blk wr W.heap.size 121 (rrC S { rnE with regs:=List.replicate i ⟨.num 0,0⟩ } false { V with rg:=s })/\Blk wr w.heap.size 32 #[.int .i64 S.T.arch,.string ⟨S.T.name.toArray⟩,.string ⟨S.T.cycle.toArray⟩,S.iv.v,S.cv.v,.int .i64 S.T.q,.int .i64 S.T.k,.int .i64 S.T.t,.int .i64 S.T.r,.string ⟨S.T.l.toArray⟩,.int .i64 S.T.v,S.kv.v]/\Blk wr (w.heap.size+1+1) 121 #[.int .i64 0,.string ⟨#[]⟩,.string ⟨#[]⟩,.slice none 0 0,.slice none 0 0,.int .i64 0,.int .i64 0,.int .i64 0,.int .i64 0,.string ⟨#[]⟩,.int .i64 0,.slice none 0 0,.int .i64 0,.slice none 0 0,.int .u64 0,.slice none 0 0,.slice none 0 0,.slice none 0 0,.slice none 0 0,.slice none 0 0,.slice none 0 0,.slice none 0 0,.slice none 0 0,.slice none 0 0,.bool false,.bool false]/\Below w.heap.size w wr) (fun v _=>15 - (intOf v).toNat)
  case atStart=>exact⟨0,by omega,rfl,⟨none,0,0⟩,Enc.Own.nil _ _ _,by rw [<- HVR.out];exact HG.out,HT1.out,HQ1.out,HB.out⟩
  case round=>
   obtain⟨i,hi,rfl,s,ho,hg,ht,hq,hb⟩:=hrel
   have HO:=Zh ho
   have HG2:=Zh hg
   have HT2:=Zh ht
   have HQ2:=Zh hq
   have HB2:=Zh hb
   have hsz:=hb.size
   clear ho hg ht hq hb HG HT1 HQ1 HB
   by_cases hlt:i<15
   ·have hij:(i:Int)<15:=by omega
    exact m_10
   ·have hin:i=15:=by omega
    subst hin
    have t3:wr.cell? ⟨w.heap.size,3,none⟩=some (.slice Ai S.T.init.length ci):=by have:=HT2.out.cell 3;rw [this,HIV.out];rfl
    go_wp2_with fail
    clear t3
    go_loopw [10] (fun v wr2=>∃ i:Nat,i<=S.T.init.length/\v=.int .i64 (i:Int)/\∃ L:List Rg,L=(S.T.init.take i).foldl (Zfr S.C.th) (List.replicate 15 ⟨.num 0,0⟩)/\L.length=15/\(Zdi S.C.ahead).Own 125 w.heap.size wr2 s.v L/\Blk wr2 W.heap.size 121 (rrC S { rnE with regs:=L } false { V with rg:=s })/\Blk wr2 w.heap.size 32 #[.int .i64 S.T.arch,.string ⟨S.T.name.toArray⟩,.string ⟨S.T.cycle.toArray⟩,S.iv.v,S.cv.v,.int .i64 S.T.q,.int .i64 S.T.k,.int .i64 S.T.t,.int .i64 S.T.r,.string ⟨S.T.l.toArray⟩,.int .i64 S.T.v,S.kv.v]/\Blk wr2 (w.heap.size+1+1) 121 #[.int .i64 0,.string ⟨#[]⟩,.string ⟨#[]⟩,.slice none 0 0,.slice none 0 0,.int .i64 0,.int .i64 0,.int .i64 0,.int .i64 0,.string ⟨#[]⟩,.int .i64 0,.slice none 0 0,.int .i64 0,.slice none 0 0,.int .u64 0,.slice none 0 0,.slice none 0 0,.slice none 0 0,.slice none 0 0,.slice none 0 0,.slice none 0 0,.slice none 0 0,.slice none 0 0,.slice none 0 0,.bool false,.bool false]/\Below w.heap.size w wr2) (fun v _=>S.T.init.length - (intOf v).toNat)
    case atStart=>exact⟨0,by omega,rfl,_,rfl,by simp,HO.out,HG2.out,HT2.out,HQ2.out,HB2.out⟩
    case round=>
     obtain⟨i,hi2,rfl,L,hL,hlen,ho,hg,ht,hq,hb⟩:=hrel
     have HL:=Zh hL
     have HO3:=Zh ho
     have HG3:=Zh hg
     have HT3:=Zh ht
     have HQ3:=Zh hq
     have HB3:=Zh hb
     have hsz2:=hb.size
     have hgz:W.heap.size<wr.heap.size:=hg.lt
     clear hL ho hg ht hq hb HO HG2 HT2 HQ2 HB2
     have t3:wr.cell? ⟨w.heap.size,3,none⟩=some (.slice Ai S.T.init.length ci):=by have:=HT3.out.cell 3;rw [this,HIV.out];rfl
     have hii2:(0:Int)<=(i:Int):=by omega
     by_cases hlt2:i<S.T.init.length
     ·have hij2:(i:Int)<(S.T.init.length:Int):=by omega
      have ex:=List.getElem?_eq_getElem hlt2
      obtain⟨x,hx⟩:∃ x,S.T.init[i]=x:=⟨_,rfl⟩
      rw [hx] at ex
      have HNX:=Zh (show (S.T.init.take (i+1)).foldl (Zfr S.C.th) (List.replicate 15 ⟨.num 0,0⟩)=Zfr S.C.th L x by
       obtain⟨h1,h2⟩:=List.getElem?_eq_some_iff.1 ex
       rw [List.take_succ_eq_append_getElem h1,List.foldl_append,<- HL.out,h2];rfl)
      exact m_2
     exact m_11
end
section
def Zef (B:Nat)(S:RrS)(o:Option Rn)(w:World)(e:Ending)(w':World):Prop:=∃ r1 fl V,e=.returned (rrV S r1 fl V)/\Za7 w' B S r1 V/\Za9 B w w'/\((fl=false/\o=some r1)\/(fl=true/\o=none/\r1.full=false))
theorem Zst {C:Cx}{r:Rn}{c:List Ins}{k:Nat}{x:Ins}{p:Rn×Nat}(h11:x.op≠11)(h:Zbk C r c k x=some p):p.2=k+1:=by
 unfold Zbk at h
 split at h
 ·obtain⟨a,_,rfl⟩:=Option.map_eq_some_iff.1 h;rfl
 split at h
 ·obtain⟨a,_,rfl⟩:=Option.map_eq_some_iff.1 h;rfl
 split at h
 ·simp only [Option.some.injEq] at h;subst h;rfl
 split at h
 ·simp only [Option.some.injEq] at h;subst h;rfl
 split at h
 ·simp only [Option.some.injEq] at h;subst h;rfl
 split at h
 ·simp only [Option.some.injEq] at h;subst h;rfl
 split at h
 ·obtain⟨a,_,rfl⟩:=Option.map_eq_some_iff.1 h;rfl
 split at h
 ·simp only [Option.some.injEq] at h;subst h;rfl
 simp only [Option.some.injEq] at h
 subst h
 rfl
theorem Zqy {C:Cx}{nr k:Nat}{c:List Ins}{x:Ins}{r0 r1 r2:Rn}{fl2:Bool}(hv:Zp7 C nr c k x)(h11:x.op≠11)(hI:Inv C nr k r1)(hx:c[k]?=some x)(hf:r1.full=false)(hgo:goL C c k r1=goL C c 0 r0)
  (hg:(fl2=false/\(Zbk C r1 c k x).map Prod.fst=some r2)\/(fl2=true/\(Zbk C r1 c k x).map Prod.fst=none/\r2.full=false)) :
  (fl2=false/\Inv C nr (k+1) r2/\goL C c (k+1) r2=goL C c 0 r0)\/(fl2=true/\goL C c 0 r0=none/\r2.full=false):=by
 rcases hg with ⟨h1,h2⟩ | ⟨h1,h2,h3⟩
 ·obtain⟨p,hp,rfl⟩:=Option.map_eq_some_iff.1 h2
  have hn:=Zst h11 hp
  refine Or.inl ⟨h1,?_,?_⟩
  ·rw [<- hn];exact hI.step hv hp
  ·rw [<- hgo,Zje hx hf hp,hn]
 ·have hs:Zbk C r1 c k x=none:=by
   cases h:Zbk C r1 c k x with
   | none=>rfl
   | some p=>rw [h] at h2;cases h2
  exact Or.inr ⟨h1,by rw [<- hgo,Zjm hx hf hs],h3⟩
theorem Zuq {C:Cx}{nr k n2:Nat}{c:List Ins}{x:Ins}{r0 r1 r2:Rn}{fl2:Bool}(hv:Zp7 C nr c k x)(h11:x.op=11)(hI:Inv C nr k r1)(hx:c[k]?=some x)(hf:r1.full=false)(hgo:goL C c k r1=goL C c 0 r0)
  (hg:(fl2=false/\brL r1 c k x=some (r2,n2))\/(fl2=true/\brL r1 c k x=none/\r2.full=false)) :
  (fl2=false/\Inv C nr n2 r2/\goL C c n2 r2=goL C c 0 r0)\/(fl2=true/\goL C c 0 r0=none/\r2.full=false):=by
 have e:Zbk C r1 c k x=brL r1 c k x:=by unfold Zbk;simp [h11]
 rcases hg with ⟨h1,h2⟩ | ⟨h1,h2,h3⟩
 ·rw [<- e] at h2
  exact Or.inl ⟨h1,hI.step hv h2,by rw [<- hgo,Zje hx hf h2]⟩
 ·rw [<- e] at h2
  exact Or.inr ⟨h1,by rw [<- hgo,Zjm hx hf h2],h3⟩
theorem Zef.of {B:Nat}{S:RrS}{o:Option Rn}{w w':World}{e:Ending}{r1:Rn}{fl:Bool}(h:Zew B S r1 fl w e w')(hg:(fl=false/\o=some r1)\/(fl=true/\o=none/\r1.full=false)):Zef B S o w e w':=by
 obtain⟨V,h1,h2,h3⟩:=h
 exact⟨r1,fl,V,h1,h2,h3,hg⟩
set_option maxHeartbeats 4000000
set_option maxRecDepth 100000
theorem Z6y (B:Nat)(S:RrS)(hS:Zeh S)(V:RrV)(Ai Acs Ac:Option Addr)(ci ccs cc nr:Nat)(c:List Ins)(w:World)(hiv:S.iv=⟨Ai,S.T.init.length,ci⟩)(HI:Zi7 w Ai S.T.init)(hcv:S.cv=⟨Acs,S.T.code.length,ccs⟩)(hrisc:S.C.risc=decide (S.T.arch=2))(hini:∀ x∈S.T.init,x.th=(S.C.th:Int)->0<=x.rg/\x.rg<((Zfz S.C.risc:Nat):Int))(hil:S.T.init.length<=9223372036854775806)(hvr:V.rg=⟨none,0,0⟩)(hnr:nr=Zfz S.C.risc)
  (hth:S.C.th<S.T.code.length) (hcl:c.length<=256) (hcc:c.length<=cc) (bs os:Nat) (hAcs:Acs=some ⟨bs,os,none⟩) (hbs:bs<B) (hcs:w.cell? ⟨bs,os+S.C.th,none⟩=some (.slice Ac c.length cc)) (hc:Zcm w Ac c) (hcB:c≠[]->∀ p,Ac=some p->p.block<B)
  (hval:∀ (k:Nat) (x:Ins),c[k]?=some x->Zp7 S.C nr c k x) (h11:∀ (k:Nat) (x:Ins),c[k]?=some x->x.op=11->S.C.risc=true) (hlnk:S.C.risc=true->(Zfc c).1=0) (hinv:Inv S.C nr 0 (rn0 S.C.risc S.T.init S.C.th)) (hR:Za7 w B S rnE V) :
  Calls Tryz.prog 39 #[.agg #[.int .i64 S.T.arch,.string ⟨S.T.name.toArray⟩,.string ⟨S.T.cycle.toArray⟩,S.iv.v,S.cv.v,.int .i64 S.T.q,.int .i64 S.T.k,.int .i64 S.T.t,.int .i64 S.T.r,.string ⟨S.T.l.toArray⟩,.int .i64 S.T.v,S.kv.v],.agg #[S.lo.v,S.ini.v,V.ev.v,V.br.v,V.ad.v,V.da.v,V.ct.v,S.th.v,S.en.v],.int .i64 (S.C.th:Int)] w (Zef B S (goL S.C c 0 (rn0 S.C.risc S.T.init S.C.th)) w):=by
 have HR:=Zh hR
 have HBG:=Zh (fun w hi h=>Z3d B S V Ai ci w hiv hi hrisc hini hil hvr h)
 obtain⟨r0,hr0⟩:∃ r0,rn0 S.C.risc S.T.init S.C.th=r0:=⟨_,rfl⟩
 rw [hr0] at hinv HBG ⊢
 clear hr0
 have HINV:=Zh hinv
 clear hinv
 have HCV:=Zh hcv
 have HII:=Zh HI
 have HRI:=Zh hrisc
 obtain⟨tc,htc⟩:∃ c,c=#[.int .i64 S.T.arch,.string ⟨S.T.name.toArray⟩,.string ⟨S.T.cycle.toArray⟩,S.iv.v,S.cv.v,.int .i64 S.T.q,.int .i64 S.T.k,.int .i64 S.T.t,.int .i64 S.T.r,.string ⟨S.T.l.toArray⟩,.int .i64 S.T.v,S.kv.v]:=⟨_,rfl⟩
 obtain⟨oc,hoc⟩:∃ c,c=#[S.lo.v,S.ini.v,V.ev.v,V.br.v,V.ad.v,V.da.v,V.ct.v,S.th.v,S.en.v]:=⟨_,rfl⟩
 rw [<- htc,<- hoc]
 have HTC:=Zh htc
 have HOC:=Zh hoc
 clear htc hoc hR hiv HI hcv hrisc hini hvr
 go_enter Tryz.func39,Tryz.ntmps39
 apply wp_seq_k
 intro K hK
 have HK:=Zh hK
 clear hK
 go_wp2_with fail
 refine Zg5 (P:=fun X=>K _ X) w _ _ _ _ _ _ ?_
 intro W b0 b1 b2 hz hbW
 refine HK.out _ _ ?_
 clear HK K
 rw [HTC.out] at b0
 rw [HOC.out] at b1
 have HT:=Zh b0
 have HO:=Zh b1
 have HQ:=Zh b2
 have HBW:=Zh hbW
 clear b0 b1 b2 hbW hz
 repeat (first | ((with_reducible refine Zao ?_);refine Zaw 32 3 w.heap.size rfl rfl HT.out Tryz.underlying32 rfl (by kernel_rfl) rfl ?_) | ((with_reducible refine Zao ?_);refine Zaw 41 4 (w.heap.size+1) rfl rfl HO.out Tryz.underlying41 rfl (by kernel_rfl) rfl ?_) | (go_at_call 101;refine Hid.out ?_) | go_step)
 refine Zh ?_
 refine (HBG.out W (HII.out.below HBW.out) (HR.out.below HBW.out)).mono ?_
 rintro e w1 ⟨V1,rfl,hr1,hk1⟩
 dsimp only
 have HT1:=Zh (hk1.keep _ _ _ HT.out (by decide) (by decide) (by decide))
 have HQ1:=Zh (hk1.keep _ _ _ HQ.out (by decide) (by decide) (by decide))
 have HZ:=Zh (Blk.new w1 121 #[.int .i64 0,.string ⟨#[]⟩,.string ⟨#[]⟩,.slice none 0 0,.slice none 0 0,.int .i64 0,.int .i64 0,.int .i64 0,.int .i64 0,.string ⟨#[]⟩,.int .i64 0,.slice none 0 0,.int .i64 0,.slice none 0 0,.int .u64 0,.slice none 0 0,.slice none 0 0,.slice none 0 0,.slice none 0 0,.slice none 0 0,.slice none 0 0,.slice none 0 0,.slice none 0 0,.slice none 0 0,.bool false,.bool false])
 repeat (first | ((with_reducible refine Zao ?_);refine Zam 121 7 14 w1.heap.size rfl rfl rfl HZ.out (by rfl) (by kernel_rfl) (Zbf _ _ _ _) rfl rfl ?_;refine Hid.out ?_) | go_step)
 refine Zh ?_
 have hal:=Zad w1 (.cells #[.int .i64 0,.string ⟨#[]⟩,.string ⟨#[]⟩,.slice none 0 0,.slice none 0 0,.int .i64 0,.int .i64 0,.int .i64 0,.int .i64 0,.string ⟨#[]⟩,.int .i64 0,.slice none 0 0,.int .i64 0,.slice none 0 0,.int .u64 0,.slice none 0 0,.slice none 0 0,.slice none 0 0,.slice none 0 0,.slice none 0 0,.slice none 0 0,.slice none 0 0,.slice none 0 0,.slice none 0 0,.bool false,.bool false] 121 (0,0))
 have hww:w.heap.size+1+1<w1.heap.size:=HQ1.out.lt
 have HU:=Zh (show Zb0 w ((w1.alloc (.cells #[.int .i64 0,.string ⟨#[]⟩,.string ⟨#[]⟩,.slice none 0 0,.slice none 0 0,.int .i64 0,.int .i64 0,.int .i64 0,.int .i64 0,.string ⟨#[]⟩,.int .i64 0,.slice none 0 0,.int .i64 0,.slice none 0 0,.int .u64 0,.slice none 0 0,.slice none 0 0,.slice none 0 0,.slice none 0 0,.slice none 0 0,.slice none 0 0,.slice none 0 0,.slice none 0 0,.slice none 0 0,.bool false,.bool false] 121 (0,0))).setRow w1.heap.size (rrC S r0 false V1)) B w1.heap.size (w.heap.size+1+1) S r0 false V1 from
  ⟨(hr1.below hal).row HZ.out _,(((Za9.of_below HBW.out HR.out.hB).trans hk1).below' hal HR.out.hB).row HR.out.hB (show w.heap.size<=w1.heap.size by omega) _,HR.out.hB,HZ.out.row _,⟨_,(HQ1.out.go hal).farRow (show w.heap.size+1+1≠w1.heap.size by omega) _,rfl⟩,by omega,by omega,by omega⟩)
 have HT2:=Zh ((HT1.out.go hal).farRow (show w.heap.size≠w1.heap.size by omega) (rrC S r0 false V1))
 clear hal HT HO HQ HZ HT1 HQ1 hr1 hk1 HBW
 generalize ((w1.alloc (.cells #[.int .i64 0,.string ⟨#[]⟩,.string ⟨#[]⟩,.slice none 0 0,.slice none 0 0,.int .i64 0,.int .i64 0,.int .i64 0,.int .i64 0,.string ⟨#[]⟩,.int .i64 0,.slice none 0 0,.int .i64 0,.slice none 0 0,.int .u64 0,.slice none 0 0,.slice none 0 0,.slice none 0 0,.slice none 0 0,.slice none 0 0,.slice none 0 0,.slice none 0 0,.slice none 0 0,.slice none 0 0,.bool false,.bool false] 121 (0,0))).setRow w1.heap.size (rrC S r0 false V1))=W2 at *
 generalize (rrV S r0 false V1:Value)=x14
 generalize (Value.agg #[.int .i64 S.T.arch,.string ⟨S.T.name.toArray⟩,.string ⟨S.T.cycle.toArray⟩,S.iv.v,S.cv.v,.int .i64 S.T.q,.int .i64 S.T.k,.int .i64 S.T.t,.int .i64 S.T.r,.string ⟨S.T.l.toArray⟩,.int .i64 S.T.v,S.kv.v])=x12
 generalize (Value.agg #[S.lo.v,S.ini.v,V.ev.v,V.br.v,V.ad.v,V.da.v,V.ct.v,S.th.v,S.en.v])=x13
 generalize hG:w1.heap.size=G at *
 have t4:W2.cell? ⟨w.heap.size,4,none⟩=some (.slice (some ⟨bs,os,none⟩) S.T.code.length ccs):=by have:=HT2.out.cell 4;rw [this];show some S.cv.v=_;rw [HCV.out,hAcs]
 have tc1:W2.cell? ⟨bs,os+S.C.th,none⟩=some (.slice Ac c.length cc):=Zcv hcs HU.out.keep.below hbs
 have hi1:(0:Int)<=(S.C.th:Int):=by omega
 have hi2:(S.C.th:Int)<(S.T.code.length:Int):=by omega
 have hmk:=fun w=>Zme c.length (by omega) w
 subst hAcs
 have hwz:w.heap.size<W2.heap.size:=HT2.out.lt
 by_cases ha:S.T.arch=2
 ·have t0:W2.cell? ⟨w.heap.size,0,none⟩=some (.int .i64 2):=by rw [<- ha];exact HT2.out.cell 0
  have hri:S.C.risc=true:=by rw [HRI.out,ha];rfl
  have hE:=hlnk hri
  clear hri
  go_wp2_with (go_at_call 102;refine Hid.out ?_)
  refine Zh ?_
  have hal:=Zad W2 (.cells (Zbo (List.replicate c.length 0)) 3 (0,0))
  have HU3:=Zh (HU.out.below hal)
  refine (Zv9 c Ac cc _ hcl (hc.keep hcB HU3.out.keep.below)).mono ?_
  rintro e w4 ⟨hres,hb4⟩
  rcases hres with ⟨hne,_⟩ | ⟨_,Al,cl,rfl,_,hown⟩
  ·exact absurd hE hne
  dsimp only
  have HU4:=Zh (HU3.out.below hb4)
  have HLK:Hid (S.C.risc=true->∃ Bx,Zey.Own 3 Bx w4 (.slice Al c.length cl) (Znh c)):=Zh (fun _=>⟨_,hown⟩)
  clear hown hal hb4 HU HU3 hE t0 t4 tc1 hmk hwz
  go_wp2_with fail
  go_loopw [10] (fun v wr=>∃ k:Nat,k<=c.length/\v=.int .i64 (k:Int)/\∃ (r1:Rn) (fl:Bool) (V2:RrV),Zb0 w wr B G (w.heap.size+1+1) S r1 fl V2/\(S.C.risc=true->∃ Bx,Zey.Own 3 Bx wr (.slice (Al) c.length (cl)) (Znh c))/\((fl=false/\Inv S.C nr k r1/\goL S.C c k r1=goL S.C c 0 r0)\/(fl=true/\goL S.C c 0 r0=none/\r1.full=false))) (fun v _=>c.length - (intOf v).toNat)
  case atStart=>exact⟨0,by omega,rfl,r0,false,V1,HU4.out,HLK.out,Or.inl ⟨rfl,HINV.out,rfl⟩⟩
  case round=>
   obtain⟨k,hk,rfl,r1,fl,V2,hu,hlk,hgo⟩:=hrel
   have HU:=Zh hu
   have HLK2:=Zh hlk
   have HGO:=Zh hgo
   have k24:=hu.blk.cm 24
   have k25:=hu.blk.cm 25
   obtain⟨z,hz,hzs⟩:=hu.out
   clear hu hlk hgo HU4 HINV HLK
   by_cases hend:k<c.length/\fl=false/\r1.full=false
   ·obtain⟨hlt,hf1,hf2⟩:=hend
    have hgo1:Inv S.C nr k r1/\goL S.C c k r1=goL S.C c 0 r0:=by
     rcases HGO.out with ⟨_,h⟩ | ⟨h,_⟩
     ·exact h
     ·rw [hf1] at h;cases h
    have HGI:=Zh hgo1
    subst hf1
    rw [hf2] at k25
    have hki:(k:Int)<(c.length:Int):=by omega
    have hk0:(0:Int)<=(k:Int):=by omega
    obtain⟨x,hx⟩:∃ x,c[k]?=some x:=⟨_,List.getElem?_eq_getElem hlt⟩
    have hins:=hc.keep hcB HU.out.keep.below
    obtain⟨bc,oc,hAc,m0,m1,m2,m3,m4,m5,m6,m7,_⟩:=hins k x hx
    have HX:=Zh hx
    have HIN2:=Zh hins
    clear HGO hgo1 hx hins hz hzs
    by_cases h11x:x.op=11
    ·have hri1:=h11 k x HX.out h11x
     obtain⟨Bx,hlo⟩:=HLK2.out hri1
     obtain⟨A',cap',e,hat,_⟩:=Enc.Own.at_ hlo
     simp only [Value.slice.injEq] at e
     have hlk:(Znh c)[k]?=some ((Zhc c k x:Nat):Int):=by
      unfold Znh
      rw [if_pos (hlnk hri1),List.getElem?_map,List.getElem?_range hlt]
      show some (Zqf c k)=_
      unfold Zqf
      rw [HX.out]
      simp [h11x,Zhc]
     obtain⟨bl,ol,e2,hcl9⟩:=hat k _ hlk
     have l0:wr.cell? ⟨bl,ol+k,none⟩=some (.int .i64 ((Zhc c k x:Nat):Int)):=by have:=hcl9 0 _ rfl;rwa [Nat.mul_one,Nat.add_zero] at this
     have e3:=e.1
     rw [e2] at e3
     subst e3
     have hv:=hval k x HX.out
     obtain⟨d',hd'⟩:=Int.eq_ofNat_of_zero_le hv.d.1
     obtain⟨a',ha'⟩:=Int.eq_ofNat_of_zero_le hv.a.1
     obtain⟨b',hb'⟩:=Int.eq_ofNat_of_zero_le hv.b.1
     obtain⟨oka,hxa⟩:=HGI.out.1.rg hv.a.1 hv.a.2
     obtain⟨okb,hxb⟩:=HGI.out.1.rg hv.b.1 hv.b.2
     have hxe:(⟨x.op,(d':Int),(a':Int),(b':Int),x.imm,x.loc,x.label,x.fence⟩:Ins)=x:=by rw [<- hd',<- ha',<- hb']
     have hxa2:r1.regs[a']?=some (rgA r1 x.a):=by rw [<- hxa,ha',Int.toNat_natCast]
     have hxb2:r1.regs[b']?=some (rgA r1 x.b):=by rw [<- hxb,hb',Int.toNat_natCast]
     have HBRN:=Zh (fun W (h:Za7 W B S r1 V2) (hi:Zcm W Ac c)=>Z1r B S r1 V2 nr k HGI.out.1 hf2 c Ac cc k x.op x.imm x.fence d' a' b' x.loc x.label W hi hcB hcl hcc (by rw [hxe];exact HX.out) (by rw [hxe];exact hv.lab h11x) (rgA r1 x.a) (rgA r1 x.b) hxa2 hxb2 oka okb h)
     rw [hxe] at HBRN
     have HL0:=Zh (show ∀ W,Za9 B wr W->W.cell? ⟨bl,ol+k,none⟩=some (.int .i64 ((Zhc c k x:Nat):Int)) from fun W hkk=>by
      obtain⟨A9,c9,e9,hat9,_⟩:=Enc.Own.at_ (hkk.own hlo (by decide) (by decide) (by decide))
      simp only [Value.slice.injEq] at e9
      obtain⟨b9,o9,e8,hc9⟩:=hat9 k _ hlk
      rw [<- e9.1] at e8
      simp only [Option.some.injEq,Addr.mk.injEq,and_true] at e8
      obtain⟨rfl,rfl⟩:=e8
      have:=hc9 0 _ rfl
      rwa [Nat.mul_one,Nat.add_zero] at this)
     have HGOES:=Zh (fun r2 fl2 n2 (hg:(fl2=false/\brL r1 c k x=some (r2,n2))\/(fl2=true/\brL r1 c k x=none/\r2.full=false))=>Zuq hv h11x HGI.out.1 HX.out hf2 HGI.out.2 hg)
     clear hd' ha' hb' hxe hxa hxb hxa2 hxb2 oka okb hv e2 hat hcl9 e
     subst hAc
     go_wp2_with fail
     refine wz (fun y:World=>Blk y G 121 (rrC S r1 false V2)/\y.cell? ⟨bl,ol+k,none⟩=some (.int .i64 ((Zhc c k x:Nat):Int))) [0,6] ⟨HU.out.drew.blk,l0⟩ (fun hHeld=>?_)
     refine wq 1 ?_
     refine wq 2 ?_
     refine wq 3 ?_
     refine wq 4 ?_
     refine wq 5 ?_
     refine wv 0 ((rrV S r1 false V2)) rfl (fun x' hS=>Za0 rfl rfl (Zeq hS.1)) (by assumption) ?_
     refine wt 6 (by assumption) ?_
     clear hHeld
     refine Zav (i:=7) (by kernel_rfl) rfl (fun K hK=>?_)
     go_simp
     go_at_call 103
     refine (HBRN.out _ HU.out.drew.ref (HIN2.out.below (Below.refl _ _).drew)).mono ?_
     rintro e w5 ⟨r2,fl2,V3,n2,rfl,hr2,hk2,hn1,hn2,hg2⟩
     have hb5:=hk2.keep _ _ _ HU.out.drew.blk (by decide) (by decide) (by decide)
     refine hK.out _ _ ⟨hb5,HL0.out w5 ((Za9.refl B wr).drew.trans hk2)⟩ ?_
     clear hK K
     refine pu ?_
     refine wq 8 ?_
     refine wq 9 ?_
     refine wq 10 ?_
     refine wl 11 ?_
     have HU5:=Zh (HU.out.drew.row (fl':=fl2) hr2 hk2)
     have HG5:=Zh (HGOES.out r2 fl2 n2 hg2)
     have HLK5:Hid (S.C.risc=true->∃ Bx,Zey.Own 3 Bx (w5.setRow G (rrC S r2 fl2 V3)) (.slice (some ⟨bl,ol,none⟩) c.length cl) (Znh c)):=Zh (fun h=>by
      obtain⟨Bx,ho⟩:=HLK2.out h
      exact⟨Bx,Zci (hk2.own (show wr.drew.ownsRow _ _ _ _ _ _ from ho) (by decide) (by decide) (by decide)) hb5 (by decide) _⟩)
     clear hr2 hk2 hg2 HU HBRN HL0 HGOES HGI l0 k24 k25 m0 m1 m2 m3 m4 m5 m6 m7 hlk hlo
     go_wp2_with ((with_reducible refine Zao ?_);refine Zam 121 7 61 G rfl rfl rfl hb5 (by exact rfl) (by kernel_rfl) (Zbf _ _ _ _) rfl rfl ?_)
     go_roundw
     case rel=>exact⟨n2,by omega,by first | rfl | go_num | omega,r2,fl2,V3,HU5.out,HLK5.out,by have h:=HG5.out;first | exact h | simpa using h⟩
     case measure=>simp [intOf];omega
    ·have HST:=Zh (fun W (h:Za7 W B S r1 V2)=>Z3v B S hS HRI.out r1 V2 nr k HGI.out.1 (by rw [hnr];unfold Zfz;split <;> omega) hf2 (by omega) c k x (hval k x HX.out) h11x W h)
     have HGOES:=Zh (fun r2 fl2 (hg:(fl2=false/\(Zbk S.C r1 c k x).map Prod.fst=some r2)\/(fl2=true/\(Zbk S.C r1 c k x).map Prod.fst=none/\r2.full=false))=>Zqy (hval k x HX.out) h11x HGI.out.1 HX.out hf2 HGI.out.2 hg)
     subst hAc
     go_wp2_with fail
     refine wz (fun y:World=>Zb0 w y B G (w.heap.size+1+1) S r1 false V2/\y.cell? ⟨bc,oc+k*8,none⟩=some (.int .i64 x.op)/\y.cell? ⟨bc,oc+k*8+1,none⟩=some (.int .i64 x.d)/\y.cell? ⟨bc,oc+k*8+2,none⟩=some (.int .i64 x.a)/\y.cell? ⟨bc,oc+k*8+3,none⟩=some (.int .i64 x.b)/\y.cell? ⟨bc,oc+k*8+4,none⟩=some (.int .i64 x.imm)/\y.cell? ⟨bc,oc+k*8+5,none⟩=some (.string ⟨x.loc.toArray⟩)/\y.cell? ⟨bc,oc+k*8+6,none⟩=some (.string ⟨x.label.toArray⟩)/\y.cell? ⟨bc,oc+k*8+7,none⟩=some (.int .i64 x.fence)) [0,5] ⟨HU.out.drew,m0,m1,m2,m3,m4,m5,m6,m7⟩ (fun hHeld=>?_)
     refine wq 1 ?_
     refine wq 2 ?_
     refine wq 3 ?_
     refine wq 4 ?_
     refine wv 0 ((rrV S r1 false V2)) rfl (fun x' hS=>Za0 rfl rfl (Zeq hS.1.blk)) (by assumption) ?_
     refine wt 5 (by assumption) ?_
     refine wl 6 ?_
     have HU1:=Zh hHeld.1
     clear hHeld m0 m1 m2 m3 m4 m5 m6 m7 k24 k25
     repeat (first | (go_at_call 104;refine Hid.out ?_) | go_step)
     refine Zh ?_
     refine (HST.out _ HU1.out.ref).mono ?_
     rintro e w5 ⟨r2,fl2,V3,rfl,hr2,hk2,hg2⟩
     dsimp only
     have hb5:=hk2.keep _ _ _ HU1.out.blk (by decide) (by decide) (by decide)
     have HU5:=Zh (HU1.out.row (fl':=fl2) hr2 hk2)
     have HG5:=Zh (HGOES.out r2 fl2 hg2)
     have HLK5:Hid (S.C.risc=true->∃ Bx,Zey.Own 3 Bx (w5.setRow G (rrC S r2 fl2 V3)) (.slice (Al) c.length (cl)) (Znh c)):=Zh (fun h=>by
      obtain⟨Bx,ho⟩:=HLK2.out h
      exact⟨Bx,Zci (hk2.own (show wr.drew.ownsRow _ _ _ _ _ _ from ho) (by decide) (by decide) (by decide)) hb5 (by decide) _⟩)
     clear hr2 hk2 hg2 HU HU1 HST HGOES HGI
     go_wp2_with ((with_reducible refine Zao ?_);refine Zam 121 7 69 G rfl rfl rfl hb5 (by exact rfl) (by kernel_rfl) (Zbf _ _ _ _) rfl rfl ?_)
     go_roundw
     case rel=>exact⟨k+1,by omega,by first | go_num | omega,r2,fl2,V3,HU5.out,HLK5.out,by have h:=HG5.out;first | exact h | simpa using h⟩
     case measure=>simp [intOf];omega
   exact m_6
 ·have t0:W2.cell? ⟨w.heap.size,0,none⟩=some (.int .i64 S.T.arch):=HT2.out.cell 0
  have hri:¬ S.C.risc=true:=by rw [HRI.out];simpa using ha
  go_wp2_with fail
  have hal:=Zad W2 (.cells (Zbo (List.replicate c.length 0)) 3 (0,0))
  have HU4:=Zh (HU.out.below hal)
  have HLK:Hid (S.C.risc=true->∃ Bx,Zey.Own 3 Bx (W2.alloc (.cells (Zbo (List.replicate c.length 0)) 3 (0,0))) (.slice (some ⟨W2.heap.size,0,none⟩) c.length c.length) (Znh c)):=Zh (fun h=>absurd h hri)
  have HNR:=Zh hri
  clear hri hal HU t0 t4 tc1 hmk hwz
  generalize (W2.alloc (.cells (Zbo (List.replicate c.length 0)) 3 (0,0)))=w4 at *
  go_loopw [10] (fun v wr=>∃ k:Nat,k<=c.length/\v=.int .i64 (k:Int)/\∃ (r1:Rn) (fl:Bool) (V2:RrV),Zb0 w wr B G (w.heap.size+1+1) S r1 fl V2/\(S.C.risc=true->∃ Bx,Zey.Own 3 Bx wr (.slice (some ⟨W2.heap.size,0,none⟩) c.length (c.length)) (Znh c))/\((fl=false/\Inv S.C nr k r1/\goL S.C c k r1=goL S.C c 0 r0)\/(fl=true/\goL S.C c 0 r0=none/\r1.full=false))) (fun v _=>c.length - (intOf v).toNat)
  case atStart=>exact⟨0,by omega,rfl,r0,false,V1,HU4.out,HLK.out,Or.inl ⟨rfl,HINV.out,rfl⟩⟩
  case round=>
   obtain⟨k,hk,rfl,r1,fl,V2,hu,hlk,hgo⟩:=hrel
   have HU:=Zh hu
   have HLK2:=Zh hlk
   have HGO:=Zh hgo
   have k24:=hu.blk.cm 24
   have k25:=hu.blk.cm 25
   obtain⟨z,hz,hzs⟩:=hu.out
   clear hu hlk hgo HU4 HINV HLK
   by_cases hend:k<c.length/\fl=false/\r1.full=false
   ·obtain⟨hlt,hf1,hf2⟩:=hend
    have hgo1:Inv S.C nr k r1/\goL S.C c k r1=goL S.C c 0 r0:=by
     rcases HGO.out with ⟨_,h⟩ | ⟨h,_⟩
     ·exact h
     ·rw [hf1] at h;cases h
    have HGI:=Zh hgo1
    subst hf1
    rw [hf2] at k25
    have hki:(k:Int)<(c.length:Int):=by omega
    have hk0:(0:Int)<=(k:Int):=by omega
    obtain⟨x,hx⟩:∃ x,c[k]?=some x:=⟨_,List.getElem?_eq_getElem hlt⟩
    have hins:=hc.keep hcB HU.out.keep.below
    obtain⟨bc,oc,hAc,m0,m1,m2,m3,m4,m5,m6,m7,_⟩:=hins k x hx
    have HX:=Zh hx
    have HIN2:=Zh hins
    clear HGO hgo1 hx hins hz hzs
    by_cases h11x:x.op=11
    ·have hri1:=h11 k x HX.out h11x
     obtain⟨Bx,hlo⟩:=HLK2.out hri1
     obtain⟨A',cap',e,hat,_⟩:=Enc.Own.at_ hlo
     simp only [Value.slice.injEq] at e
     have hlk:(Znh c)[k]?=some ((Zhc c k x:Nat):Int):=by
      unfold Znh
      rw [if_pos (hlnk hri1),List.getElem?_map,List.getElem?_range hlt]
      show some (Zqf c k)=_
      unfold Zqf
      rw [HX.out]
      simp [h11x,Zhc]
     obtain⟨bl,ol,e2,hcl9⟩:=hat k _ hlk
     have l0:wr.cell? ⟨bl,ol+k,none⟩=some (.int .i64 ((Zhc c k x:Nat):Int)):=by have:=hcl9 0 _ rfl;rwa [Nat.mul_one,Nat.add_zero] at this
     have e3:=e.1
     rw [e2] at e3
     exact absurd hri1 HNR.out
    ·have HST:=Zh (fun W (h:Za7 W B S r1 V2)=>Z3v B S hS HRI.out r1 V2 nr k HGI.out.1 (by rw [hnr];unfold Zfz;split <;> omega) hf2 (by omega) c k x (hval k x HX.out) h11x W h)
     have HGOES:=Zh (fun r2 fl2 (hg:(fl2=false/\(Zbk S.C r1 c k x).map Prod.fst=some r2)\/(fl2=true/\(Zbk S.C r1 c k x).map Prod.fst=none/\r2.full=false))=>Zqy (hval k x HX.out) h11x HGI.out.1 HX.out hf2 HGI.out.2 hg)
     subst hAc
     go_wp2_with fail
     refine wz (fun y:World=>Zb0 w y B G (w.heap.size+1+1) S r1 false V2/\y.cell? ⟨bc,oc+k*8,none⟩=some (.int .i64 x.op)/\y.cell? ⟨bc,oc+k*8+1,none⟩=some (.int .i64 x.d)/\y.cell? ⟨bc,oc+k*8+2,none⟩=some (.int .i64 x.a)/\y.cell? ⟨bc,oc+k*8+3,none⟩=some (.int .i64 x.b)/\y.cell? ⟨bc,oc+k*8+4,none⟩=some (.int .i64 x.imm)/\y.cell? ⟨bc,oc+k*8+5,none⟩=some (.string ⟨x.loc.toArray⟩)/\y.cell? ⟨bc,oc+k*8+6,none⟩=some (.string ⟨x.label.toArray⟩)/\y.cell? ⟨bc,oc+k*8+7,none⟩=some (.int .i64 x.fence)) [0,5] ⟨HU.out.drew,m0,m1,m2,m3,m4,m5,m6,m7⟩ (fun hHeld=>?_)
     refine wq 1 ?_
     refine wq 2 ?_
     refine wq 3 ?_
     refine wq 4 ?_
     refine wv 0 ((rrV S r1 false V2)) rfl (fun x' hS=>Za0 rfl rfl (Zeq hS.1.blk)) (by assumption) ?_
     refine wt 5 (by assumption) ?_
     refine wl 6 ?_
     have HU1:=Zh hHeld.1
     clear hHeld m0 m1 m2 m3 m4 m5 m6 m7 k24 k25
     repeat (first | (go_at_call 104;refine Hid.out ?_) | go_step)
     refine Zh ?_
     refine (HST.out _ HU1.out.ref).mono ?_
     rintro e w5 ⟨r2,fl2,V3,rfl,hr2,hk2,hg2⟩
     dsimp only
     have hb5:=hk2.keep _ _ _ HU1.out.blk (by decide) (by decide) (by decide)
     have HU5:=Zh (HU1.out.row (fl':=fl2) hr2 hk2)
     have HG5:=Zh (HGOES.out r2 fl2 hg2)
     have HLK5:Hid (S.C.risc=true->∃ Bx,Zey.Own 3 Bx (w5.setRow G (rrC S r2 fl2 V3)) (.slice (some ⟨W2.heap.size,0,none⟩) c.length (c.length)) (Znh c)):=Zh (fun h=>by
      obtain⟨Bx,ho⟩:=HLK2.out h
      exact⟨Bx,Zci (hk2.own (show wr.drew.ownsRow _ _ _ _ _ _ from ho) (by decide) (by decide) (by decide)) hb5 (by decide) _⟩)
     clear hr2 hk2 hg2 HU HU1 HST HGOES HGI
     go_wp2_with ((with_reducible refine Zao ?_);refine Zam 121 7 69 G rfl rfl rfl hb5 (by exact rfl) (by kernel_rfl) (Zbf _ _ _ _) rfl rfl ?_)
     go_roundw
     case rel=>exact⟨k+1,by omega,by first | go_num | omega,r2,fl2,V3,HU5.out,HLK5.out,by have h:=HG5.out;first | exact h | simpa using h⟩
     case measure=>simp [intOf];omega
   exact m_6
end
abbrev Z3b (V:Zfl):Zsd:=⟨V.lo.v,V.ini.v,V.ev.v,V.br.v,V.ad.v,V.da.v,V.ct.v,V.th.v,V.en.v⟩
theorem Zb5.sl {w:World}{B O:Nat}{L:Zgv}{V:Zsd}(h:Zb5 w B O L V):∃ V':Zfl,V=Z3b V'/\V'.lo.n=L.lo.length/\V'.th.n=L.th.length/\V'.en.n=L.a.ends.length:=by
 obtain⟨lo,ini,ev,br,ad,da,ct,th,en⟩:=V
 obtain⟨s1,h1,n1⟩:=Zee h.lo
 obtain⟨s2,h2,n2,_⟩:=Zl6 h.ini
 obtain⟨s3,h3,n3⟩:=Zee h.ev
 obtain⟨s4,h4,n4⟩:=Zee h.br
 obtain⟨s5,h5,n5⟩:=Zee h.ad
 obtain⟨s6,h6,n6⟩:=Zee h.da
 obtain⟨s7,h7,n7⟩:=Zee h.ct
 obtain⟨s8,h8,n8⟩:=Zee h.th
 obtain⟨s9,h9,n9,_⟩:=Zl6 h.en
 simp only at h1 h2 h3 h4 h5 h6 h7 h8 h9
 subst h1 h2 h3 h4 h5 h6 h7 h8 h9
 exact⟨⟨s1,s2,s3,s4,s5,s6,s7,s8,s9⟩,rfl,n1,n8,n9⟩
theorem Zb5.refAt {w:World}{B O:Nat}{L:Zgv}{V:Zfl}(h:Zb5 w B O L (Z3b V))(hB:B<=w.heap.size){S:RrS}(h0:S.lo=V.lo)(h1:S.C.locs=L.lo)(h2:S.a=L.a) :
  Za7 w B S rnE ⟨⟨none,0,0⟩,V.ev,V.br,V.ad,V.da,V.ct⟩:=by
 refine⟨hB,?_,Enc.Own.nil _ _ _,?_,?_,?_,?_,?_,h.a1,h.a2,h.a3⟩
 ·rw [h0,h1];exact h.lo
 ·show Zp5.Own _ B w V.ev.v (S.a.evs++[])
  rw [List.append_nil,h2];exact h.ev
 ·show Zm2.Own _ B w V.br.v (S.a.bars++[])
  rw [List.append_nil,h2];exact h.br
 ·show Zbg.Own _ B w V.ad.v (S.a.addr++[])
  rw [List.append_nil,h2];exact h.ad
 ·show Zbg.Own _ B w V.da.v (S.a.data++[])
  rw [List.append_nil,h2];exact h.da
 ·show Zbg.Own _ B w V.ct.v (S.a.hang++[])
  rw [List.append_nil,h2];exact h.ct
theorem Za9.heap {B q:Nat}{w w1:World}{t:TypeId}{cs:Array Value}(h:Za9 B w w1)(hb:Blk w q t cs)(h1:t≠50)(h2:t≠79)(h3:t≠52):w1.heap[q]?=w.heap[q]?:=(h.keep q t cs hb h1 h2 h3).trans hb.symm
theorem Za7.setO {w:World}{B q:Nat}{S:RrS}{r:Rn}{V:RrV}(h:Za7 w B S r V){cs:Array Value}(hq:Blk w q 54 cs)(i:Nat)(u:Value):Za7 (w.setCell ⟨q,i,none⟩ u) B S r V:=
 ⟨by simpa [World.setCell] using h.hB,Zaf h.lo hq (by decide) _ _,Zaf h.rg hq (by decide) _ _,Zaf h.ev hq (by decide) _ _,Zaf h.br hq (by decide) _ _,Zaf h.ad hq (by decide) _ _,Zaf h.da hq (by decide) _ _,Zaf h.ct hq (by decide) _ _,h.a1,h.a2,h.a3⟩
structure OfS (w wr:World) (O:Nat) (L:Zgv) (V:Zfl) (tc:Array Value):Prop where
 out:Zb5 wr w.heap.size O L (Z3b V)
 tst:Blk wr w.heap.size 32 tc
 res:Blk wr (w.heap.size+1) 41 #[.slice none 0 0,.slice none 0 0,.slice none 0 0,.slice none 0 0,.slice none 0 0,.slice none 0 0,.slice none 0 0,.slice none 0 0,.slice none 0 0]
 bel:Below w.heap.size w wr
 hO:w.heap.size+1<O
structure Zsj (w wq:World) (O G:Nat) (S:RrS) (r:Rn) (fl:Bool) (V:RrV) (I:List Int) (ths:List Th) (m:List (Int×Int)) (tc:Array Value):Prop where
 ref:Za7 wq w.heap.size S r V
 blk:Blk wq G 121 (rrC S r fl V)
 out:∃ z,Blk wq O 41 z/\z.size=9/\z[7]?=some S.th.v
 ini:Zwz Zey 3 w.heap.size wq S.ini.v I
 en:Zwz Zbg 54 w.heap.size wq S.en.v m
 th:wq.ownsRow w.heap.size 25 3 S.th.v ths.length (Zay ths)
 tst:Blk wq w.heap.size 32 tc
 res:Blk wq (w.heap.size+1) 41 #[.slice none 0 0,.slice none 0 0,.slice none 0 0,.slice none 0 0,.slice none 0 0,.slice none 0 0,.slice none 0 0,.slice none 0 0,.slice none 0 0]
 bel:Below w.heap.size w wq
 hO:w.heap.size+1<O
namespace OfS
variable {w wr w1:World} {O:Nat} {L:Zgv} {V:Zfl} {tc:Array Value}
theorem below (h:OfS w wr O L V tc)(hb:Below wr.heap.size wr w1):OfS w w1 O L V tc:=
 ⟨h.out.below hb,h.tst.go hb,h.res.go hb,Zaa h.bel hb,h.hO⟩
theorem en_ (h:OfS w wr O L V tc){i q n:Nat}(x:Int×Int)(hn:L.a.ends.length=n)(hi:i<n)(hq:V.en=⟨some ⟨q,0,none⟩,n,n⟩) :
  OfS w ((wr.setCell ⟨q,i*2,none⟩ (.int .i64 x.1)).setCell ⟨q,i*2+1,none⟩ (.int .i64 x.2)) O { L with a:={ L.a with ends:=L.a.ends.set i x } } V tc:=by
 subst hn
 have hv:(Z3b V).en=.slice (some ⟨q,0,none⟩) L.a.ends.length L.a.ends.length:=by show V.en.v=_;rw [hq]
 obtain⟨hb,hB⟩:=h.out.en_blk hv
 exact⟨h.out.en_ hi hv,(h.tst.far (Zaz h.tst hb (by decide)) _).far (Zaz h.tst hb (by decide)) _,
  (h.res.far (Zaz h.res hb (by decide)) _).far (Zaz h.res hb (by decide)) _,
  (h.bel.setCell (p:=⟨q,i*2,none⟩) hB _).setCell (p:=⟨q,i*2+1,none⟩) hB _,h.hO⟩
theorem pr_ (h:OfS w wr O L V tc){s:Sl}{l:List (Int×Int)}(ho:Zbg.Own 52 wr.heap.size w1 s.v l)(hb:Below wr.heap.size wr w1) :
  OfS w (w1.setCell ⟨O,4,none⟩ s.v) O { L with a:={ L.a with addr:=l } } { V with ad:=s } tc/\OfS w (w1.setCell ⟨O,5,none⟩ s.v) O { L with a:={ L.a with data:=l } } { V with da:=s } tc/\OfS w (w1.setCell ⟨O,6,none⟩ s.v) O { L with a:={ L.a with hang:=l } } { V with ct:=s } tc:=by
 have hz:=h.bel.size
 have hg:∀ v:Value,Zbn wr w1 w.heap.size v s.v:=fun v=>⟨hb.mono hz,fun i hi _=>hb.block i hi,fun b e=>Or.inr (ho.lt b e).1⟩
 have ho2:=Zdx ho hz
 have ht:=h.tst.go hb
 have hO:=h.hO
 have hr:=h.res.go hb
 have hbl:=Zaa h.bel hb
 have k:∀ i,Blk (w1.setCell ⟨O,i,none⟩ s.v) w.heap.size 32 tc/\Blk (w1.setCell ⟨O,i,none⟩ s.v) (w.heap.size+1) 41 #[.slice none 0 0,.slice none 0 0,.slice none 0 0,.slice none 0 0,.slice none 0 0,.slice none 0 0,.slice none 0 0,.slice none 0 0,.slice none 0 0]/\Below w.heap.size w (w1.setCell ⟨O,i,none⟩ s.v):=fun i=>
  ⟨ht.far (p:=⟨O,i,none⟩) (show w.heap.size≠O by omega) _,hr.far (p:=⟨O,i,none⟩) (show w.heap.size+1≠O by omega) _,hbl.setCell (p:=⟨O,i,none⟩) (show w.heap.size<=O by omega) _⟩
 exact⟨⟨h.out.ad_ (hg _) ho2,(k 4).1,(k 4).2.1,(k 4).2.2,hO⟩,⟨h.out.da_ (hg _) ho2,(k 5).1,(k 5).2.1,(k 5).2.2,hO⟩,⟨h.out.ct_ (hg _) ho2,(k 6).1,(k 6).2.1,(k 6).2.2,hO⟩⟩
theorem ret (h:OfS w wr O L V tc)(u0 u1 u2 u3 u4 u5 u6 u7 u8:Value):∃ V':Zfl,(.agg #[V.lo.v,V.ini.v,V.ev.v,V.br.v,V.ad.v,V.da.v,V.ct.v,V.th.v,V.en.v]:Value)=Zgj V'/\Zc0 (((((((((wr.setCell ⟨w.heap.size+1,0,none⟩ u0).setCell ⟨w.heap.size+1,1,none⟩ u1).setCell ⟨w.heap.size+1,2,none⟩ u2).setCell ⟨w.heap.size+1,3,none⟩ u3).setCell ⟨w.heap.size+1,4,none⟩ u4).setCell ⟨w.heap.size+1,5,none⟩ u5).setCell ⟨w.heap.size+1,6,none⟩ u6).setCell ⟨w.heap.size+1,7,none⟩ u7).setCell ⟨w.heap.size+1,8,none⟩ u8) L V':=
 (h.out.off9 h.res (by have:=h.hO;omega) u0 u1 u2 u3 u4 u5 u6 u7 u8).trc
theorem ran (h:OfS w wr O L V tc){w5:World}{S:RrS}{r:Rn}{fl:Bool}{W:RrV}(hr:Za7 w5 w.heap.size S r W)(hk:Za9 w.heap.size wr w5)(e1:S.ini=V.ini)(e2:S.th=V.th)(e3:S.en=V.en)(z:Array Value) :
  Zsj w ((w5.alloc (.cells z 121 (0,0))).setRow w5.heap.size (rrC S r fl W)) O w5.heap.size S r fl W L.ini L.th L.a.ends tc:=by
 have hal:=Zad w5 (.cells z 121 (0,0))
 have hZ:=Blk.new w5 121 z
 have hz:=hk.size
 have hb0:=h.bel.size
 have hy:=h.res
 have hO1:=hk.keep _ _ _ h.out.blk (by decide) (by decide) (by decide)
 have ht1:=hk.keep _ _ _ h.tst (by decide) (by decide) (by decide)
 have hy1:=hk.keep _ _ _ hy (by decide) (by decide) (by decide)
 have n1:=hO1.lt
 have n2:=ht1.lt
 have n3:=hy1.lt
 refine⟨(hr.below hal).row hZ _,hZ.row _,⟨_,(hO1.go hal).farRow (by omega) _,rfl,by rw [e2];rfl⟩,?_,?_,?_,(ht1.go hal).farRow (by omega) _,(hy1.go hal).farRow (by omega) _,below_setRow ((h.bel.trans hk.below).trans (hal.mono (by omega))) (by omega) _,h.hO⟩
 ·rw [e1]
  exact ((h.out.ini.keep (fun q hq=>hk.heap hq (by decide) (by decide) (by decide))).keep (fun q hq=>hal.block q hq.lt)).keep (fun q hq=>setRow_other _ _ _ _ (Zaz hq hZ (by decide)))
 ·rw [e3]
  exact ((h.out.en.keep (fun q hq=>hk.heap hq (by decide) (by decide) (by decide))).keep (fun q hq=>hal.block q hq.lt)).keep (fun q hq=>setRow_other _ _ _ _ (Zaz hq hZ (by decide)))
 ·rw [e2]
  exact Zci (Zau (hk.own h.out.th (by decide) (by decide) (by decide)) hal) hZ (by decide) _
end OfS
namespace Zsj
variable {w wq w1:World} {O G:Nat} {S:RrS} {r:Rn} {fl:Bool} {V:RrV} {I:List Int} {ths:List Th} {m:List (Int×Int)} {tc:Array Value}
theorem below (h:Zsj w wq O G S r fl V I ths m tc)(hb:Below wq.heap.size wq w1):Zsj w w1 O G S r fl V I ths m tc:=
 ⟨h.ref.below hb,h.blk.go hb,h.out.imp fun _ hz=>⟨hz.1.go hb,hz.2⟩,h.ini.keep (fun _ hq=>hb.block _ hq.lt),h.en.keep (fun _ hq=>hb.block _ hq.lt),Zau h.th hb,h.tst.go hb,h.res.go hb,Zaa h.bel hb,h.hO⟩
theorem en_blk (h:Zsj w wq O G S r fl V I ths m tc){q n:Nat}(hq:S.en=⟨some ⟨q,0,none⟩,n,n⟩):Blk wq q 54 (Zbg.flat m).toArray/\w.heap.size<=q/\m.length=n:=by
 obtain⟨q',e,hb,hB⟩:=h.en
 rw [hq] at e
 simp only [Sl.v,Value.slice.injEq,Option.some.injEq,Addr.mk.injEq,and_true] at e
 obtain⟨rfl,rfl,_⟩:=e
 exact⟨hb,hB,rfl⟩
theorem put (h:Zsj w wq O G S r fl V I ths m tc){i q n:Nat}(x y:Int)(hi:i<n)(hq:S.en=⟨some ⟨q,0,none⟩,n,n⟩) :
  Zsj w ((wq.setCell ⟨q,i*2,none⟩ (.int .i64 x)).setCell ⟨q,i*2+1,none⟩ (.int .i64 y)) O G S r fl V I ths (m.set i (x,y)) tc:=by
 obtain⟨hb,hB,rfl⟩:=h.en_blk hq
 have k0:=hb.set_ (i*2) (.int .i64 x)
 have k1:=k0.set_ (i*2+1) (.int .i64 y)
 rw [Zon m i (x,y) hi] at k1
 exact⟨(h.ref.setO hb _ _).setO k0 _ _,(h.blk.far (Zaz h.blk hb (by decide)) _).far (Zaz h.blk hb (by decide)) _,
  h.out.imp fun _ hz=>⟨(hz.1.far (Zaz hz.1 hb (by decide)) _).far (Zaz hz.1 hb (by decide)) _,hz.2⟩,
  (h.ini.keep (fun _ hq2=>Below.heap_setCell wq _ _ _ (Zaz hq2 hb (by decide)))).keep (fun _ hq2=>Below.heap_setCell _ _ _ _ (Zaz hq2 k0 (by decide))),
  ⟨q,by rw [hq,List.length_set],k1,hB⟩,Zaf (Zaf h.th hb (by decide) _ _) k0 (by decide) _ _,
  (h.tst.far (Zaz h.tst hb (by decide)) _).far (Zaz h.tst hb (by decide)) _,
  (h.res.far (Zaz h.res hb (by decide)) _).far (Zaz h.res hb (by decide)) _,
  (h.bel.setCell (p:=⟨q,i*2,none⟩) hB _).setCell (p:=⟨q,i*2+1,none⟩) hB _,h.hO⟩
theorem fin (h:Zsj w wq O G S r fl V I ths m tc)(ha:S.C.ahead=S.a.evs.length) :
  OfS w (wq.setRow O (Zek ⟨S.lo,S.ini,V.ev,V.br,V.ad,V.da,V.ct,S.th,S.en⟩)) O ⟨S.C.locs,I,ths,Z2v S.a r m⟩ ⟨S.lo,S.ini,V.ev,V.br,V.ad,V.da,V.ct,S.th,S.en⟩ tc:=by
 obtain⟨z,hz,hzs,_⟩:=h.out
 have hO:=h.hO
 have hr:=h.ref
 refine⟨⟨hz.row _,by omega,Zci hr.lo hz (by decide) _,h.ini.keep (fun _ hq2=>setRow_other wq O _ _ (Zaz hq2 hz (by decide))),Zci hr.ev hz (by decide) _,Zci hr.br hz (by decide) _,?_,?_,?_,Zci h.th hz (by decide) _,h.en.keep (fun _ hq2=>setRow_other wq O _ _ (Zaz hq2 hz (by decide))),hr.a1,hr.a2,hr.a3⟩,
  h.tst.farRow (by omega) _,h.res.farRow (by omega) _,below_setRow h.bel (by omega) _,hO⟩
 ·have:=Zci hr.ad hz (by decide) (Zek ⟨S.lo,S.ini,V.ev,V.br,V.ad,V.da,V.ct,S.th,S.en⟩);rw [ha] at this;exact this
 ·have:=Zci hr.da hz (by decide) (Zek ⟨S.lo,S.ini,V.ev,V.br,V.ad,V.da,V.ct,S.th,S.en⟩);rw [ha] at this;exact this
 ·have:=Zci hr.ct hz (by decide) (Zek ⟨S.lo,S.ini,V.ev,V.br,V.ad,V.da,V.ct,S.th,S.en⟩);rw [ha] at this;exact this
end Zsj
theorem Zb5.enS {w:World}{B O:Nat}{L:Zgv}{V:Zfl}(h:Zb5 w B O L (Z3b V)):∃ q,V.en=⟨some ⟨q,0,none⟩,L.a.ends.length,L.a.ends.length⟩:=by
 obtain⟨q,e,_,_⟩:=h.en
 obtain⟨_,_,_,_,_,_,_,_,⟨A,n,c⟩⟩:=V
 simp only [Sl.v,Value.slice.injEq] at e
 obtain⟨rfl,rfl,rfl⟩:=e
 exact⟨q,rfl⟩
theorem Z43 {α:Type}{E:Enc α}{t:TypeId}{w:World}{B:Nat}{s:Sl}{l:List α}(h:E.Own t B w s.v l):s=⟨s.A,l.length,s.c⟩:=by
 have:=Zpw h
 obtain⟨A,n,c⟩:=s
 simp only at this
 subst this
 rfl
theorem Zqc (s:Sl)(l:List (Int×Int))(B:Nat)(w:World)(h:Zbg.Own 52 B w s.v l)(hl:l.length<=1000000) :
  Calls Tryz.prog 41 #[s.v] w fun e w'=>∃ s':Sl,e=.returned s'.v/\Zbg.Own 52 w.heap.size w' s'.v (Zf2 l)/\Below w.heap.size w w':=by
 obtain⟨s',e1,e2,hat⟩:=Zg3 h
 have e3:=Z43 h
 obtain⟨A,n,c⟩:=s
 obtain⟨A',n',c'⟩:=s'
 simp only [Sl.v,Value.slice.injEq] at e1
 obtain⟨rfl,rfl,rfl⟩:=e1
 simp only at e2
 subst e2
 exact Z01 A c l w hat hl
theorem Zpa.fin {k:Nat}{a' a:Tr}(h:Zpa k a' a)(m:List (Int×Int)):(⟨a'.evs,a'.bars,Zf2 a'.addr,Zf2 a'.data,Zf2 a'.hang,m⟩:Tr)={ a with ends:=m }:=by
 rw [h.evs,h.bars,h.addr,h.data,h.hang]
abbrev rrS (T:Tst)(Ai:Option Addr)(bs os ci cc:Nat)(A0:Option Addr)(l0 q0 k:Nat)(V:Zfl)(a':Tr):RrS:=⟨T,⟨Ai,T.init.length,ci⟩,⟨some ⟨bs,os,none⟩,T.code.length,cc⟩,⟨A0,l0,q0⟩,⟨k,isR T,a'.evs.length,Zas T⟩,V.lo,V.ini,V.th,V.en,a'⟩
theorem Z6g {T:Tst}(hE:Za5 T=0){Ai:Option Addr}{bs os ci cc l0 q0 k nt O:Nat}{A0:Option Addr}{c:List Ins}{a' a:Tr}{V:Zfl}{w y:World}{I:List Int}{ths:List Th}{tc:Array Value}
  (hT:Zb4 w T Ai (some ⟨bs,os,none⟩) (.slice A0 l0 q0)) (hc:T.code[k]?=some c) (hraw:Zpa k a' a) (hok:Zwp nt k a) (hof:OfS w y O ⟨Zas T,I,ths,a'⟩ V tc) :
  Calls Tryz.prog 39 #[.agg #[.int .i64 T.arch,.string ⟨T.name.toArray⟩,.string ⟨T.cycle.toArray⟩,.slice Ai T.init.length ci,.slice (some ⟨bs,os,none⟩) T.code.length cc,.int .i64 T.q,.int .i64 T.k,.int .i64 T.t,.int .i64 T.r,.string ⟨T.l.toArray⟩,.int .i64 T.v,.slice A0 l0 q0],.agg (Zek V),.int .i64 (k:Int)] y
   (Zef w.heap.size (rrS T Ai bs os ci cc A0 l0 q0 k V a') (goL ⟨k,isR T,a'.evs.length,Zas T⟩ c 0 (rn0 (isR T) T.init k)) y):=by
 obtain⟨hk,_⟩:=List.getElem?_eq_some_iff.1 hc
 obtain⟨_,hlo,_,hcod,_⟩:=Zbe hE
 obtain⟨h16,_,hthr⟩:=Zco hcod
 obtain⟨b,o,A2,c2,e,hc0,hins,_,hcc⟩:=hT.code k c hc
 simp only [Option.some.injEq,Addr.mk.injEq,and_true] at e
 obtain⟨rfl,rfl⟩:=e
 have hbs:bs<w.heap.size:=World.block_lt_of_cell? w _ hc0
 have hbel:=hof.bel
 have l1:=hraw.n1
 have l2:=hraw.n2
 have l3:=hraw.n3
 have l4:=hok.bars
 have l5:=hok.evs
 have l6:a'.bars.length=a.bars.length:=by rw [hraw.bars]
 have l7:a'.evs.length=a.evs.length:=by rw [hraw.evs]
 have hS:Zeh (rrS T Ai bs os ci cc A0 l0 q0 k V a'):=⟨rfl,by show a'.addr.length<=_;omega,by show a'.data.length<=_;omega,by show a'.hang.length<=_;omega,by show a'.bars.length<=_;omega,hlo⟩
 exact Z6y w.heap.size (rrS T Ai bs os ci cc A0 l0 q0 k V a') hS ⟨⟨none,0,0⟩,V.ev,V.br,V.ad,V.da,V.ct⟩ Ai (some ⟨bs,os,none⟩) A2 ci cc c2 (Zfz (isR T)) c y rfl (hT.below hbel).init rfl rfl
  (fun x hx hth=>((Znu hE hx).reg (by simp only at hth;omega)).2.1) hT.ilen rfl rfl hk (hthr k c hc).1 hcc bs os rfl hbs (Zac hc0 hbel) (hins.below hbel)
  (fun hne p hp=>by
    obtain⟨x,hx⟩:∃ x,c[0]?=some x:=⟨_,List.getElem?_eq_getElem (List.length_pos_iff.2 hne)⟩
    obtain⟨b,o,e,h0,_⟩:=hins 0 x hx
    rw [hp] at e
    cases e
    exact World.block_lt_of_cell? w _ h0)
  (fun j x hx=>Zit hE rfl hc hx) (fun j x hx h11=>Z1h hE hc hx h11) (fun hr=>Z4m hE hc hr) (Z26 hE rfl (by show a'.evs.length<=64;omega) k)
  (hof.out.refAt hof.bel.size rfl rfl rfl)
section
set_option maxHeartbeats 4000000
set_option maxRecDepth 100000
theorem Zvr (a b:Int)(w:World)(h1:0<=a/\a<16)(h2:0<=b/\b<256):Calls Tryz.prog 110 #[.int .i64 a,.int .i64 b] w fun e w'=>e=.returned (.bool true)/\w=w':=by
 obtain⟨h1a,h1b⟩:=h1
 obtain⟨h2a,h2b⟩:=h2
 go_enter Tryz.func110,Tryz.ntmps110
 go_wp2_with fail
 go_ret
 exact⟨rfl,rfl⟩
theorem Zxo (L:Zgv)(V:Zfl)(w:World)(h:Zc0 w L V)(G:Ziw L):Calls Tryz.prog 57 #[Zgj V] w fun e w'=>e=.returned (.bool true)/\Below w.heap.size w w':=by
 obtain⟨⟨Al,nl,cl⟩,⟨Ai,ni,ci⟩,⟨Ae,ne,ce⟩,⟨Ab,nb,cb⟩,⟨Aa,na,ca⟩,⟨Ad,nd,cd⟩,⟨Ac,nc,cc⟩,⟨At,nt,ct⟩,⟨Ax,nx,cx⟩⟩:=V
 simp only [Zgj,Sl.v]
 have HT:=Zh h
 have hn1:=Zh (show nl=L.lo.length from h.nlo)
 have hn2:=Zh (show ni=L.ini.length from h.nini)
 have hn3:=Zh (show ne=L.a.evs.length from h.nev)
 have hn4:=Zh (show nb=L.a.bars.length from h.nbr)
 have hn8:=Zh (show nt=L.th.length from h.nth)
 have hn9:=Zh (show nx=L.a.ends.length from h.nen)
 have HB0:=Zh (Zad w (.cells #[.slice Al nl cl,.slice Ai ni ci,.slice Ae ne ce,.slice Ab nb cb,.slice Aa na ca,.slice Ad nd cd,.slice Ac nc cc,.slice At nt ct,.slice Ax nx cx] 41 (0,0)))
 have HTB:=Zh (Blk.new w 41 #[.slice Al nl cl,.slice Ai ni ci,.slice Ae ne ce,.slice Ab nb cb,.slice Aa na ca,.slice Ad nd cd,.slice Ac nc cc,.slice At nt ct,.slice Ax nx cx])
 have hl1:nl<=64:=by rw [hn1.out];exact G.nlo
 have hl2:ni=nl:=by rw [hn1.out,hn2.out];exact G.nini
 have HG:=Zh G
 subst hl2
 clear h G
 go_enter Tryz.func57,Tryz.ntmps57
 go_wp2_with fail
 go_loopw [21] (fun v wr=>∃ i:Nat,i<=ni/\v=.int .i64 i/\Below w.heap.size w wr/\Blk wr w.heap.size 41 #[.slice Al ni cl,.slice Ai ni ci,.slice Ae ne ce,.slice Ab nb cb,.slice Aa na ca,.slice Ad nd cd,.slice Ac nc cc,.slice At nt ct,.slice Ax nx cx]) (fun v _=>ni - (intOf v).toNat)
 case atStart=>exact⟨0,Nat.zero_le _,rfl,HB0.out,HTB.out⟩
 case round=>
  obtain⟨i,hi,rfl,hb,ht⟩:=hrel
  have HB:=Zh hb
  have HK:=Zh ht
  have k0:wr.cell? ⟨w.heap.size,0,none⟩=some (.slice Al ni cl):=ht.cell 0
  have k1:wr.cell? ⟨w.heap.size,1,none⟩=some (.slice Ai ni ci):=ht.cell 1
  have hii:(0:Int)<=(i:Int):=by omega
  clear hb ht HB0 HTB
  by_cases hlt:i<ni
  ·have hij:(i:Int)<(ni:Int):=by omega
   obtain⟨x,hx⟩:∃ x,L.lo[i]?=some x:=⟨_,List.getElem?_eq_getElem (by rw [<- hn1.out];omega)⟩
   obtain⟨y,hy⟩:∃ y,L.ini[i]?=some y:=⟨_,List.getElem?_eq_getElem (by rw [<- hn2.out];omega)⟩
   obtain⟨b,o,eA,hc⟩:=HT.out.lo i x hx
   simp only at eA
   subst eA
   obtain⟨b2,o2,eA,hc2⟩:=HT.out.ini i y hy
   simp only at eA
   subst eA
   have c0:wr.cell? ⟨b,o+i,none⟩=some (.string ⟨x.toArray⟩):=Zac (by have:=hc 0 _ rfl;rwa [show o+i*Zcx.size+0=o+i by show o+i*1+0=o+i;omega] at this) HB.out
   have c1:wr.cell? ⟨b2,o2+i,none⟩=some (.int .i64 y):=Zac (by have:=hc2 0 _ rfl;rwa [show o2+i*Zey.size+0=o2+i by show o2+i*1+0=o2+i;omega] at this) HB.out
   have hnm:=HG.out.name x (List.mem_of_getElem? hx)
   have HNM:=Zh (fun (y:World)=>show Calls Tryz.prog 108 #[.string ⟨x.toArray⟩] y fun e w'=>e=.returned (.bool true)/\y=w' by
    have h1:x.length<=9223372036854775807:=by have:=Zyy hnm;omega
    have:=Z53 ⟨x.toArray⟩ y (show x.toArray.size<=_ by simpa using h1)
    rw [show (ByteArray.mk x.toArray).data.toList=x from rfl,hnm] at this
    exact this)
   have hnu:=HG.out.num y (List.mem_of_getElem? hy)
   have HNU:=Zh (fun (z:World)=>show Calls Tryz.prog 109 #[.int .i64 y] z fun e w'=>e=.returned (.bool true)/\z=w' by
    have:=Z6h z y
    rw [hnu] at this
    exact this)
   by_cases h0:i=0
   ·subst h0
    simp only [Nat.add_zero] at c0 c1
    clear hc hc2 hx hy hnm hnu hii
    go_wp2_with first | (go_at_call 108;refine (HNM.out _).mono ?_;rintro e w' ⟨rfl,rfl⟩) | (go_at_call 109;refine (HNU.out _).mono ?_;rintro e w' ⟨rfl,rfl⟩)
    go_roundw
    case rel=>exact⟨0+1,by omega,by go_num,HB.out,HK.out⟩
    case measure=>simp [intOf];omega
   ·obtain⟨j,hji⟩:∃ j,i=j+1:=⟨i - 1,by omega⟩
    obtain⟨x',hx'⟩:∃ x,L.lo[j]?=some x:=⟨_,List.getElem?_eq_getElem (by rw [<- hn1.out];omega)⟩
    have hls:Op.bytesLess x' x=true:=by rw [Zgh];exact Zvm HG.out.str hx' (by rw [<- hji];exact hx)
    have hc':=HT.out.lo j x' hx'
    obtain⟨b3,o3,eA,hc3⟩:=hc'
    simp only [Option.some.injEq,Addr.mk.injEq,and_true] at eA
    obtain⟨rfl,rfl⟩:=eA
    have c2:wr.cell? ⟨b,o+j,none⟩=some (.string ⟨x'.toArray⟩):=Zac (by have:=hc3 0 _ rfl;rwa [show o+j*Zcx.size+0=o+j by show o+j*1+0=o+j;omega] at this) HB.out
    have hjj:(0:Int)<(i:Int):=by omega
    have hjm:(i:Int) - 1=(j:Int):=by omega
    have hj0:(0:Int)<=(j:Int):=by omega
    have hjl:(j:Int)<(ni:Int):=by omega
    clear hji hc hc2 hc3 hx hy hx' hnm hnu
    go_wp2_with first | (go_at_call 108;refine (HNM.out _).mono ?_;rintro e w' ⟨rfl,rfl⟩) | (go_at_call 109;refine (HNU.out _).mono ?_;rintro e w' ⟨rfl,rfl⟩)
    go_roundw
    case rel=>exact⟨i+1,by omega,by go_num,HB.out,HK.out⟩
    case measure=>simp [intOf];omega
  ·have hij:¬ (i:Int)<(ni:Int):=by omega
   go_wp2_with fail
   go_ret
   exact⟨rfl,HB.out⟩
end
end Go.Proofs.YtoegmdnfbemppaaGreatDoor
