/- - -/
import Derived.Test.YtoegmdnfbemppaaGreatDoorTf37

namespace Go.Proofs.YtoegmdnfbemppaaGreatDoor
open Go.RowKit
section
theorem Zhd {w:World}{B b:Nat}{t:TypeId}{z n:Nat}{v:Value}{xs:List Value}(h:w.ownsRow B t z v n xs)(hb:v.ownBlock=some b)(i:Nat)(u:Value):(w.setCell ⟨b,i,none⟩ u).ownsRow B t z v n (xs.set i u):=by
 obtain⟨h1,h2⟩:=h
 refine⟨by rw [List.length_set];exact h1,?_⟩
 rcases h2 with ⟨rfl,_⟩ | ⟨g,cap,cur,rfl,hg,hh,hnc,hcm,hcs,ht⟩
 ·simp [Value.ownBlock] at hb
 ·simp only [Value.ownBlock,Option.some.injEq] at hb
  subst hb
  refine Or.inr ⟨g,cap,cur.setIfInBounds i u,rfl,hg,Blk.set_ hh i u,hnc,hcm,by simpa using hcs,?_⟩
  rw [Array.toList_setIfInBounds,<- ht,List.take_set]
theorem Zie {w:World}{B:Nat}{t:TypeId}{z n:Nat}{v:Value}{xs:List Value}(h:w.ownsRow B t z v n xs)(hn:0<n):∃ b cap,v=.slice (some ⟨b,0,none⟩) n cap/\B<=b:=by
 rcases h.2 with ⟨_,h2⟩ | ⟨g,cap,cur,rfl,hg,_⟩
 ·omega
 ·exact⟨g,cap,rfl,hg⟩
theorem Ztz (f:Nat)(l:List Rg)(i:Nat)(x:Rg)(h:i<l.length):(((((Zdi f).flat l).set (i*4) (.int .i64 (Zax x.h))).set (i*4+1) (.int .i64 (Zb8 f x.h))).set (i*4+2) (.string ⟨(Zb7 x.h).toArray⟩)).set (i*4+3) (.int .u64 ((x.on<<<f:Nat):Int))=(Zdi f).flat (l.set i x):=by
 apply List.ext_getElem?
 intro m
 have hl:((Zdi f).flat l).length=l.length*4:=(Zdi f).flat_len l
 have hi:i*4+4<=l.length*4:=by omega
 rw [Zeu (Zdi f) l i x m h]
 simp only [List.getElem?_set]
 show _=if i*4<=m/\m<i*4+4 then _ else _
 by_cases hm:i*4<=m/\m<i*4+4
 ·rw [if_pos hm]
  have hc:m=i*4\/m=i*4+1\/m=i*4+2\/m=i*4+3:=by omega
  rcases hc with rfl | rfl | rfl | rfl
  ·simp [hl];omega
  ·simp [hl];omega
  ·simp [hl];omega
  ·simp [hl];omega
 ·rw [if_neg hm]
  simp [show ¬ i*4=m by omega,show ¬ i*4+1=m by omega,show ¬ i*4+2=m by omega,show ¬ i*4+3=m by omega]
theorem Zge {f:Nat}{w:World}{B b:Nat}{v:Value}{l:List Rg}(h:(Zdi f).Own 125 B w v l)(hb:v.ownBlock=some b){i:Nat}(hi:i<l.length)(x:Rg) :
  (Zdi f).Own 125 B ((((w.setCell ⟨b,i*4,none⟩ (.int .i64 (Zax x.h))).setCell ⟨b,i*4+1,none⟩ (.int .i64 (Zb8 f x.h))).setCell ⟨b,i*4+2,none⟩ (.string ⟨(Zb7 x.h).toArray⟩)).setCell ⟨b,i*4+3,none⟩ (.int .u64 ((x.on<<<f:Nat):Int))) v (l.set i x):=by
 have k:=Zhd (Zhd (Zhd (Zhd h hb (i*4) (.int .i64 (Zax x.h))) hb (i*4+1) (.int .i64 (Zb8 f x.h))) hb (i*4+2) (.string ⟨(Zb7 x.h).toArray⟩)) hb (i*4+3) (.int .u64 ((x.on<<<f:Nat):Int))
 unfold Enc.Own
 rw [List.length_set,<- Ztz f l i x hi]
 exact k
theorem Zhr {f:Nat}{w:World}{B b n cap:Nat}{l:List Rg}(h:(Zdi f).Own 125 B w (.slice (some ⟨b,0,none⟩) n cap) l){i:Nat}(hi:i<l.length):w.there b (i*4) 4:=fun j hj=>by
 obtain⟨cur,hc,_⟩:=Zgt h rfl
 have hB:Blk w b 125 cur:=hc
 refine⟨?_,hB.frozen _⟩
 obtain⟨A,cap',e,hat,_⟩:=Enc.Own.at_ h
 simp only [Value.slice.injEq] at e
 obtain⟨b',o,e2,hcs⟩:=hat i _ (List.getElem?_eq_getElem hi)
 rw [<- e.1] at e2
 simp only [Option.some.injEq,Addr.mk.injEq,and_true] at e2
 obtain⟨rfl,rfl⟩:=e2
 have hl:((Zdi f).enc l[i]).length=4:=(Zdi f).len _
 have:=hcs j _ (List.getElem?_eq_getElem (by rw [hl];exact hj))
 rw [Nat.zero_add] at this
 rw [show i*4+j=i*(Zdi f).size+j from rfl,this]
 rfl
theorem Za7.rgAt {w:World}{B:Nat}{S:RrS}{r:Rn}{V:RrV}(h:Za7 w B S r V)(hl:0<r.regs.length):∃ q0 cp,V.rg.v=.slice (some ⟨q0,0,none⟩) r.regs.length cp/\(Zdi S.C.ahead).At w (some ⟨q0,0,none⟩) r.regs:=by
 obtain⟨q0,cp,hvr,_⟩:=Zie h.rg hl
 refine⟨q0,cp,hvr,?_⟩
 obtain⟨A,cap,e,hat,_⟩:=Enc.Own.at_ h.rg
 rw [hvr] at e
 simp only [Value.slice.injEq] at e
 rw [e.1];exact hat
theorem Za7.loAt {w:World}{B:Nat}{S:RrS}{r:Rn}{V:RrV}(h:Za7 w B S r V):Zcx.At w S.lo.A S.C.locs/\S.lo.n=S.C.locs.length:=by
 obtain⟨A,cap,e,hat,_⟩:=Enc.Own.at_ h.lo
 simp only [Sl.v,Value.slice.injEq] at e
 rw [e.1]
 exact⟨hat,e.2.1⟩
set_option maxHeartbeats 4000000
set_option maxRecDepth 100000
theorem Z23 (B:Nat)(S:RrS)(hrisc:S.C.risc=decide (S.T.arch=2))(r:Rn)(V:RrV)(d:Nat)(x:Rg)(w:World)(hR:Za7 w B S r V)(hd:d<r.regs.length)(hl:r.regs.length<=32) :
  Calls Tryz.prog 173 #[rrV S r false V,.int .i64 (d:Int),Za3 S.C.ahead x] w (Zew B S (Zgr S.C r (d:Int) x) false w):=by
 have HR:=Zh hR
 obtain⟨c,hc⟩:∃ c,c=rrC S r false V:=⟨_,rfl⟩
 rw [show rrV S r false V=.agg c by rw [hc]]
 have HC:=Zh hc
 clear hc
 simp only [Za3]
 by_cases hz:S.C.risc=true/\(d:Int)=0
 ·have HV:=Zh (show Zgr S.C r (d:Int) x=r from if_pos hz)
  have ha:S.T.arch=2:=by have:=hrisc.symm.trans hz.1;simpa using this
  obtain⟨_,hz2⟩:=hz
  have hd0:d=0:=by omega
  subst hd0
  rw [HV.out]
  clear hR
  go_enter Tryz.func173,Tryz.ntmps173
  apply wp_seq_k
  intro K hK
  have HK:=Zh hK
  clear hK
  go_wp2_with fail
  refine Zg5 (P:=fun X=>K _ X) w _ _ _ _ _ _ ?_
  intro W b0 b1 b2 hz hbW
  refine HK.out _ _ ?_
  clear HK K
  rw [HC.out] at b0
  have HU:Hid (Zb0 w W B w.heap.size (w.heap.size+1+1) S r false V):=Zh ⟨HR.out.below hbW,Za9.of_below hbW HR.out.hB,HR.out.hB,b0,⟨_,b2,rfl⟩,Nat.le_refl _,by omega,by omega⟩
  have HE:=Zh b1
  have hzW:w.heap.size<W.heap.size:=by omega
  clear b0 b1 b2 hbW hz HC
  have k0:W.cell? ⟨w.heap.size,0,none⟩=some (.int .i64 2):=by rw [<- ha];exact HU.out.blk.cell 0
  repeat (first | ((with_reducible refine Zfp ?_);refine Zch Tryz.f173 3 6 16 rfl rfl rfl rfl rfl rfl rfl HU.out rfl rfl (by decide) (of_decide_eq_true rfl) rfl (fun _ _ h=>h)) | go_step)
 ·have HV:=Zh (show Zgr S.C r (d:Int) x={ r with regs:=r.regs.set d x } by unfold Zgr;rw [if_neg hz];simp)
  rw [HV.out]
  clear hR
  have hor:(d:Int)≠0\/S.T.arch≠2:=by
   by_cases h0:(d:Int)=0
   ·exact Or.inr fun ha=>hz ⟨by rw [hrisc];simpa using ha,h0⟩
   ·exact Or.inl h0
  clear hz hrisc
  go_enter Tryz.func173,Tryz.ntmps173
  apply wp_seq_k
  intro K hK
  have HK:=Zh hK
  clear hK
  go_wp2_with fail
  refine Zg5 (P:=fun X=>K _ X) w _ _ _ _ _ _ ?_
  intro W b0 b1 b2 hz hbW
  refine HK.out _ _ ?_
  clear HK K
  rw [HC.out] at b0
  have HU:Hid (Zb0 w W B w.heap.size (w.heap.size+1+1) S r false V):=Zh ⟨HR.out.below hbW,Za9.of_below hbW HR.out.hB,HR.out.hB,b0,⟨_,b2,rfl⟩,Nat.le_refl _,by omega,by omega⟩
  have HE:=Zh b1
  have hzW:w.heap.size<W.heap.size:=by omega
  clear b0 b1 b2 hbW hz HC
  obtain⟨q0,cp,hvr,hqB⟩:=Zie HU.out.ref.rg (show 0<r.regs.length by omega)
  have hat:(Zdi S.C.ahead).At W (some ⟨q0,0,none⟩) r.regs:=by
   obtain⟨A,cap,e,hat,_⟩:=Enc.Own.at_ HU.out.ref.rg
   rw [hvr] at e
   simp only [Value.slice.injEq] at e
   rw [e.1];exact hat
  have HAT:=Zh hat
  have k0:=HU.out.blk.cm 0
  have k13:W.cell? ⟨w.heap.size,13,none⟩=some (.slice (some ⟨q0,0,none⟩) r.regs.length cp):=by rw [<- hvr];exact HU.out.blk.cell 13
  have hi1:(0:Int)<=(d:Int):=by omega
  have hi2:(d:Int)<(r.regs.length:Int):=by omega
  clear hat hvr
  by_cases ha:S.T.arch=2
  ·have hd1:¬ (d:Int)=0:=hor.resolve_right (fun h=>h ha)
   rw [ha] at k0
   go_wp2_with (at_builtin;refine Hid.out ?_)
   exact m_9
  ·go_wp2_with (at_builtin;refine Hid.out ?_)
   exact m_9
def atK (C:Cx):Zd6->Int
 | .adr s=>((C.locs.idxOf s:Nat):Int)
 | _=>-1
theorem atR (B:Nat)(S:RrS)(r:Rn)(V:RrV)(a:Nat)(xa:Rg)(w:World)(hR:Za7 w B S r V)(hxa:r.regs[a]?=some xa)(few:S.C.locs.length<=64)(hadr:∀ s,xa.h=.adr s->s∈S.C.locs) :
  Calls Tryz.prog 174 #[rrV S r false V,.int .i64 (a:Int)] w fun e w'=>e=.returned (.int .i64 (atK S.C xa.h))/\Below w.heap.size w w':=by
 have HR:=Zh hR
 have hal:=(List.getElem?_eq_some_iff.1 hxa).1
 obtain⟨h,oa⟩:=xa
 obtain⟨c,hc⟩:∃ c,c=rrC S r false V:=⟨_,rfl⟩
 rw [show rrV S r false V=.agg c by rw [hc]]
 have HC:=Zh hc
 clear hc
 clear hR
 cases h with
 | num n=>
  go_enter Tryz.func174,Tryz.ntmps174
  apply wp_seq_k
  intro K hK
  have HK:=Zh hK
  clear hK
  go_wp2_with fail
  refine Z25 (P:=fun X=>K _ X) w _ _ ?_
  intro W b0 hz hbW
  refine HK.out _ _ ?_
  clear HK K
  rw [HC.out] at b0
  have HG:=Zh b0
  have HBW:=Zh hbW
  have hzW:w.heap.size<W.heap.size:=by omega
  clear b0 hbW hz HC
  obtain⟨q0,cp,hvr,hat⟩:=(HR.out.below HBW.out).rgAt (show 0<r.regs.length by omega)
  have k13:W.cell? ⟨w.heap.size,13,none⟩=some (.slice (some ⟨q0,0,none⟩) r.regs.length cp):=by rw [<- hvr];exact HG.out.cell 13
  obtain⟨p,o,e,hc⟩:=hat a _ hxa
  simp only [Option.some.injEq,Addr.mk.injEq,and_true] at e
  obtain⟨rfl,rfl⟩:=e
  have c0:W.cell? ⟨q0,a*4,none⟩=some (.int .i64 1):=by have:=hc 0 _ rfl;rwa [Nat.zero_add] at this
  have c2:W.cell? ⟨q0,a*4+2,none⟩=some (.string ⟨#[]⟩):=by have:=hc 2 _ rfl;rwa [Nat.zero_add] at this
  have hi1:(0:Int)<=(a:Int):=by omega
  have hi2:(a:Int)<(r.regs.length:Int):=by omega
  clear hvr hat hc
  clear c2 hadr hxa
  go_wp2_with fail
  go_ret
  exact⟨rfl,HBW.out⟩
 | rd n=>
  go_enter Tryz.func174,Tryz.ntmps174
  apply wp_seq_k
  intro K hK
  have HK:=Zh hK
  clear hK
  go_wp2_with fail
  refine Z25 (P:=fun X=>K _ X) w _ _ ?_
  intro W b0 hz hbW
  refine HK.out _ _ ?_
  clear HK K
  rw [HC.out] at b0
  have HG:=Zh b0
  have HBW:=Zh hbW
  have hzW:w.heap.size<W.heap.size:=by omega
  clear b0 hbW hz HC
  obtain⟨q0,cp,hvr,hat⟩:=(HR.out.below HBW.out).rgAt (show 0<r.regs.length by omega)
  have k13:W.cell? ⟨w.heap.size,13,none⟩=some (.slice (some ⟨q0,0,none⟩) r.regs.length cp):=by rw [<- hvr];exact HG.out.cell 13
  obtain⟨p,o,e,hc⟩:=hat a _ hxa
  simp only [Option.some.injEq,Addr.mk.injEq,and_true] at e
  obtain⟨rfl,rfl⟩:=e
  have c0:W.cell? ⟨q0,a*4,none⟩=some (.int .i64 3):=by have:=hc 0 _ rfl;rwa [Nat.zero_add] at this
  have c2:W.cell? ⟨q0,a*4+2,none⟩=some (.string ⟨#[]⟩):=by have:=hc 2 _ rfl;rwa [Nat.zero_add] at this
  have hi1:(0:Int)<=(a:Int):=by omega
  have hi2:(a:Int)<(r.regs.length:Int):=by omega
  clear hvr hat hc
  clear c2 hadr hxa
  go_wp2_with fail
  go_ret
  exact⟨rfl,HBW.out⟩
 | non=>
  go_enter Tryz.func174,Tryz.ntmps174
  apply wp_seq_k
  intro K hK
  have HK:=Zh hK
  clear hK
  go_wp2_with fail
  refine Z25 (P:=fun X=>K _ X) w _ _ ?_
  intro W b0 hz hbW
  refine HK.out _ _ ?_
  clear HK K
  rw [HC.out] at b0
  have HG:=Zh b0
  have HBW:=Zh hbW
  have hzW:w.heap.size<W.heap.size:=by omega
  clear b0 hbW hz HC
  obtain⟨q0,cp,hvr,hat⟩:=(HR.out.below HBW.out).rgAt (show 0<r.regs.length by omega)
  have k13:W.cell? ⟨w.heap.size,13,none⟩=some (.slice (some ⟨q0,0,none⟩) r.regs.length cp):=by rw [<- hvr];exact HG.out.cell 13
  obtain⟨p,o,e,hc⟩:=hat a _ hxa
  simp only [Option.some.injEq,Addr.mk.injEq,and_true] at e
  obtain⟨rfl,rfl⟩:=e
  have c0:W.cell? ⟨q0,a*4,none⟩=some (.int .i64 4):=by have:=hc 0 _ rfl;rwa [Nat.zero_add] at this
  have c2:W.cell? ⟨q0,a*4+2,none⟩=some (.string ⟨#[]⟩):=by have:=hc 2 _ rfl;rwa [Nat.zero_add] at this
  have hi1:(0:Int)<=(a:Int):=by omega
  have hi2:(a:Int)<(r.regs.length:Int):=by omega
  clear hvr hat hc
  clear c2 hadr hxa
  go_wp2_with fail
  go_ret
  exact⟨rfl,HBW.out⟩
 | adr s=>
  have hm:=hadr s rfl
  go_enter Tryz.func174,Tryz.ntmps174
  apply wp_seq_k
  intro K hK
  have HK:=Zh hK
  clear hK
  go_wp2_with fail
  refine Z25 (P:=fun X=>K _ X) w _ _ ?_
  intro W b0 hz hbW
  refine HK.out _ _ ?_
  clear HK K
  rw [HC.out] at b0
  have HG:=Zh b0
  have HBW:=Zh hbW
  have hzW:w.heap.size<W.heap.size:=by omega
  clear b0 hbW hz HC
  obtain⟨q0,cp,hvr,hat⟩:=(HR.out.below HBW.out).rgAt (show 0<r.regs.length by omega)
  have k13:W.cell? ⟨w.heap.size,13,none⟩=some (.slice (some ⟨q0,0,none⟩) r.regs.length cp):=by rw [<- hvr];exact HG.out.cell 13
  obtain⟨p,o,e,hc⟩:=hat a _ hxa
  simp only [Option.some.injEq,Addr.mk.injEq,and_true] at e
  obtain⟨rfl,rfl⟩:=e
  have c0:W.cell? ⟨q0,a*4,none⟩=some (.int .i64 2):=by have:=hc 0 _ rfl;rwa [Nat.zero_add] at this
  have c2:W.cell? ⟨q0,a*4+2,none⟩=some (.string ⟨s.toArray⟩):=by have:=hc 2 _ rfl;rwa [Nat.zero_add] at this
  have hi1:(0:Int)<=(a:Int):=by omega
  have hi2:(a:Int)<(r.regs.length:Int):=by omega
  clear hvr hat hc
  go_wp2_with fail
  have hlo:=(HR.out.below HBW.out).loAt
  refine wz (fun y:World=>Blk y w.heap.size 121 (rrC S r false V)/\y.cell? ⟨w.heap.size,13,none⟩=some (.slice (some ⟨q0,0,none⟩) r.regs.length cp)/\y.cell? ⟨q0,a*4+2,none⟩=some (.string ⟨s.toArray⟩)) [1,3,5,6,7] ⟨HG.out.drew,k13,c2⟩ (fun hHeld=>?_)
  refine wq 0 ?_
  refine wq 2 ?_
  refine wq 4 ?_
  refine wv 1 ((Zug S V)) rfl (fun x' hS=>Za0 rfl rfl (Zjr hS.1)) (by assumption) ?_
  refine wt 3 (by assumption) ?_
  refine wt 5 (by assumption) ?_
  refine wt 6 (by assumption) ?_
  refine wt 7 (by assumption) ?_
  refine wl 8 ?_
  go_wp2_with (go_at_call 37;refine (Zl0 ⟨S.lo,S.ini,V.ev,V.br,V.ad,V.da,V.ct,S.th,S.en⟩ S.C.locs s _ (hlo.1.below (Below.refl _ _).drew) hlo.2 few hm).mono ?_;rintro e wp ⟨rfl,hbp⟩)
  go_ret
  exact⟨rfl,Zaa HBW.out (Zar hbp)⟩
end
section
theorem Zr5 {r:Rn}{i:Nat}:Zi9 r 0 i=r:=by
 unfold Zi9
 rw [Zqb,List.append_nil]
 split <;> rfl
set_option maxHeartbeats 4000000
set_option maxRecDepth 100000
theorem Zeo (B:Nat)(S:RrS)(r:Rn)(V:RrV)(pl lc:Int)(x:Rg)(on:Int)(w:World)(hR:Za7 w B S r V)(h:lc<0\/(0<=lc/\Zn3 x.h=false)) :
  Calls Tryz.prog 171 #[rrV S r false V,.int .i64 pl,.int .i64 lc,Za3 S.C.ahead x,.int .u64 on] w (Zew B S r true w):=by
 have HR:=Zh hR
 obtain⟨c,hc⟩:∃ c,c=rrC S r false V:=⟨_,rfl⟩
 rw [show rrV S r false V=.agg c by rw [hc]]
 have HC:=Zh hc
 clear hc
 simp only [Za3]
 clear hR
 rcases h with h | ⟨h,hk⟩
 ·go_enter Tryz.func171,Tryz.ntmps171
  apply wp_seq_k
  intro K hK
  have HK:=Zh hK
  clear hK
  go_wp2_with fail
  refine Zg5 (P:=fun X=>K _ X) w _ _ _ _ _ _ ?_
  intro W b0 b1 b2 hz hbW
  refine HK.out _ _ ?_
  clear HK K
  rw [HC.out] at b0
  have HU:Hid (Zb0 w W B w.heap.size (w.heap.size+1+1) S r false V):=Zh ⟨HR.out.below hbW,Za9.of_below hbW HR.out.hB,HR.out.hB,b0,⟨_,b2,rfl⟩,Nat.le_refl _,by omega,by omega⟩
  have HE:=Zh b1
  have hzW:w.heap.size<W.heap.size:=by omega
  clear b0 b1 b2 hbW hz HC
  have f24:=HU.out.blk.frozen 24
  have k24:=HU.out.blk.cm 24
  have HV:=Zh HU.out.flow
  repeat (first | ((with_reducible refine Zfp ?_);refine Zch Tryz.f171 5 10 19 rfl rfl rfl rfl rfl rfl rfl HV.out rfl rfl (by decide) (of_decide_eq_true rfl) rfl (fun _ _ h=>h)) | go_step)
 ·have hk1:=Znl hk
  have hk2:¬ Zax x.h=1:=hk1
  have hk3:(Zax x.h != 1)=true:=by simpa using hk1
  have hk4:decide (Zax x.h=1)=false:=by simpa using hk1
  have h0:¬ lc<0:=by omega
  go_enter Tryz.func171,Tryz.ntmps171
  apply wp_seq_k
  intro K hK
  have HK:=Zh hK
  clear hK
  go_wp2_with fail
  refine Zg5 (P:=fun X=>K _ X) w _ _ _ _ _ _ ?_
  intro W b0 b1 b2 hz hbW
  refine HK.out _ _ ?_
  clear HK K
  rw [HC.out] at b0
  have HU:Hid (Zb0 w W B w.heap.size (w.heap.size+1+1) S r false V):=Zh ⟨HR.out.below hbW,Za9.of_below hbW HR.out.hB,HR.out.hB,b0,⟨_,b2,rfl⟩,Nat.le_refl _,by omega,by omega⟩
  have HE:=Zh b1
  have hzW:w.heap.size<W.heap.size:=by omega
  clear b0 b1 b2 hbW hz HC
  have f24:=HU.out.blk.frozen 24
  have k24:=HU.out.blk.cm 24
  have e0:=HE.out.cm 0
  have HV:=Zh HU.out.flow
  repeat (first | ((with_reducible refine Zfp ?_);refine Zch Tryz.f171 5 10 19 rfl rfl rfl rfl rfl rfl rfl HV.out rfl rfl (by decide) (of_decide_eq_true rfl) rfl (fun _ _ h=>h)) | go_step)
theorem Zuh (B:Nat)(S:RrS)(hS:Zeh S)(r:Rn)(V:RrV)(nr k:Nat)(hI:Inv S.C nr k r)(hfl:r.full=false)(pl:Nat)(loc:Nm)(n:Int)(xo on:Nat)(w:World)(hR:Za7 w B S r V)(hon:Rds r.evs on)(hxo:Rds r.evs xo) :
  Calls Tryz.prog 171 #[rrV S r false V,.int .i64 (pl:Int),.int .i64 ((S.C.locs.idxOf loc:Nat):Int),Za3 S.C.ahead ⟨.num n,xo⟩,.int .u64 ((on<<<S.C.ahead:Nat):Int)] w
   (Zew B S (Zi9 (Zi8 S.C r pl 2 loc n 0 on) xo r.evs.length) false w):=by
 have HR:=Zh hR
 have HEV:=Zh (fun V w h=>Z0c B S hS r V nr k hI hfl pl 2 _ n 0 loc on xo rfl hon hxo w h)
 obtain⟨c,hc⟩:∃ c,c=rrC S r false V:=⟨_,rfl⟩
 rw [show rrV S r false V=.agg c by rw [hc]]
 have HC:=Zh hc
 clear hc
 simp only [Za3,Zax,Zb8,Zb7]
 clear hR hS hI hfl hon hxo
 have h0:¬ ((S.C.locs.idxOf loc:Nat):Int)<0:=by omega
 go_enter Tryz.func171,Tryz.ntmps171
 apply wp_seq_k
 intro K hK
 have HK:=Zh hK
 clear hK
 go_wp2_with fail
 refine Zg5 (P:=fun X=>K _ X) w _ _ _ _ _ _ ?_
 intro W b0 b1 b2 hz hbW
 refine HK.out _ _ ?_
 clear HK K
 rw [HC.out] at b0
 have HU:Hid (Zb0 w W B w.heap.size (w.heap.size+1+1) S r false V):=Zh ⟨HR.out.below hbW,Za9.of_below hbW HR.out.hB,HR.out.hB,b0,⟨_,b2,rfl⟩,Nat.le_refl _,by omega,by omega⟩
 have HE:=Zh b1
 have hzW:w.heap.size<W.heap.size:=by omega
 clear b0 b1 b2 hbW hz HC
 have e0:=HE.out.cm 0
 have e1:=HE.out.cm 1
 have e3:=HE.out.cm 3
 repeat (first | ((with_reducible refine Zao ?_);refine Zaw 121 5 w.heap.size rfl rfl HU.out.blk Tryz.underlying121 rfl (by kernel_rfl) rfl ?_) | (go_at_call 245;refine Hid.out ?_) | go_step)
 refine Zh ?_
 refine (HEV.out V W HU.out.ref).mono ?_
 rintro e w1 ⟨V1,rfl,hr1,hk1⟩
 obtain⟨z,hz,hzs⟩:=HU.out.out1 hk1
 dsimp only
 repeat (first | ((with_reducible refine Zao ?_);refine Zam 121 10 29 (w.heap.size+1+1) rfl rfl rfl hz (by exact hzs) (by kernel_rfl) (Zbf _ _ _ _) rfl rfl ?_) | go_step)
 refine Zbs 121 10 (w.heap.size+1+1) rfl (hz.row _) Tryz.underlying121 rfl (by kernel_rfl) rfl rfl ?_
 exact HU.out.ret1 hr1 hk1
theorem Zz0 (B:Nat)(S:RrS)(hS:Zeh S)(hrisc:S.C.risc=decide (S.T.arch=2))(r:Rn)(V:RrV)(nr k:Nat)(hI:Inv S.C nr k r)(hnr:nr<=32)(hfl:r.full=false)(pl:Nat)(loc:Nm)(d:Nat)(hd:d<nr)(on:Nat)(w:World)(hR:Za7 w B S r V)(hon:Rds r.evs on) :
  Calls Tryz.prog 172 #[rrV S r false V,.int .i64 (pl:Int),.int .i64 ((S.C.locs.idxOf loc:Nat):Int),.int .i64 (d:Int),.int .u64 ((on<<<S.C.ahead:Nat):Int)] w
   (Zew B S (Zfa S.C r pl loc on (d:Int)) false w):=by
 have HR:=Zh hR
 obtain⟨n,hn⟩:∃ n,S.C.ahead+r.evs.length=n:=⟨_,rfl⟩
 have hen:V.ev.n=n:=by rw [Zpw hR.ev,List.length_append,<- hS.ahead,hn]
 have HEV:=Zh (fun V w h=>Z0c B S hS r V nr k hI hfl pl 1 _ 0 (d:Int) loc on 0 rfl hon (Rds.zero _) w h)
 rw [Zr5,Nat.zero_shiftLeft] at HEV
 have hI1:=hI.evt (pl:=pl) (dr:=1) (loc:=loc) (vl:=0) (rg:=(d:Int)) hon
 have HRD:=Zh (show Zfa S.C r pl loc on (d:Int)=if (Zi8 S.C r pl 1 loc 0 (d:Int) on).full then Zi8 S.C r pl 1 loc 0 (d:Int) on else Zgr S.C (Zi8 S.C r pl 1 loc 0 (d:Int) on) (d:Int) ⟨.rd r.evs.length,2 ^ r.evs.length⟩ from rfl)
 have hni:(Zi8 S.C r pl 1 loc 0 (d:Int) on).full=false->n<64:=fun hf=>by
  by_cases hr:64<=S.C.ahead+r.evs.length
  ·rw [Zc2 hr] at hf;cases hf
  ·omega
 have hrl:=hI1.rlen
 generalize Zi8 S.C r pl 1 loc 0 (d:Int) on=r1 at *
 have hpw:=Z0z r.evs.length S.C.ahead
 rw [hn] at hpw
 have HP:=Zh (fun V w h=>Z23 B S hrisc r1 V d ⟨.rd r.evs.length,2 ^ r.evs.length⟩ w h (by rw [hrl];exact hd) (by rw [hrl];exact hnr))
 simp only [Za3,Zax,Zb8,Zb7,hn,hpw] at HP
 obtain⟨c,hc⟩:∃ c,c=rrC S r false V:=⟨_,rfl⟩
 rw [show rrV S r false V=.agg c by rw [hc]]
 have HC:=Zh hc
 clear hc
 clear hR hS hI hfl hon hI1 hrl hpw hn
 cases hff:r1.full with
 | true=>
  rw [HRD.out,if_pos hff]
  go_enter Tryz.func172,Tryz.ntmps172
  apply wp_seq_k
  intro K hK
  have HK:=Zh hK
  clear hK
  go_wp2_with fail
  refine Z5h (P:=fun X=>K _ X) w _ _ _ _ ?_
  intro W b0 b2 hz hbW
  refine HK.out _ _ ?_
  clear HK K
  rw [HC.out] at b0
  have HU:Hid (Zb0 w W B w.heap.size (w.heap.size+1) S r false V):=Zh ⟨HR.out.below hbW,Za9.of_below hbW HR.out.hB,HR.out.hB,b0,⟨_,b2,rfl⟩,Nat.le_refl _,by omega,by omega⟩
  have hzW:w.heap.size<W.heap.size:=by omega
  clear b0 b2 hbW hz HC
  have k17:W.cell? ⟨w.heap.size,17,none⟩=some (.slice V.ev.A n V.ev.c):=by rw [<- hen];exact HU.out.blk.cell 17
  repeat (first | ((with_reducible refine Zao ?_);refine Zaw 121 5 w.heap.size rfl rfl HU.out.blk Tryz.underlying121 rfl (by kernel_rfl) rfl ?_) | (go_at_call 245;refine Hid.out ?_) | go_step)
  refine Zh ?_
  refine (HEV.out V W HU.out.ref).mono ?_
  rintro e w1 ⟨V1,rfl,hr1,hk1⟩
  have hb1:=hk1.keep _ _ _ HU.out.blk (by decide) (by decide) (by decide)
  have HU2:=Zh (HU.out.row (fl':=false) hr1 hk1)
  clear HU
  have HU:=HU2
  clear HU2
  have k25:=HU.out.blk.cm 25
  clear k17
  dsimp only
  rw [hff] at k25
  repeat (first | ((with_reducible refine Zao ?_);refine Zam 121 5 22 w.heap.size rfl rfl rfl hb1 (by exact rfl) (by kernel_rfl) (Zbf _ _ _ _) rfl rfl ?_) | ((with_reducible refine Zfp ?_);refine Zch Tryz.f172 5 10 25 rfl rfl rfl rfl rfl rfl rfl HU.out rfl rfl (by decide) (of_decide_eq_true rfl) rfl (fun _ _ h=>h)) | go_step)
 | false=>
  have hn64:=hni hff
  rw [HRD.out,if_neg (by rw [hff];decide)]
  go_enter Tryz.func172,Tryz.ntmps172
  apply wp_seq_k
  intro K hK
  have HK:=Zh hK
  clear hK
  go_wp2_with fail
  refine Z5h (P:=fun X=>K _ X) w _ _ _ _ ?_
  intro W b0 b2 hz hbW
  refine HK.out _ _ ?_
  clear HK K
  rw [HC.out] at b0
  have HU:Hid (Zb0 w W B w.heap.size (w.heap.size+1) S r false V):=Zh ⟨HR.out.below hbW,Za9.of_below hbW HR.out.hB,HR.out.hB,b0,⟨_,b2,rfl⟩,Nat.le_refl _,by omega,by omega⟩
  have hzW:w.heap.size<W.heap.size:=by omega
  clear b0 b2 hbW hz HC
  have k17:W.cell? ⟨w.heap.size,17,none⟩=some (.slice V.ev.A n V.ev.c):=by rw [<- hen];exact HU.out.blk.cell 17
  repeat (first | ((with_reducible refine Zao ?_);refine Zaw 121 5 w.heap.size rfl rfl HU.out.blk Tryz.underlying121 rfl (by kernel_rfl) rfl ?_) | (go_at_call 245;refine Hid.out ?_) | go_step)
  refine Zh ?_
  refine (HEV.out V W HU.out.ref).mono ?_
  rintro e w1 ⟨V1,rfl,hr1,hk1⟩
  have hb1:=hk1.keep _ _ _ HU.out.blk (by decide) (by decide) (by decide)
  have HU2:=Zh (HU.out.row (fl':=false) hr1 hk1)
  clear HU
  have HU:=HU2
  clear HU2
  have k25:=HU.out.blk.cm 25
  clear k17
  dsimp only
  rw [hff] at k25
  have hsh:=Zh (show IntKind.u64.wrap ((2:Int) ^ n)=((2 ^ n:Nat):Int) by have:=Zqm hn64;rwa [Int.one_mul] at this)
  have hn1:(0:Int)<=(n:Int):=by omega
  have hn2:(n:Int)<64:=by omega
  repeat (first | ((with_reducible refine Zao ?_);refine Zam 121 5 22 w.heap.size rfl rfl rfl hb1 (by exact rfl) (by kernel_rfl) (Zbf _ _ _ _) rfl rfl ?_) | ((with_reducible refine Zao ?_);refine Zaw 121 5 w.heap.size rfl rfl HU.out.blk Tryz.underlying121 rfl (by kernel_rfl) rfl ?_) | (go_at_call 173;refine Hid.out ?_) | go_step)
  refine Zh ?_
  rw [hsh.out]
  refine (HP.out _ _ HU.out.ref).mono ?_
  rintro e w2 ⟨V2,rfl,hr2,hk2⟩
  obtain⟨z,hz,hzs⟩:=HU.out.out1 hk2
  dsimp only
  repeat (first | ((with_reducible refine Zao ?_);refine Zam 121 10 33 (w.heap.size+1) rfl rfl rfl hz (by exact hzs) (by kernel_rfl) (Zbf _ _ _ _) rfl rfl ?_) | go_step)
  refine Zbs 121 10 (w.heap.size+1) rfl (hz.row _) Tryz.underlying121 rfl (by kernel_rfl) rfl rfl ?_
  exact HU.out.ret1 hr2 hk2
end
section
def Zbp (B:Nat)(S:RrS)(o:Option Rn)(w:World)(e:Ending)(w':World):Prop:=∃ r1 fl V,e=.returned (rrV S r1 fl V)/\Za7 w' B S r1 V/\Za9 B w w'/\((fl=false/\o=some r1)\/(fl=true/\o=none/\r1.full=false))
theorem Zbp.of {B:Nat}{S:RrS}{o:Option Rn}{w w':World}{e:Ending}{r1:Rn}{fl:Bool}(h:Zew B S r1 fl w e w')(hg:(fl=false/\o=some r1)\/(fl=true/\o=none/\r1.full=false)):Zbp B S o w e w':=by
 obtain⟨V,h1,h2,h3⟩:=h
 exact⟨r1,fl,V,h1,h2,h3,hg⟩
theorem Zew.st {B:Nat}{S:RrS}{o:Option Rn}{w w':World}{e:Ending}{r1:Rn}(h:Zew B S r1 false w e w')(ho:o=some r1):Zbp B S o w e w':=Zbp.of h (Or.inl ⟨rfl,ho⟩)
theorem Zew.no {B:Nat}{S:RrS}{o:Option Rn}{w w':World}{e:Ending}{r1:Rn}(h:Zew B S r1 true w e w')(ho:o=none)(hf:r1.full=false):Zbp B S o w e w':=Zbp.of h (Or.inr ⟨rfl,ho,hf⟩)
theorem Ztp (w:World)(a b c:Int):Zm2.At (w.alloc (.cells #[.int .i64 a,.int .i64 b,.int .i64 c] 79 (0,0))) (some ⟨w.heap.size,0,none⟩) [⟨a,b,c⟩]:=by
 have hB:=Blk.new w 79 #[.int .i64 a,.int .i64 b,.int .i64 c]
 intro i x hx
 refine⟨w.heap.size,0,rfl,fun j u hj=>?_⟩
 match i,hx with
 | 0,hx=>
  simp at hx;subst hx
  rw [show 0+0*Zm2.size+j=j by omega,hB.cell]
  rw [<- hj];simp
set_option maxHeartbeats 4000000
set_option maxRecDepth 100000
theorem Zn7 (B:Nat)(S:RrS)(hS:Zeh S)(r:Rn)(V:RrV)(nr k:Nat)(hI:Inv S.C nr k r)(hfl:r.full=false)(pl:Nat)(loc:Nm)(x:Rg)(hx:Zid S.C r.evs x)(on:Nat)(w:World)(hR:Za7 w B S r V)(hon:Rds r.evs on) :
  Calls Tryz.prog 171 #[rrV S r false V,.int .i64 (pl:Int),.int .i64 ((S.C.locs.idxOf loc:Nat):Int),Za3 S.C.ahead x,.int .u64 ((on<<<S.C.ahead:Nat):Int)] w (Zbp B S (Zcr S.C r pl loc on x) w):=by
 obtain⟨h,xo⟩:=x
 cases h with
 | num n=>exact (Zuh B S hS r V nr k hI hfl pl loc n xo on w hR hon hx.2).mono fun e w' p=>p.st rfl
 | adr s=>exact (Zeo B S r V pl _ ⟨.adr s,xo⟩ _ w hR (Or.inr ⟨by omega,rfl⟩)).mono fun e w' p=>p.no rfl hfl
 | rd i=>exact (Zeo B S r V pl _ ⟨.rd i,xo⟩ _ w hR (Or.inr ⟨by omega,rfl⟩)).mono fun e w' p=>p.no rfl hfl
 | non=>exact (Zeo B S r V pl _ ⟨.non,xo⟩ _ w hR (Or.inr ⟨by omega,rfl⟩)).mono fun e w' p=>p.no rfl hfl
theorem Z0x (B:Nat)(S:RrS)(hS:Zeh S)(_hrisc:S.C.risc=decide (S.T.arch=2))(r:Rn)(V:RrV)(nr k:Nat)(hI:Inv S.C nr k r)(_hnr:nr<=32)(hfl:r.full=false)(pl:Nat)(d a b:Nat)(_hd:d<nr)(xa xb:Rg)(hxa:r.regs[a]?=some xa)(hxb:r.regs[b]?=some xb)(imm:Int)(loc label:List UInt8)(fence:Int)(w:World)(hR:Za7 w B S r V)(hloc:loc∈S.C.locs):Calls Tryz.prog 104 #[rrV S r false V,.int .i64 (pl:Int),.agg #[.int .i64 1,.int .i64 (d:Int),.int .i64 (a:Int),.int .i64 (b:Int),.int .i64 imm,.string ⟨loc.toArray⟩,.string ⟨label.toArray⟩,.int .i64 fence]] w (Zbp B S (Zcr S.C r pl loc 0 ⟨.num imm,0⟩) w):=by
 have HW:=Zh (fun V w h=>(Zuh B S hS r V nr k hI hfl pl loc imm 0 0 w h (Rds.zero _) (Rds.zero _)).mono fun e w' p=>(p.st rfl:Zbp B S (Zcr S.C r pl loc 0 ⟨.num imm,0⟩) w e w'))
 simp only [Za3,Zax,Zb8,Zb7,Nat.zero_shiftLeft] at HW
 have HR:=Zh hR
 have hal:=(List.getElem?_eq_some_iff.1 hxa).1
 have hbl:=(List.getElem?_eq_some_iff.1 hxb).1
 obtain⟨c,hc⟩:∃ c,c=rrC S r false V:=⟨_,rfl⟩
 rw [show rrV S r false V=.agg c by rw [hc]]
 have HC:=Zh hc
 clear hc
 go_enter Tryz.func104,Tryz.ntmps104
 apply wp_seq_k
 intro K hK
 have HK:=Zh hK
 clear hK
 go_wp2_with fail
 refine Zg5 (P:=fun X=>K _ X) w _ _ _ _ _ _ ?_
 intro W b0 b1 b2 hz hbW
 refine HK.out _ _ ?_
 clear HK K
 rw [HC.out] at b0
 have HU:Hid (Zb0 w W B w.heap.size (w.heap.size+1+1) S r false V):=Zh ⟨HR.out.below hbW,Za9.of_below hbW HR.out.hB,HR.out.hB,b0,⟨_,b2,rfl⟩,Nat.le_refl _,by omega,by omega⟩
 have HE:=Zh b1
 have hzW:w.heap.size<W.heap.size:=by omega
 clear b0 b1 b2 hbW hz HC
 obtain⟨q0,cp,hvr,hat⟩:=HU.out.ref.rgAt (show 0<r.regs.length by omega)
 have k13:W.cell? ⟨w.heap.size,13,none⟩=some (.slice (some ⟨q0,0,none⟩) r.regs.length cp):=by rw [<- hvr];exact HU.out.blk.cell 13
 have e0:=HE.out.cm 0
 have e1:=HE.out.cm 1
 have e2:=HE.out.cm 2
 have e3:=HE.out.cm 3
 have e4:=HE.out.cm 4
 have e5:=HE.out.cm 5
 have c3:W.cell? ⟨q0,a*4+3,none⟩=some (.int .u64 ((xa.on<<<S.C.ahead:Nat):Int)):=by
  obtain⟨p,o,e,hc⟩:=hat a xa hxa
  simp only [Option.some.injEq,Addr.mk.injEq,and_true] at e
  obtain⟨rfl,rfl⟩:=e
  have:=hc 3 _ rfl
  rwa [Nat.zero_add] at this
 have HSS:=Zh (show ∀ y,Below W.heap.size W y->(fun y:World=>Zb0 w y B w.heap.size (w.heap.size+1+1) S r false V/\(Zdi S.C.ahead).At y (some ⟨q0,0,none⟩) r.regs/\y.cell? ⟨w.heap.size,13,none⟩=some (.slice (some ⟨q0,0,none⟩) r.regs.length cp)/\y.cell? ⟨w.heap.size+1,0,none⟩=some (.int .i64 1)/\y.cell? ⟨w.heap.size+1,1,none⟩=some (.int .i64 (d:Int))/\y.cell? ⟨w.heap.size+1,2,none⟩=some (.int .i64 (a:Int))/\y.cell? ⟨w.heap.size+1,3,none⟩=some (.int .i64 (b:Int))/\y.cell? ⟨w.heap.size+1,4,none⟩=some (.int .i64 imm)/\y.cell? ⟨w.heap.size+1,5,none⟩=some (.string ⟨loc.toArray⟩)/\y.cell? ⟨q0,a*4+3,none⟩=some (.int .u64 ((xa.on<<<S.C.ahead:Nat):Int))) y from fun y hb=>⟨HU.out.below hb,hat.below hb,Zac k13 hb,Zac e0 hb,Zac e1 hb,Zac e2 hb,Zac e3 hb,Zac e4 hb,Zac e5 hb,Zac c3 hb⟩)
 have hi1:(0:Int)<=(a:Int):=by omega
 have hi2:(a:Int)<(r.regs.length:Int):=by omega
 have hi3:(0:Int)<=(b:Int):=by omega
 have hi4:(b:Int)<(r.regs.length:Int):=by omega
 clear hat hvr HR hR
 go_wp2_with fail
 refine wz (fun y:World=>Zb0 w y B w.heap.size (w.heap.size+1+1) S r false V/\(Zdi S.C.ahead).At y (some ⟨q0,0,none⟩) r.regs/\y.cell? ⟨w.heap.size,13,none⟩=some (.slice (some ⟨q0,0,none⟩) r.regs.length cp)/\y.cell? ⟨w.heap.size+1,0,none⟩=some (.int .i64 1)/\y.cell? ⟨w.heap.size+1,1,none⟩=some (.int .i64 (d:Int))/\y.cell? ⟨w.heap.size+1,2,none⟩=some (.int .i64 (a:Int))/\y.cell? ⟨w.heap.size+1,3,none⟩=some (.int .i64 (b:Int))/\y.cell? ⟨w.heap.size+1,4,none⟩=some (.int .i64 imm)/\y.cell? ⟨w.heap.size+1,5,none⟩=some (.string ⟨loc.toArray⟩)/\y.cell? ⟨q0,a*4+3,none⟩=some (.int .u64 ((xa.on<<<S.C.ahead:Nat):Int))) [0,3,5,6,8,9] (HSS.out _ (Below.refl _ _).drew) (fun hHeld=>?_)
 refine wq 1 ?_
 refine wq 2 ?_
 refine wq 4 ?_
 refine wq 7 ?_
 refine wv 0 ((rrV S r false V)) rfl (fun x' hS=>Za0 rfl rfl (Zeq hS.1.blk)) (by assumption) ?_
 refine wv 3 ((Zug S V)) rfl (fun x' hS=>Za0 rfl rfl (Zjr hS.1.blk)) (by assumption) ?_
 refine wt 5 (by assumption) ?_
 refine wt 8 (by assumption) ?_
 refine wt 9 (by assumption) ?_
 refine Zav (i:=6) (by kernel_rfl) rfl (fun K hK=>?_)
 go_simp
 go_at_call 37
 refine (Zl0 ⟨S.lo,S.ini,V.ev,V.br,V.ad,V.da,V.ct,S.th,S.en⟩ S.C.locs loc _ (hHeld.1.ref.loAt).1 (hHeld.1.ref.loAt).2 hS.few hloc).mono ?_
 rintro e wp ⟨rfl,hbp⟩
 have hS2:=HSS.out wp (Zar hbp)
 refine hK.out _ _ hS2 ?_
 clear hK K
 refine pu ?_
 refine wl 10 ?_
 repeat (first | (go_at_call 171;refine Hid.out ?_) | go_step)
 refine Zh ?_
 refine (HW.out V wp hS2.1.ref).mono ?_
 rintro e w1 ⟨r1,fl1,V1,rfl,hr1,hk1,hg1⟩
 dsimp only
 obtain⟨z,hz,hzs⟩:=hS2.1.out1 hk1
 repeat (first | ((with_reducible refine Zao ?_);refine Zam 121 6 21 (w.heap.size+1+1) rfl rfl rfl hz (by exact hzs) (by kernel_rfl) (Zbf _ _ _ _) rfl rfl ?_) | go_step)
 refine Zbs 121 6 (w.heap.size+1+1) rfl (hz.row _) Tryz.underlying121 rfl (by kernel_rfl) rfl rfl ?_
 exact Zbp.of (hS2.1.ret1 hr1 hk1) hg1
theorem Z1s (B:Nat)(S:RrS)(hS:Zeh S)(_hrisc:S.C.risc=decide (S.T.arch=2))(r:Rn)(V:RrV)(nr k:Nat)(hI:Inv S.C nr k r)(_hnr:nr<=32)(hfl:r.full=false)(pl:Nat)(d a b:Nat)(_hd:d<nr)(xa xb:Rg)(hxa:r.regs[a]?=some xa)(hxb:r.regs[b]?=some xb)(imm:Int)(loc label:List UInt8)(fence:Int)(w:World)(hR:Za7 w B S r V)(hloc:loc∈S.C.locs)(hok:Zid S.C r.evs xa):Calls Tryz.prog 104 #[rrV S r false V,.int .i64 (pl:Int),.agg #[.int .i64 2,.int .i64 (d:Int),.int .i64 (a:Int),.int .i64 (b:Int),.int .i64 imm,.string ⟨loc.toArray⟩,.string ⟨label.toArray⟩,.int .i64 fence]] w (Zbp B S (Zcr S.C r pl loc 0 xa) w):=by
 have HW:=Zh (fun V w h=>Zn7 B S hS r V nr k hI hfl pl loc xa hok 0 w h (Rds.zero _))
 simp only [Nat.zero_shiftLeft] at HW
 have HR:=Zh hR
 have hal:=(List.getElem?_eq_some_iff.1 hxa).1
 have hbl:=(List.getElem?_eq_some_iff.1 hxb).1
 obtain⟨c,hc⟩:∃ c,c=rrC S r false V:=⟨_,rfl⟩
 rw [show rrV S r false V=.agg c by rw [hc]]
 have HC:=Zh hc
 clear hc
 go_enter Tryz.func104,Tryz.ntmps104
 apply wp_seq_k
 intro K hK
 have HK:=Zh hK
 clear hK
 go_wp2_with fail
 refine Zg5 (P:=fun X=>K _ X) w _ _ _ _ _ _ ?_
 intro W b0 b1 b2 hz hbW
 refine HK.out _ _ ?_
 clear HK K
 rw [HC.out] at b0
 have HU:Hid (Zb0 w W B w.heap.size (w.heap.size+1+1) S r false V):=Zh ⟨HR.out.below hbW,Za9.of_below hbW HR.out.hB,HR.out.hB,b0,⟨_,b2,rfl⟩,Nat.le_refl _,by omega,by omega⟩
 have HE:=Zh b1
 have hzW:w.heap.size<W.heap.size:=by omega
 clear b0 b1 b2 hbW hz HC
 obtain⟨q0,cp,hvr,hat⟩:=HU.out.ref.rgAt (show 0<r.regs.length by omega)
 have k13:W.cell? ⟨w.heap.size,13,none⟩=some (.slice (some ⟨q0,0,none⟩) r.regs.length cp):=by rw [<- hvr];exact HU.out.blk.cell 13
 have e0:=HE.out.cm 0
 have e1:=HE.out.cm 1
 have e2:=HE.out.cm 2
 have e3:=HE.out.cm 3
 have e4:=HE.out.cm 4
 have e5:=HE.out.cm 5
 have c3:W.cell? ⟨q0,a*4+3,none⟩=some (.int .u64 ((xa.on<<<S.C.ahead:Nat):Int)):=by
  obtain⟨p,o,e,hc⟩:=hat a xa hxa
  simp only [Option.some.injEq,Addr.mk.injEq,and_true] at e
  obtain⟨rfl,rfl⟩:=e
  have:=hc 3 _ rfl
  rwa [Nat.zero_add] at this
 have HSS:=Zh (show ∀ y,Below W.heap.size W y->(fun y:World=>Zb0 w y B w.heap.size (w.heap.size+1+1) S r false V/\(Zdi S.C.ahead).At y (some ⟨q0,0,none⟩) r.regs/\y.cell? ⟨w.heap.size,13,none⟩=some (.slice (some ⟨q0,0,none⟩) r.regs.length cp)/\y.cell? ⟨w.heap.size+1,0,none⟩=some (.int .i64 2)/\y.cell? ⟨w.heap.size+1,1,none⟩=some (.int .i64 (d:Int))/\y.cell? ⟨w.heap.size+1,2,none⟩=some (.int .i64 (a:Int))/\y.cell? ⟨w.heap.size+1,3,none⟩=some (.int .i64 (b:Int))/\y.cell? ⟨w.heap.size+1,4,none⟩=some (.int .i64 imm)/\y.cell? ⟨w.heap.size+1,5,none⟩=some (.string ⟨loc.toArray⟩)/\y.cell? ⟨q0,a*4+3,none⟩=some (.int .u64 ((xa.on<<<S.C.ahead:Nat):Int))) y from fun y hb=>⟨HU.out.below hb,hat.below hb,Zac k13 hb,Zac e0 hb,Zac e1 hb,Zac e2 hb,Zac e3 hb,Zac e4 hb,Zac e5 hb,Zac c3 hb⟩)
 have hi1:(0:Int)<=(a:Int):=by omega
 have hi2:(a:Int)<(r.regs.length:Int):=by omega
 have hi3:(0:Int)<=(b:Int):=by omega
 have hi4:(b:Int)<(r.regs.length:Int):=by omega
 clear hat hvr HR hR
 go_wp2_with fail
 refine wz (fun y:World=>Zb0 w y B w.heap.size (w.heap.size+1+1) S r false V/\(Zdi S.C.ahead).At y (some ⟨q0,0,none⟩) r.regs/\y.cell? ⟨w.heap.size,13,none⟩=some (.slice (some ⟨q0,0,none⟩) r.regs.length cp)/\y.cell? ⟨w.heap.size+1,0,none⟩=some (.int .i64 2)/\y.cell? ⟨w.heap.size+1,1,none⟩=some (.int .i64 (d:Int))/\y.cell? ⟨w.heap.size+1,2,none⟩=some (.int .i64 (a:Int))/\y.cell? ⟨w.heap.size+1,3,none⟩=some (.int .i64 (b:Int))/\y.cell? ⟨w.heap.size+1,4,none⟩=some (.int .i64 imm)/\y.cell? ⟨w.heap.size+1,5,none⟩=some (.string ⟨loc.toArray⟩)/\y.cell? ⟨q0,a*4+3,none⟩=some (.int .u64 ((xa.on<<<S.C.ahead:Nat):Int))) [0,3,5,6,8,10,11,12] (HSS.out _ (Below.refl _ _).drew) (fun hHeld=>?_)
 refine wq 1 ?_
 refine wq 2 ?_
 refine wq 4 ?_
 refine wq 7 ?_
 refine wq 9 ?_
 refine wv 0 ((rrV S r false V)) rfl (fun x' hS=>Za0 rfl rfl (Zeq hS.1.blk)) (by assumption) ?_
 refine wv 3 ((Zug S V)) rfl (fun x' hS=>Za0 rfl rfl (Zjr hS.1.blk)) (by assumption) ?_
 refine wt 5 (by assumption) ?_
 refine wt 8 (by assumption) ?_
 refine wt 10 (by assumption) ?_
 refine wt 11 (by assumption) ?_
 refine wv 12 ((Za3 S.C.ahead xa)) rfl (fun x' hS=>Za0 rfl rfl (Zdq hS.2.1 hxa)) (by assumption) ?_
 refine Zav (i:=6) (by kernel_rfl) rfl (fun K hK=>?_)
 go_simp
 go_at_call 37
 refine (Zl0 ⟨S.lo,S.ini,V.ev,V.br,V.ad,V.da,V.ct,S.th,S.en⟩ S.C.locs loc _ (hHeld.1.ref.loAt).1 (hHeld.1.ref.loAt).2 hS.few hloc).mono ?_
 rintro e wp ⟨rfl,hbp⟩
 have hS2:=HSS.out wp (Zar hbp)
 refine hK.out _ _ hS2 ?_
 clear hK K
 refine pu ?_
 refine wl 13 ?_
 repeat (first | (go_at_call 171;refine Hid.out ?_) | go_step)
 refine Zh ?_
 refine (HW.out V wp hS2.1.ref).mono ?_
 rintro e w1 ⟨r1,fl1,V1,rfl,hr1,hk1,hg1⟩
 dsimp only
 obtain⟨z,hz,hzs⟩:=hS2.1.out1 hk1
 repeat (first | ((with_reducible refine Zao ?_);refine Zam 121 6 37 (w.heap.size+1+1) rfl rfl rfl hz (by exact hzs) (by kernel_rfl) (Zbf _ _ _ _) rfl rfl ?_) | go_step)
 refine Zbs 121 6 (w.heap.size+1+1) rfl (hz.row _) Tryz.underlying121 rfl (by kernel_rfl) rfl rfl ?_
 exact Zbp.of (hS2.1.ret1 hr1 hk1) hg1
theorem Z1w (B:Nat)(S:RrS)(hS:Zeh S)(hrisc:S.C.risc=decide (S.T.arch=2))(r:Rn)(V:RrV)(nr k:Nat)(hI:Inv S.C nr k r)(hnr:nr<=32)(hfl:r.full=false)(pl:Nat)(d a b:Nat)(hd:d<nr)(xa xb:Rg)(hxa:r.regs[a]?=some xa)(hxb:r.regs[b]?=some xb)(imm:Int)(loc label:List UInt8)(fence:Int)(w:World)(hR:Za7 w B S r V)(hloc:loc∈S.C.locs):Calls Tryz.prog 104 #[rrV S r false V,.int .i64 (pl:Int),.agg #[.int .i64 3,.int .i64 (d:Int),.int .i64 (a:Int),.int .i64 (b:Int),.int .i64 imm,.string ⟨loc.toArray⟩,.string ⟨label.toArray⟩,.int .i64 fence]] w (Zbp B S (some (Zfa S.C r pl loc 0 (d:Int))) w):=by
 have HW:=Zh (fun V w h=>(Zz0 B S hS hrisc r V nr k hI hnr hfl pl loc d hd 0 w h (Rds.zero _)).mono fun e w' p=>(p.st rfl:Zbp B S (some (Zfa S.C r pl loc 0 (d:Int))) w e w'))
 simp only [Nat.zero_shiftLeft] at HW
 have HR:=Zh hR
 have hal:=(List.getElem?_eq_some_iff.1 hxa).1
 have hbl:=(List.getElem?_eq_some_iff.1 hxb).1
 obtain⟨c,hc⟩:∃ c,c=rrC S r false V:=⟨_,rfl⟩
 rw [show rrV S r false V=.agg c by rw [hc]]
 have HC:=Zh hc
 clear hc
 go_enter Tryz.func104,Tryz.ntmps104
 apply wp_seq_k
 intro K hK
 have HK:=Zh hK
 clear hK
 go_wp2_with fail
 refine Zg5 (P:=fun X=>K _ X) w _ _ _ _ _ _ ?_
 intro W b0 b1 b2 hz hbW
 refine HK.out _ _ ?_
 clear HK K
 rw [HC.out] at b0
 have HU:Hid (Zb0 w W B w.heap.size (w.heap.size+1+1) S r false V):=Zh ⟨HR.out.below hbW,Za9.of_below hbW HR.out.hB,HR.out.hB,b0,⟨_,b2,rfl⟩,Nat.le_refl _,by omega,by omega⟩
 have HE:=Zh b1
 have hzW:w.heap.size<W.heap.size:=by omega
 clear b0 b1 b2 hbW hz HC
 obtain⟨q0,cp,hvr,hat⟩:=HU.out.ref.rgAt (show 0<r.regs.length by omega)
 have k13:W.cell? ⟨w.heap.size,13,none⟩=some (.slice (some ⟨q0,0,none⟩) r.regs.length cp):=by rw [<- hvr];exact HU.out.blk.cell 13
 have e0:=HE.out.cm 0
 have e1:=HE.out.cm 1
 have e2:=HE.out.cm 2
 have e3:=HE.out.cm 3
 have e4:=HE.out.cm 4
 have e5:=HE.out.cm 5
 have c3:W.cell? ⟨q0,a*4+3,none⟩=some (.int .u64 ((xa.on<<<S.C.ahead:Nat):Int)):=by
  obtain⟨p,o,e,hc⟩:=hat a xa hxa
  simp only [Option.some.injEq,Addr.mk.injEq,and_true] at e
  obtain⟨rfl,rfl⟩:=e
  have:=hc 3 _ rfl
  rwa [Nat.zero_add] at this
 have HSS:=Zh (show ∀ y,Below W.heap.size W y->(fun y:World=>Zb0 w y B w.heap.size (w.heap.size+1+1) S r false V/\(Zdi S.C.ahead).At y (some ⟨q0,0,none⟩) r.regs/\y.cell? ⟨w.heap.size,13,none⟩=some (.slice (some ⟨q0,0,none⟩) r.regs.length cp)/\y.cell? ⟨w.heap.size+1,0,none⟩=some (.int .i64 3)/\y.cell? ⟨w.heap.size+1,1,none⟩=some (.int .i64 (d:Int))/\y.cell? ⟨w.heap.size+1,2,none⟩=some (.int .i64 (a:Int))/\y.cell? ⟨w.heap.size+1,3,none⟩=some (.int .i64 (b:Int))/\y.cell? ⟨w.heap.size+1,4,none⟩=some (.int .i64 imm)/\y.cell? ⟨w.heap.size+1,5,none⟩=some (.string ⟨loc.toArray⟩)/\y.cell? ⟨q0,a*4+3,none⟩=some (.int .u64 ((xa.on<<<S.C.ahead:Nat):Int))) y from fun y hb=>⟨HU.out.below hb,hat.below hb,Zac k13 hb,Zac e0 hb,Zac e1 hb,Zac e2 hb,Zac e3 hb,Zac e4 hb,Zac e5 hb,Zac c3 hb⟩)
 have hi1:(0:Int)<=(a:Int):=by omega
 have hi2:(a:Int)<(r.regs.length:Int):=by omega
 have hi3:(0:Int)<=(b:Int):=by omega
 have hi4:(b:Int)<(r.regs.length:Int):=by omega
 clear hat hvr HR hR
 go_wp2_with fail
 refine wz (fun y:World=>Zb0 w y B w.heap.size (w.heap.size+1+1) S r false V/\(Zdi S.C.ahead).At y (some ⟨q0,0,none⟩) r.regs/\y.cell? ⟨w.heap.size,13,none⟩=some (.slice (some ⟨q0,0,none⟩) r.regs.length cp)/\y.cell? ⟨w.heap.size+1,0,none⟩=some (.int .i64 3)/\y.cell? ⟨w.heap.size+1,1,none⟩=some (.int .i64 (d:Int))/\y.cell? ⟨w.heap.size+1,2,none⟩=some (.int .i64 (a:Int))/\y.cell? ⟨w.heap.size+1,3,none⟩=some (.int .i64 (b:Int))/\y.cell? ⟨w.heap.size+1,4,none⟩=some (.int .i64 imm)/\y.cell? ⟨w.heap.size+1,5,none⟩=some (.string ⟨loc.toArray⟩)/\y.cell? ⟨q0,a*4+3,none⟩=some (.int .u64 ((xa.on<<<S.C.ahead:Nat):Int))) [0,3,5,6,8] (HSS.out _ (Below.refl _ _).drew) (fun hHeld=>?_)
 refine wq 1 ?_
 refine wq 2 ?_
 refine wq 4 ?_
 refine wq 7 ?_
 refine wv 0 ((rrV S r false V)) rfl (fun x' hS=>Za0 rfl rfl (Zeq hS.1.blk)) (by assumption) ?_
 refine wv 3 ((Zug S V)) rfl (fun x' hS=>Za0 rfl rfl (Zjr hS.1.blk)) (by assumption) ?_
 refine wt 5 (by assumption) ?_
 refine wt 8 (by assumption) ?_
 refine Zav (i:=6) (by kernel_rfl) rfl (fun K hK=>?_)
 go_simp
 go_at_call 37
 refine (Zl0 ⟨S.lo,S.ini,V.ev,V.br,V.ad,V.da,V.ct,S.th,S.en⟩ S.C.locs loc _ (hHeld.1.ref.loAt).1 (hHeld.1.ref.loAt).2 hS.few hloc).mono ?_
 rintro e wp ⟨rfl,hbp⟩
 have hS2:=HSS.out wp (Zar hbp)
 refine hK.out _ _ hS2 ?_
 clear hK K
 refine pu ?_
 refine wl 9 ?_
 repeat (first | (go_at_call 172;refine Hid.out ?_) | go_step)
 refine Zh ?_
 refine (HW.out V wp hS2.1.ref).mono ?_
 rintro e w1 ⟨r1,fl1,V1,rfl,hr1,hk1,hg1⟩
 dsimp only
 obtain⟨z,hz,hzs⟩:=hS2.1.out1 hk1
 repeat (first | ((with_reducible refine Zao ?_);refine Zam 121 6 49 (w.heap.size+1+1) rfl rfl rfl hz (by exact hzs) (by kernel_rfl) (Zbf _ _ _ _) rfl rfl ?_) | go_step)
 refine Zbs 121 6 (w.heap.size+1+1) rfl (hz.row _) Tryz.underlying121 rfl (by kernel_rfl) rfl rfl ?_
 exact Zbp.of (hS2.1.ret1 hr1 hk1) hg1
theorem Z0w (B:Nat)(S:RrS)(_hS:Zeh S)(hrisc:S.C.risc=decide (S.T.arch=2))(r:Rn)(V:RrV)(nr k:Nat)(hI:Inv S.C nr k r)(hnr:nr<=32)(_hfl:r.full=false)(pl:Nat)(d a b:Nat)(hd:d<nr)(xa xb:Rg)(hxa:r.regs[a]?=some xa)(hxb:r.regs[b]?=some xb)(imm:Int)(loc label:List UInt8)(fence:Int)(w:World)(hR:Za7 w B S r V):Calls Tryz.prog 104 #[rrV S r false V,.int .i64 (pl:Int),.agg #[.int .i64 4,.int .i64 (d:Int),.int .i64 (a:Int),.int .i64 (b:Int),.int .i64 imm,.string ⟨loc.toArray⟩,.string ⟨label.toArray⟩,.int .i64 fence]] w (Zbp B S (some (Zgr S.C r (d:Int) ⟨.num imm,0⟩)) w):=by
 have HW:=Zh (fun V w h=>(Z23 B S hrisc r V d ⟨.num imm,0⟩ w h (by rw [hI.rlen];exact hd) (by rw [hI.rlen];exact hnr)).mono fun e w' p=>(p.st rfl:Zbp B S (some (Zgr S.C r (d:Int) ⟨.num imm,0⟩)) w e w'))
 simp only [Za3,Zax,Zb8,Zb7,Nat.zero_shiftLeft] at HW
 have HR:=Zh hR
 have hal:=(List.getElem?_eq_some_iff.1 hxa).1
 have hbl:=(List.getElem?_eq_some_iff.1 hxb).1
 obtain⟨c,hc⟩:∃ c,c=rrC S r false V:=⟨_,rfl⟩
 rw [show rrV S r false V=.agg c by rw [hc]]
 have HC:=Zh hc
 clear hc
 go_enter Tryz.func104,Tryz.ntmps104
 apply wp_seq_k
 intro K hK
 have HK:=Zh hK
 clear hK
 go_wp2_with fail
 refine Zg5 (P:=fun X=>K _ X) w _ _ _ _ _ _ ?_
 intro W b0 b1 b2 hz hbW
 refine HK.out _ _ ?_
 clear HK K
 rw [HC.out] at b0
 have HU:Hid (Zb0 w W B w.heap.size (w.heap.size+1+1) S r false V):=Zh ⟨HR.out.below hbW,Za9.of_below hbW HR.out.hB,HR.out.hB,b0,⟨_,b2,rfl⟩,Nat.le_refl _,by omega,by omega⟩
 have HE:=Zh b1
 have hzW:w.heap.size<W.heap.size:=by omega
 clear b0 b1 b2 hbW hz HC
 obtain⟨q0,cp,hvr,hat⟩:=HU.out.ref.rgAt (show 0<r.regs.length by omega)
 have k13:W.cell? ⟨w.heap.size,13,none⟩=some (.slice (some ⟨q0,0,none⟩) r.regs.length cp):=by rw [<- hvr];exact HU.out.blk.cell 13
 have e0:=HE.out.cm 0
 have e1:=HE.out.cm 1
 have e2:=HE.out.cm 2
 have e3:=HE.out.cm 3
 have e4:=HE.out.cm 4
 have e5:=HE.out.cm 5
 have c3:W.cell? ⟨q0,a*4+3,none⟩=some (.int .u64 ((xa.on<<<S.C.ahead:Nat):Int)):=by
  obtain⟨p,o,e,hc⟩:=hat a xa hxa
  simp only [Option.some.injEq,Addr.mk.injEq,and_true] at e
  obtain⟨rfl,rfl⟩:=e
  have:=hc 3 _ rfl
  rwa [Nat.zero_add] at this
 have HSS:=Zh (show ∀ y,Below W.heap.size W y->(fun y:World=>Zb0 w y B w.heap.size (w.heap.size+1+1) S r false V/\(Zdi S.C.ahead).At y (some ⟨q0,0,none⟩) r.regs/\y.cell? ⟨w.heap.size,13,none⟩=some (.slice (some ⟨q0,0,none⟩) r.regs.length cp)/\y.cell? ⟨w.heap.size+1,0,none⟩=some (.int .i64 4)/\y.cell? ⟨w.heap.size+1,1,none⟩=some (.int .i64 (d:Int))/\y.cell? ⟨w.heap.size+1,2,none⟩=some (.int .i64 (a:Int))/\y.cell? ⟨w.heap.size+1,3,none⟩=some (.int .i64 (b:Int))/\y.cell? ⟨w.heap.size+1,4,none⟩=some (.int .i64 imm)/\y.cell? ⟨w.heap.size+1,5,none⟩=some (.string ⟨loc.toArray⟩)/\y.cell? ⟨q0,a*4+3,none⟩=some (.int .u64 ((xa.on<<<S.C.ahead:Nat):Int))) y from fun y hb=>⟨HU.out.below hb,hat.below hb,Zac k13 hb,Zac e0 hb,Zac e1 hb,Zac e2 hb,Zac e3 hb,Zac e4 hb,Zac e5 hb,Zac c3 hb⟩)
 have hi1:(0:Int)<=(a:Int):=by omega
 have hi2:(a:Int)<(r.regs.length:Int):=by omega
 have hi3:(0:Int)<=(b:Int):=by omega
 have hi4:(b:Int)<(r.regs.length:Int):=by omega
 clear hat hvr HR hR
 repeat (first | ((with_reducible refine Zao ?_);refine Zaw 121 3 w.heap.size rfl rfl HU.out.blk Tryz.underlying121 rfl (by kernel_rfl) rfl ?_) | (go_at_call 173;refine Hid.out ?_) | go_step)
 refine Zh ?_
 refine (HW.out V W HU.out.ref).mono ?_
 rintro e w1 ⟨r1,fl1,V1,rfl,hr1,hk1,hg1⟩
 dsimp only
 obtain⟨z,hz,hzs⟩:=HU.out.out1 hk1
 repeat (first | ((with_reducible refine Zao ?_);refine Zam 121 6 58 (w.heap.size+1+1) rfl rfl rfl hz (by exact hzs) (by kernel_rfl) (Zbf _ _ _ _) rfl rfl ?_) | go_step)
 refine Zbs 121 6 (w.heap.size+1+1) rfl (hz.row _) Tryz.underlying121 rfl (by kernel_rfl) rfl rfl ?_
 exact Zbp.of (HU.out.ret1 hr1 hk1) hg1
theorem Zxu (B:Nat)(S:RrS)(_hS:Zeh S)(_hrisc:S.C.risc=decide (S.T.arch=2))(r:Rn)(V:RrV)(nr k:Nat)(_hI:Inv S.C nr k r)(_hnr:nr<=32)(_hfl:r.full=false)(pl:Nat)(d a b:Nat)(_hd:d<nr)(xa xb:Rg)(hxa:r.regs[a]?=some xa)(hxb:r.regs[b]?=some xb)(imm:Int)(loc label:List UInt8)(fence:Int)(w:World)(hR:Za7 w B S r V):Calls Tryz.prog 104 #[rrV S r false V,.int .i64 (pl:Int),.agg #[.int .i64 12,.int .i64 (d:Int),.int .i64 (a:Int),.int .i64 (b:Int),.int .i64 imm,.string ⟨loc.toArray⟩,.string ⟨label.toArray⟩,.int .i64 fence]] w (Zew B S r false w):=by
 have HR:=Zh hR
 have hal:=(List.getElem?_eq_some_iff.1 hxa).1
 have hbl:=(List.getElem?_eq_some_iff.1 hxb).1
 obtain⟨c,hc⟩:∃ c,c=rrC S r false V:=⟨_,rfl⟩
 rw [show rrV S r false V=.agg c by rw [hc]]
 have HC:=Zh hc
 clear hc
 go_enter Tryz.func104,Tryz.ntmps104
 apply wp_seq_k
 intro K hK
 have HK:=Zh hK
 clear hK
 go_wp2_with fail
 refine Zg5 (P:=fun X=>K _ X) w _ _ _ _ _ _ ?_
 intro W b0 b1 b2 hz hbW
 refine HK.out _ _ ?_
 clear HK K
 rw [HC.out] at b0
 have HU:Hid (Zb0 w W B w.heap.size (w.heap.size+1+1) S r false V):=Zh ⟨HR.out.below hbW,Za9.of_below hbW HR.out.hB,HR.out.hB,b0,⟨_,b2,rfl⟩,Nat.le_refl _,by omega,by omega⟩
 have HE:=Zh b1
 have hzW:w.heap.size<W.heap.size:=by omega
 clear b0 b1 b2 hbW hz HC
 obtain⟨q0,cp,hvr,hat⟩:=HU.out.ref.rgAt (show 0<r.regs.length by omega)
 have k13:W.cell? ⟨w.heap.size,13,none⟩=some (.slice (some ⟨q0,0,none⟩) r.regs.length cp):=by rw [<- hvr];exact HU.out.blk.cell 13
 have e0:=HE.out.cm 0
 have e1:=HE.out.cm 1
 have e2:=HE.out.cm 2
 have e3:=HE.out.cm 3
 have e4:=HE.out.cm 4
 have e5:=HE.out.cm 5
 have c3:W.cell? ⟨q0,a*4+3,none⟩=some (.int .u64 ((xa.on<<<S.C.ahead:Nat):Int)):=by
  obtain⟨p,o,e,hc⟩:=hat a xa hxa
  simp only [Option.some.injEq,Addr.mk.injEq,and_true] at e
  obtain⟨rfl,rfl⟩:=e
  have:=hc 3 _ rfl
  rwa [Nat.zero_add] at this
 have HSS:=Zh (show ∀ y,Below W.heap.size W y->(fun y:World=>Zb0 w y B w.heap.size (w.heap.size+1+1) S r false V/\(Zdi S.C.ahead).At y (some ⟨q0,0,none⟩) r.regs/\y.cell? ⟨w.heap.size,13,none⟩=some (.slice (some ⟨q0,0,none⟩) r.regs.length cp)/\y.cell? ⟨w.heap.size+1,0,none⟩=some (.int .i64 12)/\y.cell? ⟨w.heap.size+1,1,none⟩=some (.int .i64 (d:Int))/\y.cell? ⟨w.heap.size+1,2,none⟩=some (.int .i64 (a:Int))/\y.cell? ⟨w.heap.size+1,3,none⟩=some (.int .i64 (b:Int))/\y.cell? ⟨w.heap.size+1,4,none⟩=some (.int .i64 imm)/\y.cell? ⟨w.heap.size+1,5,none⟩=some (.string ⟨loc.toArray⟩)/\y.cell? ⟨q0,a*4+3,none⟩=some (.int .u64 ((xa.on<<<S.C.ahead:Nat):Int))) y from fun y hb=>⟨HU.out.below hb,hat.below hb,Zac k13 hb,Zac e0 hb,Zac e1 hb,Zac e2 hb,Zac e3 hb,Zac e4 hb,Zac e5 hb,Zac c3 hb⟩)
 have hi1:(0:Int)<=(a:Int):=by omega
 have hi2:(a:Int)<(r.regs.length:Int):=by omega
 have hi3:(0:Int)<=(b:Int):=by omega
 have hi4:(b:Int)<(r.regs.length:Int):=by omega
 clear hat hvr HR hR
 repeat (first | ((with_reducible refine Zfp ?_);refine Zch Tryz.f104 3 6 211 rfl rfl rfl rfl rfl rfl rfl HU.out rfl rfl (by decide) (of_decide_eq_true rfl) rfl (fun _ _ h=>h)) | go_step)
theorem Z2m (B:Nat)(S:RrS)(hS:Zeh S)(_hrisc:S.C.risc=decide (S.T.arch=2))(r:Rn)(V:RrV)(nr k:Nat)(hI:Inv S.C nr k r)(_hnr:nr<=32)(_hfl:r.full=false)(pl:Nat)(d a b:Nat)(_hd:d<nr)(xa xb:Rg)(hxa:r.regs[a]?=some xa)(hxb:r.regs[b]?=some xb)(imm:Int)(loc label:List UInt8)(fence:Int)(w:World)(hR:Za7 w B S r V)(hk:k<=256):Calls Tryz.prog 104 #[rrV S r false V,.int .i64 (pl:Int),.agg #[.int .i64 5,.int .i64 (d:Int),.int .i64 (a:Int),.int .i64 (b:Int),.int .i64 imm,.string ⟨loc.toArray⟩,.string ⟨label.toArray⟩,.int .i64 fence]] w (Zew B S (Z10 S.C r pl 1) false w):=by
 have HR:=Zh hR
 have hal:=(List.getElem?_eq_some_iff.1 hxa).1
 have hbl:=(List.getElem?_eq_some_iff.1 hxb).1
 obtain⟨c,hc⟩:∃ c,c=rrC S r false V:=⟨_,rfl⟩
 rw [show rrV S r false V=.agg c by rw [hc]]
 have HC:=Zh hc
 clear hc
 go_enter Tryz.func104,Tryz.ntmps104
 apply wp_seq_k
 intro K hK
 have HK:=Zh hK
 clear hK
 go_wp2_with fail
 refine Zg5 (P:=fun X=>K _ X) w _ _ _ _ _ _ ?_
 intro W b0 b1 b2 hz hbW
 refine HK.out _ _ ?_
 clear HK K
 rw [HC.out] at b0
 have HU:Hid (Zb0 w W B w.heap.size (w.heap.size+1+1) S r false V):=Zh ⟨HR.out.below hbW,Za9.of_below hbW HR.out.hB,HR.out.hB,b0,⟨_,b2,rfl⟩,Nat.le_refl _,by omega,by omega⟩
 have HE:=Zh b1
 have hzW:w.heap.size<W.heap.size:=by omega
 clear b0 b1 b2 hbW hz HC
 obtain⟨q0,cp,hvr,hat⟩:=HU.out.ref.rgAt (show 0<r.regs.length by omega)
 have k13:W.cell? ⟨w.heap.size,13,none⟩=some (.slice (some ⟨q0,0,none⟩) r.regs.length cp):=by rw [<- hvr];exact HU.out.blk.cell 13
 have e0:=HE.out.cm 0
 have e1:=HE.out.cm 1
 have e2:=HE.out.cm 2
 have e3:=HE.out.cm 3
 have e4:=HE.out.cm 4
 have e5:=HE.out.cm 5
 have c3:W.cell? ⟨q0,a*4+3,none⟩=some (.int .u64 ((xa.on<<<S.C.ahead:Nat):Int)):=by
  obtain⟨p,o,e,hc⟩:=hat a xa hxa
  simp only [Option.some.injEq,Addr.mk.injEq,and_true] at e
  obtain⟨rfl,rfl⟩:=e
  have:=hc 3 _ rfl
  rwa [Nat.zero_add] at this
 have HSS:=Zh (show ∀ y,Below W.heap.size W y->(fun y:World=>Zb0 w y B w.heap.size (w.heap.size+1+1) S r false V/\(Zdi S.C.ahead).At y (some ⟨q0,0,none⟩) r.regs/\y.cell? ⟨w.heap.size,13,none⟩=some (.slice (some ⟨q0,0,none⟩) r.regs.length cp)/\y.cell? ⟨w.heap.size+1,0,none⟩=some (.int .i64 5)/\y.cell? ⟨w.heap.size+1,1,none⟩=some (.int .i64 (d:Int))/\y.cell? ⟨w.heap.size+1,2,none⟩=some (.int .i64 (a:Int))/\y.cell? ⟨w.heap.size+1,3,none⟩=some (.int .i64 (b:Int))/\y.cell? ⟨w.heap.size+1,4,none⟩=some (.int .i64 imm)/\y.cell? ⟨w.heap.size+1,5,none⟩=some (.string ⟨loc.toArray⟩)/\y.cell? ⟨q0,a*4+3,none⟩=some (.int .u64 ((xa.on<<<S.C.ahead:Nat):Int))) y from fun y hb=>⟨HU.out.below hb,hat.below hb,Zac k13 hb,Zac e0 hb,Zac e1 hb,Zac e2 hb,Zac e3 hb,Zac e4 hb,Zac e5 hb,Zac c3 hb⟩)
 have hi1:(0:Int)<=(a:Int):=by omega
 have hi2:(a:Int)<(r.regs.length:Int):=by omega
 have hi3:(0:Int)<=(b:Int):=by omega
 have hi4:(b:Int)<(r.regs.length:Int):=by omega
 clear hat hvr HR hR
 skip
 have k12:=HU.out.blk.cm 12
 have k18:W.cell? ⟨w.heap.size,18,none⟩=some V.br.v:=HU.out.blk.cell 18
 have HBL:=Zh (show (S.a.bars++r.bars).length<=1000000 by have:=hS.l4;have:=hI.bars;rw [List.length_append];omega)
 go_wp2_with (at_builtin;refine Hid.out ?_)
 have HA:=Zh (Ztp W (S.C.th:Int) (pl:Int) 1)
 have HV:=Zh (HU.out.below (Zad W (.cells #[.int .i64 (S.C.th:Int),.int .i64 (pl:Int),.int .i64 1] 79 (0,0))))
 refine Zh ?_
 refine Enc.appW Zwl _ rfl (.tmp 63) (.tmp 68) rfl [⟨(S.C.th:Int),(pl:Int),1⟩] B (S.a.bars++r.bars) V.br.v W.heap.size 0 1 rfl rfl HA.out HV.out.ref.br (by have:=HBL.out;simp only [List.length_singleton];omega) (by have:=HBL.out;simp only [List.length_singleton];omega) HV.out.ref.hB ?_
 intro v' w4 ho4 hg4
 obtain⟨s4,rfl,hs4⟩:=Zee ho4
 clear hs4
 rw [List.append_assoc] at ho4
 have hb4:=Zat HV.out.blk HV.out.ref.br (by decide) hg4
 have HU:=Zh (HV.out.br hg4 ho4)
 have k18:w4.cell? ⟨w.heap.size,18,none⟩=some V.br.v:=hb4.cell 18
 have f18:=hb4.frozen 18
 repeat (first | ((with_reducible refine Zfp ?_);refine Zch Tryz.f104 3 6 211 rfl rfl rfl rfl rfl rfl rfl HU.out rfl rfl (by decide) (of_decide_eq_true rfl) rfl (fun _ _ h=>h)) | go_step)
theorem Zx8 (B:Nat)(S:RrS)(hS:Zeh S)(_hrisc:S.C.risc=decide (S.T.arch=2))(r:Rn)(V:RrV)(nr k:Nat)(hI:Inv S.C nr k r)(_hnr:nr<=32)(_hfl:r.full=false)(pl:Nat)(d a b:Nat)(_hd:d<nr)(xa xb:Rg)(hxa:r.regs[a]?=some xa)(hxb:r.regs[b]?=some xb)(imm:Int)(loc label:List UInt8)(fence:Int)(w:World)(hR:Za7 w B S r V)(hk:k<=256):Calls Tryz.prog 104 #[rrV S r false V,.int .i64 (pl:Int),.agg #[.int .i64 13,.int .i64 (d:Int),.int .i64 (a:Int),.int .i64 (b:Int),.int .i64 imm,.string ⟨loc.toArray⟩,.string ⟨label.toArray⟩,.int .i64 fence]] w (Zew B S (Z10 S.C r pl fence) false w):=by
 have HR:=Zh hR
 have hal:=(List.getElem?_eq_some_iff.1 hxa).1
 have hbl:=(List.getElem?_eq_some_iff.1 hxb).1
 obtain⟨c,hc⟩:∃ c,c=rrC S r false V:=⟨_,rfl⟩
 rw [show rrV S r false V=.agg c by rw [hc]]
 have HC:=Zh hc
 clear hc
 go_enter Tryz.func104,Tryz.ntmps104
 apply wp_seq_k
 intro K hK
 have HK:=Zh hK
 clear hK
 go_wp2_with fail
 refine Zg5 (P:=fun X=>K _ X) w _ _ _ _ _ _ ?_
 intro W b0 b1 b2 hz hbW
 refine HK.out _ _ ?_
 clear HK K
 rw [HC.out] at b0
 have HU:Hid (Zb0 w W B w.heap.size (w.heap.size+1+1) S r false V):=Zh ⟨HR.out.below hbW,Za9.of_below hbW HR.out.hB,HR.out.hB,b0,⟨_,b2,rfl⟩,Nat.le_refl _,by omega,by omega⟩
 have HE:=Zh b1
 have hzW:w.heap.size<W.heap.size:=by omega
 clear b0 b1 b2 hbW hz HC
 obtain⟨q0,cp,hvr,hat⟩:=HU.out.ref.rgAt (show 0<r.regs.length by omega)
 have k13:W.cell? ⟨w.heap.size,13,none⟩=some (.slice (some ⟨q0,0,none⟩) r.regs.length cp):=by rw [<- hvr];exact HU.out.blk.cell 13
 have e0:=HE.out.cm 0
 have e1:=HE.out.cm 1
 have e2:=HE.out.cm 2
 have e3:=HE.out.cm 3
 have e4:=HE.out.cm 4
 have e5:=HE.out.cm 5
 have c3:W.cell? ⟨q0,a*4+3,none⟩=some (.int .u64 ((xa.on<<<S.C.ahead:Nat):Int)):=by
  obtain⟨p,o,e,hc⟩:=hat a xa hxa
  simp only [Option.some.injEq,Addr.mk.injEq,and_true] at e
  obtain⟨rfl,rfl⟩:=e
  have:=hc 3 _ rfl
  rwa [Nat.zero_add] at this
 have HSS:=Zh (show ∀ y,Below W.heap.size W y->(fun y:World=>Zb0 w y B w.heap.size (w.heap.size+1+1) S r false V/\(Zdi S.C.ahead).At y (some ⟨q0,0,none⟩) r.regs/\y.cell? ⟨w.heap.size,13,none⟩=some (.slice (some ⟨q0,0,none⟩) r.regs.length cp)/\y.cell? ⟨w.heap.size+1,0,none⟩=some (.int .i64 13)/\y.cell? ⟨w.heap.size+1,1,none⟩=some (.int .i64 (d:Int))/\y.cell? ⟨w.heap.size+1,2,none⟩=some (.int .i64 (a:Int))/\y.cell? ⟨w.heap.size+1,3,none⟩=some (.int .i64 (b:Int))/\y.cell? ⟨w.heap.size+1,4,none⟩=some (.int .i64 imm)/\y.cell? ⟨w.heap.size+1,5,none⟩=some (.string ⟨loc.toArray⟩)/\y.cell? ⟨q0,a*4+3,none⟩=some (.int .u64 ((xa.on<<<S.C.ahead:Nat):Int))) y from fun y hb=>⟨HU.out.below hb,hat.below hb,Zac k13 hb,Zac e0 hb,Zac e1 hb,Zac e2 hb,Zac e3 hb,Zac e4 hb,Zac e5 hb,Zac c3 hb⟩)
 have hi1:(0:Int)<=(a:Int):=by omega
 have hi2:(a:Int)<(r.regs.length:Int):=by omega
 have hi3:(0:Int)<=(b:Int):=by omega
 have hi4:(b:Int)<(r.regs.length:Int):=by omega
 clear hat hvr HR hR
 (have e7:W.cell? ⟨w.heap.size+1,7,none⟩=some (.int .i64 fence):=HE.out.cell 7)
 have k12:=HU.out.blk.cm 12
 have k18:W.cell? ⟨w.heap.size,18,none⟩=some V.br.v:=HU.out.blk.cell 18
 have HBL:=Zh (show (S.a.bars++r.bars).length<=1000000 by have:=hS.l4;have:=hI.bars;rw [List.length_append];omega)
 go_wp2_with (at_builtin;refine Hid.out ?_)
 have HA:=Zh (Ztp W (S.C.th:Int) (pl:Int) fence)
 have HV:=Zh (HU.out.below (Zad W (.cells #[.int .i64 (S.C.th:Int),.int .i64 (pl:Int),.int .i64 fence] 79 (0,0))))
 refine Zh ?_
 refine Enc.appW Zwl _ rfl (.tmp 76) (.tmp 83) rfl [⟨(S.C.th:Int),(pl:Int),fence⟩] B (S.a.bars++r.bars) V.br.v W.heap.size 0 1 rfl rfl HA.out HV.out.ref.br (by have:=HBL.out;simp only [List.length_singleton];omega) (by have:=HBL.out;simp only [List.length_singleton];omega) HV.out.ref.hB ?_
 intro v' w4 ho4 hg4
 obtain⟨s4,rfl,hs4⟩:=Zee ho4
 clear hs4
 rw [List.append_assoc] at ho4
 have hb4:=Zat HV.out.blk HV.out.ref.br (by decide) hg4
 have HU:=Zh (HV.out.br hg4 ho4)
 have k18:w4.cell? ⟨w.heap.size,18,none⟩=some V.br.v:=hb4.cell 18
 have f18:=hb4.frozen 18
 repeat (first | ((with_reducible refine Zfp ?_);refine Zch Tryz.f104 3 6 211 rfl rfl rfl rfl rfl rfl rfl HU.out rfl rfl (by decide) (of_decide_eq_true rfl) rfl (fun _ _ h=>h)) | go_step)
end
section
set_option maxHeartbeats 4000000
set_option maxRecDepth 100000
theorem Z2i (B:Nat)(S:RrS)(_hS:Zeh S)(hrisc:S.C.risc=decide (S.T.arch=2))(r:Rn)(V:RrV)(nr k:Nat)(hI:Inv S.C nr k r)(hnr:nr<=32)(_hfl:r.full=false)(pl:Nat)(d a b:Nat)(hd:d<nr)(xa xb:Rg)(hxa:r.regs[a]?=some xa)(hxb:r.regs[b]?=some xb)(imm:Int)(loc label:List UInt8)(fence:Int)(w:World)(hR:Za7 w B S r V)(hok:Zid S.C r.evs xa)(himm:Zdj imm)(hlt:xa.on<<<S.C.ahead<18446744073709551616):Calls Tryz.prog 104 #[rrV S r false V,.int .i64 (pl:Int),.agg #[.int .i64 8,.int .i64 (d:Int),.int .i64 (a:Int),.int .i64 (b:Int),.int .i64 imm,.string ⟨loc.toArray⟩,.string ⟨label.toArray⟩,.int .i64 fence]] w (Zbp B S (some (Zgr S.C r (d:Int) ⟨Zcs 8 xa.h (.num imm),xa.on⟩)) w):=by
 have HW:=Zh (fun V w h=>(Z23 B S hrisc r V d ⟨Zcs 8 xa.h (.num imm),xa.on⟩ w h (by rw [hI.rlen];exact hd) (by rw [hI.rlen];exact hnr)).mono fun e w' p=>(p.st rfl:Zbp B S (some (Zgr S.C r (d:Int) ⟨Zcs 8 xa.h (.num imm),xa.on⟩)) w e w'))
 have HMX:=Zh (fun w=>Zwe S.C.ahead 8 (Or.inl rfl) xa ⟨.num imm,0⟩ hok.1.num himm w hlt (by simp))
 simp only [Za3,Zax,Zb8,Zb7,Nat.zero_shiftLeft,Nat.or_zero] at HMX
 have HR:=Zh hR
 have hal:=(List.getElem?_eq_some_iff.1 hxa).1
 have hbl:=(List.getElem?_eq_some_iff.1 hxb).1
 obtain⟨c,hc⟩:∃ c,c=rrC S r false V:=⟨_,rfl⟩
 rw [show rrV S r false V=.agg c by rw [hc]]
 have HC:=Zh hc
 clear hc
 go_enter Tryz.func104,Tryz.ntmps104
 apply wp_seq_k
 intro K hK
 have HK:=Zh hK
 clear hK
 go_wp2_with fail
 refine Zg5 (P:=fun X=>K _ X) w _ _ _ _ _ _ ?_
 intro W b0 b1 b2 hz hbW
 refine HK.out _ _ ?_
 clear HK K
 rw [HC.out] at b0
 have HU:Hid (Zb0 w W B w.heap.size (w.heap.size+1+1) S r false V):=Zh ⟨HR.out.below hbW,Za9.of_below hbW HR.out.hB,HR.out.hB,b0,⟨_,b2,rfl⟩,Nat.le_refl _,by omega,by omega⟩
 have HE:=Zh b1
 have hzW:w.heap.size<W.heap.size:=by omega
 clear b0 b1 b2 hbW hz HC
 obtain⟨q0,cp,hvr,hat⟩:=HU.out.ref.rgAt (show 0<r.regs.length by omega)
 have k13:W.cell? ⟨w.heap.size,13,none⟩=some (.slice (some ⟨q0,0,none⟩) r.regs.length cp):=by rw [<- hvr];exact HU.out.blk.cell 13
 have e0:=HE.out.cm 0
 have e1:=HE.out.cm 1
 have e2:=HE.out.cm 2
 have e3:=HE.out.cm 3
 have e4:=HE.out.cm 4
 have e5:=HE.out.cm 5
 have c3:W.cell? ⟨q0,a*4+3,none⟩=some (.int .u64 ((xa.on<<<S.C.ahead:Nat):Int)):=by
  obtain⟨p,o,e,hc⟩:=hat a xa hxa
  simp only [Option.some.injEq,Addr.mk.injEq,and_true] at e
  obtain⟨rfl,rfl⟩:=e
  have:=hc 3 _ rfl
  rwa [Nat.zero_add] at this
 have HSS:=Zh (show ∀ y,Below W.heap.size W y->(fun y:World=>Zb0 w y B w.heap.size (w.heap.size+1+1) S r false V/\(Zdi S.C.ahead).At y (some ⟨q0,0,none⟩) r.regs/\y.cell? ⟨w.heap.size,13,none⟩=some (.slice (some ⟨q0,0,none⟩) r.regs.length cp)/\y.cell? ⟨w.heap.size+1,0,none⟩=some (.int .i64 8)/\y.cell? ⟨w.heap.size+1,1,none⟩=some (.int .i64 (d:Int))/\y.cell? ⟨w.heap.size+1,2,none⟩=some (.int .i64 (a:Int))/\y.cell? ⟨w.heap.size+1,3,none⟩=some (.int .i64 (b:Int))/\y.cell? ⟨w.heap.size+1,4,none⟩=some (.int .i64 imm)/\y.cell? ⟨w.heap.size+1,5,none⟩=some (.string ⟨loc.toArray⟩)/\y.cell? ⟨q0,a*4+3,none⟩=some (.int .u64 ((xa.on<<<S.C.ahead:Nat):Int))) y from fun y hb=>⟨HU.out.below hb,hat.below hb,Zac k13 hb,Zac e0 hb,Zac e1 hb,Zac e2 hb,Zac e3 hb,Zac e4 hb,Zac e5 hb,Zac c3 hb⟩)
 have hi1:(0:Int)<=(a:Int):=by omega
 have hi2:(a:Int)<(r.regs.length:Int):=by omega
 have hi3:(0:Int)<=(b:Int):=by omega
 have hi4:(b:Int)<(r.regs.length:Int):=by omega
 clear hat hvr HR hR
 go_wp2_with fail
 refine wz (fun y:World=>Zb0 w y B w.heap.size (w.heap.size+1+1) S r false V/\(Zdi S.C.ahead).At y (some ⟨q0,0,none⟩) r.regs/\y.cell? ⟨w.heap.size,13,none⟩=some (.slice (some ⟨q0,0,none⟩) r.regs.length cp)/\y.cell? ⟨w.heap.size+1,0,none⟩=some (.int .i64 8)/\y.cell? ⟨w.heap.size+1,1,none⟩=some (.int .i64 (d:Int))/\y.cell? ⟨w.heap.size+1,2,none⟩=some (.int .i64 (a:Int))/\y.cell? ⟨w.heap.size+1,3,none⟩=some (.int .i64 (b:Int))/\y.cell? ⟨w.heap.size+1,4,none⟩=some (.int .i64 imm)/\y.cell? ⟨w.heap.size+1,5,none⟩=some (.string ⟨loc.toArray⟩)/\y.cell? ⟨q0,a*4+3,none⟩=some (.int .u64 ((xa.on<<<S.C.ahead:Nat):Int))) [0,2,4,6,8,9,10,12,13,14] (HSS.out _ (Below.refl _ _).drew) (fun hHeld=>?_)
 refine wq 1 ?_
 refine wq 3 ?_
 refine wq 5 ?_
 refine wq 7 ?_
 refine wq 11 ?_
 refine wv 0 ((rrV S r false V)) rfl (fun x' hS=>Za0 rfl rfl (Zeq hS.1.blk)) (by assumption) ?_
 refine wt 2 (by assumption) ?_
 refine wt 4 (by assumption) ?_
 refine wt 6 (by assumption) ?_
 refine wt 8 (by assumption) ?_
 refine wt 9 (by assumption) ?_
 refine wv 10 ((Za3 S.C.ahead xa)) rfl (fun x' hS=>Za0 rfl rfl (Zdq hS.2.1 hxa)) (by assumption) ?_
 refine wt 12 (by assumption) ?_
 refine wt 13 (by assumption) ?_
 refine Zav (i:=14) (by kernel_rfl) rfl (fun K hK=>?_)
 go_simp
 go_at_call 175
 refine (HMX.out _).mono ?_
 rintro e wp ⟨rfl,hbp⟩
 have hS2:=HSS.out wp (Zar hbp)
 refine hK.out _ _ hS2 ?_
 clear hK K
 refine pu ?_
 refine wl 15 ?_
 repeat (first | (go_at_call 173;refine Hid.out ?_) | go_step)
 refine Zh ?_
 refine (HW.out V wp hS2.1.ref).mono ?_
 rintro e w1 ⟨r1,fl1,V1,rfl,hr1,hk1,hg1⟩
 dsimp only
 obtain⟨z,hz,hzs⟩:=hS2.1.out1 hk1
 repeat (first | ((with_reducible refine Zao ?_);refine Zam 121 6 151 (w.heap.size+1+1) rfl rfl rfl hz (by exact hzs) (by kernel_rfl) (Zbf _ _ _ _) rfl rfl ?_) | go_step)
 refine Zbs 121 6 (w.heap.size+1+1) rfl (hz.row _) Tryz.underlying121 rfl (by kernel_rfl) rfl rfl ?_
 exact Zbp.of (hS2.1.ret1 hr1 hk1) hg1
theorem Zxz (B:Nat)(S:RrS)(_hS:Zeh S)(hrisc:S.C.risc=decide (S.T.arch=2))(r:Rn)(V:RrV)(nr k:Nat)(hI:Inv S.C nr k r)(hnr:nr<=32)(_hfl:r.full=false)(pl:Nat)(d a b:Nat)(hd:d<nr)(xa xb:Rg)(hxa:r.regs[a]?=some xa)(hxb:r.regs[b]?=some xb)(imm:Int)(loc label:List UInt8)(fence:Int)(w:World)(hR:Za7 w B S r V)(hab:a=b):Calls Tryz.prog 104 #[rrV S r false V,.int .i64 (pl:Int),.agg #[.int .i64 9,.int .i64 (d:Int),.int .i64 (a:Int),.int .i64 (b:Int),.int .i64 imm,.string ⟨loc.toArray⟩,.string ⟨label.toArray⟩,.int .i64 fence]] w (Zbp B S (some (Zgr S.C r (d:Int) ⟨.num 0,xa.on⟩)) w):=by
 have HW:=Zh (fun V w h=>(Z23 B S hrisc r V d ⟨.num 0,xa.on⟩ w h (by rw [hI.rlen];exact hd) (by rw [hI.rlen];exact hnr)).mono fun e w' p=>(p.st rfl:Zbp B S (some (Zgr S.C r (d:Int) ⟨.num 0,xa.on⟩)) w e w'))
 simp only [Za3,Zax,Zb8,Zb7] at HW
 have hab2:decide ((a:Int)=(b:Int))=true:=by simp [hab]
 have hab3:((a:Int) == (b:Int))=true:=by simp [hab]
 clear hab
 have HR:=Zh hR
 have hal:=(List.getElem?_eq_some_iff.1 hxa).1
 have hbl:=(List.getElem?_eq_some_iff.1 hxb).1
 obtain⟨c,hc⟩:∃ c,c=rrC S r false V:=⟨_,rfl⟩
 rw [show rrV S r false V=.agg c by rw [hc]]
 have HC:=Zh hc
 clear hc
 go_enter Tryz.func104,Tryz.ntmps104
 apply wp_seq_k
 intro K hK
 have HK:=Zh hK
 clear hK
 go_wp2_with fail
 refine Zg5 (P:=fun X=>K _ X) w _ _ _ _ _ _ ?_
 intro W b0 b1 b2 hz hbW
 refine HK.out _ _ ?_
 clear HK K
 rw [HC.out] at b0
 have HU:Hid (Zb0 w W B w.heap.size (w.heap.size+1+1) S r false V):=Zh ⟨HR.out.below hbW,Za9.of_below hbW HR.out.hB,HR.out.hB,b0,⟨_,b2,rfl⟩,Nat.le_refl _,by omega,by omega⟩
 have HE:=Zh b1
 have hzW:w.heap.size<W.heap.size:=by omega
 clear b0 b1 b2 hbW hz HC
 obtain⟨q0,cp,hvr,hat⟩:=HU.out.ref.rgAt (show 0<r.regs.length by omega)
 have k13:W.cell? ⟨w.heap.size,13,none⟩=some (.slice (some ⟨q0,0,none⟩) r.regs.length cp):=by rw [<- hvr];exact HU.out.blk.cell 13
 have e0:=HE.out.cm 0
 have e1:=HE.out.cm 1
 have e2:=HE.out.cm 2
 have e3:=HE.out.cm 3
 have e4:=HE.out.cm 4
 have e5:=HE.out.cm 5
 have c3:W.cell? ⟨q0,a*4+3,none⟩=some (.int .u64 ((xa.on<<<S.C.ahead:Nat):Int)):=by
  obtain⟨p,o,e,hc⟩:=hat a xa hxa
  simp only [Option.some.injEq,Addr.mk.injEq,and_true] at e
  obtain⟨rfl,rfl⟩:=e
  have:=hc 3 _ rfl
  rwa [Nat.zero_add] at this
 have HSS:=Zh (show ∀ y,Below W.heap.size W y->(fun y:World=>Zb0 w y B w.heap.size (w.heap.size+1+1) S r false V/\(Zdi S.C.ahead).At y (some ⟨q0,0,none⟩) r.regs/\y.cell? ⟨w.heap.size,13,none⟩=some (.slice (some ⟨q0,0,none⟩) r.regs.length cp)/\y.cell? ⟨w.heap.size+1,0,none⟩=some (.int .i64 9)/\y.cell? ⟨w.heap.size+1,1,none⟩=some (.int .i64 (d:Int))/\y.cell? ⟨w.heap.size+1,2,none⟩=some (.int .i64 (a:Int))/\y.cell? ⟨w.heap.size+1,3,none⟩=some (.int .i64 (b:Int))/\y.cell? ⟨w.heap.size+1,4,none⟩=some (.int .i64 imm)/\y.cell? ⟨w.heap.size+1,5,none⟩=some (.string ⟨loc.toArray⟩)/\y.cell? ⟨q0,a*4+3,none⟩=some (.int .u64 ((xa.on<<<S.C.ahead:Nat):Int))) y from fun y hb=>⟨HU.out.below hb,hat.below hb,Zac k13 hb,Zac e0 hb,Zac e1 hb,Zac e2 hb,Zac e3 hb,Zac e4 hb,Zac e5 hb,Zac c3 hb⟩)
 have hi1:(0:Int)<=(a:Int):=by omega
 have hi2:(a:Int)<(r.regs.length:Int):=by omega
 have hi3:(0:Int)<=(b:Int):=by omega
 have hi4:(b:Int)<(r.regs.length:Int):=by omega
 clear hat hvr HR hR
 go_wp2_with fail
 refine wz (fun y:World=>Zb0 w y B w.heap.size (w.heap.size+1+1) S r false V/\(Zdi S.C.ahead).At y (some ⟨q0,0,none⟩) r.regs/\y.cell? ⟨w.heap.size,13,none⟩=some (.slice (some ⟨q0,0,none⟩) r.regs.length cp)/\y.cell? ⟨w.heap.size+1,0,none⟩=some (.int .i64 9)/\y.cell? ⟨w.heap.size+1,1,none⟩=some (.int .i64 (d:Int))/\y.cell? ⟨w.heap.size+1,2,none⟩=some (.int .i64 (a:Int))/\y.cell? ⟨w.heap.size+1,3,none⟩=some (.int .i64 (b:Int))/\y.cell? ⟨w.heap.size+1,4,none⟩=some (.int .i64 imm)/\y.cell? ⟨w.heap.size+1,5,none⟩=some (.string ⟨loc.toArray⟩)/\y.cell? ⟨q0,a*4+3,none⟩=some (.int .u64 ((xa.on<<<S.C.ahead:Nat):Int))) [0,2,4,6,7,8,9,10] (HSS.out _ (Below.refl _ _).drew) (fun hHeld=>?_)
 refine wq 1 ?_
 refine wq 3 ?_
 refine wq 5 ?_
 refine wv 0 ((rrV S r false V)) rfl (fun x' hS=>Za0 rfl rfl (Zeq hS.1.blk)) (by assumption) ?_
 refine wt 2 (by assumption) ?_
 refine wt 4 (by assumption) ?_
 refine wt 6 (by assumption) ?_
 refine wt 7 (by assumption) ?_
 refine wt 8 (by assumption) ?_
 refine wt 9 (by assumption) ?_
 refine wt 10 (by assumption) ?_
 refine wl 11 ?_
 repeat (first | (go_at_call 173;refine Hid.out ?_) | go_step)
 refine Zh ?_
 refine (HW.out V _ hHeld.1.ref).mono ?_
 rintro e w1 ⟨r1,fl1,V1,rfl,hr1,hk1,hg1⟩
 dsimp only
 obtain⟨z,hz,hzs⟩:=hHeld.1.out1 hk1
 repeat (first | ((with_reducible refine Zao ?_);refine Zam 121 6 170 (w.heap.size+1+1) rfl rfl rfl hz (by exact hzs) (by kernel_rfl) (Zbf _ _ _ _) rfl rfl ?_) | go_step)
 refine Zbs 121 6 (w.heap.size+1+1) rfl (hz.row _) Tryz.underlying121 rfl (by kernel_rfl) rfl rfl ?_
 exact Zbp.of (hHeld.1.ret1 hr1 hk1) hg1
theorem Z0t (B:Nat)(S:RrS)(_hS:Zeh S)(hrisc:S.C.risc=decide (S.T.arch=2))(r:Rn)(V:RrV)(nr k:Nat)(hI:Inv S.C nr k r)(hnr:nr<=32)(_hfl:r.full=false)(pl:Nat)(d a b:Nat)(hd:d<nr)(xa xb:Rg)(hxa:r.regs[a]?=some xa)(hxb:r.regs[b]?=some xb)(imm:Int)(loc label:List UInt8)(fence:Int)(w:World)(hR:Za7 w B S r V)(hoka:Zid S.C r.evs xa)(hokb:Zid S.C r.evs xb)(hlta:xa.on<<<S.C.ahead<18446744073709551616)(hltb:xb.on<<<S.C.ahead<18446744073709551616)(hab:a≠b):Calls Tryz.prog 104 #[rrV S r false V,.int .i64 (pl:Int),.agg #[.int .i64 9,.int .i64 (d:Int),.int .i64 (a:Int),.int .i64 (b:Int),.int .i64 imm,.string ⟨loc.toArray⟩,.string ⟨label.toArray⟩,.int .i64 fence]] w (Zbp B S (some (Zgr S.C r (d:Int) ⟨Zcs 9 xa.h xb.h,xa.on|||xb.on⟩)) w):=by
 have HW:=Zh (fun V w h=>(Z23 B S hrisc r V d ⟨Zcs 9 xa.h xb.h,xa.on|||xb.on⟩ w h (by rw [hI.rlen];exact hd) (by rw [hI.rlen];exact hnr)).mono fun e w' p=>(p.st rfl:Zbp B S (some (Zgr S.C r (d:Int) ⟨Zcs 9 xa.h xb.h,xa.on|||xb.on⟩)) w e w'))
 have HMX:=Zh (fun w=>Zwe S.C.ahead 9 (Or.inr (Or.inl rfl)) xa xb hoka.1.num hokb.1.num w hlta hltb)
 have HR:=Zh hR
 have hal:=(List.getElem?_eq_some_iff.1 hxa).1
 have hbl:=(List.getElem?_eq_some_iff.1 hxb).1
 obtain⟨c,hc⟩:∃ c,c=rrC S r false V:=⟨_,rfl⟩
 rw [show rrV S r false V=.agg c by rw [hc]]
 have HC:=Zh hc
 clear hc
 go_enter Tryz.func104,Tryz.ntmps104
 apply wp_seq_k
 intro K hK
 have HK:=Zh hK
 clear hK
 go_wp2_with fail
 refine Zg5 (P:=fun X=>K _ X) w _ _ _ _ _ _ ?_
 intro W b0 b1 b2 hz hbW
 refine HK.out _ _ ?_
 clear HK K
 rw [HC.out] at b0
 have HU:Hid (Zb0 w W B w.heap.size (w.heap.size+1+1) S r false V):=Zh ⟨HR.out.below hbW,Za9.of_below hbW HR.out.hB,HR.out.hB,b0,⟨_,b2,rfl⟩,Nat.le_refl _,by omega,by omega⟩
 have HE:=Zh b1
 have hzW:w.heap.size<W.heap.size:=by omega
 clear b0 b1 b2 hbW hz HC
 obtain⟨q0,cp,hvr,hat⟩:=HU.out.ref.rgAt (show 0<r.regs.length by omega)
 have k13:W.cell? ⟨w.heap.size,13,none⟩=some (.slice (some ⟨q0,0,none⟩) r.regs.length cp):=by rw [<- hvr];exact HU.out.blk.cell 13
 have e0:=HE.out.cm 0
 have e1:=HE.out.cm 1
 have e2:=HE.out.cm 2
 have e3:=HE.out.cm 3
 have e4:=HE.out.cm 4
 have e5:=HE.out.cm 5
 have c3:W.cell? ⟨q0,a*4+3,none⟩=some (.int .u64 ((xa.on<<<S.C.ahead:Nat):Int)):=by
  obtain⟨p,o,e,hc⟩:=hat a xa hxa
  simp only [Option.some.injEq,Addr.mk.injEq,and_true] at e
  obtain⟨rfl,rfl⟩:=e
  have:=hc 3 _ rfl
  rwa [Nat.zero_add] at this
 have HSS:=Zh (show ∀ y,Below W.heap.size W y->(fun y:World=>Zb0 w y B w.heap.size (w.heap.size+1+1) S r false V/\(Zdi S.C.ahead).At y (some ⟨q0,0,none⟩) r.regs/\y.cell? ⟨w.heap.size,13,none⟩=some (.slice (some ⟨q0,0,none⟩) r.regs.length cp)/\y.cell? ⟨w.heap.size+1,0,none⟩=some (.int .i64 9)/\y.cell? ⟨w.heap.size+1,1,none⟩=some (.int .i64 (d:Int))/\y.cell? ⟨w.heap.size+1,2,none⟩=some (.int .i64 (a:Int))/\y.cell? ⟨w.heap.size+1,3,none⟩=some (.int .i64 (b:Int))/\y.cell? ⟨w.heap.size+1,4,none⟩=some (.int .i64 imm)/\y.cell? ⟨w.heap.size+1,5,none⟩=some (.string ⟨loc.toArray⟩)/\y.cell? ⟨q0,a*4+3,none⟩=some (.int .u64 ((xa.on<<<S.C.ahead:Nat):Int))) y from fun y hb=>⟨HU.out.below hb,hat.below hb,Zac k13 hb,Zac e0 hb,Zac e1 hb,Zac e2 hb,Zac e3 hb,Zac e4 hb,Zac e5 hb,Zac c3 hb⟩)
 have hi1:(0:Int)<=(a:Int):=by omega
 have hi2:(a:Int)<(r.regs.length:Int):=by omega
 have hi3:(0:Int)<=(b:Int):=by omega
 have hi4:(b:Int)<(r.regs.length:Int):=by omega
 clear hat hvr HR hR
 (have hab2:decide ((a:Int)=(b:Int))=false:=by simp;omega);have hab3:((a:Int) == (b:Int))=false:=by simp;omega
 go_wp2_with fail
 refine wz (fun y:World=>Zb0 w y B w.heap.size (w.heap.size+1+1) S r false V/\(Zdi S.C.ahead).At y (some ⟨q0,0,none⟩) r.regs/\y.cell? ⟨w.heap.size,13,none⟩=some (.slice (some ⟨q0,0,none⟩) r.regs.length cp)/\y.cell? ⟨w.heap.size+1,0,none⟩=some (.int .i64 9)/\y.cell? ⟨w.heap.size+1,1,none⟩=some (.int .i64 (d:Int))/\y.cell? ⟨w.heap.size+1,2,none⟩=some (.int .i64 (a:Int))/\y.cell? ⟨w.heap.size+1,3,none⟩=some (.int .i64 (b:Int))/\y.cell? ⟨w.heap.size+1,4,none⟩=some (.int .i64 imm)/\y.cell? ⟨w.heap.size+1,5,none⟩=some (.string ⟨loc.toArray⟩)/\y.cell? ⟨q0,a*4+3,none⟩=some (.int .u64 ((xa.on<<<S.C.ahead:Nat):Int))) [0,2,4,6,8,9,10,12,14,15,16,17] (HSS.out _ (Below.refl _ _).drew) (fun hHeld=>?_)
 refine wq 1 ?_
 refine wq 3 ?_
 refine wq 5 ?_
 refine wq 7 ?_
 refine wq 11 ?_
 refine wq 13 ?_
 refine wv 0 ((rrV S r false V)) rfl (fun x' hS=>Za0 rfl rfl (Zeq hS.1.blk)) (by assumption) ?_
 refine wt 2 (by assumption) ?_
 refine wt 4 (by assumption) ?_
 refine wt 6 (by assumption) ?_
 refine wt 8 (by assumption) ?_
 refine wt 9 (by assumption) ?_
 refine wv 10 ((Za3 S.C.ahead xa)) rfl (fun x' hS=>Za0 rfl rfl (Zdq hS.2.1 hxa)) (by assumption) ?_
 refine wt 12 (by assumption) ?_
 refine wt 14 (by assumption) ?_
 refine wt 15 (by assumption) ?_
 refine wv 16 ((Za3 S.C.ahead xb)) rfl (fun x' hS=>Za0 rfl rfl (Zdq hS.2.1 hxb)) (by assumption) ?_
 refine Zav (i:=17) (by kernel_rfl) rfl (fun K hK=>?_)
 go_simp
 go_at_call 175
 refine (HMX.out _).mono ?_
 rintro e wp ⟨rfl,hbp⟩
 have hS2:=HSS.out wp (Zar hbp)
 refine hK.out _ _ hS2 ?_
 clear hK K
 refine pu ?_
 refine wl 18 ?_
 repeat (first | (go_at_call 173;refine Hid.out ?_) | go_step)
 refine Zh ?_
 refine (HW.out V wp hS2.1.ref).mono ?_
 rintro e w1 ⟨r1,fl1,V1,rfl,hr1,hk1,hg1⟩
 dsimp only
 obtain⟨z,hz,hzs⟩:=hS2.1.out1 hk1
 repeat (first | ((with_reducible refine Zao ?_);refine Zam 121 6 189 (w.heap.size+1+1) rfl rfl rfl hz (by exact hzs) (by kernel_rfl) (Zbf _ _ _ _) rfl rfl ?_) | go_step)
 refine Zbs 121 6 (w.heap.size+1+1) rfl (hz.row _) Tryz.underlying121 rfl (by kernel_rfl) rfl rfl ?_
 exact Zbp.of (hS2.1.ret1 hr1 hk1) hg1
theorem Zxt (B:Nat)(S:RrS)(_hS:Zeh S)(hrisc:S.C.risc=decide (S.T.arch=2))(r:Rn)(V:RrV)(nr k:Nat)(hI:Inv S.C nr k r)(hnr:nr<=32)(_hfl:r.full=false)(pl:Nat)(d a b:Nat)(hd:d<nr)(xa xb:Rg)(hxa:r.regs[a]?=some xa)(hxb:r.regs[b]?=some xb)(imm:Int)(loc label:List UInt8)(fence:Int)(w:World)(hR:Za7 w B S r V)(hoka:Zid S.C r.evs xa)(hokb:Zid S.C r.evs xb)(hlta:xa.on<<<S.C.ahead<18446744073709551616)(hltb:xb.on<<<S.C.ahead<18446744073709551616):Calls Tryz.prog 104 #[rrV S r false V,.int .i64 (pl:Int),.agg #[.int .i64 10,.int .i64 (d:Int),.int .i64 (a:Int),.int .i64 (b:Int),.int .i64 imm,.string ⟨loc.toArray⟩,.string ⟨label.toArray⟩,.int .i64 fence]] w (Zbp B S (some (Zgr S.C r (d:Int) ⟨Zcs 10 xa.h xb.h,xa.on|||xb.on⟩)) w):=by
 have HW:=Zh (fun V w h=>(Z23 B S hrisc r V d ⟨Zcs 10 xa.h xb.h,xa.on|||xb.on⟩ w h (by rw [hI.rlen];exact hd) (by rw [hI.rlen];exact hnr)).mono fun e w' p=>(p.st rfl:Zbp B S (some (Zgr S.C r (d:Int) ⟨Zcs 10 xa.h xb.h,xa.on|||xb.on⟩)) w e w'))
 have HMX:=Zh (fun w=>Zwe S.C.ahead 10 (Or.inr (Or.inr rfl)) xa xb hoka.1.num hokb.1.num w hlta hltb)
 have HR:=Zh hR
 have hal:=(List.getElem?_eq_some_iff.1 hxa).1
 have hbl:=(List.getElem?_eq_some_iff.1 hxb).1
 obtain⟨c,hc⟩:∃ c,c=rrC S r false V:=⟨_,rfl⟩
 rw [show rrV S r false V=.agg c by rw [hc]]
 have HC:=Zh hc
 clear hc
 go_enter Tryz.func104,Tryz.ntmps104
 apply wp_seq_k
 intro K hK
 have HK:=Zh hK
 clear hK
 go_wp2_with fail
 refine Zg5 (P:=fun X=>K _ X) w _ _ _ _ _ _ ?_
 intro W b0 b1 b2 hz hbW
 refine HK.out _ _ ?_
 clear HK K
 rw [HC.out] at b0
 have HU:Hid (Zb0 w W B w.heap.size (w.heap.size+1+1) S r false V):=Zh ⟨HR.out.below hbW,Za9.of_below hbW HR.out.hB,HR.out.hB,b0,⟨_,b2,rfl⟩,Nat.le_refl _,by omega,by omega⟩
 have HE:=Zh b1
 have hzW:w.heap.size<W.heap.size:=by omega
 clear b0 b1 b2 hbW hz HC
 obtain⟨q0,cp,hvr,hat⟩:=HU.out.ref.rgAt (show 0<r.regs.length by omega)
 have k13:W.cell? ⟨w.heap.size,13,none⟩=some (.slice (some ⟨q0,0,none⟩) r.regs.length cp):=by rw [<- hvr];exact HU.out.blk.cell 13
 have e0:=HE.out.cm 0
 have e1:=HE.out.cm 1
 have e2:=HE.out.cm 2
 have e3:=HE.out.cm 3
 have e4:=HE.out.cm 4
 have e5:=HE.out.cm 5
 have c3:W.cell? ⟨q0,a*4+3,none⟩=some (.int .u64 ((xa.on<<<S.C.ahead:Nat):Int)):=by
  obtain⟨p,o,e,hc⟩:=hat a xa hxa
  simp only [Option.some.injEq,Addr.mk.injEq,and_true] at e
  obtain⟨rfl,rfl⟩:=e
  have:=hc 3 _ rfl
  rwa [Nat.zero_add] at this
 have HSS:=Zh (show ∀ y,Below W.heap.size W y->(fun y:World=>Zb0 w y B w.heap.size (w.heap.size+1+1) S r false V/\(Zdi S.C.ahead).At y (some ⟨q0,0,none⟩) r.regs/\y.cell? ⟨w.heap.size,13,none⟩=some (.slice (some ⟨q0,0,none⟩) r.regs.length cp)/\y.cell? ⟨w.heap.size+1,0,none⟩=some (.int .i64 10)/\y.cell? ⟨w.heap.size+1,1,none⟩=some (.int .i64 (d:Int))/\y.cell? ⟨w.heap.size+1,2,none⟩=some (.int .i64 (a:Int))/\y.cell? ⟨w.heap.size+1,3,none⟩=some (.int .i64 (b:Int))/\y.cell? ⟨w.heap.size+1,4,none⟩=some (.int .i64 imm)/\y.cell? ⟨w.heap.size+1,5,none⟩=some (.string ⟨loc.toArray⟩)/\y.cell? ⟨q0,a*4+3,none⟩=some (.int .u64 ((xa.on<<<S.C.ahead:Nat):Int))) y from fun y hb=>⟨HU.out.below hb,hat.below hb,Zac k13 hb,Zac e0 hb,Zac e1 hb,Zac e2 hb,Zac e3 hb,Zac e4 hb,Zac e5 hb,Zac c3 hb⟩)
 have hi1:(0:Int)<=(a:Int):=by omega
 have hi2:(a:Int)<(r.regs.length:Int):=by omega
 have hi3:(0:Int)<=(b:Int):=by omega
 have hi4:(b:Int)<(r.regs.length:Int):=by omega
 clear hat hvr HR hR
 skip
 go_wp2_with fail
 refine wz (fun y:World=>Zb0 w y B w.heap.size (w.heap.size+1+1) S r false V/\(Zdi S.C.ahead).At y (some ⟨q0,0,none⟩) r.regs/\y.cell? ⟨w.heap.size,13,none⟩=some (.slice (some ⟨q0,0,none⟩) r.regs.length cp)/\y.cell? ⟨w.heap.size+1,0,none⟩=some (.int .i64 10)/\y.cell? ⟨w.heap.size+1,1,none⟩=some (.int .i64 (d:Int))/\y.cell? ⟨w.heap.size+1,2,none⟩=some (.int .i64 (a:Int))/\y.cell? ⟨w.heap.size+1,3,none⟩=some (.int .i64 (b:Int))/\y.cell? ⟨w.heap.size+1,4,none⟩=some (.int .i64 imm)/\y.cell? ⟨w.heap.size+1,5,none⟩=some (.string ⟨loc.toArray⟩)/\y.cell? ⟨q0,a*4+3,none⟩=some (.int .u64 ((xa.on<<<S.C.ahead:Nat):Int))) [0,2,4,6,8,9,10,12,14,15,16,17] (HSS.out _ (Below.refl _ _).drew) (fun hHeld=>?_)
 refine wq 1 ?_
 refine wq 3 ?_
 refine wq 5 ?_
 refine wq 7 ?_
 refine wq 11 ?_
 refine wq 13 ?_
 refine wv 0 ((rrV S r false V)) rfl (fun x' hS=>Za0 rfl rfl (Zeq hS.1.blk)) (by assumption) ?_
 refine wt 2 (by assumption) ?_
 refine wt 4 (by assumption) ?_
 refine wt 6 (by assumption) ?_
 refine wt 8 (by assumption) ?_
 refine wt 9 (by assumption) ?_
 refine wv 10 ((Za3 S.C.ahead xa)) rfl (fun x' hS=>Za0 rfl rfl (Zdq hS.2.1 hxa)) (by assumption) ?_
 refine wt 12 (by assumption) ?_
 refine wt 14 (by assumption) ?_
 refine wt 15 (by assumption) ?_
 refine wv 16 ((Za3 S.C.ahead xb)) rfl (fun x' hS=>Za0 rfl rfl (Zdq hS.2.1 hxb)) (by assumption) ?_
 refine Zav (i:=17) (by kernel_rfl) rfl (fun K hK=>?_)
 go_simp
 go_at_call 175
 refine (HMX.out _).mono ?_
 rintro e wp ⟨rfl,hbp⟩
 have hS2:=HSS.out wp (Zar hbp)
 refine hK.out _ _ hS2 ?_
 clear hK K
 refine pu ?_
 refine wl 18 ?_
 repeat (first | (go_at_call 173;refine Hid.out ?_) | go_step)
 refine Zh ?_
 refine (HW.out V wp hS2.1.ref).mono ?_
 rintro e w1 ⟨r1,fl1,V1,rfl,hr1,hk1,hg1⟩
 dsimp only
 obtain⟨z,hz,hzs⟩:=hS2.1.out1 hk1
 repeat (first | ((with_reducible refine Zao ?_);refine Zam 121 6 210 (w.heap.size+1+1) rfl rfl rfl hz (by exact hzs) (by kernel_rfl) (Zbf _ _ _ _) rfl rfl ?_) | go_step)
 refine Zbs 121 6 (w.heap.size+1+1) rfl (hz.row _) Tryz.underlying121 rfl (by kernel_rfl) rfl rfl ?_
 exact Zbp.of (hS2.1.ret1 hr1 hk1) hg1
end
section
set_option maxHeartbeats 4000000
set_option maxRecDepth 100000
theorem Ztr (B:Nat)(S:RrS)(hS:Zeh S)(_hrisc:S.C.risc=decide (S.T.arch=2))(r:Rn)(V:RrV)(nr k:Nat)(_hI:Inv S.C nr k r)(_hnr:nr<=32)(_hfl:r.full=false)(pl:Nat)(d a b:Nat)(_hd:d<nr)(xa xb:Rg)(hxa:r.regs[a]?=some xa)(hxb:r.regs[b]?=some xb)(imm:Int)(loc label:List UInt8)(fence:Int)(w:World)(hR:Za7 w B S r V)(hadr:∀ s,xa.h=.adr s->s∈S.C.locs)(o:Option Rn)(at_:Int)(hat:atK S.C xa.h=at_)
  (HWo:∀ V w,Za7 w B S r V->Calls Tryz.prog 171 #[rrV S r false V,.int .i64 (pl:Int),.int .i64 at_,Za3 S.C.ahead xb,.int .u64 ((xa.on<<<S.C.ahead:Nat):Int)] w (Zbp B S o w)):Calls Tryz.prog 104 #[rrV S r false V,.int .i64 (pl:Int),.agg #[.int .i64 7,.int .i64 (d:Int),.int .i64 (a:Int),.int .i64 (b:Int),.int .i64 imm,.string ⟨loc.toArray⟩,.string ⟨label.toArray⟩,.int .i64 fence]] w (Zbp B S o w):=by
 have HW:=Zh HWo
 have HAT:=Zh hat
 clear HWo hat
 have HR:=Zh hR
 have hal:=(List.getElem?_eq_some_iff.1 hxa).1
 have hbl:=(List.getElem?_eq_some_iff.1 hxb).1
 obtain⟨c,hc⟩:∃ c,c=rrC S r false V:=⟨_,rfl⟩
 rw [show rrV S r false V=.agg c by rw [hc]]
 have HC:=Zh hc
 clear hc
 go_enter Tryz.func104,Tryz.ntmps104
 apply wp_seq_k
 intro K hK
 have HK:=Zh hK
 clear hK
 go_wp2_with fail
 refine Zg5 (P:=fun X=>K _ X) w _ _ _ _ _ _ ?_
 intro W b0 b1 b2 hz hbW
 refine HK.out _ _ ?_
 clear HK K
 rw [HC.out] at b0
 have HU:Hid (Zb0 w W B w.heap.size (w.heap.size+1+1) S r false V):=Zh ⟨HR.out.below hbW,Za9.of_below hbW HR.out.hB,HR.out.hB,b0,⟨_,b2,rfl⟩,Nat.le_refl _,by omega,by omega⟩
 have HE:=Zh b1
 have hzW:w.heap.size<W.heap.size:=by omega
 clear b0 b1 b2 hbW hz HC
 obtain⟨q0,cp,hvr,hat⟩:=HU.out.ref.rgAt (show 0<r.regs.length by omega)
 have k13:W.cell? ⟨w.heap.size,13,none⟩=some (.slice (some ⟨q0,0,none⟩) r.regs.length cp):=by rw [<- hvr];exact HU.out.blk.cell 13
 have e0:=HE.out.cm 0
 have e1:=HE.out.cm 1
 have e2:=HE.out.cm 2
 have e3:=HE.out.cm 3
 have e4:=HE.out.cm 4
 have e5:=HE.out.cm 5
 have c3:W.cell? ⟨q0,a*4+3,none⟩=some (.int .u64 ((xa.on<<<S.C.ahead:Nat):Int)):=by
  obtain⟨p,o,e,hc⟩:=hat a xa hxa
  simp only [Option.some.injEq,Addr.mk.injEq,and_true] at e
  obtain⟨rfl,rfl⟩:=e
  have:=hc 3 _ rfl
  rwa [Nat.zero_add] at this
 have HSS:=Zh (show ∀ y,Below W.heap.size W y->(fun y:World=>Zb0 w y B w.heap.size (w.heap.size+1+1) S r false V/\(Zdi S.C.ahead).At y (some ⟨q0,0,none⟩) r.regs/\y.cell? ⟨w.heap.size,13,none⟩=some (.slice (some ⟨q0,0,none⟩) r.regs.length cp)/\y.cell? ⟨w.heap.size+1,0,none⟩=some (.int .i64 7)/\y.cell? ⟨w.heap.size+1,1,none⟩=some (.int .i64 (d:Int))/\y.cell? ⟨w.heap.size+1,2,none⟩=some (.int .i64 (a:Int))/\y.cell? ⟨w.heap.size+1,3,none⟩=some (.int .i64 (b:Int))/\y.cell? ⟨w.heap.size+1,4,none⟩=some (.int .i64 imm)/\y.cell? ⟨w.heap.size+1,5,none⟩=some (.string ⟨loc.toArray⟩)/\y.cell? ⟨q0,a*4+3,none⟩=some (.int .u64 ((xa.on<<<S.C.ahead:Nat):Int))) y from fun y hb=>⟨HU.out.below hb,hat.below hb,Zac k13 hb,Zac e0 hb,Zac e1 hb,Zac e2 hb,Zac e3 hb,Zac e4 hb,Zac e5 hb,Zac c3 hb⟩)
 have hi1:(0:Int)<=(a:Int):=by omega
 have hi2:(a:Int)<(r.regs.length:Int):=by omega
 have hi3:(0:Int)<=(b:Int):=by omega
 have hi4:(b:Int)<(r.regs.length:Int):=by omega
 clear hat hvr HR hR
 go_wp2_with fail
 refine wz (fun y:World=>Zb0 w y B w.heap.size (w.heap.size+1+1) S r false V/\(Zdi S.C.ahead).At y (some ⟨q0,0,none⟩) r.regs/\y.cell? ⟨w.heap.size,13,none⟩=some (.slice (some ⟨q0,0,none⟩) r.regs.length cp)/\y.cell? ⟨w.heap.size+1,0,none⟩=some (.int .i64 7)/\y.cell? ⟨w.heap.size+1,1,none⟩=some (.int .i64 (d:Int))/\y.cell? ⟨w.heap.size+1,2,none⟩=some (.int .i64 (a:Int))/\y.cell? ⟨w.heap.size+1,3,none⟩=some (.int .i64 (b:Int))/\y.cell? ⟨w.heap.size+1,4,none⟩=some (.int .i64 imm)/\y.cell? ⟨w.heap.size+1,5,none⟩=some (.string ⟨loc.toArray⟩)/\y.cell? ⟨q0,a*4+3,none⟩=some (.int .u64 ((xa.on<<<S.C.ahead:Nat):Int))) [0,2,4,5,7,9,10,11,13,15,16,17,18] (HSS.out _ (Below.refl _ _).drew) (fun hHeld=>?_)
 refine wq 1 ?_
 refine wq 3 ?_
 refine wq 6 ?_
 refine wq 8 ?_
 refine wq 12 ?_
 refine wq 14 ?_
 refine wv 0 ((rrV S r false V)) rfl (fun x' hS=>Za0 rfl rfl (Zeq hS.1.blk)) (by assumption) ?_
 refine wv 2 ((rrV S r false V)) rfl (fun x' hS=>Za0 rfl rfl (Zeq hS.1.blk)) (by assumption) ?_
 refine wt 4 (by assumption) ?_
 refine wt 7 (by assumption) ?_
 refine wt 9 (by assumption) ?_
 refine wt 10 (by assumption) ?_
 refine wv 11 ((Za3 S.C.ahead xb)) rfl (fun x' hS=>Za0 rfl rfl (Zdq hS.2.1 hxb)) (by assumption) ?_
 refine wt 13 (by assumption) ?_
 refine wt 15 (by assumption) ?_
 refine wt 16 (by assumption) ?_
 refine wt 17 (by assumption) ?_
 refine wt 18 (by assumption) ?_
 refine Zav (i:=5) (by kernel_rfl) rfl (fun K hK=>?_)
 go_simp
 go_at_call 174
 refine (atR B S r V a xa _ hHeld.1.ref hxa hS.few hadr).mono ?_
 rintro e wp ⟨he,hbp⟩
 rw [HAT.out] at he
 subst he
 have hS2:=HSS.out wp (Zar hbp)
 refine hK.out _ _ hS2 ?_
 clear hK K
 refine pu ?_
 refine wl 19 ?_
 repeat (first | (go_at_call 171;refine Hid.out ?_) | go_step)
 refine Zh ?_
 refine (HW.out V wp hS2.1.ref).mono ?_
 rintro e w1 ⟨r1,fl1,V1,rfl,hr1,hk1,hg1⟩
 dsimp only
 obtain⟨z,hz,hzs⟩:=hS2.1.out1 hk1
 repeat (first | ((with_reducible refine Zao ?_);refine Zam 121 6 133 (w.heap.size+1+1) rfl rfl rfl hz (by exact hzs) (by kernel_rfl) (Zbf _ _ _ _) rfl rfl ?_) | go_step)
 refine Zbs 121 6 (w.heap.size+1+1) rfl (hz.row _) Tryz.underlying121 rfl (by kernel_rfl) rfl rfl ?_
 exact Zbp.of (hS2.1.ret1 hr1 hk1) hg1
theorem Z09 (B:Nat)(S:RrS)(hS:Zeh S)(hrisc:S.C.risc=decide (S.T.arch=2))(r:Rn)(V:RrV)(nr k:Nat)(hI:Inv S.C nr k r)(hnr:nr<=32)(hfl:r.full=false)(pl:Nat)(d a b:Nat)(hd:d<nr)(xa xb:Rg)(hxa:r.regs[a]?=some xa)(hxb:r.regs[b]?=some xb)(imm:Int)(loc label:List UInt8)(fence:Int)(w:World)(hR:Za7 w B S r V)(hadr:∀ s,xa.h=.adr s->s∈S.C.locs)(s:Nm)(hxs:xa.h=.adr s)(hon:Rds r.evs xa.on):Calls Tryz.prog 104 #[rrV S r false V,.int .i64 (pl:Int),.agg #[.int .i64 6,.int .i64 (d:Int),.int .i64 (a:Int),.int .i64 (b:Int),.int .i64 imm,.string ⟨loc.toArray⟩,.string ⟨label.toArray⟩,.int .i64 fence]] w (Zbp B S (some (Zfa S.C r pl s xa.on (d:Int))) w):=by
 have HW:=Zh (fun V w h=>(Zz0 B S hS hrisc r V nr k hI hnr hfl pl s d hd xa.on w h hon).mono fun e w' p=>(p.st rfl:Zbp B S (some (Zfa S.C r pl s xa.on (d:Int))) w e w'))
 have HAT:=Zh (show atK S.C xa.h=((S.C.locs.idxOf s:Nat):Int) by rw [hxs];rfl)
 have h0:¬ ((S.C.locs.idxOf s:Nat):Int)<0:=by omega
 clear hon
 generalize ((S.C.locs.idxOf s:Nat):Int)=at_ at *
 have HR:=Zh hR
 have hal:=(List.getElem?_eq_some_iff.1 hxa).1
 have hbl:=(List.getElem?_eq_some_iff.1 hxb).1
 obtain⟨c,hc⟩:∃ c,c=rrC S r false V:=⟨_,rfl⟩
 rw [show rrV S r false V=.agg c by rw [hc]]
 have HC:=Zh hc
 clear hc
 go_enter Tryz.func104,Tryz.ntmps104
 apply wp_seq_k
 intro K hK
 have HK:=Zh hK
 clear hK
 go_wp2_with fail
 refine Zg5 (P:=fun X=>K _ X) w _ _ _ _ _ _ ?_
 intro W b0 b1 b2 hz hbW
 refine HK.out _ _ ?_
 clear HK K
 rw [HC.out] at b0
 have HU:Hid (Zb0 w W B w.heap.size (w.heap.size+1+1) S r false V):=Zh ⟨HR.out.below hbW,Za9.of_below hbW HR.out.hB,HR.out.hB,b0,⟨_,b2,rfl⟩,Nat.le_refl _,by omega,by omega⟩
 have HE:=Zh b1
 have hzW:w.heap.size<W.heap.size:=by omega
 clear b0 b1 b2 hbW hz HC
 obtain⟨q0,cp,hvr,hat⟩:=HU.out.ref.rgAt (show 0<r.regs.length by omega)
 have k13:W.cell? ⟨w.heap.size,13,none⟩=some (.slice (some ⟨q0,0,none⟩) r.regs.length cp):=by rw [<- hvr];exact HU.out.blk.cell 13
 have e0:=HE.out.cm 0
 have e1:=HE.out.cm 1
 have e2:=HE.out.cm 2
 have e3:=HE.out.cm 3
 have e4:=HE.out.cm 4
 have e5:=HE.out.cm 5
 have c3:W.cell? ⟨q0,a*4+3,none⟩=some (.int .u64 ((xa.on<<<S.C.ahead:Nat):Int)):=by
  obtain⟨p,o,e,hc⟩:=hat a xa hxa
  simp only [Option.some.injEq,Addr.mk.injEq,and_true] at e
  obtain⟨rfl,rfl⟩:=e
  have:=hc 3 _ rfl
  rwa [Nat.zero_add] at this
 have HSS:=Zh (show ∀ y,Below W.heap.size W y->(fun y:World=>Zb0 w y B w.heap.size (w.heap.size+1+1) S r false V/\(Zdi S.C.ahead).At y (some ⟨q0,0,none⟩) r.regs/\y.cell? ⟨w.heap.size,13,none⟩=some (.slice (some ⟨q0,0,none⟩) r.regs.length cp)/\y.cell? ⟨w.heap.size+1,0,none⟩=some (.int .i64 6)/\y.cell? ⟨w.heap.size+1,1,none⟩=some (.int .i64 (d:Int))/\y.cell? ⟨w.heap.size+1,2,none⟩=some (.int .i64 (a:Int))/\y.cell? ⟨w.heap.size+1,3,none⟩=some (.int .i64 (b:Int))/\y.cell? ⟨w.heap.size+1,4,none⟩=some (.int .i64 imm)/\y.cell? ⟨w.heap.size+1,5,none⟩=some (.string ⟨loc.toArray⟩)/\y.cell? ⟨q0,a*4+3,none⟩=some (.int .u64 ((xa.on<<<S.C.ahead:Nat):Int))) y from fun y hb=>⟨HU.out.below hb,hat.below hb,Zac k13 hb,Zac e0 hb,Zac e1 hb,Zac e2 hb,Zac e3 hb,Zac e4 hb,Zac e5 hb,Zac c3 hb⟩)
 have hi1:(0:Int)<=(a:Int):=by omega
 have hi2:(a:Int)<(r.regs.length:Int):=by omega
 have hi3:(0:Int)<=(b:Int):=by omega
 have hi4:(b:Int)<(r.regs.length:Int):=by omega
 clear hat hvr HR hR
 repeat (first | ((with_reducible refine Zao ?_);refine Zaw 121 3 w.heap.size rfl rfl HU.out.blk Tryz.underlying121 rfl (by kernel_rfl) rfl ?_) | (go_at_call 174;refine Hid.out ?_) | go_step)
 refine Zh ?_
 refine (atR B S r V a xa W HU.out.ref hxa hS.few hadr).mono ?_
 rintro e w1 ⟨he,hb1⟩
 rw [HAT.out] at he
 subst he
 go_wp2_with fail
 refine wz (fun y:World=>Zb0 w y B w.heap.size (w.heap.size+1+1) S r false V/\(Zdi S.C.ahead).At y (some ⟨q0,0,none⟩) r.regs/\y.cell? ⟨w.heap.size,13,none⟩=some (.slice (some ⟨q0,0,none⟩) r.regs.length cp)/\y.cell? ⟨w.heap.size+1,0,none⟩=some (.int .i64 6)/\y.cell? ⟨w.heap.size+1,1,none⟩=some (.int .i64 (d:Int))/\y.cell? ⟨w.heap.size+1,2,none⟩=some (.int .i64 (a:Int))/\y.cell? ⟨w.heap.size+1,3,none⟩=some (.int .i64 (b:Int))/\y.cell? ⟨w.heap.size+1,4,none⟩=some (.int .i64 imm)/\y.cell? ⟨w.heap.size+1,5,none⟩=some (.string ⟨loc.toArray⟩)/\y.cell? ⟨q0,a*4+3,none⟩=some (.int .u64 ((xa.on<<<S.C.ahead:Nat):Int))) [0,2,4,5,7,9,11,12,13,14] (HSS.out _ hb1.drew) (fun hHeld=>?_)
 refine wq 1 ?_
 refine wq 3 ?_
 refine wq 6 ?_
 refine wq 8 ?_
 refine wq 10 ?_
 refine wv 0 ((rrV S r false V)) rfl (fun x' hS=>Za0 rfl rfl (Zeq hS.1.blk)) (by assumption) ?_
 refine wv 2 ((rrV S r false V)) rfl (fun x' hS=>Za0 rfl rfl (Zeq hS.1.blk)) (by assumption) ?_
 refine wt 4 (by assumption) ?_
 refine wt 7 (by assumption) ?_
 refine wt 9 (by assumption) ?_
 refine wt 11 (by assumption) ?_
 refine wt 12 (by assumption) ?_
 refine wt 13 (by assumption) ?_
 refine wt 14 (by assumption) ?_
 refine Zav (i:=5) (by kernel_rfl) rfl (fun K hK=>?_)
 go_simp
 go_at_call 174
 refine (atR B S r V a xa _ hHeld.1.ref hxa hS.few hadr).mono ?_
 rintro e wp ⟨he,hbp⟩
 rw [HAT.out] at he
 subst he
 have hS2:=HSS.out wp (Zaa hb1.drew hbp)
 refine hK.out _ _ hS2 ?_
 clear hK K
 refine pu ?_
 refine wl 15 ?_
 repeat (first | (go_at_call 172;refine Hid.out ?_) | go_step)
 refine Zh ?_
 refine (HW.out V wp hS2.1.ref).mono ?_
 rintro e w1 ⟨r1,fl1,V1,rfl,hr1,hk1,hg1⟩
 dsimp only
 obtain⟨z,hz,hzs⟩:=hS2.1.out1 hk1
 repeat (first | ((with_reducible refine Zao ?_);refine Zam 121 6 111 (w.heap.size+1+1) rfl rfl rfl hz (by exact hzs) (by kernel_rfl) (Zbf _ _ _ _) rfl rfl ?_) | go_step)
 refine Zbs 121 6 (w.heap.size+1+1) rfl (hz.row _) Tryz.underlying121 rfl (by kernel_rfl) rfl rfl ?_
 exact Zbp.of (hS2.1.ret1 hr1 hk1) hg1
theorem Zzp (B:Nat)(S:RrS)(hS:Zeh S)(_hrisc:S.C.risc=decide (S.T.arch=2))(r:Rn)(V:RrV)(nr k:Nat)(_hI:Inv S.C nr k r)(_hnr:nr<=32)(_hfl:r.full=false)(pl:Nat)(d a b:Nat)(_hd:d<nr)(xa xb:Rg)(hxa:r.regs[a]?=some xa)(hxb:r.regs[b]?=some xb)(imm:Int)(loc label:List UInt8)(fence:Int)(w:World)(hR:Za7 w B S r V)(hadr:∀ s,xa.h=.adr s->s∈S.C.locs)(hno:atK S.C xa.h=-1):Calls Tryz.prog 104 #[rrV S r false V,.int .i64 (pl:Int),.agg #[.int .i64 6,.int .i64 (d:Int),.int .i64 (a:Int),.int .i64 (b:Int),.int .i64 imm,.string ⟨loc.toArray⟩,.string ⟨label.toArray⟩,.int .i64 fence]] w (Zew B S r true w):=by
 have HAT:=Zh hno
 clear hno
 have HR:=Zh hR
 have hal:=(List.getElem?_eq_some_iff.1 hxa).1
 have hbl:=(List.getElem?_eq_some_iff.1 hxb).1
 obtain⟨c,hc⟩:∃ c,c=rrC S r false V:=⟨_,rfl⟩
 rw [show rrV S r false V=.agg c by rw [hc]]
 have HC:=Zh hc
 clear hc
 go_enter Tryz.func104,Tryz.ntmps104
 apply wp_seq_k
 intro K hK
 have HK:=Zh hK
 clear hK
 go_wp2_with fail
 refine Zg5 (P:=fun X=>K _ X) w _ _ _ _ _ _ ?_
 intro W b0 b1 b2 hz hbW
 refine HK.out _ _ ?_
 clear HK K
 rw [HC.out] at b0
 have HU:Hid (Zb0 w W B w.heap.size (w.heap.size+1+1) S r false V):=Zh ⟨HR.out.below hbW,Za9.of_below hbW HR.out.hB,HR.out.hB,b0,⟨_,b2,rfl⟩,Nat.le_refl _,by omega,by omega⟩
 have HE:=Zh b1
 have hzW:w.heap.size<W.heap.size:=by omega
 clear b0 b1 b2 hbW hz HC
 obtain⟨q0,cp,hvr,hat⟩:=HU.out.ref.rgAt (show 0<r.regs.length by omega)
 have k13:W.cell? ⟨w.heap.size,13,none⟩=some (.slice (some ⟨q0,0,none⟩) r.regs.length cp):=by rw [<- hvr];exact HU.out.blk.cell 13
 have e0:=HE.out.cm 0
 have e1:=HE.out.cm 1
 have e2:=HE.out.cm 2
 have e3:=HE.out.cm 3
 have e4:=HE.out.cm 4
 have e5:=HE.out.cm 5
 have c3:W.cell? ⟨q0,a*4+3,none⟩=some (.int .u64 ((xa.on<<<S.C.ahead:Nat):Int)):=by
  obtain⟨p,o,e,hc⟩:=hat a xa hxa
  simp only [Option.some.injEq,Addr.mk.injEq,and_true] at e
  obtain⟨rfl,rfl⟩:=e
  have:=hc 3 _ rfl
  rwa [Nat.zero_add] at this
 have HSS:=Zh (show ∀ y,Below W.heap.size W y->(fun y:World=>Zb0 w y B w.heap.size (w.heap.size+1+1) S r false V/\(Zdi S.C.ahead).At y (some ⟨q0,0,none⟩) r.regs/\y.cell? ⟨w.heap.size,13,none⟩=some (.slice (some ⟨q0,0,none⟩) r.regs.length cp)/\y.cell? ⟨w.heap.size+1,0,none⟩=some (.int .i64 6)/\y.cell? ⟨w.heap.size+1,1,none⟩=some (.int .i64 (d:Int))/\y.cell? ⟨w.heap.size+1,2,none⟩=some (.int .i64 (a:Int))/\y.cell? ⟨w.heap.size+1,3,none⟩=some (.int .i64 (b:Int))/\y.cell? ⟨w.heap.size+1,4,none⟩=some (.int .i64 imm)/\y.cell? ⟨w.heap.size+1,5,none⟩=some (.string ⟨loc.toArray⟩)/\y.cell? ⟨q0,a*4+3,none⟩=some (.int .u64 ((xa.on<<<S.C.ahead:Nat):Int))) y from fun y hb=>⟨HU.out.below hb,hat.below hb,Zac k13 hb,Zac e0 hb,Zac e1 hb,Zac e2 hb,Zac e3 hb,Zac e4 hb,Zac e5 hb,Zac c3 hb⟩)
 have hi1:(0:Int)<=(a:Int):=by omega
 have hi2:(a:Int)<(r.regs.length:Int):=by omega
 have hi3:(0:Int)<=(b:Int):=by omega
 have hi4:(b:Int)<(r.regs.length:Int):=by omega
 clear hat hvr HR hR
 repeat (first | ((with_reducible refine Zao ?_);refine Zaw 121 3 w.heap.size rfl rfl HU.out.blk Tryz.underlying121 rfl (by kernel_rfl) rfl ?_) | (go_at_call 174;refine Hid.out ?_) | go_step)
 refine Zh ?_
 refine (atR B S r V a xa W HU.out.ref hxa hS.few hadr).mono ?_
 rintro e w1 ⟨he,hb1⟩
 rw [HAT.out] at he
 subst he
 dsimp only
 have HU1:=Zh (HU.out.below hb1)
 have f24:=HU1.out.blk.frozen 24
 have k24:=HU1.out.blk.cm 24
 have HV:=Zh HU1.out.flow
 repeat (first | ((with_reducible refine Zfp ?_);refine Zch Tryz.f104 3 6 95 rfl rfl rfl rfl rfl rfl rfl HV.out rfl rfl (by decide) (of_decide_eq_true rfl) rfl (fun _ _ h=>h)) | go_step)
end
theorem Zm1 {α β:Type}(o:Option α)(n:β):(o.map (fun y=>(y,n))).map Prod.fst=o:=by cases o <;> rfl
theorem Z0g {C:Cx}{h:Zd6}(hn:∀ s,h≠.adr s):atK C h=-1:=by
 cases h with
 | num n=>rfl
 | adr s=>exact absurd rfl (hn s)
 | rd i=>rfl
 | non=>rfl
theorem Zth {C:Cx}{r:Rn}{pl:Nat}{x:Ins}(hn:∀ s,(rgA r x.a).h≠.adr s):Zi6 C r pl x=none:=by
 unfold Zi6
 cases h:(rgA r x.a).h with
 | num n=>rfl
 | adr s=>exact absurd h (hn s)
 | rd i=>rfl
 | non=>rfl
theorem Z3v (B:Nat)(S:RrS)(hS:Zeh S)(hrisc:S.C.risc=decide (S.T.arch=2))(r:Rn)(V:RrV)(nr k:Nat)(hI:Inv S.C nr k r)(hnr:nr<=32)(hfl:r.full=false)(hk:k<=256)(c:List Ins)(pl:Nat)(x:Ins)(hv:Zp7 S.C nr c pl x)(hop:x.op≠11)(w:World)(hR:Za7 w B S r V) :
  Calls Tryz.prog 104 #[rrV S r false V,.int .i64 (pl:Int),.agg #[.int .i64 x.op,.int .i64 x.d,.int .i64 x.a,.int .i64 x.b,.int .i64 x.imm,.string ⟨x.loc.toArray⟩,.string ⟨x.label.toArray⟩,.int .i64 x.fence]] w (Zbp B S ((Zbk S.C r c pl x).map Prod.fst) w):=by
 have hvo:=hv.op
 have hvd:=hv.d
 have hva:=hv.a
 have hvb:=hv.b
 have himm:=hv.imm
 have hvl:=hv.loc
 obtain⟨oka,hxa⟩:=hI.rg hva.1 hva.2
 obtain⟨okb,hxb⟩:=hI.rg hvb.1 hvb.2
 obtain⟨op,d,a,b,imm,loc,label,fence⟩:=x
 simp only at hvo hvd hva hvb himm hvl hxa hxb oka okb hop ⊢
 obtain⟨d,rfl⟩:=Int.eq_ofNat_of_zero_le hvd.1
 obtain⟨a,rfl⟩:=Int.eq_ofNat_of_zero_le hva.1
 obtain⟨b,rfl⟩:=Int.eq_ofNat_of_zero_le hvb.1
 have hd:d<nr:=by have:=hvd.2;omega
 rw [Int.toNat_natCast] at hxa hxb
 obtain⟨xa,ea⟩:∃ xa,rgA r (a:Int)=xa:=⟨_,rfl⟩
 obtain⟨xb,eb⟩:∃ xb,rgA r (b:Int)=xb:=⟨_,rfl⟩
 rw [ea] at hxa oka
 rw [eb] at hxb okb
 have room:=hI.room
 have lta:=Zhj oka.2.lt room
 have ltb:=Zhj okb.2.lt room
 have hadr:∀ s,xa.h=.adr s->s∈S.C.locs:=fun s hs=>by
  have:=oka.1
  rw [hs] at this
  exact this
 have hc:op=1\/op=2\/op=3\/op=4\/op=5\/op=6\/op=7\/op=8\/op=9\/op=10\/op=12\/op=13:=by omega
 rcases hc with rfl | rfl | rfl | rfl | rfl | rfl | rfl | rfl | rfl | rfl | rfl | rfl
 ·rw [show Zbk S.C r c pl ⟨1,d,a,b,imm,loc,label,fence⟩=(Zcr S.C r pl loc 0 ⟨.num imm,0⟩).map (·,pl+1) from rfl,Zm1]
  exact Z0x B S hS hrisc r V nr k hI hnr hfl pl d a b hd xa xb hxa hxb imm loc label fence w hR (hvl (by omega))
 ·rw [show Zbk S.C r c pl ⟨2,d,a,b,imm,loc,label,fence⟩=(Zcr S.C r pl loc 0 (rgA r (a:Int))).map (·,pl+1) from rfl,Zm1,ea]
  exact Z1s B S hS hrisc r V nr k hI hnr hfl pl d a b hd xa xb hxa hxb imm loc label fence w hR (hvl (by omega)) oka
 ·exact Z1w B S hS hrisc r V nr k hI hnr hfl pl d a b hd xa xb hxa hxb imm loc label fence w hR (hvl (by omega))
 ·exact Z0w B S hS hrisc r V nr k hI hnr hfl pl d a b hd xa xb hxa hxb imm loc label fence w hR
 ·exact (Z2m B S hS hrisc r V nr k hI hnr hfl pl d a b hd xa xb hxa hxb imm loc label fence w hR hk).mono fun e w' p=>p.st rfl
 ·rw [show Zbk S.C r c pl ⟨6,d,a,b,imm,loc,label,fence⟩=(Zi6 S.C r pl ⟨6,d,a,b,imm,loc,label,fence⟩).map (·,pl+1) from rfl,Zm1]
  by_cases hs:∃ s,xa.h=.adr s
  ·obtain⟨s,hs⟩:=hs
   rw [show Zi6 S.C r pl ⟨6,d,a,b,imm,loc,label,fence⟩=some (Zfa S.C r pl s xa.on (d:Int)) by unfold Zi6;simp only [ea,hs];rfl]
   exact Z09 B S hS hrisc r V nr k hI hnr hfl pl d a b hd xa xb hxa hxb imm loc label fence w hR hadr s hs oka.2
  ·rw [Zth (by show ∀ s,(rgA r (a:Int)).h≠.adr s;rw [ea];exact fun s h=>hs ⟨s,h⟩)]
   exact (Zzp B S hS hrisc r V nr k hI hnr hfl pl d a b hd xa xb hxa hxb imm loc label fence w hR hadr (Z0g fun s h=>hs ⟨s,h⟩)).mono fun e w' p=>p.no rfl hfl
 ·rw [show Zbk S.C r c pl ⟨7,d,a,b,imm,loc,label,fence⟩=(Zi6 S.C r pl ⟨7,d,a,b,imm,loc,label,fence⟩).map (·,pl+1) from rfl,Zm1]
  by_cases hs:∃ s,xa.h=.adr s
  ·obtain⟨s,hs⟩:=hs
   rw [show Zi6 S.C r pl ⟨7,d,a,b,imm,loc,label,fence⟩=Zcr S.C r pl s xa.on xb by unfold Zi6;simp only [ea,eb,hs];rfl]
   exact Ztr B S hS hrisc r V nr k hI hnr hfl pl d a b hd xa xb hxa hxb imm loc label fence w hR hadr _ _ (show atK S.C xa.h=((S.C.locs.idxOf s:Nat):Int) by rw [hs];rfl) fun V w h=>Zn7 B S hS r V nr k hI hfl pl s xb okb xa.on w h oka.2
  ·rw [Zth (by show ∀ s,(rgA r (a:Int)).h≠.adr s;rw [ea];exact fun s h=>hs ⟨s,h⟩)]
   exact Ztr B S hS hrisc r V nr k hI hnr hfl pl d a b hd xa xb hxa hxb imm loc label fence w hR hadr _ _ (Z0g fun s h=>hs ⟨s,h⟩) fun V w h=>(Zeo B S r V pl (-1) xb _ w h (Or.inl (by omega))).mono fun e w' p=>p.no rfl hfl
 ·have e8:Zbk S.C r c pl ⟨8,d,a,b,imm,loc,label,fence⟩=some (Zgr S.C r (d:Int) ⟨Zcs 8 xa.h (.num imm),xa.on⟩,pl+1):=by
   show some (Zff S.C r ⟨8,d,a,b,imm,loc,label,fence⟩,pl+1)=_
   unfold Zff
   simp only [ea,if_true,show ¬ ((8:Int)=9/\(a:Int)=(b:Int)) by omega,if_false,Nat.or_zero]
  rw [e8]
  exact Z2i B S hS hrisc r V nr k hI hnr hfl pl d a b hd xa xb hxa hxb imm loc label fence w hR oka himm lta
 ·by_cases hab:a=b
  ·have e9:Zbk S.C r c pl ⟨9,d,a,b,imm,loc,label,fence⟩=some (Zgr S.C r (d:Int) ⟨.num 0,xa.on⟩,pl+1):=by
    subst hab
    show some (Zff S.C r ⟨9,d,a,a,imm,loc,label,fence⟩,pl+1)=_
    unfold Zff
    simp [ea]
   rw [e9]
   exact Zxz B S hS hrisc r V nr k hI hnr hfl pl d a b hd xa xb hxa hxb imm loc label fence w hR hab
  ·have e9:Zbk S.C r c pl ⟨9,d,a,b,imm,loc,label,fence⟩=some (Zgr S.C r (d:Int) ⟨Zcs 9 xa.h xb.h,xa.on|||xb.on⟩,pl+1):=by
    show some (Zff S.C r ⟨9,d,a,b,imm,loc,label,fence⟩,pl+1)=_
    unfold Zff
    simp [ea,eb,show ¬ (a:Int)=(b:Int) by omega]
   rw [e9]
   exact Z0t B S hS hrisc r V nr k hI hnr hfl pl d a b hd xa xb hxa hxb imm loc label fence w hR oka okb lta ltb hab
 ·have e10:Zbk S.C r c pl ⟨10,d,a,b,imm,loc,label,fence⟩=some (Zgr S.C r (d:Int) ⟨Zcs 10 xa.h xb.h,xa.on|||xb.on⟩,pl+1):=by
   show some (Zff S.C r ⟨10,d,a,b,imm,loc,label,fence⟩,pl+1)=_
   unfold Zff
   simp [ea,eb]
  rw [e10]
  exact Zxt B S hS hrisc r V nr k hI hnr hfl pl d a b hd xa xb hxa hxb imm loc label fence w hR oka okb lta ltb
 ·exact (Zxu B S hS hrisc r V nr k hI hnr hfl pl d a b hd xa xb hxa hxb imm loc label fence w hR).mono fun e w' p=>p.st rfl
 ·exact (Zx8 B S hS hrisc r V nr k hI hnr hfl pl d a b hd xa xb hxa hxb imm loc label fence w hR hk).mono fun e w' p=>p.st rfl
section
theorem Zv0 {K:Act->World->Prop}{F:Nat->Nat->World->Prop}{A:Nat->Nat->Act}{G:Prop}(h1:(∀ la lb W3,F la lb W3->K (A la lb) W3)->G)(h2:∀ la lb W3,F la lb W3->K (A la lb) W3):G:=h1 h2
theorem Zcm.keep {w w':World}{A:Option Addr}{c:List Ins}{B:Nat}(h:Zcm w A c)(hA:c≠[]->∀ p,A=some p->p.block<B)(hb:Below B w w'):Zcm w' A c:=fun i x hx=>by
 obtain⟨b,o,e,h0,h1,h2,h3,h4,h5,h6,h7,h8,h9⟩:=h i x hx
 have hB:b<B:=hA (fun e0=>by rw [e0] at hx;simp at hx) _ e
 have k:∀ {n v},w.cell? ⟨b,n,none⟩=some v->w'.cell? ⟨b,n,none⟩=some v:=fun {n v} hv=>Zcv hv hb hB
 exact⟨b,o,e,k h0,k h1,k h2,k h3,k h4,k h5,k h6,k h7,h8,h9⟩
def Zis (B:Nat)(S:RrS)(o:Option (Rn×Nat))(k m:Nat)(w:World)(e:Ending)(w':World):Prop:=∃ r1 fl V n,e=.returned (.tuple #[rrV S r1 fl V,.int .i64 ((n:Nat):Int)])/\Za7 w' B S r1 V/\Za9 B w w'/\k<n/\n<=m/\((fl=false/\o=some (r1,n))\/(fl=true/\o=none/\r1.full=false))
theorem Zis.of {B g q n k m:Nat}{S:RrS}{o:Option (Rn×Nat)}{w W:World}{r1:Rn}{fl:Bool}{V:RrV}(h:Zb0 w W B g q S r1 fl V)(h1:k<n)(h2:n<=m)(hg:(fl=false/\o=some (r1,n))\/(fl=true/\o=none/\r1.full=false)):Zis B S o k m w (.returned (.tuple #[.agg (rrC S r1 fl V),.int .i64 ((n:Nat):Int)])) (W.setRow q (rrC S r1 fl V)):=by
 obtain⟨z,hz,_⟩:=h.out
 exact⟨r1,fl,V,n,rfl,h.ref.row hz _,h.keep.row h.hB h.hq _,h1,h2,hg⟩
set_option maxHeartbeats 4000000
set_option maxRecDepth 100000
theorem Z1r (B:Nat)(S:RrS)(r:Rn)(V:RrV)(nr k:Nat)(hI:Inv S.C nr k r)(hfl:r.full=false)(c:List Ins)(Ac:Option Addr)(cc:Nat)(at_:Nat)(op imm fence:Int)(d a b:Nat)(loc label:List UInt8)(w:World)(hc:Zcm w Ac c)(hcB:c≠[]->∀ p,Ac=some p->p.block<B)(hcl:c.length<=256)(_hcc:c.length<=cc)(hx:c[at_]?=some ⟨op,d,a,b,imm,loc,label,fence⟩)
  (hlab:Zhc c at_ ⟨op,d,a,b,imm,loc,label,fence⟩<c.length) (xa xb:Rg) (hxa:r.regs[a]?=some xa) (hxb:r.regs[b]?=some xb) (hra:Zid S.C r.evs xa) (hrb:Zid S.C r.evs xb) (hR:Za7 w B S r V) :
  Calls Tryz.prog 103 #[rrV S r false V,.slice Ac c.length cc,.int .i64 (at_:Int),.int .i64 ((Zhc c at_ ⟨op,d,a,b,imm,loc,label,fence⟩:Nat):Int)] w (Zis B S (brL r c at_ ⟨op,d,a,b,imm,loc,label,fence⟩) at_ c.length w):=by
 have HR:=Zh hR
 have hal:=(List.getElem?_eq_some_iff.1 hxa).1
 have hbl:=(List.getElem?_eq_some_iff.1 hxb).1
 have hkl:=(List.getElem?_eq_some_iff.1 hx).1
 obtain⟨bc,oc,rfl,_,_,m2,m3,_,_,_,_,_⟩:=hc at_ _ hx
 simp only at m2 m3
 obtain⟨L,hL⟩:∃ L,Zhc c at_ ⟨op,d,a,b,imm,loc,label,fence⟩=L:=⟨_,rfl⟩
 rw [hL] at hlab ⊢
 have HBW0:=Zh (Below.refl w.heap.size w)
 have HINS:=Zh (fun W r1 fl V1 (h:Zb0 w W B w.heap.size (w.heap.size+1) S r1 fl V1)=>hc.keep hcB h.keep.below)
 obtain⟨cR,hcR⟩:∃ cR,cR=rrC S r false V:=⟨_,rfl⟩
 rw [show rrV S r false V=.agg cR by rw [hcR]]
 have HC:=Zh hcR
 clear hcR
 go_enter Tryz.func103,Tryz.ntmps103
 apply wp_seq_k
 intro K hK
 have HK:=Zh hK
 clear hK
 go_wp2_with fail
 refine Z5h (P:=fun X=>K _ X) w _ _ _ _ ?_
 intro W b0 b2 hz hbW
 refine HK.out _ _ ?_
 clear HK K
 rw [HC.out] at b0
 have HU:Hid (Zb0 w W B w.heap.size (w.heap.size+1) S r false V):=Zh ⟨HR.out.below hbW,Za9.of_below hbW HR.out.hB,HR.out.hB,b0,⟨_,b2,rfl⟩,Nat.le_refl _,by omega,by omega⟩
 have hzW:w.heap.size<W.heap.size:=by omega
 have hzW1:w.heap.size+1<W.heap.size:=by omega
 have HBW:=Zh hbW
 clear b0 b2 hbW hz HC
 obtain⟨q0,cp,hvr,hat⟩:=HU.out.ref.rgAt (show 0<r.regs.length by omega)
 have k13:W.cell? ⟨w.heap.size,13,none⟩=some (.slice (some ⟨q0,0,none⟩) r.regs.length cp):=by rw [<- hvr];exact HU.out.blk.cell 13
 have m2:=Zac m2 HBW.out
 have m3:=Zac m3 HBW.out
 have HSS:=Zh (show ∀ y,Below W.heap.size W y->(fun y:World=>Zb0 w y B w.heap.size (w.heap.size+1) S r false V/\(Zdi S.C.ahead).At y (some ⟨q0,0,none⟩) r.regs/\y.cell? ⟨w.heap.size,13,none⟩=some (.slice (some ⟨q0,0,none⟩) r.regs.length cp)/\y.cell? ⟨bc,oc+at_*8+2,none⟩=some (.int .i64 (a:Int))/\y.cell? ⟨bc,oc+at_*8+3,none⟩=some (.int .i64 (b:Int))/\Below W.heap.size W y) y from fun y hb=>⟨HU.out.below hb,hat.below hb,Zac k13 hb,Zac m2 hb,Zac m3 hb,hb⟩)
 have hi1:(0:Int)<=(a:Int):=by omega
 have hi2:(a:Int)<(r.regs.length:Int):=by omega
 have hi3:(0:Int)<=(b:Int):=by omega
 have hi4:(b:Int)<(r.regs.length:Int):=by omega
 have hi5:(0:Int)<=(at_:Int):=by omega
 have hi6:(at_:Int)<(c.length:Int):=by omega
 clear hat hvr HR hR k13 m2 m3
 apply wp_seq_k
 intro K hK
 have HK:=Zh hK
 clear hK
 apply Zv0 (K:=K) (F:=fun la lb W3=>Zb0 w W3 B w.heap.size (w.heap.size+1) S r false V/\Blk W3 la 125 #[.int .i64 (Zax xa.h),.int .i64 (Zb8 S.C.ahead xa.h),.string ⟨(Zb7 xa.h).toArray⟩,.int .u64 ((xa.on<<<S.C.ahead:Nat):Int)]/\Blk W3 lb 125 #[.int .i64 (Zax xb.h),.int .i64 (Zb8 S.C.ahead xb.h),.string ⟨(Zb7 xb.h).toArray⟩,.int .u64 ((xb.on<<<S.C.ahead:Nat):Int)]/\la≠lb/\w.heap.size+1<la/\w.heap.size+1<lb)
 ·intro HM
  have HM:=Zh HM
  refine wz (fun y:World=>Zb0 w y B w.heap.size (w.heap.size+1) S r false V/\(Zdi S.C.ahead).At y (some ⟨q0,0,none⟩) r.regs/\y.cell? ⟨w.heap.size,13,none⟩=some (.slice (some ⟨q0,0,none⟩) r.regs.length cp)/\y.cell? ⟨bc,oc+at_*8+2,none⟩=some (.int .i64 (a:Int))/\y.cell? ⟨bc,oc+at_*8+3,none⟩=some (.int .i64 (b:Int))/\Below W.heap.size W y) [1,6,8,10,15,16,17,18,19,20] (HSS.out _ (Below.refl _ _).drew) (fun hHeld=>?_)
  refine wq 0 ?_
  refine wq 2 ?_
  refine wq 3 ?_
  refine wq 4 ?_
  refine wq 5 ?_
  refine wq 9 ?_
  refine wq 11 ?_
  refine wq 12 ?_
  refine wq 13 ?_
  refine wq 14 ?_
  refine wt 1 (by assumption) ?_
  refine wt 6 (by assumption) ?_
  refine wq 7 ?_
  refine wv 8 ((Za3 S.C.ahead xa)) rfl (fun x' hS=>Za0 rfl rfl (Zdq hS.2.1 hxa)) (by assumption) ?_
  refine wt 10 (by assumption) ?_
  refine wt 15 (by assumption) ?_
  refine wt 16 (by assumption) ?_
  refine wv 17 ((Za3 S.C.ahead xb)) rfl (fun x' hS=>Za0 rfl rfl (Zdq hS.2.1 hxb)) (by assumption) ?_
  clear hHeld
  refine Zd1 (i:=18) (j:=19) (by kernel_rfl) rfl rfl (fun K hK=>?_) (fun K hK=>?_)
  ·go_simp
   refine hK.out _ _ (HSS.out _ (by repeat (first | exact Below.refl _ _ | exact Below.refl _ _ | with_reducible refine Below.drew ?_ | with_reducible refine Zab ?_ _))) ?_
   clear hK K
   refine pu ?_
   refine Zav (i:=19) (by kernel_rfl) rfl (fun K hK=>?_)
   go_simp
   refine hK.out _ _ (HSS.out _ (by repeat (first | exact Below.refl _ _ | exact Below.refl _ _ | with_reducible refine Below.drew ?_ | with_reducible refine Zab ?_ _))) ?_
   clear hK K
   refine pu ?_
   generalize hW2:(World.drew (World.alloc _ _))=W2
   have BA:Hid (Blk W2 W.heap.size 125 #[.int .i64 0,.int .i64 0,.string ⟨#[]⟩,.int .u64 0]):=by rw [<- hW2];exact Zh (((Blk.new W 125 #[.int .i64 0,.int .i64 0,.string ⟨#[]⟩,.int .u64 0]).alloc _).drew)
   have BB:Hid (Blk W2 (W.heap.size+1) 125 #[.int .i64 0,.int .i64 0,.string ⟨#[]⟩,.int .u64 0]):=by rw [<- hW2];exact Zh ((Zcw W _ 125 #[.int .i64 0,.int .i64 0,.string ⟨#[]⟩,.int .u64 0]).drew)
   have HW2:Hid (Below W.heap.size W W2):=by rw [<- hW2];exact Zh ((by repeat (first | exact Below.refl _ _ | exact Below.refl _ _ | with_reducible refine Below.drew ?_ | with_reducible refine Zab ?_ _)))
   clear hW2
   refine Zav (i:=20) (by kernel_rfl) rfl (fun K hK=>?_)
   rw [if_pos (by kernel_rfl)]
   refine Zi0 125 10 23 (W.heap.size) rfl rfl BA.out (by rfl) (by kernel_rfl) (by kernel_rfl) rfl rfl ?_
   have hw3:=below_setRow HW2.out (show W.heap.size<=W.heap.size by omega) #[.int .i64 (Zax xa.h),.int .i64 (Zb8 S.C.ahead xa.h),.string ⟨(Zb7 xa.h).toArray⟩,.int .u64 ((xa.on<<<S.C.ahead:Nat):Int)]
   refine hK.out _ _ (HSS.out _ hw3) ?_
   clear hK K
   refine pu ?_
   refine wl 21 ?_
   refine Zam 125 11 32 ((W.heap.size+1)) rfl rfl rfl (BB.out.farRow (show (W.heap.size+1)≠W.heap.size by omega) _) (by rfl) (by kernel_rfl) (by kernel_rfl) rfl rfl ?_
   have hw4:=below_setRow hw3 (show W.heap.size<=(W.heap.size+1) by omega) #[.int .i64 (Zax xb.h),.int .i64 (Zb8 S.C.ahead xb.h),.string ⟨(Zb7 xb.h).toArray⟩,.int .u64 ((xb.on<<<S.C.ahead:Nat):Int)]
   have hF:Zb0 w ((W2.setRow (W.heap.size) #[.int .i64 (Zax xa.h),.int .i64 (Zb8 S.C.ahead xa.h),.string ⟨(Zb7 xa.h).toArray⟩,.int .u64 ((xa.on<<<S.C.ahead:Nat):Int)]).setRow ((W.heap.size+1)) #[.int .i64 (Zax xb.h),.int .i64 (Zb8 S.C.ahead xb.h),.string ⟨(Zb7 xb.h).toArray⟩,.int .u64 ((xb.on<<<S.C.ahead:Nat):Int)]) B w.heap.size (w.heap.size+1) S r false V/\Blk ((W2.setRow (W.heap.size) #[.int .i64 (Zax xa.h),.int .i64 (Zb8 S.C.ahead xa.h),.string ⟨(Zb7 xa.h).toArray⟩,.int .u64 ((xa.on<<<S.C.ahead:Nat):Int)]).setRow ((W.heap.size+1)) #[.int .i64 (Zax xb.h),.int .i64 (Zb8 S.C.ahead xb.h),.string ⟨(Zb7 xb.h).toArray⟩,.int .u64 ((xb.on<<<S.C.ahead:Nat):Int)]) (W.heap.size) 125 #[.int .i64 (Zax xa.h),.int .i64 (Zb8 S.C.ahead xa.h),.string ⟨(Zb7 xa.h).toArray⟩,.int .u64 ((xa.on<<<S.C.ahead:Nat):Int)]/\Blk ((W2.setRow (W.heap.size) #[.int .i64 (Zax xa.h),.int .i64 (Zb8 S.C.ahead xa.h),.string ⟨(Zb7 xa.h).toArray⟩,.int .u64 ((xa.on<<<S.C.ahead:Nat):Int)]).setRow ((W.heap.size+1)) #[.int .i64 (Zax xb.h),.int .i64 (Zb8 S.C.ahead xb.h),.string ⟨(Zb7 xb.h).toArray⟩,.int .u64 ((xb.on<<<S.C.ahead:Nat):Int)]) ((W.heap.size+1)) 125 #[.int .i64 (Zax xb.h),.int .i64 (Zb8 S.C.ahead xb.h),.string ⟨(Zb7 xb.h).toArray⟩,.int .u64 ((xb.on<<<S.C.ahead:Nat):Int)]/\W.heap.size≠(W.heap.size+1)/\w.heap.size+1<W.heap.size/\w.heap.size+1<(W.heap.size+1):=⟨HU.out.below hw4,(BA.out.row _).farRow (by omega) _,(BB.out.farRow (by omega) _).row _,by omega,by omega,by omega⟩
   clear hw3 hw4 BA BB HW2
   generalize ((W2.setRow (W.heap.size) #[.int .i64 (Zax xa.h),.int .i64 (Zb8 S.C.ahead xa.h),.string ⟨(Zb7 xa.h).toArray⟩,.int .u64 ((xa.on<<<S.C.ahead:Nat):Int)]).setRow ((W.heap.size+1)) #[.int .i64 (Zax xb.h),.int .i64 (Zb8 S.C.ahead xb.h),.string ⟨(Zb7 xb.h).toArray⟩,.int .u64 ((xb.on<<<S.C.ahead:Nat):Int)])=W3 at hF ⊢
   generalize W.heap.size+1=l1 at hF ⊢
   generalize W.heap.size=l2 at hF ⊢
   exact wpList_nil (HM.out _ _ _ hF)
  ·go_simp
   refine hK.out _ _ (HSS.out _ (by repeat (first | exact Below.refl _ _ | exact Below.refl _ _ | with_reducible refine Below.drew ?_ | with_reducible refine Zab ?_ _))) ?_
   clear hK K
   refine pu ?_
   refine Zav (i:=18) (by kernel_rfl) rfl (fun K hK=>?_)
   go_simp
   refine hK.out _ _ (HSS.out _ (by repeat (first | exact Below.refl _ _ | exact Below.refl _ _ | with_reducible refine Below.drew ?_ | with_reducible refine Zab ?_ _))) ?_
   clear hK K
   refine pu ?_
   generalize hW2:(World.drew (World.alloc _ _))=W2
   have BA:Hid (Blk W2 (W.heap.size+1) 125 #[.int .i64 0,.int .i64 0,.string ⟨#[]⟩,.int .u64 0]):=by rw [<- hW2];exact Zh ((Zcw W _ 125 #[.int .i64 0,.int .i64 0,.string ⟨#[]⟩,.int .u64 0]).drew)
   have BB:Hid (Blk W2 W.heap.size 125 #[.int .i64 0,.int .i64 0,.string ⟨#[]⟩,.int .u64 0]):=by rw [<- hW2];exact Zh (((Blk.new W 125 #[.int .i64 0,.int .i64 0,.string ⟨#[]⟩,.int .u64 0]).alloc _).drew)
   have HW2:Hid (Below W.heap.size W W2):=by rw [<- hW2];exact Zh ((by repeat (first | exact Below.refl _ _ | exact Below.refl _ _ | with_reducible refine Below.drew ?_ | with_reducible refine Zab ?_ _)))
   clear hW2
   refine Zav (i:=20) (by kernel_rfl) rfl (fun K hK=>?_)
   rw [if_pos (by kernel_rfl)]
   refine Zi0 125 10 23 ((W.heap.size+1)) rfl rfl BA.out (by rfl) (by kernel_rfl) (by kernel_rfl) rfl rfl ?_
   have hw3:=below_setRow HW2.out (show W.heap.size<=(W.heap.size+1) by omega) #[.int .i64 (Zax xa.h),.int .i64 (Zb8 S.C.ahead xa.h),.string ⟨(Zb7 xa.h).toArray⟩,.int .u64 ((xa.on<<<S.C.ahead:Nat):Int)]
   refine hK.out _ _ (HSS.out _ hw3) ?_
   clear hK K
   refine pu ?_
   refine wl 21 ?_
   refine Zam 125 11 32 (W.heap.size) rfl rfl rfl (BB.out.farRow (show W.heap.size≠(W.heap.size+1) by omega) _) (by rfl) (by kernel_rfl) (by kernel_rfl) rfl rfl ?_
   have hw4:=below_setRow hw3 (show W.heap.size<=W.heap.size by omega) #[.int .i64 (Zax xb.h),.int .i64 (Zb8 S.C.ahead xb.h),.string ⟨(Zb7 xb.h).toArray⟩,.int .u64 ((xb.on<<<S.C.ahead:Nat):Int)]
   have hF:Zb0 w ((W2.setRow ((W.heap.size+1)) #[.int .i64 (Zax xa.h),.int .i64 (Zb8 S.C.ahead xa.h),.string ⟨(Zb7 xa.h).toArray⟩,.int .u64 ((xa.on<<<S.C.ahead:Nat):Int)]).setRow (W.heap.size) #[.int .i64 (Zax xb.h),.int .i64 (Zb8 S.C.ahead xb.h),.string ⟨(Zb7 xb.h).toArray⟩,.int .u64 ((xb.on<<<S.C.ahead:Nat):Int)]) B w.heap.size (w.heap.size+1) S r false V/\Blk ((W2.setRow ((W.heap.size+1)) #[.int .i64 (Zax xa.h),.int .i64 (Zb8 S.C.ahead xa.h),.string ⟨(Zb7 xa.h).toArray⟩,.int .u64 ((xa.on<<<S.C.ahead:Nat):Int)]).setRow (W.heap.size) #[.int .i64 (Zax xb.h),.int .i64 (Zb8 S.C.ahead xb.h),.string ⟨(Zb7 xb.h).toArray⟩,.int .u64 ((xb.on<<<S.C.ahead:Nat):Int)]) ((W.heap.size+1)) 125 #[.int .i64 (Zax xa.h),.int .i64 (Zb8 S.C.ahead xa.h),.string ⟨(Zb7 xa.h).toArray⟩,.int .u64 ((xa.on<<<S.C.ahead:Nat):Int)]/\Blk ((W2.setRow ((W.heap.size+1)) #[.int .i64 (Zax xa.h),.int .i64 (Zb8 S.C.ahead xa.h),.string ⟨(Zb7 xa.h).toArray⟩,.int .u64 ((xa.on<<<S.C.ahead:Nat):Int)]).setRow (W.heap.size) #[.int .i64 (Zax xb.h),.int .i64 (Zb8 S.C.ahead xb.h),.string ⟨(Zb7 xb.h).toArray⟩,.int .u64 ((xb.on<<<S.C.ahead:Nat):Int)]) (W.heap.size) 125 #[.int .i64 (Zax xb.h),.int .i64 (Zb8 S.C.ahead xb.h),.string ⟨(Zb7 xb.h).toArray⟩,.int .u64 ((xb.on<<<S.C.ahead:Nat):Int)]/\(W.heap.size+1)≠W.heap.size/\w.heap.size+1<(W.heap.size+1)/\w.heap.size+1<W.heap.size:=⟨HU.out.below hw4,(BA.out.row _).farRow (by omega) _,(BB.out.farRow (by omega) _).row _,by omega,by omega,by omega⟩
   clear hw3 hw4 BA BB HW2
   generalize ((W2.setRow ((W.heap.size+1)) #[.int .i64 (Zax xa.h),.int .i64 (Zb8 S.C.ahead xa.h),.string ⟨(Zb7 xa.h).toArray⟩,.int .u64 ((xa.on<<<S.C.ahead:Nat):Int)]).setRow (W.heap.size) #[.int .i64 (Zax xb.h),.int .i64 (Zb8 S.C.ahead xb.h),.string ⟨(Zb7 xb.h).toArray⟩,.int .u64 ((xb.on<<<S.C.ahead:Nat):Int)])=W3 at hF ⊢
   generalize W.heap.size+1=l1 at hF ⊢
   generalize W.heap.size=l2 at hF ⊢
   exact wpList_nil (HM.out _ _ _ hF)
 ·intro la lb W3 ⟨hU,hA,hB,hne,hla,hlb⟩
  refine HK.out _ _ ?_
  clear HK K HSS HU HBW
  obtain⟨ca,hca⟩:∃ A,r.ctrl<<<S.C.ahead=A:=⟨_,rfl⟩
  obtain⟨oa,hoa⟩:∃ A,xa.on<<<S.C.ahead=A:=⟨_,rfl⟩
  obtain⟨ob,hob⟩:∃ A,xb.on<<<S.C.ahead=A:=⟨_,rfl⟩
  obtain⟨cb,hcb⟩:∃ A,(r.ctrl|||xa.on)<<<S.C.ahead=A:=⟨_,rfl⟩
  obtain⟨cc2,hcc2⟩:∃ A,(r.ctrl|||xa.on|||xb.on)<<<S.C.ahead=A:=⟨_,rfl⟩
  have room:=hI.room
  have o1:bits .or .u64 ((ca:Nat):Int) ((oa:Nat):Int)=((cb:Nat):Int):=by
   rw [<- hca,<- hoa,<- hcb,Zcg (Zhj hI.ctrl.lt room) (Zhj hra.2.lt room),Zg9]
  have o2:bits .or .u64 ((cb:Nat):Int) ((ob:Nat):Int)=((cc2:Nat):Int):=by
   rw [<- hcb,<- hob,<- hcc2,Zcg (Zhj (hI.ctrl.or hra.2).lt room) (Zhj hrb.2.lt room)]
   exact congrArg _ (Zg9 _ _ _).symm
  have g14:W3.cell? ⟨w.heap.size,14,none⟩=some (.int .u64 ((ca:Nat):Int)):=by rw [<- hca];exact hU.blk.cell 14
  have f14:=hU.blk.frozen 14
  have a3:W3.cell? ⟨la,3,none⟩=some (.int .u64 ((oa:Nat):Int)):=by rw [<- hoa];exact hA.cell 3
  have b3:W3.cell? ⟨lb,3,none⟩=some (.int .u64 ((ob:Nat):Int)):=by rw [<- hob];exact hB.cell 3
  have hu4:=hU.ctrl (r.ctrl|||xa.on|||xb.on)
  rw [hcc2] at hu4
  have HA:=Zh (hA.far (p:=⟨w.heap.size,14,none⟩) (show la≠w.heap.size by omega) (.int .u64 ((cc2:Nat):Int)))
  have HB:=Zh (hB.far (p:=⟨w.heap.size,14,none⟩) (show lb≠w.heap.size by omega) (.int .u64 ((cc2:Nat):Int)))
  have HU:=Zh hu4
  have HLE:=Zh (fun w=>Z4q S.C.ahead xa xb w)
  have ea:rgA r (a:Int)=xa:=by unfold rgA;rw [Int.toNat_natCast,hxa];rfl
  have eb:rgA r (b:Int)=xb:=by unfold rgA;rw [Int.toNat_natCast,hxb];rfl
  have HBR:=Zh (show brL r c at_ ⟨op,d,a,b,imm,loc,label,fence⟩=if Zby xa.h||Zby xb.h then (if ((c.take L).drop (at_+1)).any (fun y=>decide (y.op≠12)) then none else some ({ r with ctrl:=r.ctrl|||xa.on|||xb.on },at_+1)) else some ({ r with ctrl:=r.ctrl|||xa.on|||xb.on },if Zak xa.h xb.h then L else at_+1) by
   unfold brL
   simp only [ea,eb,hL])
  generalize hr1:({ r with ctrl:=r.ctrl|||xa.on|||xb.on }:Rn)=r1 at *
  have hfl1:r1.full=false:=by rw [<- hr1];exact hfl
  have hlab1:at_<L:=by rw [<- hL];unfold Zhc;omega
  clear hr1 hU hA hB hu4 hca hoa hob hcb hcc2 hI hra hrb ea eb hxa hxb
  repeat (first | ((with_reducible refine Zao ?_);refine Zaw 125 10 la rfl rfl HA.out Tryz.underlying125 rfl (by kernel_rfl) rfl ?_) | ((with_reducible refine Zao ?_);refine Zaw 125 11 lb rfl rfl HB.out Tryz.underlying125 rfl (by kernel_rfl) rfl ?_) | (go_at_call 170;refine Hid.out ?_) | go_step)
  refine Zh ?_
  refine (HLE.out _).mono ?_
  rintro e w5 ⟨v,he,hv,hb5⟩
  have HU5:=Zh (HU.out.below hb5)
  obtain⟨z,hz,hzs⟩:=HU5.out.out
  clear HU HA HB HLE o1 o2 g14 f14 a3 b3 hb5
  obtain⟨ko,hko⟩:∃ x,(Zby xa.h||Zby xb.h)=x:=⟨_,rfl⟩
  rw [hko] at he hv
  have HKO:=Zh hko
  rw [hko] at HBR
  clear hko
  cases ko with
  | false=>
   have HVL:=Zh (hv rfl)
   clear hv
   subst he
   cases v with
   | true=>
    dsimp only [Bool.not_false]
    repeat (first | ((with_reducible refine Zao ?_);refine Zaw 121 4 w.heap.size rfl rfl HU5.out.blk Tryz.underlying121 rfl (by kernel_rfl) rfl ?_) | ((with_reducible refine Zao ?_);refine Zam 121 8 52 (w.heap.size+1) rfl rfl rfl hz (by exact hzs) (by kernel_rfl) (Zbf _ _ _ _) rfl rfl ?_) | go_step)
    refine Znr 121 8 (w.heap.size+1) 9 rfl (hz.row _) Tryz.underlying121 rfl (by kernel_rfl) rfl rfl rfl ?_
    exact Zis.of (n:=L) (HU5.out) (by omega) (by omega) (Or.inl ⟨rfl,by rw [HBR.out,<- HVL.out];rfl⟩)
   | false=>
    dsimp only [Bool.not_false]
    have HO:=Zh (show brL r c at_ ⟨op,d,a,b,imm,loc,label,fence⟩=some (r1,at_+1) by rw [HBR.out,<- HVL.out];rfl)
    clear hz hzs
    go_wp2_with fail
    go_loopw [14] (fun x wr=>x=.int .i64 ((at_:Int)+1)/\Zb0 w wr B w.heap.size (w.heap.size+1) S r1 false V) (fun _ _=>0)
    case atStart=>exact⟨by go_num,HU5.out⟩
    case round=>
     obtain⟨rfl,hu⟩:=hrel
     have HU6:=Zh hu
     obtain⟨z,hz,hzs⟩:=hu.out
     clear hu HU5
     go_wp2_with (first | ((with_reducible refine Zao ?_);refine Zaw 121 4 w.heap.size rfl rfl HU6.out.blk Tryz.underlying121 rfl (by kernel_rfl) rfl ?_) | ((with_reducible refine Zao ?_);refine Zam 121 8 72 (w.heap.size+1) rfl rfl rfl hz (by exact hzs) (by kernel_rfl) (Zbf _ _ _ _) rfl rfl ?_))
     all_goals
      refine Znr 121 8 (w.heap.size+1) 9 rfl (hz.row _) Tryz.underlying121 rfl (by kernel_rfl) rfl rfl rfl ?_
      exact Zis.of (n:=at_+1) (HU6.out) (by omega) (by omega) (Or.inl ⟨rfl,HO.out⟩)
  | true=>
   clear hv
   subst he
   dsimp only [Bool.not_true]
   clear hz hzs
   go_wp2_with fail
   go_loopw [14] (fun x wr=>∃ (j:Nat) (fl:Bool),at_+1<=j/\j<=L/\x=.int .i64 (j:Int)/\fl=((c.take j).drop (at_+1)).any (fun y=>decide (y.op≠12))/\Zb0 w wr B w.heap.size (w.heap.size+1) S r1 fl V) (fun x _=>L - (intOf x).toNat)
   case atStart=>exact⟨at_+1,false,by omega,by omega,by go_num,by rw [List.drop_eq_nil_of_le (by rw [List.length_take];omega)];rfl,HU5.out⟩
   case round=>
    obtain⟨j,fl,hj1,hj2,rfl,hf,hu⟩:=hrel
    have HF:=Zh hf
    have HU6:=Zh hu
    obtain⟨z,hz,hzs⟩:=hu.out
    clear hu hf HU5
    by_cases hlt:j<L
    ·have hjl:(j:Int)<(L:Int):=by omega
     have hjc:(j:Int)<(c.length:Int):=by omega
     have hj0:(0:Int)<=(j:Int):=by omega
     obtain⟨y,hy⟩:∃ y,c[j]?=some y:=⟨_,List.getElem?_eq_getElem (by omega)⟩
     have hins:=HINS.out _ _ _ _ HU6.out
     obtain⟨b',o',e',m0,_⟩:=hins j y hy
     simp only [Option.some.injEq,Addr.mk.injEq,and_true] at e'
     obtain⟨rfl,rfl⟩:=e'
     have HN:=Zh (show ((c.take (j+1)).drop (at_+1)).any (fun y=>decide (y.op≠12))=(fl||decide (y.op≠12)) by
      rw [List.take_add_one,hy,List.drop_append_of_le_length (by rw [List.length_take];omega),List.any_append,<- HF.out]
      simp only [Option.toList_some,List.any_cons,List.any_nil,Bool.or_false])
     have f24:=HU6.out.blk.frozen 24
     have k24:=HU6.out.blk.cm 24
     have HU7:=Zh HU6.out.flow
     clear hins hy hz hzs
     by_cases h12:y.op=12
     ·have hn:fl=((c.take (j+1)).drop (at_+1)).any (fun y=>decide (y.op≠12)):=by rw [HN.out,h12];simp
      have HNN:=Zh hn
      clear hn
      go_wp2_with fail
      go_roundw
      case rel=>exact⟨j+1,fl,by omega,by omega,by go_num,HNN.out,HU6.out⟩
      case measure=>simp [intOf];omega
     ·have hn:true=((c.take (j+1)).drop (at_+1)).any (fun y=>decide (y.op≠12)):=by rw [HN.out];simp [h12]
      have HNN:=Zh hn
      clear hn
      go_wp2_with fail
      go_roundw
      case rel=>exact⟨j+1,true,by omega,by omega,by go_num,HNN.out,HU7.out⟩
      case measure=>simp [intOf];omega
    ·have hjL:j=L:=by omega
     subst hjL
     go_wp2_with (first | ((with_reducible refine Zao ?_);refine Zaw 121 4 w.heap.size rfl rfl HU6.out.blk Tryz.underlying121 rfl (by kernel_rfl) rfl ?_) | ((with_reducible refine Zao ?_);refine Zam 121 8 72 (w.heap.size+1) rfl rfl rfl hz (by exact hzs) (by kernel_rfl) (Zbf _ _ _ _) rfl rfl ?_))
     have HO:Hid ((fl=false/\brL r c at_ ⟨op,d,a,b,imm,loc,label,fence⟩=some (r1,at_+1))\/(fl=true/\brL r c at_ ⟨op,d,a,b,imm,loc,label,fence⟩=none/\r1.full=false)):=by
      have e:=HBR.out
      rw [if_pos trivial,<- HF.out] at e
      cases fl with
      | true=>exact Zh (Or.inr ⟨rfl,by rw [e];rfl,hfl1⟩)
      | false=>exact Zh (Or.inl ⟨rfl,by rw [e];rfl⟩)
     all_goals
      refine Znr 121 8 (w.heap.size+1) 9 rfl (hz.row _) Tryz.underlying121 rfl (by kernel_rfl) rfl rfl rfl ?_
      exact Zis.of (n:=at_+1) (HU6.out) (by omega) (by omega) (HO.out)
end
section
set_option maxHeartbeats 4000000
set_option maxRecDepth 100000
theorem Z3k (L:Zgv)(V V':Zfl)(w:World)(h:Zc0 w L V)(h':Zc0 w L V')(l0:L.lo.length<=1000000)(l1:L.ini.length<=1000000)(l2:L.a.evs.length<=1000000)(l3:L.a.bars.length<=1000000)(l4:L.a.addr.length<=1000000)(l5:L.a.data.length<=1000000)(l6:L.a.hang.length<=1000000)(l7:L.th.length<=1000000)(l8:L.a.ends.length<=1000000) :
  Calls Tryz.prog 11 #[Zgj V,Zgj V'] w fun e w'=>e=.returned (.bool true)/\Below w.heap.size w w':=by
 obtain⟨⟨A0,n0,c0⟩,⟨A1,n1,c1⟩,⟨A2,n2,c2⟩,⟨A3,n3,c3⟩,⟨A4,n4,c4⟩,⟨A5,n5,c5⟩,⟨A6,n6,c6⟩,⟨A7,n7,c7⟩,⟨A8,n8,c8⟩⟩:=V
 obtain⟨⟨Ap0,np0,cp0⟩,⟨Ap1,np1,cp1⟩,⟨Ap2,np2,cp2⟩,⟨Ap3,np3,cp3⟩,⟨Ap4,np4,cp4⟩,⟨Ap5,np5,cp5⟩,⟨Ap6,np6,cp6⟩,⟨Ap7,np7,cp7⟩,⟨Ap8,np8,cp8⟩⟩:=V'
 obtain⟨a0,m0,a1,m1,a2,m2,a3,m3,a4,m4,a5,m5,a6,m6,a7,m7,a8,m8⟩:=h
 obtain⟨b0,q0,b1,q1,b2,q2,b3,q3,b4,q4,b5,q5,b6,q6,b7,q7,b8,q8⟩:=h'
 simp only at a0 m0 a1 m1 a2 m2 a3 m3 a4 m4 a5 m5 a6 m6 a7 m7 a8 m8 b0 q0 b1 q1 b2 q2 b3 q3 b4 q4 b5 q5 b6 q6 b7 q7 b8 q8
 subst m0 m1 m2 m3 m4 m5 m6 m7 m8 q0 q1 q2 q3 q4 q5 q6 q7 q8
 have HX:=Zh (And.intro a0 (And.intro a1 (And.intro a2 (And.intro a3 (And.intro a4 (And.intro a5 (And.intro a6 (And.intro a7 a8))))))))
 have HY:=Zh (And.intro b0 (And.intro b1 (And.intro b2 (And.intro b3 (And.intro b4 (And.intro b5 (And.intro b6 (And.intro b7 b8))))))))
 clear a0 a1 a2 a3 a4 a5 a6 a7 a8 b0 b1 b2 b3 b4 b5 b6 b7 b8
 simp only [Zgj,Sl.v]
 go_enter Tryz.func11,Tryz.ntmps11
 apply wp_seq_k
 intro K hK
 have HK:=Zh hK
 clear hK
 go_wp2_with fail
 refine Z5h (P:=fun X=>K _ X) w _ _ _ _ ?_
 intro W b0 b2 hz hbW
 refine HK.out _ _ ?_
 clear HK K hz
 have Kk:=Zh b0
 have Kj:=Zh b2
 have HB:=Zh hbW
 clear b0 b2 hbW
 obtain⟨k0,k1,k2,k3,k4,k5,k6,k7,k8⟩:=Zcy Kk.out
 obtain⟨j0,j1,j2,j3,j4,j5,j6,j7,j8⟩:=Zcy Kj.out
 go_wp2_with (go_at_call 42;refine Hid.out ?_)
 refine Zh ?_
 refine (Zsu _ _ _ _ L.lo _ l0 (HX.out.1.below HB.out) (HY.out.1.below HB.out)).mono ?_
 (rintro e w1 ⟨rfl,hb⟩;have Kk2:=Zh (Kk.out.go hb);have Kj2:=Zh (Kj.out.go hb);have HB2:=Zh (Zaa HB.out hb);clear hb Kk Kj HB k0 k1 k2 k3 k4 k5 k6 k7 k8 j0 j1 j2 j3 j4 j5 j6 j7 j8;have Kk:=Kk2;have Kj:=Kj2;have HB:=HB2;clear Kk2 Kj2 HB2;(obtain⟨k0,k1,k2,k3,k4,k5,k6,k7,k8⟩:=Zcy Kk.out;obtain⟨j0,j1,j2,j3,j4,j5,j6,j7,j8⟩:=Zcy Kj.out))
 dsimp only
 go_wp2_with (go_at_call 43;refine Hid.out ?_)
 refine Zh ?_
 refine (Zu4 _ _ _ _ L.ini _ l1 (HX.out.2.1.below HB.out) (HY.out.2.1.below HB.out)).mono ?_
 (rintro e w1 ⟨rfl,hb⟩;have Kk2:=Zh (Kk.out.go hb);have Kj2:=Zh (Kj.out.go hb);have HB2:=Zh (Zaa HB.out hb);clear hb Kk Kj HB k0 k1 k2 k3 k4 k5 k6 k7 k8 j0 j1 j2 j3 j4 j5 j6 j7 j8;have Kk:=Kk2;have Kj:=Kj2;have HB:=HB2;clear Kk2 Kj2 HB2;(obtain⟨k0,k1,k2,k3,k4,k5,k6,k7,k8⟩:=Zcy Kk.out;obtain⟨j0,j1,j2,j3,j4,j5,j6,j7,j8⟩:=Zcy Kj.out))
 dsimp only
 go_wp2_with (go_at_call 44;refine Hid.out ?_)
 refine Zh ?_
 refine (Zij _ _ _ _ L.a.addr _ l4 (HX.out.2.2.2.2.1.below HB.out) (HY.out.2.2.2.2.1.below HB.out)).mono ?_
 (rintro e w1 ⟨rfl,hb⟩;have Kk2:=Zh (Kk.out.go hb);have Kj2:=Zh (Kj.out.go hb);have HB2:=Zh (Zaa HB.out hb);clear hb Kk Kj HB k0 k1 k2 k3 k4 k5 k6 k7 k8 j0 j1 j2 j3 j4 j5 j6 j7 j8;have Kk:=Kk2;have Kj:=Kj2;have HB:=HB2;clear Kk2 Kj2 HB2;(obtain⟨k0,k1,k2,k3,k4,k5,k6,k7,k8⟩:=Zcy Kk.out;obtain⟨j0,j1,j2,j3,j4,j5,j6,j7,j8⟩:=Zcy Kj.out))
 dsimp only
 go_wp2_with (go_at_call 44;refine Hid.out ?_)
 refine Zh ?_
 refine (Zij _ _ _ _ L.a.data _ l5 (HX.out.2.2.2.2.2.1.below HB.out) (HY.out.2.2.2.2.2.1.below HB.out)).mono ?_
 (rintro e w1 ⟨rfl,hb⟩;have Kk2:=Zh (Kk.out.go hb);have Kj2:=Zh (Kj.out.go hb);have HB2:=Zh (Zaa HB.out hb);clear hb Kk Kj HB k0 k1 k2 k3 k4 k5 k6 k7 k8 j0 j1 j2 j3 j4 j5 j6 j7 j8;have Kk:=Kk2;have Kj:=Kj2;have HB:=HB2;clear Kk2 Kj2 HB2;(obtain⟨k0,k1,k2,k3,k4,k5,k6,k7,k8⟩:=Zcy Kk.out;obtain⟨j0,j1,j2,j3,j4,j5,j6,j7,j8⟩:=Zcy Kj.out))
 dsimp only
 go_wp2_with (go_at_call 44;refine Hid.out ?_)
 refine Zh ?_
 refine (Zij _ _ _ _ L.a.hang _ l6 (HX.out.2.2.2.2.2.2.1.below HB.out) (HY.out.2.2.2.2.2.2.1.below HB.out)).mono ?_
 (rintro e w1 ⟨rfl,hb⟩;have Kk2:=Zh (Kk.out.go hb);have Kj2:=Zh (Kj.out.go hb);have HB2:=Zh (Zaa HB.out hb);clear hb Kk Kj HB k0 k1 k2 k3 k4 k5 k6 k7 k8 j0 j1 j2 j3 j4 j5 j6 j7 j8;have Kk:=Kk2;have Kj:=Kj2;have HB:=HB2;clear Kk2 Kj2 HB2;(obtain⟨k0,k1,k2,k3,k4,k5,k6,k7,k8⟩:=Zcy Kk.out;obtain⟨j0,j1,j2,j3,j4,j5,j6,j7,j8⟩:=Zcy Kj.out))
 dsimp only
 go_wp2_with fail
 go_loopw [5] (fun v wr=>∃ i:Nat,i<=L.a.evs.length/\v=.int .i64 i/\Below w.heap.size w wr/\Blk wr w.heap.size 41 #[.slice A0 L.lo.length c0,.slice A1 L.ini.length c1,.slice A2 L.a.evs.length c2,.slice A3 L.a.bars.length c3,.slice A4 L.a.addr.length c4,.slice A5 L.a.data.length c5,.slice A6 L.a.hang.length c6,.slice A7 L.th.length c7,.slice A8 L.a.ends.length c8]/\Blk wr (w.heap.size+1) 41 #[.slice Ap0 L.lo.length cp0,.slice Ap1 L.ini.length cp1,.slice Ap2 L.a.evs.length cp2,.slice Ap3 L.a.bars.length cp3,.slice Ap4 L.a.addr.length cp4,.slice Ap5 L.a.data.length cp5,.slice Ap6 L.a.hang.length cp6,.slice Ap7 L.th.length cp7,.slice Ap8 L.a.ends.length cp8]) (fun v _=>L.a.evs.length - (intOf v).toNat)
 case atStart=>exact⟨0,Nat.zero_le _,rfl,HB.out,Kk.out,Kj.out⟩
 case round=>
  obtain⟨i,hi,rfl,hb,hk,hj⟩:=hrel
  clear HB Kk Kj k0 k1 k2 k3 k4 k5 k6 k7 k8 j0 j1 j2 j3 j4 j5 j6 j7 j8
  have HB:=Zh hb
  have Kk:=Zh hk
  have Kj:=Zh hj
  clear hb hk hj
  obtain⟨k0,k1,k2,k3,k4,k5,k6,k7,k8⟩:=Zcy Kk.out
  obtain⟨j0,j1,j2,j3,j4,j5,j6,j7,j8⟩:=Zcy Kj.out
  have hii:(0:Int)<=(i:Int):=by omega
  by_cases hlt:i<L.a.evs.length
  ·have hij:(i:Int)<(L.a.evs.length:Int):=by omega
   obtain⟨x,hx⟩:∃ x,L.a.evs[i]?=some x:=⟨_,List.getElem?_eq_getElem hlt⟩
   obtain⟨b,o,e1,u0,u1,u2,u3,u4,u5⟩:=Zgu (HX.out.2.2.1.below HB.out) hx
   obtain⟨b',o',e2,v0,v1,v2,v3,v4,v5⟩:=Zgu (HY.out.2.2.1.below HB.out) hx
   exact m_80
  ·have hil:i=L.a.evs.length:=by omega
   subst hil
   go_wp2_with fail
   go_loopw [6] (fun v wr=>∃ i:Nat,i<=L.a.bars.length/\v=.int .i64 i/\Below w.heap.size w wr/\Blk wr w.heap.size 41 #[.slice A0 L.lo.length c0,.slice A1 L.ini.length c1,.slice A2 L.a.evs.length c2,.slice A3 L.a.bars.length c3,.slice A4 L.a.addr.length c4,.slice A5 L.a.data.length c5,.slice A6 L.a.hang.length c6,.slice A7 L.th.length c7,.slice A8 L.a.ends.length c8]/\Blk wr (w.heap.size+1) 41 #[.slice Ap0 L.lo.length cp0,.slice Ap1 L.ini.length cp1,.slice Ap2 L.a.evs.length cp2,.slice Ap3 L.a.bars.length cp3,.slice Ap4 L.a.addr.length cp4,.slice Ap5 L.a.data.length cp5,.slice Ap6 L.a.hang.length cp6,.slice Ap7 L.th.length cp7,.slice Ap8 L.a.ends.length cp8]) (fun v _=>L.a.bars.length - (intOf v).toNat)
   case atStart=>exact⟨0,Nat.zero_le _,rfl,HB.out,Kk.out,Kj.out⟩
   case round=>
    obtain⟨i,hi,rfl,hb,hk,hj⟩:=hrel
    clear HB Kk Kj k0 k1 k2 k3 k4 k5 k6 k7 k8 j0 j1 j2 j3 j4 j5 j6 j7 j8
    have HB:=Zh hb
    have Kk:=Zh hk
    have Kj:=Zh hj
    clear hb hk hj
    obtain⟨k0,k1,k2,k3,k4,k5,k6,k7,k8⟩:=Zcy Kk.out
    obtain⟨j0,j1,j2,j3,j4,j5,j6,j7,j8⟩:=Zcy Kj.out
    have hii:(0:Int)<=(i:Int):=by omega
    by_cases hlt:i<L.a.bars.length
    ·have hij:(i:Int)<(L.a.bars.length:Int):=by omega
     obtain⟨x,hx⟩:∃ x,L.a.bars[i]?=some x:=⟨_,List.getElem?_eq_getElem hlt⟩
     obtain⟨b,o,e1,u0,u1,u2⟩:=Zpe (HX.out.2.2.2.1.below HB.out) hx
     obtain⟨b',o',e2,v0,v1,v2⟩:=Zpe (HY.out.2.2.2.1.below HB.out) hx
     exact m_80
    ·have hil:i=L.a.bars.length:=by omega
     subst hil
     go_wp2_with fail
     go_loopw [7] (fun v wr=>∃ i:Nat,i<=L.th.length/\v=.int .i64 i/\Below w.heap.size w wr/\Blk wr w.heap.size 41 #[.slice A0 L.lo.length c0,.slice A1 L.ini.length c1,.slice A2 L.a.evs.length c2,.slice A3 L.a.bars.length c3,.slice A4 L.a.addr.length c4,.slice A5 L.a.data.length c5,.slice A6 L.a.hang.length c6,.slice A7 L.th.length c7,.slice A8 L.a.ends.length c8]/\Blk wr (w.heap.size+1) 41 #[.slice Ap0 L.lo.length cp0,.slice Ap1 L.ini.length cp1,.slice Ap2 L.a.evs.length cp2,.slice Ap3 L.a.bars.length cp3,.slice Ap4 L.a.addr.length cp4,.slice Ap5 L.a.data.length cp5,.slice Ap6 L.a.hang.length cp6,.slice Ap7 L.th.length cp7,.slice Ap8 L.a.ends.length cp8]) (fun v _=>L.th.length - (intOf v).toNat)
     case atStart=>exact⟨0,Nat.zero_le _,rfl,HB.out,Kk.out,Kj.out⟩
     case round=>
      obtain⟨i,hi,rfl,hb,hk,hj⟩:=hrel
      clear HB Kk Kj k0 k1 k2 k3 k4 k5 k6 k7 k8 j0 j1 j2 j3 j4 j5 j6 j7 j8
      have HB:=Zh hb
      have Kk:=Zh hk
      have Kj:=Zh hj
      clear hb hk hj
      obtain⟨k0,k1,k2,k3,k4,k5,k6,k7,k8⟩:=Zcy Kk.out
      obtain⟨j0,j1,j2,j3,j4,j5,j6,j7,j8⟩:=Zcy Kj.out
      have hii:(0:Int)<=(i:Int):=by omega
      by_cases hlt:i<L.th.length
      ·have hij:(i:Int)<(L.th.length:Int):=by omega
       obtain⟨x,hx⟩:∃ x,L.th[i]?=some x:=⟨_,List.getElem?_eq_getElem hlt⟩
       obtain⟨b,o,e1,u0,u1,u2⟩:=(HX.out.2.2.2.2.2.2.2.1.go HB.out) i x hx
       obtain⟨b',o',e2,v0,v1,v2⟩:=(HY.out.2.2.2.2.2.2.2.1.go HB.out) i x hx
       exact m_80
      ·have hil:i=L.th.length:=by omega
       subst hil
       go_wp2_with fail
       go_loopw [8] (fun v wr=>∃ i:Nat,i<=L.a.ends.length/\v=.int .i64 i/\Below w.heap.size w wr/\Blk wr w.heap.size 41 #[.slice A0 L.lo.length c0,.slice A1 L.ini.length c1,.slice A2 L.a.evs.length c2,.slice A3 L.a.bars.length c3,.slice A4 L.a.addr.length c4,.slice A5 L.a.data.length c5,.slice A6 L.a.hang.length c6,.slice A7 L.th.length c7,.slice A8 L.a.ends.length c8]/\Blk wr (w.heap.size+1) 41 #[.slice Ap0 L.lo.length cp0,.slice Ap1 L.ini.length cp1,.slice Ap2 L.a.evs.length cp2,.slice Ap3 L.a.bars.length cp3,.slice Ap4 L.a.addr.length cp4,.slice Ap5 L.a.data.length cp5,.slice Ap6 L.a.hang.length cp6,.slice Ap7 L.th.length cp7,.slice Ap8 L.a.ends.length cp8]) (fun v _=>L.a.ends.length - (intOf v).toNat)
       case atStart=>exact⟨0,Nat.zero_le _,rfl,HB.out,Kk.out,Kj.out⟩
       case round=>
        obtain⟨i,hi,rfl,hb,hk,hj⟩:=hrel
        clear HB Kk Kj k0 k1 k2 k3 k4 k5 k6 k7 k8 j0 j1 j2 j3 j4 j5 j6 j7 j8
        have HB:=Zh hb
        have Kk:=Zh hk
        have Kj:=Zh hj
        clear hb hk hj
        obtain⟨k0,k1,k2,k3,k4,k5,k6,k7,k8⟩:=Zcy Kk.out
        obtain⟨j0,j1,j2,j3,j4,j5,j6,j7,j8⟩:=Zcy Kj.out
        have hii:(0:Int)<=(i:Int):=by omega
        by_cases hlt:i<L.a.ends.length
        ·have hij:(i:Int)<(L.a.ends.length:Int):=by omega
         obtain⟨x,hx⟩:∃ x,L.a.ends[i]?=some x:=⟨_,List.getElem?_eq_getElem hlt⟩
         obtain⟨b,o,e1,u0,u1⟩:=Zk9 (HX.out.2.2.2.2.2.2.2.2.below HB.out) hx
         obtain⟨b',o',e2,v0,v1⟩:=Zk9 (HY.out.2.2.2.2.2.2.2.2.below HB.out) hx
         exact m_80
        ·have hil:i=L.a.ends.length:=by omega
         subst hil
         go_wp2_with fail
         go_ret
         exact⟨rfl,HB.out⟩
end
end Go.Proofs.YtoegmdnfbemppaaGreatDoor
