/- Layers 21 and 22: how the things stand, as lists. -/
import Derived.Test.YtgjefdaaihgliaaGreatDoorMn33

namespace Go.Proofs.YtgjefdaaihgliaaGreatDoor
open Go.RowKit
def Zg3 (m:BMc)(x:Th):Int:=if x.1<0 then (m.mem[m.locs.idxOf x.2.2]?).getD 0 else match m.tds[x.1.toNat]? with
 | some t=>((t.vs[x.2.1.toNat]?).getD ([],0)).2
 | none=>0
def sts (m:BMc)(k:Nat):List Int:=(m.ths.take k).map (Zg3 m)
def Zdj (m:BMc):List Int:=m.ths.map (Zg3 m)
structure SOK (m:BMc):Prop where
 n0:0<m.tds.length
 len:m.ths.length<=100000
 ll:m.locs.length<=1000000
 mem:∀ x∈m.ths,x.1<0->x.2.2∈m.locs/\m.locs.idxOf x.2.2<m.mem.length
 reg:∀ x∈m.ths,0<=x.1->∃ (k r:Nat) (t:BTd),x.1=(k:Int)/\x.2.1=(r:Int)/\m.tds[k]?=some t/\r<t.vs.length
def Zs0 (pick:Int)(n:Nat):Nat:=(pick % (n:Int)).toNat
theorem Zzd (pick:Int){n:Nat}(h:0<n):((Zs0 pick n:Nat):Int)=if pick.tmod (n:Int)<0 then pick.tmod (n:Int)+(n:Int) else pick.tmod (n:Int):=by
 have h2:=Int.emod_nonneg pick (show (n:Int)≠0 by omega);unfold Zs0;rw [Int.toNat_of_nonneg h2];have h3:=Int.tmod_eq_emod (a:=pick) (b:=(n:Int));have h4:=Int.emod_lt_of_pos pick (show (0:Int)<(n:Int) by omega);rw [Int.natAbs_natCast] at h3;by_cases hc:0<=pick\/(n:Int)∣pick
 ·rw [if_pos hc] at h3;rw [if_neg ω];omega
 ·rw [if_neg hc] at h3;rw [if_pos ω];omega
theorem Z2y (pick:Int){n:Nat}(h:0<n):-(n:Int)<pick.tmod (n:Int)/\pick.tmod (n:Int)<(n:Int):=by
 have h2:=Int.emod_nonneg pick (show (n:Int)≠0 by omega);have h3:=Int.tmod_eq_emod (a:=pick) (b:=(n:Int));have h4:=Int.emod_lt_of_pos pick (show (0:Int)<(n:Int) by omega);have h5:=Int.tmod_nonneg (n:Int) (a:=pick);rw [Int.natAbs_natCast] at h3;by_cases hc:0<=pick\/(n:Int)∣pick
 ·rw [if_pos hc] at h3;omega
 ·rw [if_neg hc] at h3;have hne:pick % (n:Int)≠0:=fun e=>hc (.inr (Int.dvd_of_emod_eq_zero e))
  omega
section
set_option maxHeartbeats 4000000
set_option maxRecDepth 100000
theorem Z5d (f:Nat)(a b:Rg)(w:World):Calls Tryz.prog 137 #[Za6 f a,Za6 f b] w fun e w'=>∃ v,e=.returned (.tuple #[.bool v,.bool (!(Zbz a.h||Zbz b.h))])/\((Zbz a.h||Zbz b.h)=false->v=Zap a.h b.h)/\Below w.heap.size w w':=by
 obtain⟨ha,oa⟩:=a;obtain⟨hb,ob⟩:=b;cases ha with
 | num x=>
  cases hb with
  | num y=>
   by_cases e:x=y
   ·subst e;exact m_39
   exact m_38
  | adr y=>
   exact m_39
  | rd y=>
   exact m_39
  | non=>
   exact m_39
 | adr x=>
  cases hb with
  | num y=>
   exact m_39
  | adr y=>
   by_cases e:x=y
   ·subst e;exact m_39
   ·have e1:(x == y)=false:=by simpa using e
    exact m_41
  | rd y=>
   exact m_39
  | non=>
   exact m_39
 | rd x=>
  cases hb with
  | num y=>
   exact m_39
  | adr y=>
   exact m_39
  | rd y=>
   by_cases e:((f+x:Nat):Int)=((f+y:Nat):Int)
   ·skip
    exact m_41
   exact m_38
  | non=>
   exact m_39
 | non=>
  cases hb with
  | num y=>
   exact m_39
  | adr y=>
   exact m_39
  | rd y=>
   exact m_39
  | non=>
   exact m_39
end
section
theorem Zhw {w:World}{B b:Nat}{t:TypeId}{z n:Nat}{v:Value}{xs:List Value}(h:w.ownsRow B t z v n xs)(hb:v.ownBlock=some b)(i:Nat)(u:Value):(w.setCell ⟨b,i,none⟩ u).ownsRow B t z v n (xs.set i u):=by
 obtain⟨h1,h2⟩:=h;refine⟨by rw [List.length_set];exact h1,?_⟩;rcases h2 with ⟨rfl,_⟩ | ⟨g,cap,cur,rfl,hg,hh,hnc,hcm,hcs,ht⟩
 ·simp [Value.ownBlock] at hb
 ·simp only [Value.ownBlock,Option.some.injEq] at hb;subst hb;refine Or.inr ⟨g,cap,cur.setIfInBounds i u,rfl,hg,Blk.set_ hh i u,hnc,hcm,by simpa using hcs,?_⟩;rw [Array.toList_setIfInBounds,<- ht,List.take_set]
theorem Zke {w:World}{B:Nat}{t:TypeId}{z n:Nat}{v:Value}{xs:List Value}(h:w.ownsRow B t z v n xs)(hn:0<n):∃ b cap,v=.slice (some ⟨b,0,none⟩) n cap/\B<=b:=by
 rcases h.2 with ⟨_,h2⟩ | ⟨g,cap,cur,rfl,hg,_⟩
 ·omega
 ·exact⟨g,cap,rfl,hg⟩
theorem Zuv (f:Nat)(l:List Rg)(i:Nat)(x:Rg)(h:i<l.length):(((((Zdw f).flat l).set (i*4) (.int .i64 (Za2 x.h))).set (i*4+1) (.int .i64 (Zcf f x.h))).set (i*4+2) (.string ⟨(Zce x.h).toArray⟩)).set (i*4+3) (.int .u64 ((x.on<<<f:Nat):Int))=(Zdw f).flat (l.set i x):=by
 apply List.ext_getElem?;intro m;have hl:((Zdw f).flat l).length=l.length*4:=(Zdw f).flat_len l;rw [Zfn (Zdw f) l i x m h];simp only [List.getElem?_set];show _=if i*4<=m/\m<i*4+4 then _ else _
 by_cases hm:i*4<=m/\m<i*4+4
 ·rw [if_pos hm];have hc:m=i*4\/m=i*4+1\/m=i*4+2\/m=i*4+3:=ω;rcases hc with rfl | rfl | rfl | rfl
  ·simp [hl];omega
  ·simp [hl];omega
  ·simp [hl];omega
  ·simp [hl];omega
 ·rw [if_neg hm];simp [show ¬ i*4=m by omega,show ¬ i*4+1=m by omega,show ¬ i*4+2=m by omega,show ¬ i*4+3=m by omega]
theorem Zjh {f:Nat}{w:World}{B b:Nat}{v:Value}{l:List Rg}(h:(Zdw f).Own 141 B w v l)(hb:v.ownBlock=some b){i:Nat}(hi:i<l.length)(x:Rg) :
  (Zdw f).Own 141 B ((((w.setCell ⟨b,i*4,none⟩ (.int .i64 (Za2 x.h))).setCell ⟨b,i*4+1,none⟩ (.int .i64 (Zcf f x.h))).setCell ⟨b,i*4+2,none⟩ (.string ⟨(Zce x.h).toArray⟩)).setCell ⟨b,i*4+3,none⟩ (.int .u64 ((x.on<<<f:Nat):Int))) v (l.set i x):=by
 have k:=Zhw (Zhw (Zhw (Zhw h hb (i*4) (.int .i64 (Za2 x.h))) hb (i*4+1) (.int .i64 (Zcf f x.h))) hb (i*4+2) (.string ⟨(Zce x.h).toArray⟩)) hb (i*4+3) (.int .u64 ((x.on<<<f:Nat):Int));unfold Enc.Own;rw [List.length_set,<- Zuv f l i x hi];exact k
theorem Zkf {f:Nat}{w:World}{B b n cap:Nat}{l:List Rg}(h:(Zdw f).Own 141 B w (.slice (some ⟨b,0,none⟩) n cap) l){i:Nat}(hi:i<l.length):w.there b (i*4) 4:=fun j hj=>by
 obtain⟨cur,hc,_⟩:=Zdi h rfl;have hB:Blk w b 141 cur:=hc;refine⟨?_,hB.frozen _⟩;obtain⟨A,cap',e,hat,_⟩:=Enc.Own.at_ h;simp only [Value.slice.injEq] at e;obtain⟨b',o,e2,hcs⟩:=hat i _ (List.getElem?_eq_getElem hi);rw [<- e.1] at e2;simp only [Option.some.injEq,Addr.mk.injEq,and_true] at e2;obtain⟨rfl,rfl⟩:=e2;have hl:((Zdw f).enc l[i]).length=4:=(Zdw f).len _;have:=hcs j _ (List.getElem?_eq_getElem (by rw [hl];exact hj));rw [Nat.zero_add] at this;rw [show i*4+j=i*(Zdw f).size+j from rfl,this];rfl
theorem Zba.rgAt {w:World}{B:Nat}{S:RrS}{r:Rn}{V:RrV}(h:Zba w B S r V)(hl:0<r.regs.length):∃ q0 cp,V.rg.v=.slice (some ⟨q0,0,none⟩) r.regs.length cp/\(Zdw S.C.ahead).At w (some ⟨q0,0,none⟩) r.regs:=by
 obtain⟨q0,cp,hvr,_⟩:=Zke h.rg hl;refine⟨q0,cp,hvr,?_⟩;obtain⟨A,cap,e,hat,_⟩:=Enc.Own.at_ h.rg;rw [hvr] at e;simp only [Value.slice.injEq] at e;rw [e.1];exact hat
theorem Zba.loAt {w:World}{B:Nat}{S:RrS}{r:Rn}{V:RrV}(h:Zba w B S r V):Zc1.At w S.lo.A S.C.locs/\S.lo.n=S.C.locs.length:=by
 obtain⟨A,cap,e,hat,_⟩:=Enc.Own.at_ h.lo;simp only [Sl.v,Value.slice.injEq] at e;rw [e.1];exact⟨hat,e.2.1⟩
set_option maxHeartbeats 4000000
set_option maxRecDepth 100000
theorem Z36 (B:Nat)(S:RrS)(hrisc:S.C.risc=decide (S.T.arch=2))(r:Rn)(V:RrV)(d:Nat)(x:Rg)(w:World)(hR:Zba w B S r V)(hd:d<r.regs.length)(hl:r.regs.length<=32) :
  Calls Tryz.prog 140 #[rrV S r false V,.int .i64 (d:Int),Za6 S.C.ahead x] w (Ze1 B S (Zg1 S.C r (d:Int) x) false w):=by
 have HR:=Zh hR;obtain⟨c,hc⟩:∃ c,c=rrC S r false V:=⟨_,rfl⟩;rw [show rrV S r false V=.agg c by rw [hc]];have HC:=Zh hc;clear hc;simp only [Za6];by_cases hz:S.C.risc=true/\(d:Int)=0
 ·have HV:=Zh (show Zg1 S.C r (d:Int) x=r from if_pos hz);have ha:S.T.arch=2:=by have:=hrisc.symm.trans hz.1;simpa using this
  obtain⟨_,hz2⟩:=hz;have hd0:d=0:=ω;subst hd0;rw [HV.o];clear hR;go_enter Tryz.func140,Tryz.ntmps140;apply wp_seq_k;intro K hK;have HK:=Zh hK;clear hK
  go_wp2_with fail
  refine Zhf (P:=fun X=>K _ X) w _ _ _ _ _ _ ?_;intro W b0 b1 b2 hz hbW;refine HK.o _ _ ?_;rw [HC.o] at b0;have HU:Hid (Zb2 w W B w.heap.size (w.heap.size+1+1) S r false V):=Zh ⟨HR.o.below hbW,Zbf.of_below hbW HR.o.hB,HR.o.hB,b0,⟨_,b2,rfl⟩,Nat.le_refl _,ω,ω⟩;have HE:=Zh b1;have k0:W.cell? ⟨w.heap.size,0,none⟩=some (.int .i64 2):=by rw [<- ha];exact HU.o.blk.cell 0
  repeat (first | ((with_reducible refine Zfw ?_);refine Zcn Tryz.f140 3 6 16 rfl rfl rfl rfl rfl rfl rfl HU.o rfl rfl (by decide) (of_decide_eq_true rfl) rfl (fun _ _ h=>h)) | go_step)
 ·have HV:=Zh (show Zg1 S.C r (d:Int) x={ r with regs:=r.regs.set d x } by unfold Zg1;rw [if_neg hz];simp);rw [HV.o];have hor:(d:Int)≠0\/S.T.arch≠2:=by
   by_cases h0:(d:Int)=0
   ·exact Or.inr fun ha=>hz ⟨by rw [hrisc];simpa using ha,h0⟩
   ·exact Or.inl h0
  go_enter Tryz.func140,Tryz.ntmps140;apply wp_seq_k;intro K hK;have HK:=Zh hK;clear hK
  go_wp2_with fail
  refine Zhf (P:=fun X=>K _ X) w _ _ _ _ _ _ ?_;intro W b0 b1 b2 hz hbW;refine HK.o _ _ ?_;rw [HC.o] at b0;have HU:Hid (Zb2 w W B w.heap.size (w.heap.size+1+1) S r false V):=Zh ⟨HR.o.below hbW,Zbf.of_below hbW HR.o.hB,HR.o.hB,b0,⟨_,b2,rfl⟩,Nat.le_refl _,ω,ω⟩;have HE:=Zh b1;obtain⟨q0,cp,hvr,hqB⟩:=Zke HU.o.ref.rg (show 0<r.regs.length by omega);have hat:(Zdw S.C.ahead).At W (some ⟨q0,0,none⟩) r.regs:=by
   obtain⟨A,cap,e,hat,_⟩:=Enc.Own.at_ HU.o.ref.rg;rw [hvr] at e;simp only [Value.slice.injEq] at e;rw [e.1];exact hat
  have HAT:=Zh hat;have k0:=HU.o.blk.cm 0;have k13:W.cell? ⟨w.heap.size,13,none⟩=some (.slice (some ⟨q0,0,none⟩) r.regs.length cp):=by rw [<- hvr];exact HU.o.blk.cell 13
  have hi1:(0:Int)<=(d:Int):=ω;have hi2:(d:Int)<(r.regs.length:Int):=ω;by_cases ha:S.T.arch=2
  ·have hd1:¬ (d:Int)=0:=hor.resolve_right (fun h=>h ha);rw [ha] at k0
   go_wp2_with (at_builtin;refine Hid.o ?_)
   refine Zh ?_;refine Enc.appW (Z19 S.C.ahead) _ rfl (.tmp 17) (.tmp 19) rfl r.regs W.heap.size [] (.slice none 0 0) q0 0 cp rfl rfl HAT.o (Enc.Own.nil _ _ _) (by simp;omega) (by simp;omega) (Nat.le_refl _) ?_;intro v' w1 ho1 hg1;rw [List.nil_append] at ho1;obtain⟨q1,cp1,rfl,hq1⟩:=Zke ho1 (show 0<r.regs.length by omega);have HT:=Zh (Zkf ho1 hd);have HE1:=Zh (HE.o.go hg1.below);obtain⟨e0,e1,e2,e3⟩:=HE1.o.c4;have HO1:=Zh ho1;have HG1:=Zh hg1
   repeat (first | (refine wpList_store_mid rfl _ _ _ rfl q1 (d*4) #[.int .i64 (Za2 x.h),.int .i64 (Zcf S.C.ahead x.h),.string ⟨(Zce x.h).toArray⟩,.int .u64 ((x.on<<<S.C.ahead:Nat):Int)] rfl rfl HT.o κ (all_oneCell_toArray (cs:=(Zdw S.C.ahead).enc x) ((Zdw S.C.ahead).one x)) ?_;refine Hid.o ?_) | go_step)
   refine Zh ?_;have hw2:=Zam HG1.o.below hq1 [.int .i64 (Za2 x.h),.int .i64 (Zcf S.C.ahead x.h),.string ⟨(Zce x.h).toArray⟩,.int .u64 ((x.on<<<S.C.ahead:Nat):Int)] (d*4);have ho2:=Zjh HO1.o rfl hd x;have HU2:=Zh (HU.o.below hw2);have HU3:=Zh (HU2.o.regs (s:=⟨some ⟨q1,0,none⟩,r.regs.length,cp1⟩) (Zfb ho2 (Nat.le_trans HU.o.hB HU.o.keep.size)));generalize hW2:(World.setCells _ _ _ _:World)=W2 at *;have k13:W2.cell? ⟨w.heap.size,13,none⟩=some V.rg.v:=HU2.o.blk.cell 13;have f13:=HU2.o.blk.frozen 13
   repeat (first | ((with_reducible refine Zfw ?_);refine Zcn Tryz.f140 3 6 27 rfl rfl rfl rfl rfl rfl rfl HU3.o rfl rfl (by decide) (of_decide_eq_true rfl) rfl (fun _ _ h=>h)) | go_step)
  ·go_wp2_with (at_builtin;refine Hid.o ?_)
   refine Zh ?_;refine Enc.appW (Z19 S.C.ahead) _ rfl (.tmp 17) (.tmp 19) rfl r.regs W.heap.size [] (.slice none 0 0) q0 0 cp rfl rfl HAT.o (Enc.Own.nil _ _ _) (by simp;omega) (by simp;omega) (Nat.le_refl _) ?_;intro v' w1 ho1 hg1;rw [List.nil_append] at ho1;obtain⟨q1,cp1,rfl,hq1⟩:=Zke ho1 (show 0<r.regs.length by omega);have HT:=Zh (Zkf ho1 hd);have HE1:=Zh (HE.o.go hg1.below);obtain⟨e0,e1,e2,e3⟩:=HE1.o.c4;have HO1:=Zh ho1;have HG1:=Zh hg1;clear ho1 hg1 k0 k13
   repeat (first | (refine wpList_store_mid rfl _ _ _ rfl q1 (d*4) #[.int .i64 (Za2 x.h),.int .i64 (Zcf S.C.ahead x.h),.string ⟨(Zce x.h).toArray⟩,.int .u64 ((x.on<<<S.C.ahead:Nat):Int)] rfl rfl HT.o κ (all_oneCell_toArray (cs:=(Zdw S.C.ahead).enc x) ((Zdw S.C.ahead).one x)) ?_;refine Hid.o ?_) | go_step)
   refine Zh ?_;have hw2:=Zam HG1.o.below hq1 [.int .i64 (Za2 x.h),.int .i64 (Zcf S.C.ahead x.h),.string ⟨(Zce x.h).toArray⟩,.int .u64 ((x.on<<<S.C.ahead:Nat):Int)] (d*4);have ho2:=Zjh HO1.o rfl hd x;have HU2:=Zh (HU.o.below hw2);have HU3:=Zh (HU2.o.regs (s:=⟨some ⟨q1,0,none⟩,r.regs.length,cp1⟩) (Zfb ho2 (Nat.le_trans HU.o.hB HU.o.keep.size)));generalize hW2:(World.setCells _ _ _ _:World)=W2 at *;clear hW2 hw2 ho2 HO1 HG1 HT HE1 e0 e1 e2 e3 HU;have k13:W2.cell? ⟨w.heap.size,13,none⟩=some V.rg.v:=HU2.o.blk.cell 13;have f13:=HU2.o.blk.frozen 13
   repeat (first | ((with_reducible refine Zfw ?_);refine Zcn Tryz.f140 3 6 27 rfl rfl rfl rfl rfl rfl rfl HU3.o rfl rfl (by decide) (of_decide_eq_true rfl) rfl (fun _ _ h=>h)) | go_step)
def atK (C:Cx):Zeb->Int
 | .adr s=>((C.locs.idxOf s:Nat):Int)
 | _=>-1
theorem atR (B:Nat)(S:RrS)(r:Rn)(V:RrV)(a:Nat)(xa:Rg)(w:World)(hR:Zba w B S r V)(hxa:r.regs[a]?=some xa)(few:S.C.locs.length<=64)(hadr:∀ s,xa.h=.adr s->s∈S.C.locs) :
  Calls Tryz.prog 141 #[rrV S r false V,.int .i64 (a:Int)] w (RB w (.int .i64 (atK S.C xa.h))):=by
 have HR:=Zh hR;have hal:=(List.getElem?_eq_some_iff.1 hxa).1;obtain⟨h,oa⟩:=xa;obtain⟨c,hc⟩:∃ c,c=rrC S r false V:=⟨_,rfl⟩;rw [show rrV S r false V=.agg c by rw [hc]];have HC:=Zh hc;clear hc;clear hR;cases h with
 | num n=>
  go_enter Tryz.func141,Tryz.ntmps141;apply wp_seq_k;intro K hK;have HK:=Zh hK;clear hK
  go_wp2_with fail
  refine Z65 (P:=fun X=>K _ X) w _ _ ?_;intro W b0 hz hbW;refine HK.o _ _ ?_;clear HK K;rw [HC.o] at b0;have HG:=Zh b0;have HBW:=Zh hbW;have hzW:w.heap.size<W.heap.size:=ω;clear b0 hbW hz HC;obtain⟨q0,cp,hvr,hat⟩:=(HR.o.below HBW.o).rgAt (show 0<r.regs.length by omega);have k13:W.cell? ⟨w.heap.size,13,none⟩=some (.slice (some ⟨q0,0,none⟩) r.regs.length cp):=by rw [<- hvr];exact HG.o.cell 13
  obtain⟨p,o,e,hc⟩:=hat a _ hxa;simp only [Option.some.injEq,Addr.mk.injEq,and_true] at e;obtain⟨rfl,rfl⟩:=e;have c0:W.cell? ⟨q0,a*4,none⟩=some (.int .i64 1):=by have:=hc 0 _ rfl;rwa [Nat.zero_add] at this
  have c2:W.cell? ⟨q0,a*4+2,none⟩=some (.string ⟨#[]⟩):=by have:=hc 2 _ rfl;rwa [Nat.zero_add] at this
  have hi1:(0:Int)<=(a:Int):=ω;have hi2:(a:Int)<(r.regs.length:Int):=ω;clear hvr hat hc;clear c2 hadr hxa
  go_wp2_with fail
  go_ret;exact⟨rfl,HBW.o⟩
 | rd n=>
  go_enter Tryz.func141,Tryz.ntmps141;apply wp_seq_k;intro K hK;have HK:=Zh hK;clear hK
  go_wp2_with fail
  refine Z65 (P:=fun X=>K _ X) w _ _ ?_;intro W b0 hz hbW;refine HK.o _ _ ?_;rw [HC.o] at b0;have HG:=Zh b0;have HBW:=Zh hbW;obtain⟨q0,cp,hvr,hat⟩:=(HR.o.below HBW.o).rgAt (show 0<r.regs.length by omega);have k13:W.cell? ⟨w.heap.size,13,none⟩=some (.slice (some ⟨q0,0,none⟩) r.regs.length cp):=by rw [<- hvr];exact HG.o.cell 13
  obtain⟨p,o,e,hc⟩:=hat a _ hxa;simp only [Option.some.injEq,Addr.mk.injEq,and_true] at e;obtain⟨rfl,rfl⟩:=e;have c0:W.cell? ⟨q0,a*4,none⟩=some (.int .i64 3):=by have:=hc 0 _ rfl;rwa [Nat.zero_add] at this
  have c2:W.cell? ⟨q0,a*4+2,none⟩=some (.string ⟨#[]⟩):=by have:=hc 2 _ rfl;rwa [Nat.zero_add] at this
  have hi1:(0:Int)<=(a:Int):=ω;have hi2:(a:Int)<(r.regs.length:Int):=ω;clear hvr hat hc;clear c2 hadr hxa
  go_wp2_with fail
  go_ret;exact⟨rfl,HBW.o⟩
 | non=>
  go_enter Tryz.func141,Tryz.ntmps141;apply wp_seq_k;intro K hK;have HK:=Zh hK;clear hK
  go_wp2_with fail
  refine Z65 (P:=fun X=>K _ X) w _ _ ?_;intro W b0 hz hbW;refine HK.o _ _ ?_;clear HK K;rw [HC.o] at b0;have HG:=Zh b0;have HBW:=Zh hbW;obtain⟨q0,cp,hvr,hat⟩:=(HR.o.below HBW.o).rgAt (show 0<r.regs.length by omega);have k13:W.cell? ⟨w.heap.size,13,none⟩=some (.slice (some ⟨q0,0,none⟩) r.regs.length cp):=by rw [<- hvr];exact HG.o.cell 13
  obtain⟨p,o,e,hc⟩:=hat a _ hxa;simp only [Option.some.injEq,Addr.mk.injEq,and_true] at e;obtain⟨rfl,rfl⟩:=e;have c0:W.cell? ⟨q0,a*4,none⟩=some (.int .i64 4):=by have:=hc 0 _ rfl;rwa [Nat.zero_add] at this
  have c2:W.cell? ⟨q0,a*4+2,none⟩=some (.string ⟨#[]⟩):=by have:=hc 2 _ rfl;rwa [Nat.zero_add] at this
  clear c2 hadr hxa
  go_wp2_with fail
  go_ret;exact⟨rfl,HBW.o⟩
 | adr s=>
  have hm:=hadr s rfl;go_enter Tryz.func141,Tryz.ntmps141;apply wp_seq_k;intro K hK;have HK:=Zh hK;clear hK
  go_wp2_with fail
  refine Z65 (P:=fun X=>K _ X) w _ _ ?_;intro W b0 hz hbW;refine HK.o _ _ ?_;clear HK K;rw [HC.o] at b0;have HG:=Zh b0;have HBW:=Zh hbW;have hzW:w.heap.size<W.heap.size:=ω;clear b0 hbW hz HC;obtain⟨q0,cp,hvr,hat⟩:=(HR.o.below HBW.o).rgAt (show 0<r.regs.length by omega);have k13:W.cell? ⟨w.heap.size,13,none⟩=some (.slice (some ⟨q0,0,none⟩) r.regs.length cp):=by rw [<- hvr];exact HG.o.cell 13
  obtain⟨p,o,e,hc⟩:=hat a _ hxa;simp only [Option.some.injEq,Addr.mk.injEq,and_true] at e;obtain⟨rfl,rfl⟩:=e;have c0:W.cell? ⟨q0,a*4,none⟩=some (.int .i64 2):=by have:=hc 0 _ rfl;rwa [Nat.zero_add] at this
  have c2:W.cell? ⟨q0,a*4+2,none⟩=some (.string ⟨s.toArray⟩):=by have:=hc 2 _ rfl;rwa [Nat.zero_add] at this
  have hi1:(0:Int)<=(a:Int):=ω;have hi2:(a:Int)<(r.regs.length:Int):=ω;clear hvr hat hc
  go_wp2_with fail
  have hlo:=(HR.o.below HBW.o).loAt;refine wz (fun y:World=>Blk y w.heap.size 137 (rrC S r false V)/\y.cell? ⟨w.heap.size,13,none⟩=some (.slice (some ⟨q0,0,none⟩) r.regs.length cp)/\y.cell? ⟨q0,a*4+2,none⟩=some (.string ⟨s.toArray⟩)) [1,3,5,6,7] ⟨HG.o.drew,k13,c2⟩ (fun hHeld=>?_);refine wq 0 ?_;refine wq 2 ?_;refine wq 4 ?_;refine wv 1 ((Zv3 S V)) rfl (fun x' hS=>Zay rfl rfl (Zkj hS.1)) (by assumption) ?_;refine wt 3 (by assumption) ?_;refine wt 5 (by assumption) ?_;refine wt 6 (by assumption) ?_;refine wt 7 (by assumption) ?_;refine wl 8 ?_
  go_wp2_with (go_at_call 50;refine (Zlv ⟨S.lo,S.ini,V.ev,V.br,V.ad,V.da,V.ct,S.th,S.en⟩ S.C.locs s _ (hlo.1.below (Below.refl _ _).drew) hlo.2 few hm).mono ?_;rintro e wp ⟨rfl,hbp⟩)
  go_ret;exact⟨rfl,Zab HBW.o (Zas hbp)⟩
end
section
theorem Zsf {r:Rn}{i:Nat}:Zi4 r 0 i=r:=by
 unfold Zi4;rw [Zql,List.append_nil]
 split <;> rfl
set_option maxHeartbeats 4000000
set_option maxRecDepth 100000
theorem Ze0 (B:Nat)(S:RrS)(r:Rn)(V:RrV)(pl lc:Int)(x:Rg)(on:Int)(w:World)(hR:Zba w B S r V)(h:lc<0\/(0<=lc/\Zow x.h=false)) :
  Calls Tryz.prog 138 #[rrV S r false V,.int .i64 pl,.int .i64 lc,Za6 S.C.ahead x,.int .u64 on] w (Ze1 B S r true w):=by
 have HR:=Zh hR;obtain⟨c,hc⟩:∃ c,c=rrC S r false V:=⟨_,rfl⟩;rw [show rrV S r false V=.agg c by rw [hc]];have HC:=Zh hc;clear hc;simp only [Za6];clear hR;rcases h with h | ⟨h,hk⟩
 ·go_enter Tryz.func138,Tryz.ntmps138;apply wp_seq_k;intro K hK;have HK:=Zh hK;clear hK
  go_wp2_with fail
  refine Zhf (P:=fun X=>K _ X) w _ _ _ _ _ _ ?_;intro W b0 b1 b2 hz hbW;refine HK.o _ _ ?_;rw [HC.o] at b0;have HU:Hid (Zb2 w W B w.heap.size (w.heap.size+1+1) S r false V):=Zh ⟨HR.o.below hbW,Zbf.of_below hbW HR.o.hB,HR.o.hB,b0,⟨_,b2,rfl⟩,Nat.le_refl _,ω,ω⟩;have HE:=Zh b1;clear b0 b1 b2 hbW hz HC;have f24:=HU.o.blk.frozen 24;have k24:=HU.o.blk.cm 24;have HV:=Zh HU.o.flow
  repeat (first | ((with_reducible refine Zfw ?_);refine Zcn Tryz.f138 5 10 19 rfl rfl rfl rfl rfl rfl rfl HV.o rfl rfl (by decide) (of_decide_eq_true rfl) rfl (fun _ _ h=>h)) | go_step)
 ·have hk1:=Zmt hk;have hk2:¬ Za2 x.h=1:=hk1;have hk3:(Za2 x.h != 1)=true:=by simpa using hk1
  go_enter Tryz.func138,Tryz.ntmps138;apply wp_seq_k;intro K hK;have HK:=Zh hK;clear hK
  go_wp2_with fail
  refine Zhf (P:=fun X=>K _ X) w _ _ _ _ _ _ ?_;intro W b0 b1 b2 hz hbW;refine HK.o _ _ ?_;rw [HC.o] at b0;have HU:Hid (Zb2 w W B w.heap.size (w.heap.size+1+1) S r false V):=Zh ⟨HR.o.below hbW,Zbf.of_below hbW HR.o.hB,HR.o.hB,b0,⟨_,b2,rfl⟩,Nat.le_refl _,ω,ω⟩;have HE:=Zh b1;clear b0 b1 b2 hbW hz HC;have f24:=HU.o.blk.frozen 24;have k24:=HU.o.blk.cm 24;have e0:=HE.o.cm 0;have HV:=Zh HU.o.flow
  repeat (first | ((with_reducible refine Zfw ?_);refine Zcn Tryz.f138 5 10 19 rfl rfl rfl rfl rfl rfl rfl HV.o rfl rfl (by decide) (of_decide_eq_true rfl) rfl (fun _ _ h=>h)) | go_step)
theorem Zxb (B:Nat)(S:RrS)(hS:Zen S)(r:Rn)(V:RrV)(nr k:Nat)(hI:Inv S.C nr k r)(hfl:r.full=false)(pl:Nat)(loc:Nm)(n:Int)(xo on:Nat)(w:World)(hR:Zba w B S r V)(hon:Rds r.evs on)(hxo:Rds r.evs xo) :
  Calls Tryz.prog 138 #[rrV S r false V,.int .i64 (pl:Int),.int .i64 ((S.C.locs.idxOf loc:Nat):Int),Za6 S.C.ahead ⟨.num n,xo⟩,.int .u64 ((on<<<S.C.ahead:Nat):Int)] w
   (Ze1 B S (Zi4 (Zi5 S.C r pl 2 loc n 0 on) xo r.evs.length) false w):=by
 have HR:=Zh hR;have HEV:=Zh (fun V w h=>Z0i B S hS r V nr k hI hfl pl 2 _ n 0 loc on xo rfl hon hxo w h);obtain⟨c,hc⟩:∃ c,c=rrC S r false V:=⟨_,rfl⟩;rw [show rrV S r false V=.agg c by rw [hc]];have HC:=Zh hc;clear hc;simp only [Za6,Za2,Zcf,Zce];go_enter Tryz.func138,Tryz.ntmps138;apply wp_seq_k;intro K hK;have HK:=Zh hK;clear hK
 go_wp2_with fail
 refine Zhf (P:=fun X=>K _ X) w _ _ _ _ _ _ ?_;intro W b0 b1 b2 hz hbW;refine HK.o _ _ ?_;rw [HC.o] at b0;have HU:Hid (Zb2 w W B w.heap.size (w.heap.size+1+1) S r false V):=Zh ⟨HR.o.below hbW,Zbf.of_below hbW HR.o.hB,HR.o.hB,b0,⟨_,b2,rfl⟩,Nat.le_refl _,ω,ω⟩;have HE:=Zh b1;have e0:=HE.o.k0;have e1:=HE.o.k1;have e3:=HE.o.k3
 repeat (first | ((with_reducible refine Zat ?_);refine Zaz 137 5 w.heap.size rfl rfl HU.o.blk Tryz.underlying137 rfl κ rfl ?_) | (go_at_call 197;refine Hid.o ?_) | go_step)
 refine Zh ?_;refine (HEV.o V W HU.o.ref).mono ?_;rintro e w1 ⟨V1,rfl,hr1,hk1⟩;obtain⟨z,hz,hzs⟩:=HU.o.out1 hk1;dsimp only
 repeat (first | ((with_reducible refine Zat ?_);refine Zar 137 10 29 (w.heap.size+1+1) rfl rfl rfl hz (by exact hzs) κ (Zbk _ _ _ _) rfl rfl ?_) | go_step)
 refine Zbv 137 10 (w.heap.size+1+1) rfl (hz.row _) Tryz.underlying137 rfl κ rfl rfl ?_;exact HU.o.ret1 hr1 hk1
theorem Z0u (B:Nat)(S:RrS)(hS:Zen S)(hrisc:S.C.risc=decide (S.T.arch=2))(r:Rn)(V:RrV)(nr k:Nat)(hI:Inv S.C nr k r)(hnr:nr<=32)(hfl:r.full=false)(pl:Nat)(loc:Nm)(d:Nat)(hd:d<nr)(on:Nat)(w:World)(hR:Zba w B S r V)(hon:Rds r.evs on) :
  Calls Tryz.prog 139 #[rrV S r false V,.int .i64 (pl:Int),.int .i64 ((S.C.locs.idxOf loc:Nat):Int),.int .i64 (d:Int),.int .u64 ((on<<<S.C.ahead:Nat):Int)] w
   (Ze1 B S (Zfd S.C r pl loc on (d:Int)) false w):=by
 have HR:=Zh hR;obtain⟨n,hn⟩:∃ n,S.C.ahead+r.evs.length=n:=⟨_,rfl⟩;have hen:V.ev.n=n:=by rw [Zv7 hR.ev,List.length_append,<- hS.ahead,hn]
 have HEV:=Zh (fun V w h=>Z0i B S hS r V nr k hI hfl pl 1 _ 0 (d:Int) loc on 0 rfl hon (Rds.zero _) w h);rw [Zsf,Nat.zero_shiftLeft] at HEV;have hI1:=hI.evt (pl:=pl) (dr:=1) (loc:=loc) (vl:=0) (rg:=(d:Int)) hon;have HRD:=Zh (show Zfd S.C r pl loc on (d:Int)=if (Zi5 S.C r pl 1 loc 0 (d:Int) on).full then Zi5 S.C r pl 1 loc 0 (d:Int) on else Zg1 S.C (Zi5 S.C r pl 1 loc 0 (d:Int) on) (d:Int) ⟨.rd r.evs.length,2 ^ r.evs.length⟩ from rfl);have hni:(Zi5 S.C r pl 1 loc 0 (d:Int) on).full=false->n<64:=fun hf=>by
  by_cases hr:64<=S.C.ahead+r.evs.length
  ·rw [Zc7 hr] at hf;cases hf
  ·omega
 have hrl:=hI1.rlen;generalize Zi5 S.C r pl 1 loc 0 (d:Int) on=r1 at *;have hpw:=Z25 r.evs.length S.C.ahead;rw [hn] at hpw;have HP:=Zh (fun V w h=>Z36 B S hrisc r1 V d ⟨.rd r.evs.length,2 ^ r.evs.length⟩ w h (by rw [hrl];exact hd) (by rw [hrl];exact hnr));simp only [Za6,Za2,Zcf,Zce,hn,hpw] at HP;obtain⟨c,hc⟩:∃ c,c=rrC S r false V:=⟨_,rfl⟩;rw [show rrV S r false V=.agg c by rw [hc]];have HC:=Zh hc;clear hc;clear hR hS hI hfl hon hI1 hrl hpw hn;cases hff:r1.full with
 | true=>
  rw [HRD.o,if_pos hff];go_enter Tryz.func139,Tryz.ntmps139;apply wp_seq_k;intro K hK;have HK:=Zh hK;clear hK
  go_wp2_with fail
  refine Z31 (P:=fun X=>K _ X) w _ _ _ _ ?_;intro W b0 b2 hz hbW;refine HK.o _ _ ?_;rw [HC.o] at b0;have HU:Hid (Zb2 w W B w.heap.size (w.heap.size+1) S r false V):=Zh ⟨HR.o.below hbW,Zbf.of_below hbW HR.o.hB,HR.o.hB,b0,⟨_,b2,rfl⟩,Nat.le_refl _,ω,ω⟩;clear b0 b2 hbW hz HC;have k17:W.cell? ⟨w.heap.size,17,none⟩=some (.slice V.ev.A n V.ev.c):=by rw [<- hen];exact HU.o.blk.cell 17
  repeat (first | ((with_reducible refine Zat ?_);refine Zaz 137 5 w.heap.size rfl rfl HU.o.blk Tryz.underlying137 rfl κ rfl ?_) | (go_at_call 197;refine Hid.o ?_) | go_step)
  refine Zh ?_;refine (HEV.o V W HU.o.ref).mono ?_;rintro e w1 ⟨V1,rfl,hr1,hk1⟩;have hb1:=hk1.keep _ _ _ HU.o.blk (by decide) (by decide) (by decide);have HU2:=Zh (HU.o.row (fl':=false) hr1 hk1);have HU:=HU2;have k25:=HU.o.blk.cm 25;dsimp only;rw [hff] at k25
  repeat (first | ((with_reducible refine Zat ?_);refine Zar 137 5 22 w.heap.size rfl rfl rfl hb1 (by exact rfl) κ (Zbk _ _ _ _) rfl rfl ?_) | ((with_reducible refine Zfw ?_);refine Zcn Tryz.f139 5 10 25 rfl rfl rfl rfl rfl rfl rfl HU.o rfl rfl (by decide) (of_decide_eq_true rfl) rfl (fun _ _ h=>h)) | go_step)
 | false=>
  have hn64:=hni hff;rw [HRD.o,if_neg (by rw [hff];decide)];go_enter Tryz.func139,Tryz.ntmps139;apply wp_seq_k;intro K hK;have HK:=Zh hK;clear hK
  go_wp2_with fail
  refine Z31 (P:=fun X=>K _ X) w _ _ _ _ ?_;intro W b0 b2 hz hbW;refine HK.o _ _ ?_;clear HK K;rw [HC.o] at b0;have HU:Hid (Zb2 w W B w.heap.size (w.heap.size+1) S r false V):=Zh ⟨HR.o.below hbW,Zbf.of_below hbW HR.o.hB,HR.o.hB,b0,⟨_,b2,rfl⟩,Nat.le_refl _,ω,ω⟩;have hzW:w.heap.size<W.heap.size:=ω;clear b0 b2 hbW hz HC;have k17:W.cell? ⟨w.heap.size,17,none⟩=some (.slice V.ev.A n V.ev.c):=by rw [<- hen];exact HU.o.blk.cell 17
  repeat (first | ((with_reducible refine Zat ?_);refine Zaz 137 5 w.heap.size rfl rfl HU.o.blk Tryz.underlying137 rfl κ rfl ?_) | (go_at_call 197;refine Hid.o ?_) | go_step)
  refine Zh ?_;refine (HEV.o V W HU.o.ref).mono ?_;rintro e w1 ⟨V1,rfl,hr1,hk1⟩;have hb1:=hk1.keep _ _ _ HU.o.blk (by decide) (by decide) (by decide);have HU2:=Zh (HU.o.row (fl':=false) hr1 hk1);have HU:=HU2;have k25:=HU.o.blk.cm 25;dsimp only;rw [hff] at k25;have hsh:=Zh (show IntKind.u64.wrap ((2:Int) ^ n)=((2 ^ n:Nat):Int) by have:=Zwl hn64;rwa [Int.one_mul] at this)
  repeat (first | ((with_reducible refine Zat ?_);refine Zar 137 5 22 w.heap.size rfl rfl rfl hb1 (by exact rfl) κ (Zbk _ _ _ _) rfl rfl ?_) | ((with_reducible refine Zat ?_);refine Zaz 137 5 w.heap.size rfl rfl HU.o.blk Tryz.underlying137 rfl κ rfl ?_) | (go_at_call 140;refine Hid.o ?_) | go_step)
  refine Zh ?_;rw [hsh.out];refine (HP.o _ _ HU.o.ref).mono ?_;rintro e w2 ⟨V2,rfl,hr2,hk2⟩;obtain⟨z,hz,hzs⟩:=HU.o.out1 hk2;dsimp only
  repeat (first | ((with_reducible refine Zat ?_);refine Zar 137 10 33 (w.heap.size+1) rfl rfl rfl hz (by exact hzs) κ (Zbk _ _ _ _) rfl rfl ?_) | go_step)
  refine Zbv 137 10 (w.heap.size+1) rfl (hz.row _) Tryz.underlying137 rfl κ rfl rfl ?_;exact HU.o.ret1 hr2 hk2
end
section
def Zbr (B:Nat)(S:RrS)(o:Option Rn)(w:World)(e:Ending)(w':World):Prop:=∃ r1 fl V,e=.returned (rrV S r1 fl V)/\Zba w' B S r1 V/\Zbf B w w'/\((fl=false/\o=some r1)\/(fl=true/\o=none/\r1.full=false))
theorem Zbr.of {B:Nat}{S:RrS}{o:Option Rn}{w w':World}{e:Ending}{r1:Rn}{fl:Bool}(h:Ze1 B S r1 fl w e w')(hg:(fl=false/\o=some r1)\/(fl=true/\o=none/\r1.full=false)):Zbr B S o w e w':=by
 obtain⟨V,h1,h2,h3⟩:=h;exact⟨r1,fl,V,h1,h2,h3,hg⟩
theorem Ze1.st {B:Nat}{S:RrS}{o:Option Rn}{w w':World}{e:Ending}{r1:Rn}(h:Ze1 B S r1 false w e w')(ho:o=some r1):Zbr B S o w e w':=Zbr.of h (Or.inl ⟨rfl,ho⟩)
theorem Ze1.no {B:Nat}{S:RrS}{o:Option Rn}{w w':World}{e:Ending}{r1:Rn}(h:Ze1 B S r1 true w e w')(ho:o=none)(hf:r1.full=false):Zbr B S o w e w':=Zbr.of h (Or.inr ⟨rfl,ho,hf⟩)
theorem Ztv (w:World)(a b c:Int):Zoe.At (w.alloc (.cells #[.int .i64 a,.int .i64 b,.int .i64 c] 169 (0,0))) (some ⟨w.heap.size,0,none⟩) [⟨a,b,c⟩]:=by
 have hB:=Blk.new w 169 #[.int .i64 a,.int .i64 b,.int .i64 c];intro i x hx;refine⟨w.heap.size,0,rfl,fun j u hj=>?_⟩
 match i,hx with
 | 0,hx=>
  simp at hx;subst hx;rw [show 0+0*Zoe.size+j=j by omega,hB.cell];rw [<- hj];simp
set_option maxHeartbeats 4000000
set_option maxRecDepth 100000
theorem Zpt (B:Nat)(S:RrS)(hS:Zen S)(r:Rn)(V:RrV)(nr k:Nat)(hI:Inv S.C nr k r)(hfl:r.full=false)(pl:Nat)(loc:Nm)(x:Rg)(hx:Zid S.C r.evs x)(on:Nat)(w:World)(hR:Zba w B S r V)(hon:Rds r.evs on) :
  Calls Tryz.prog 138 #[rrV S r false V,.int .i64 (pl:Int),.int .i64 ((S.C.locs.idxOf loc:Nat):Int),Za6 S.C.ahead x,.int .u64 ((on<<<S.C.ahead:Nat):Int)] w (Zbr B S (Zcz S.C r pl loc on x) w):=by
 obtain⟨h,xo⟩:=x;cases h with
 | num n=>exact (Zxb B S hS r V nr k hI hfl pl loc n xo on w hR hon hx.2).mono fun e w' p=>p.st rfl
 | adr s=>exact (Ze0 B S r V pl _ ⟨.adr s,xo⟩ _ w hR (Or.inr ⟨ω,rfl⟩)).mono fun e w' p=>p.no rfl hfl
 | rd i=>exact (Ze0 B S r V pl _ ⟨.rd i,xo⟩ _ w hR (Or.inr ⟨ω,rfl⟩)).mono fun e w' p=>p.no rfl hfl
 | non=>exact (Ze0 B S r V pl _ ⟨.non,xo⟩ _ w hR (Or.inr ⟨ω,rfl⟩)).mono fun e w' p=>p.no rfl hfl
theorem Z3f (B:Nat)(S:RrS)(hS:Zen S)(_hrisc:S.C.risc=decide (S.T.arch=2))(r:Rn)(V:RrV)(nr k:Nat)(hI:Inv S.C nr k r)(_hnr:nr<=32)(hfl:r.full=false)(pl:Nat)(d a b:Nat)(_hd:d<nr)(xa xb:Rg)(hxa:r.regs[a]?=some xa)(hxb:r.regs[b]?=some xb)(imm:Int)(loc label:List UInt8)(fence:Int)(w:World)(hR:Zba w B S r V)(hloc:loc∈S.C.locs):Calls Tryz.prog 92 #[rrV S r false V,.int .i64 (pl:Int),.agg #[.int .i64 1,.int .i64 (d:Int),.int .i64 (a:Int),.int .i64 (b:Int),.int .i64 imm,.string ⟨loc.toArray⟩,.string ⟨label.toArray⟩,.int .i64 fence]] w (Zbr B S (Zcz S.C r pl loc 0 ⟨.num imm,0⟩) w):=by
 have HW:=Zh (fun V w h=>(Zxb B S hS r V nr k hI hfl pl loc imm 0 0 w h (Rds.zero _) (Rds.zero _)).mono fun e w' p=>(p.st rfl:Zbr B S (Zcz S.C r pl loc 0 ⟨.num imm,0⟩) w e w'));simp only [Za6,Za2,Zcf,Zce,Nat.zero_shiftLeft] at HW;have HR:=Zh hR;have hal:=(List.getElem?_eq_some_iff.1 hxa).1;have hbl:=(List.getElem?_eq_some_iff.1 hxb).1;obtain⟨c,hc⟩:∃ c,c=rrC S r false V:=⟨_,rfl⟩;rw [show rrV S r false V=.agg c by rw [hc]];have HC:=Zh hc;clear hc;go_enter Tryz.func92,Tryz.ntmps92;apply wp_seq_k;intro K hK;have HK:=Zh hK;clear hK
 go_wp2_with fail
 refine Zhf (P:=fun X=>K _ X) w _ _ _ _ _ _ ?_;intro W b0 b1 b2 hz hbW;refine HK.o _ _ ?_;clear HK K;rw [HC.o] at b0;have HU:Hid (Zb2 w W B w.heap.size (w.heap.size+1+1) S r false V):=Zh ⟨HR.o.below hbW,Zbf.of_below hbW HR.o.hB,HR.o.hB,b0,⟨_,b2,rfl⟩,Nat.le_refl _,ω,ω⟩;have HE:=Zh b1;have hzW:w.heap.size<W.heap.size:=ω;clear b0 b1 b2 hbW hz HC;obtain⟨q0,cp,hvr,hat⟩:=HU.o.ref.rgAt (show 0<r.regs.length by omega);have k13:W.cell? ⟨w.heap.size,13,none⟩=some (.slice (some ⟨q0,0,none⟩) r.regs.length cp):=by rw [<- hvr];exact HU.o.blk.cell 13
 have e0:=HE.o.k0;have e1:=HE.o.k1;have e2:=HE.o.k2;have e3:=HE.o.k3;have e4:=HE.o.k4;have e5:=HE.o.k5;have c3:W.cell? ⟨q0,a*4+3,none⟩=some (.int .u64 ((xa.on<<<S.C.ahead:Nat):Int)):=by
  obtain⟨p,o,e,hc⟩:=hat a xa hxa;simp only [Option.some.injEq,Addr.mk.injEq,and_true] at e;obtain⟨rfl,rfl⟩:=e;have:=hc 3 _ rfl
  rwa [Nat.zero_add] at this
 have HSS:=Zh (show ∀ y,Below W.heap.size W y->(fun y:World=>Zb2 w y B w.heap.size (w.heap.size+1+1) S r false V/\(Zdw S.C.ahead).At y (some ⟨q0,0,none⟩) r.regs/\y.cell? ⟨w.heap.size,13,none⟩=some (.slice (some ⟨q0,0,none⟩) r.regs.length cp)/\y.cell? ⟨w.heap.size+1,0,none⟩=some (.int .i64 1)/\y.cell? ⟨w.heap.size+1,1,none⟩=some (.int .i64 (d:Int))/\y.cell? ⟨w.heap.size+1,2,none⟩=some (.int .i64 (a:Int))/\y.cell? ⟨w.heap.size+1,3,none⟩=some (.int .i64 (b:Int))/\y.cell? ⟨w.heap.size+1,4,none⟩=some (.int .i64 imm)/\y.cell? ⟨w.heap.size+1,5,none⟩=some (.string ⟨loc.toArray⟩)/\y.cell? ⟨q0,a*4+3,none⟩=some (.int .u64 ((xa.on<<<S.C.ahead:Nat):Int))) y from fun y hb=>⟨HU.o.below hb,hat.below hb,Zac k13 hb,Zac e0 hb,Zac e1 hb,Zac e2 hb,Zac e3 hb,Zac e4 hb,Zac e5 hb,Zac c3 hb⟩);have hi1:(0:Int)<=(a:Int):=ω;have hi2:(a:Int)<(r.regs.length:Int):=ω;have hi3:(0:Int)<=(b:Int):=ω;have hi4:(b:Int)<(r.regs.length:Int):=ω;clear hat hvr HR hR
 go_wp2_with fail
 refine wz (fun y:World=>Zb2 w y B w.heap.size (w.heap.size+1+1) S r false V/\(Zdw S.C.ahead).At y (some ⟨q0,0,none⟩) r.regs/\y.cell? ⟨w.heap.size,13,none⟩=some (.slice (some ⟨q0,0,none⟩) r.regs.length cp)/\y.cell? ⟨w.heap.size+1,0,none⟩=some (.int .i64 1)/\y.cell? ⟨w.heap.size+1,1,none⟩=some (.int .i64 (d:Int))/\y.cell? ⟨w.heap.size+1,2,none⟩=some (.int .i64 (a:Int))/\y.cell? ⟨w.heap.size+1,3,none⟩=some (.int .i64 (b:Int))/\y.cell? ⟨w.heap.size+1,4,none⟩=some (.int .i64 imm)/\y.cell? ⟨w.heap.size+1,5,none⟩=some (.string ⟨loc.toArray⟩)/\y.cell? ⟨q0,a*4+3,none⟩=some (.int .u64 ((xa.on<<<S.C.ahead:Nat):Int))) [0,3,5,6,8,9] (HSS.o _ (Below.refl _ _).drew) (fun hHeld=>?_);refine wq 1 ?_;refine wq 2 ?_;refine wq 4 ?_;refine wq 7 ?_;refine wv 0 ((rrV S r false V)) rfl (fun x' hS=>Zay rfl rfl (Zeu hS.1.blk)) (by assumption) ?_;refine wv 3 ((Zv3 S V)) rfl (fun x' hS=>Zay rfl rfl (Zkj hS.1.blk)) (by assumption) ?_;refine wt 5 (by assumption) ?_;refine wt 8 (by assumption) ?_;refine wt 9 (by assumption) ?_;refine Zan (i:=6) κ rfl (fun K hK=>?_);go_simp
 go_at_call 50
 refine (Zlv ⟨S.lo,S.ini,V.ev,V.br,V.ad,V.da,V.ct,S.th,S.en⟩ S.C.locs loc _ (hHeld.1.ref.loAt).1 (hHeld.1.ref.loAt).2 hS.few hloc).mono ?_;rintro e wp ⟨rfl,hbp⟩;have hS2:=HSS.o wp (Zas hbp);refine hK.out _ _ hS2 ?_;clear hK K;refine pu ?_;refine wl 10 ?_
 repeat (first | (go_at_call 138;refine Hid.o ?_) | go_step)
 refine Zh ?_;refine (HW.o V wp hS2.1.ref).mono ?_;rintro e w1 ⟨r1,fl1,V1,rfl,hr1,hk1,hg1⟩;dsimp only;obtain⟨z,hz,hzs⟩:=hS2.1.out1 hk1
 repeat (first | ((with_reducible refine Zat ?_);refine Zar 137 6 21 (w.heap.size+1+1) rfl rfl rfl hz (by exact hzs) κ (Zbk _ _ _ _) rfl rfl ?_) | go_step)
 refine Zbv 137 6 (w.heap.size+1+1) rfl (hz.row _) Tryz.underlying137 rfl κ rfl rfl ?_;exact Zbr.of (hS2.1.ret1 hr1 hk1) hg1
theorem Z3g (B:Nat)(S:RrS)(hS:Zen S)(_hrisc:S.C.risc=decide (S.T.arch=2))(r:Rn)(V:RrV)(nr k:Nat)(hI:Inv S.C nr k r)(_hnr:nr<=32)(hfl:r.full=false)(pl:Nat)(d a b:Nat)(_hd:d<nr)(xa xb:Rg)(hxa:r.regs[a]?=some xa)(hxb:r.regs[b]?=some xb)(imm:Int)(loc label:List UInt8)(fence:Int)(w:World)(hR:Zba w B S r V)(hloc:loc∈S.C.locs)(hok:Zid S.C r.evs xa):Calls Tryz.prog 92 #[rrV S r false V,.int .i64 (pl:Int),.agg #[.int .i64 2,.int .i64 (d:Int),.int .i64 (a:Int),.int .i64 (b:Int),.int .i64 imm,.string ⟨loc.toArray⟩,.string ⟨label.toArray⟩,.int .i64 fence]] w (Zbr B S (Zcz S.C r pl loc 0 xa) w):=by
 have HW:=Zh (fun V w h=>Zpt B S hS r V nr k hI hfl pl loc xa hok 0 w h (Rds.zero _));simp only [Nat.zero_shiftLeft] at HW;have HR:=Zh hR;have hal:=(List.getElem?_eq_some_iff.1 hxa).1;have hbl:=(List.getElem?_eq_some_iff.1 hxb).1;obtain⟨c,hc⟩:∃ c,c=rrC S r false V:=⟨_,rfl⟩;rw [show rrV S r false V=.agg c by rw [hc]];have HC:=Zh hc;clear hc;go_enter Tryz.func92,Tryz.ntmps92;apply wp_seq_k;intro K hK;have HK:=Zh hK;clear hK
 go_wp2_with fail
 refine Zhf (P:=fun X=>K _ X) w _ _ _ _ _ _ ?_;intro W b0 b1 b2 hz hbW;refine HK.o _ _ ?_;clear HK K;rw [HC.o] at b0;have HU:Hid (Zb2 w W B w.heap.size (w.heap.size+1+1) S r false V):=Zh ⟨HR.o.below hbW,Zbf.of_below hbW HR.o.hB,HR.o.hB,b0,⟨_,b2,rfl⟩,Nat.le_refl _,ω,ω⟩;have HE:=Zh b1;have hzW:w.heap.size<W.heap.size:=ω;clear b0 b1 b2 hbW hz HC;obtain⟨q0,cp,hvr,hat⟩:=HU.o.ref.rgAt (show 0<r.regs.length by omega);have k13:W.cell? ⟨w.heap.size,13,none⟩=some (.slice (some ⟨q0,0,none⟩) r.regs.length cp):=by rw [<- hvr];exact HU.o.blk.cell 13
 have e0:=HE.o.k0;have e1:=HE.o.k1;have e2:=HE.o.k2;have e3:=HE.o.k3;have e4:=HE.o.k4;have e5:=HE.o.k5;have c3:W.cell? ⟨q0,a*4+3,none⟩=some (.int .u64 ((xa.on<<<S.C.ahead:Nat):Int)):=by
  obtain⟨p,o,e,hc⟩:=hat a xa hxa;simp only [Option.some.injEq,Addr.mk.injEq,and_true] at e;obtain⟨rfl,rfl⟩:=e;have:=hc 3 _ rfl
  rwa [Nat.zero_add] at this
 have HSS:=Zh (show ∀ y,Below W.heap.size W y->(fun y:World=>Zb2 w y B w.heap.size (w.heap.size+1+1) S r false V/\(Zdw S.C.ahead).At y (some ⟨q0,0,none⟩) r.regs/\y.cell? ⟨w.heap.size,13,none⟩=some (.slice (some ⟨q0,0,none⟩) r.regs.length cp)/\y.cell? ⟨w.heap.size+1,0,none⟩=some (.int .i64 2)/\y.cell? ⟨w.heap.size+1,1,none⟩=some (.int .i64 (d:Int))/\y.cell? ⟨w.heap.size+1,2,none⟩=some (.int .i64 (a:Int))/\y.cell? ⟨w.heap.size+1,3,none⟩=some (.int .i64 (b:Int))/\y.cell? ⟨w.heap.size+1,4,none⟩=some (.int .i64 imm)/\y.cell? ⟨w.heap.size+1,5,none⟩=some (.string ⟨loc.toArray⟩)/\y.cell? ⟨q0,a*4+3,none⟩=some (.int .u64 ((xa.on<<<S.C.ahead:Nat):Int))) y from fun y hb=>⟨HU.o.below hb,hat.below hb,Zac k13 hb,Zac e0 hb,Zac e1 hb,Zac e2 hb,Zac e3 hb,Zac e4 hb,Zac e5 hb,Zac c3 hb⟩);have hi1:(0:Int)<=(a:Int):=ω;have hi2:(a:Int)<(r.regs.length:Int):=ω;have hi3:(0:Int)<=(b:Int):=ω;have hi4:(b:Int)<(r.regs.length:Int):=ω;clear hat hvr HR hR
 go_wp2_with fail
 refine wz (fun y:World=>Zb2 w y B w.heap.size (w.heap.size+1+1) S r false V/\(Zdw S.C.ahead).At y (some ⟨q0,0,none⟩) r.regs/\y.cell? ⟨w.heap.size,13,none⟩=some (.slice (some ⟨q0,0,none⟩) r.regs.length cp)/\y.cell? ⟨w.heap.size+1,0,none⟩=some (.int .i64 2)/\y.cell? ⟨w.heap.size+1,1,none⟩=some (.int .i64 (d:Int))/\y.cell? ⟨w.heap.size+1,2,none⟩=some (.int .i64 (a:Int))/\y.cell? ⟨w.heap.size+1,3,none⟩=some (.int .i64 (b:Int))/\y.cell? ⟨w.heap.size+1,4,none⟩=some (.int .i64 imm)/\y.cell? ⟨w.heap.size+1,5,none⟩=some (.string ⟨loc.toArray⟩)/\y.cell? ⟨q0,a*4+3,none⟩=some (.int .u64 ((xa.on<<<S.C.ahead:Nat):Int))) [0,3,5,6,8,10,11,12] (HSS.o _ (Below.refl _ _).drew) (fun hHeld=>?_);refine wq 1 ?_;refine wq 2 ?_;refine wq 4 ?_;refine wq 7 ?_;refine wq 9 ?_;refine wv 0 ((rrV S r false V)) rfl (fun x' hS=>Zay rfl rfl (Zeu hS.1.blk)) (by assumption) ?_;refine wv 3 ((Zv3 S V)) rfl (fun x' hS=>Zay rfl rfl (Zkj hS.1.blk)) (by assumption) ?_;refine wt 5 (by assumption) ?_;refine wt 8 (by assumption) ?_;refine wt 10 (by assumption) ?_;refine wt 11 (by assumption) ?_;refine wv 12 ((Za6 S.C.ahead xa)) rfl (fun x' hS=>Zay rfl rfl (Zdx hS.2.1 hxa)) (by assumption) ?_;refine Zan (i:=6) κ rfl (fun K hK=>?_);go_simp
 go_at_call 50
 refine (Zlv ⟨S.lo,S.ini,V.ev,V.br,V.ad,V.da,V.ct,S.th,S.en⟩ S.C.locs loc _ (hHeld.1.ref.loAt).1 (hHeld.1.ref.loAt).2 hS.few hloc).mono ?_;rintro e wp ⟨rfl,hbp⟩;have hS2:=HSS.o wp (Zas hbp);refine hK.out _ _ hS2 ?_;clear hK K;refine pu ?_;refine wl 13 ?_
 repeat (first | (go_at_call 138;refine Hid.o ?_) | go_step)
 refine Zh ?_;refine (HW.o V wp hS2.1.ref).mono ?_;rintro e w1 ⟨r1,fl1,V1,rfl,hr1,hk1,hg1⟩;dsimp only;obtain⟨z,hz,hzs⟩:=hS2.1.out1 hk1
 repeat (first | ((with_reducible refine Zat ?_);refine Zar 137 6 37 (w.heap.size+1+1) rfl rfl rfl hz (by exact hzs) κ (Zbk _ _ _ _) rfl rfl ?_) | go_step)
 refine Zbv 137 6 (w.heap.size+1+1) rfl (hz.row _) Tryz.underlying137 rfl κ rfl rfl ?_;exact Zbr.of (hS2.1.ret1 hr1 hk1) hg1
theorem Z3h (B:Nat)(S:RrS)(hS:Zen S)(hrisc:S.C.risc=decide (S.T.arch=2))(r:Rn)(V:RrV)(nr k:Nat)(hI:Inv S.C nr k r)(hnr:nr<=32)(hfl:r.full=false)(pl:Nat)(d a b:Nat)(hd:d<nr)(xa xb:Rg)(hxa:r.regs[a]?=some xa)(hxb:r.regs[b]?=some xb)(imm:Int)(loc label:List UInt8)(fence:Int)(w:World)(hR:Zba w B S r V)(hloc:loc∈S.C.locs):Calls Tryz.prog 92 #[rrV S r false V,.int .i64 (pl:Int),.agg #[.int .i64 3,.int .i64 (d:Int),.int .i64 (a:Int),.int .i64 (b:Int),.int .i64 imm,.string ⟨loc.toArray⟩,.string ⟨label.toArray⟩,.int .i64 fence]] w (Zbr B S (some (Zfd S.C r pl loc 0 (d:Int))) w):=by
 have HW:=Zh (fun V w h=>(Z0u B S hS hrisc r V nr k hI hnr hfl pl loc d hd 0 w h (Rds.zero _)).mono fun e w' p=>(p.st rfl:Zbr B S (some (Zfd S.C r pl loc 0 (d:Int))) w e w'));simp only [Nat.zero_shiftLeft] at HW;have HR:=Zh hR;have hal:=(List.getElem?_eq_some_iff.1 hxa).1;have hbl:=(List.getElem?_eq_some_iff.1 hxb).1;obtain⟨c,hc⟩:∃ c,c=rrC S r false V:=⟨_,rfl⟩;rw [show rrV S r false V=.agg c by rw [hc]];have HC:=Zh hc;clear hc;go_enter Tryz.func92,Tryz.ntmps92;apply wp_seq_k;intro K hK;have HK:=Zh hK;clear hK
 go_wp2_with fail
 refine Zhf (P:=fun X=>K _ X) w _ _ _ _ _ _ ?_;intro W b0 b1 b2 hz hbW;refine HK.o _ _ ?_;clear HK K;rw [HC.o] at b0;have HU:Hid (Zb2 w W B w.heap.size (w.heap.size+1+1) S r false V):=Zh ⟨HR.o.below hbW,Zbf.of_below hbW HR.o.hB,HR.o.hB,b0,⟨_,b2,rfl⟩,Nat.le_refl _,ω,ω⟩;have HE:=Zh b1;have hzW:w.heap.size<W.heap.size:=ω;clear b0 b1 b2 hbW hz HC;obtain⟨q0,cp,hvr,hat⟩:=HU.o.ref.rgAt (show 0<r.regs.length by omega);have k13:W.cell? ⟨w.heap.size,13,none⟩=some (.slice (some ⟨q0,0,none⟩) r.regs.length cp):=by rw [<- hvr];exact HU.o.blk.cell 13
 have e0:=HE.o.k0;have e1:=HE.o.k1;have e2:=HE.o.k2;have e3:=HE.o.k3;have e4:=HE.o.k4;have e5:=HE.o.k5;have c3:W.cell? ⟨q0,a*4+3,none⟩=some (.int .u64 ((xa.on<<<S.C.ahead:Nat):Int)):=by
  obtain⟨p,o,e,hc⟩:=hat a xa hxa;simp only [Option.some.injEq,Addr.mk.injEq,and_true] at e;obtain⟨rfl,rfl⟩:=e;have:=hc 3 _ rfl
  rwa [Nat.zero_add] at this
 have HSS:=Zh (show ∀ y,Below W.heap.size W y->(fun y:World=>Zb2 w y B w.heap.size (w.heap.size+1+1) S r false V/\(Zdw S.C.ahead).At y (some ⟨q0,0,none⟩) r.regs/\y.cell? ⟨w.heap.size,13,none⟩=some (.slice (some ⟨q0,0,none⟩) r.regs.length cp)/\y.cell? ⟨w.heap.size+1,0,none⟩=some (.int .i64 3)/\y.cell? ⟨w.heap.size+1,1,none⟩=some (.int .i64 (d:Int))/\y.cell? ⟨w.heap.size+1,2,none⟩=some (.int .i64 (a:Int))/\y.cell? ⟨w.heap.size+1,3,none⟩=some (.int .i64 (b:Int))/\y.cell? ⟨w.heap.size+1,4,none⟩=some (.int .i64 imm)/\y.cell? ⟨w.heap.size+1,5,none⟩=some (.string ⟨loc.toArray⟩)/\y.cell? ⟨q0,a*4+3,none⟩=some (.int .u64 ((xa.on<<<S.C.ahead:Nat):Int))) y from fun y hb=>⟨HU.o.below hb,hat.below hb,Zac k13 hb,Zac e0 hb,Zac e1 hb,Zac e2 hb,Zac e3 hb,Zac e4 hb,Zac e5 hb,Zac c3 hb⟩);have hi1:(0:Int)<=(a:Int):=ω;have hi2:(a:Int)<(r.regs.length:Int):=ω;have hi3:(0:Int)<=(b:Int):=ω;have hi4:(b:Int)<(r.regs.length:Int):=ω;clear hat hvr HR hR
 go_wp2_with fail
 refine wz (fun y:World=>Zb2 w y B w.heap.size (w.heap.size+1+1) S r false V/\(Zdw S.C.ahead).At y (some ⟨q0,0,none⟩) r.regs/\y.cell? ⟨w.heap.size,13,none⟩=some (.slice (some ⟨q0,0,none⟩) r.regs.length cp)/\y.cell? ⟨w.heap.size+1,0,none⟩=some (.int .i64 3)/\y.cell? ⟨w.heap.size+1,1,none⟩=some (.int .i64 (d:Int))/\y.cell? ⟨w.heap.size+1,2,none⟩=some (.int .i64 (a:Int))/\y.cell? ⟨w.heap.size+1,3,none⟩=some (.int .i64 (b:Int))/\y.cell? ⟨w.heap.size+1,4,none⟩=some (.int .i64 imm)/\y.cell? ⟨w.heap.size+1,5,none⟩=some (.string ⟨loc.toArray⟩)/\y.cell? ⟨q0,a*4+3,none⟩=some (.int .u64 ((xa.on<<<S.C.ahead:Nat):Int))) [0,3,5,6,8] (HSS.o _ (Below.refl _ _).drew) (fun hHeld=>?_);refine wq 1 ?_;refine wq 2 ?_;refine wq 4 ?_;refine wq 7 ?_;refine wv 0 ((rrV S r false V)) rfl (fun x' hS=>Zay rfl rfl (Zeu hS.1.blk)) (by assumption) ?_;refine wv 3 ((Zv3 S V)) rfl (fun x' hS=>Zay rfl rfl (Zkj hS.1.blk)) (by assumption) ?_;refine wt 5 (by assumption) ?_;refine wt 8 (by assumption) ?_;refine Zan (i:=6) κ rfl (fun K hK=>?_);go_simp
 go_at_call 50
 refine (Zlv ⟨S.lo,S.ini,V.ev,V.br,V.ad,V.da,V.ct,S.th,S.en⟩ S.C.locs loc _ (hHeld.1.ref.loAt).1 (hHeld.1.ref.loAt).2 hS.few hloc).mono ?_;rintro e wp ⟨rfl,hbp⟩;have hS2:=HSS.o wp (Zas hbp);refine hK.out _ _ hS2 ?_;clear hK K;refine pu ?_;refine wl 9 ?_
 repeat (first | (go_at_call 139;refine Hid.o ?_) | go_step)
 refine Zh ?_;refine (HW.o V wp hS2.1.ref).mono ?_;rintro e w1 ⟨r1,fl1,V1,rfl,hr1,hk1,hg1⟩;dsimp only;obtain⟨z,hz,hzs⟩:=hS2.1.out1 hk1
 repeat (first | ((with_reducible refine Zat ?_);refine Zar 137 6 49 (w.heap.size+1+1) rfl rfl rfl hz (by exact hzs) κ (Zbk _ _ _ _) rfl rfl ?_) | go_step)
 refine Zbv 137 6 (w.heap.size+1+1) rfl (hz.row _) Tryz.underlying137 rfl κ rfl rfl ?_;exact Zbr.of (hS2.1.ret1 hr1 hk1) hg1
theorem Z3i (B:Nat)(S:RrS)(_hS:Zen S)(hrisc:S.C.risc=decide (S.T.arch=2))(r:Rn)(V:RrV)(nr k:Nat)(hI:Inv S.C nr k r)(hnr:nr<=32)(_hfl:r.full=false)(pl:Nat)(d a b:Nat)(hd:d<nr)(xa xb:Rg)(hxa:r.regs[a]?=some xa)(hxb:r.regs[b]?=some xb)(imm:Int)(loc label:List UInt8)(fence:Int)(w:World)(hR:Zba w B S r V):Calls Tryz.prog 92 #[rrV S r false V,.int .i64 (pl:Int),.agg #[.int .i64 4,.int .i64 (d:Int),.int .i64 (a:Int),.int .i64 (b:Int),.int .i64 imm,.string ⟨loc.toArray⟩,.string ⟨label.toArray⟩,.int .i64 fence]] w (Zbr B S (some (Zg1 S.C r (d:Int) ⟨.num imm,0⟩)) w):=by
 have HW:=Zh (fun V w h=>(Z36 B S hrisc r V d ⟨.num imm,0⟩ w h (by rw [hI.rlen];exact hd) (by rw [hI.rlen];exact hnr)).mono fun e w' p=>(p.st rfl:Zbr B S (some (Zg1 S.C r (d:Int) ⟨.num imm,0⟩)) w e w'));simp only [Za6,Za2,Zcf,Zce,Nat.zero_shiftLeft] at HW;have HR:=Zh hR;have hal:=(List.getElem?_eq_some_iff.1 hxa).1;have hbl:=(List.getElem?_eq_some_iff.1 hxb).1;obtain⟨c,hc⟩:∃ c,c=rrC S r false V:=⟨_,rfl⟩;rw [show rrV S r false V=.agg c by rw [hc]];have HC:=Zh hc;clear hc;go_enter Tryz.func92,Tryz.ntmps92;apply wp_seq_k;intro K hK;have HK:=Zh hK;clear hK
 go_wp2_with fail
 refine Zhf (P:=fun X=>K _ X) w _ _ _ _ _ _ ?_;intro W b0 b1 b2 hz hbW;refine HK.o _ _ ?_;clear HK K;rw [HC.o] at b0;have HU:Hid (Zb2 w W B w.heap.size (w.heap.size+1+1) S r false V):=Zh ⟨HR.o.below hbW,Zbf.of_below hbW HR.o.hB,HR.o.hB,b0,⟨_,b2,rfl⟩,Nat.le_refl _,ω,ω⟩;have HE:=Zh b1;have hzW:w.heap.size<W.heap.size:=ω;clear b0 b1 b2 hbW hz HC;obtain⟨q0,cp,hvr,hat⟩:=HU.o.ref.rgAt (show 0<r.regs.length by omega);have k13:W.cell? ⟨w.heap.size,13,none⟩=some (.slice (some ⟨q0,0,none⟩) r.regs.length cp):=by rw [<- hvr];exact HU.o.blk.cell 13
 have e0:=HE.o.k0;have e1:=HE.o.k1;have e2:=HE.o.k2;have e3:=HE.o.k3;have e4:=HE.o.k4;have e5:=HE.o.k5;have c3:W.cell? ⟨q0,a*4+3,none⟩=some (.int .u64 ((xa.on<<<S.C.ahead:Nat):Int)):=by
  obtain⟨p,o,e,hc⟩:=hat a xa hxa;simp only [Option.some.injEq,Addr.mk.injEq,and_true] at e;obtain⟨rfl,rfl⟩:=e;have:=hc 3 _ rfl
  rwa [Nat.zero_add] at this
 have HSS:=Zh (show ∀ y,Below W.heap.size W y->(fun y:World=>Zb2 w y B w.heap.size (w.heap.size+1+1) S r false V/\(Zdw S.C.ahead).At y (some ⟨q0,0,none⟩) r.regs/\y.cell? ⟨w.heap.size,13,none⟩=some (.slice (some ⟨q0,0,none⟩) r.regs.length cp)/\y.cell? ⟨w.heap.size+1,0,none⟩=some (.int .i64 4)/\y.cell? ⟨w.heap.size+1,1,none⟩=some (.int .i64 (d:Int))/\y.cell? ⟨w.heap.size+1,2,none⟩=some (.int .i64 (a:Int))/\y.cell? ⟨w.heap.size+1,3,none⟩=some (.int .i64 (b:Int))/\y.cell? ⟨w.heap.size+1,4,none⟩=some (.int .i64 imm)/\y.cell? ⟨w.heap.size+1,5,none⟩=some (.string ⟨loc.toArray⟩)/\y.cell? ⟨q0,a*4+3,none⟩=some (.int .u64 ((xa.on<<<S.C.ahead:Nat):Int))) y from fun y hb=>⟨HU.o.below hb,hat.below hb,Zac k13 hb,Zac e0 hb,Zac e1 hb,Zac e2 hb,Zac e3 hb,Zac e4 hb,Zac e5 hb,Zac c3 hb⟩);have hi1:(0:Int)<=(a:Int):=ω;have hi2:(a:Int)<(r.regs.length:Int):=ω;have hi3:(0:Int)<=(b:Int):=ω;have hi4:(b:Int)<(r.regs.length:Int):=ω;clear hat hvr HR hR
 repeat (first | ((with_reducible refine Zat ?_);refine Zaz 137 3 w.heap.size rfl rfl HU.o.blk Tryz.underlying137 rfl κ rfl ?_) | (go_at_call 140;refine Hid.o ?_) | go_step)
 refine Zh ?_;refine (HW.o V W HU.o.ref).mono ?_;rintro e w1 ⟨r1,fl1,V1,rfl,hr1,hk1,hg1⟩;dsimp only;obtain⟨z,hz,hzs⟩:=HU.o.out1 hk1
 repeat (first | ((with_reducible refine Zat ?_);refine Zar 137 6 58 (w.heap.size+1+1) rfl rfl rfl hz (by exact hzs) κ (Zbk _ _ _ _) rfl rfl ?_) | go_step)
 refine Zbv 137 6 (w.heap.size+1+1) rfl (hz.row _) Tryz.underlying137 rfl κ rfl rfl ?_;exact Zbr.of (HU.o.ret1 hr1 hk1) hg1
theorem Zzn (B:Nat)(S:RrS)(_hS:Zen S)(_hrisc:S.C.risc=decide (S.T.arch=2))(r:Rn)(V:RrV)(nr k:Nat)(_hI:Inv S.C nr k r)(_hnr:nr<=32)(_hfl:r.full=false)(pl:Nat)(d a b:Nat)(_hd:d<nr)(xa xb:Rg)(hxa:r.regs[a]?=some xa)(hxb:r.regs[b]?=some xb)(imm:Int)(loc label:List UInt8)(fence:Int)(w:World)(hR:Zba w B S r V):Calls Tryz.prog 92 #[rrV S r false V,.int .i64 (pl:Int),.agg #[.int .i64 12,.int .i64 (d:Int),.int .i64 (a:Int),.int .i64 (b:Int),.int .i64 imm,.string ⟨loc.toArray⟩,.string ⟨label.toArray⟩,.int .i64 fence]] w (Ze1 B S r false w):=by
 have HR:=Zh hR;have hal:=(List.getElem?_eq_some_iff.1 hxa).1;have hbl:=(List.getElem?_eq_some_iff.1 hxb).1;obtain⟨c,hc⟩:∃ c,c=rrC S r false V:=⟨_,rfl⟩;rw [show rrV S r false V=.agg c by rw [hc]];have HC:=Zh hc;clear hc;go_enter Tryz.func92,Tryz.ntmps92;apply wp_seq_k;intro K hK;have HK:=Zh hK;clear hK
 go_wp2_with fail
 refine Zhf (P:=fun X=>K _ X) w _ _ _ _ _ _ ?_;intro W b0 b1 b2 hz hbW;refine HK.o _ _ ?_;clear HK K;rw [HC.o] at b0;have HU:Hid (Zb2 w W B w.heap.size (w.heap.size+1+1) S r false V):=Zh ⟨HR.o.below hbW,Zbf.of_below hbW HR.o.hB,HR.o.hB,b0,⟨_,b2,rfl⟩,Nat.le_refl _,ω,ω⟩;have HE:=Zh b1;have hzW:w.heap.size<W.heap.size:=ω;clear b0 b1 b2 hbW hz HC;obtain⟨q0,cp,hvr,hat⟩:=HU.o.ref.rgAt (show 0<r.regs.length by omega);have k13:W.cell? ⟨w.heap.size,13,none⟩=some (.slice (some ⟨q0,0,none⟩) r.regs.length cp):=by rw [<- hvr];exact HU.o.blk.cell 13
 have e0:=HE.o.k0;have e1:=HE.o.k1;have e2:=HE.o.k2;have e3:=HE.o.k3;have e4:=HE.o.k4;have e5:=HE.o.k5;have c3:W.cell? ⟨q0,a*4+3,none⟩=some (.int .u64 ((xa.on<<<S.C.ahead:Nat):Int)):=by
  obtain⟨p,o,e,hc⟩:=hat a xa hxa;simp only [Option.some.injEq,Addr.mk.injEq,and_true] at e;obtain⟨rfl,rfl⟩:=e;have:=hc 3 _ rfl
  rwa [Nat.zero_add] at this
 have HSS:=Zh (show ∀ y,Below W.heap.size W y->(fun y:World=>Zb2 w y B w.heap.size (w.heap.size+1+1) S r false V/\(Zdw S.C.ahead).At y (some ⟨q0,0,none⟩) r.regs/\y.cell? ⟨w.heap.size,13,none⟩=some (.slice (some ⟨q0,0,none⟩) r.regs.length cp)/\y.cell? ⟨w.heap.size+1,0,none⟩=some (.int .i64 12)/\y.cell? ⟨w.heap.size+1,1,none⟩=some (.int .i64 (d:Int))/\y.cell? ⟨w.heap.size+1,2,none⟩=some (.int .i64 (a:Int))/\y.cell? ⟨w.heap.size+1,3,none⟩=some (.int .i64 (b:Int))/\y.cell? ⟨w.heap.size+1,4,none⟩=some (.int .i64 imm)/\y.cell? ⟨w.heap.size+1,5,none⟩=some (.string ⟨loc.toArray⟩)/\y.cell? ⟨q0,a*4+3,none⟩=some (.int .u64 ((xa.on<<<S.C.ahead:Nat):Int))) y from fun y hb=>⟨HU.o.below hb,hat.below hb,Zac k13 hb,Zac e0 hb,Zac e1 hb,Zac e2 hb,Zac e3 hb,Zac e4 hb,Zac e5 hb,Zac c3 hb⟩);have hi1:(0:Int)<=(a:Int):=ω;have hi2:(a:Int)<(r.regs.length:Int):=ω;have hi3:(0:Int)<=(b:Int):=ω;have hi4:(b:Int)<(r.regs.length:Int):=ω;clear hat hvr HR hR
 repeat (first | ((with_reducible refine Zfw ?_);refine Zcn Tryz.f92 3 6 211 rfl rfl rfl rfl rfl rfl rfl HU.o rfl rfl (by decide) (of_decide_eq_true rfl) rfl (fun _ _ h=>h)) | go_step)
theorem Z3j (B:Nat)(S:RrS)(hS:Zen S)(_hrisc:S.C.risc=decide (S.T.arch=2))(r:Rn)(V:RrV)(nr k:Nat)(hI:Inv S.C nr k r)(_hnr:nr<=32)(_hfl:r.full=false)(pl:Nat)(d a b:Nat)(_hd:d<nr)(xa xb:Rg)(hxa:r.regs[a]?=some xa)(hxb:r.regs[b]?=some xb)(imm:Int)(loc label:List UInt8)(fence:Int)(w:World)(hR:Zba w B S r V)(hk:k<=256):Calls Tryz.prog 92 #[rrV S r false V,.int .i64 (pl:Int),.agg #[.int .i64 5,.int .i64 (d:Int),.int .i64 (a:Int),.int .i64 (b:Int),.int .i64 imm,.string ⟨loc.toArray⟩,.string ⟨label.toArray⟩,.int .i64 fence]] w (Ze1 B S (Z1d S.C r pl 1) false w):=by
 have HR:=Zh hR;have hal:=(List.getElem?_eq_some_iff.1 hxa).1;have hbl:=(List.getElem?_eq_some_iff.1 hxb).1;obtain⟨c,hc⟩:∃ c,c=rrC S r false V:=⟨_,rfl⟩;rw [show rrV S r false V=.agg c by rw [hc]];have HC:=Zh hc;clear hc;go_enter Tryz.func92,Tryz.ntmps92;apply wp_seq_k;intro K hK;have HK:=Zh hK;clear hK
 go_wp2_with fail
 refine Zhf (P:=fun X=>K _ X) w _ _ _ _ _ _ ?_;intro W b0 b1 b2 hz hbW;refine HK.o _ _ ?_;clear HK K;rw [HC.o] at b0;have HU:Hid (Zb2 w W B w.heap.size (w.heap.size+1+1) S r false V):=Zh ⟨HR.o.below hbW,Zbf.of_below hbW HR.o.hB,HR.o.hB,b0,⟨_,b2,rfl⟩,Nat.le_refl _,ω,ω⟩;have HE:=Zh b1;have hzW:w.heap.size<W.heap.size:=ω;clear b0 b1 b2 hbW hz HC;obtain⟨q0,cp,hvr,hat⟩:=HU.o.ref.rgAt (show 0<r.regs.length by omega);have k13:W.cell? ⟨w.heap.size,13,none⟩=some (.slice (some ⟨q0,0,none⟩) r.regs.length cp):=by rw [<- hvr];exact HU.o.blk.cell 13
 obtain⟨e0,e1,e2,e3,e4,e5⟩:=HE.o.c6;have c3:W.cell? ⟨q0,a*4+3,none⟩=some (.int .u64 ((xa.on<<<S.C.ahead:Nat):Int)):=by
  obtain⟨p,o,e,hc⟩:=hat a xa hxa;simp only [Option.some.injEq,Addr.mk.injEq,and_true] at e;obtain⟨rfl,rfl⟩:=e;have:=hc 3 _ rfl
  rwa [Nat.zero_add] at this
 have HSS:=Zh (show ∀ y,Below W.heap.size W y->(fun y:World=>Zb2 w y B w.heap.size (w.heap.size+1+1) S r false V/\(Zdw S.C.ahead).At y (some ⟨q0,0,none⟩) r.regs/\y.cell? ⟨w.heap.size,13,none⟩=some (.slice (some ⟨q0,0,none⟩) r.regs.length cp)/\y.cell? ⟨w.heap.size+1,0,none⟩=some (.int .i64 5)/\y.cell? ⟨w.heap.size+1,1,none⟩=some (.int .i64 (d:Int))/\y.cell? ⟨w.heap.size+1,2,none⟩=some (.int .i64 (a:Int))/\y.cell? ⟨w.heap.size+1,3,none⟩=some (.int .i64 (b:Int))/\y.cell? ⟨w.heap.size+1,4,none⟩=some (.int .i64 imm)/\y.cell? ⟨w.heap.size+1,5,none⟩=some (.string ⟨loc.toArray⟩)/\y.cell? ⟨q0,a*4+3,none⟩=some (.int .u64 ((xa.on<<<S.C.ahead:Nat):Int))) y from fun y hb=>⟨HU.o.below hb,hat.below hb,Zac k13 hb,Zac e0 hb,Zac e1 hb,Zac e2 hb,Zac e3 hb,Zac e4 hb,Zac e5 hb,Zac c3 hb⟩);have hi1:(0:Int)<=(a:Int):=ω;have hi2:(a:Int)<(r.regs.length:Int):=ω;have hi3:(0:Int)<=(b:Int):=ω;have hi4:(b:Int)<(r.regs.length:Int):=ω;clear hat hvr HR hR
 skip
 have k12:=HU.o.blk.cm 12;have k18:W.cell? ⟨w.heap.size,18,none⟩=some V.br.v:=HU.o.blk.cell 18;have HBL:=Zh (show (S.a.bars++r.bars).length<=1000000 by have:=hS.l4;have:=hI.bars;rw [List.length_append];omega)
 go_wp2_with (at_builtin;refine Hid.o ?_)
 have HA:=Zh (Ztv W (S.C.th:Int) (pl:Int) 1);have HV:=Zh (HU.o.below (Zad W (.cells #[.int .i64 (S.C.th:Int),.int .i64 (pl:Int),.int .i64 1] 169 (0,0))));refine Zh ?_;refine Enc.appW Zum _ rfl (.tmp 63) (.tmp 68) rfl [⟨(S.C.th:Int),(pl:Int),1⟩] B (S.a.bars++r.bars) V.br.v W.heap.size 0 1 rfl rfl HA.o HV.o.ref.br (by have:=HBL.o;simp only [List.length_singleton];omega) (by have:=HBL.o;simp only [List.length_singleton];omega) HV.o.ref.hB ?_;intro v' w4 ho4 hg4;obtain⟨s4,rfl,hs4⟩:=Zlr ho4;clear hs4;rw [List.append_assoc] at ho4;have hb4:=Zax HV.o.blk HV.o.ref.br (by decide) hg4;have HU:=Zh (HV.o.br hg4 ho4);have k18:w4.cell? ⟨w.heap.size,18,none⟩=some V.br.v:=hb4.cell 18;have f18:=hb4.frozen 18
 repeat (first | ((with_reducible refine Zfw ?_);refine Zcn Tryz.f92 3 6 211 rfl rfl rfl rfl rfl rfl rfl HU.o rfl rfl (by decide) (of_decide_eq_true rfl) rfl (fun _ _ h=>h)) | go_step)
theorem Zzo (B:Nat)(S:RrS)(hS:Zen S)(_hrisc:S.C.risc=decide (S.T.arch=2))(r:Rn)(V:RrV)(nr k:Nat)(hI:Inv S.C nr k r)(_hnr:nr<=32)(_hfl:r.full=false)(pl:Nat)(d a b:Nat)(_hd:d<nr)(xa xb:Rg)(hxa:r.regs[a]?=some xa)(hxb:r.regs[b]?=some xb)(imm:Int)(loc label:List UInt8)(fence:Int)(w:World)(hR:Zba w B S r V)(hk:k<=256):Calls Tryz.prog 92 #[rrV S r false V,.int .i64 (pl:Int),.agg #[.int .i64 13,.int .i64 (d:Int),.int .i64 (a:Int),.int .i64 (b:Int),.int .i64 imm,.string ⟨loc.toArray⟩,.string ⟨label.toArray⟩,.int .i64 fence]] w (Ze1 B S (Z1d S.C r pl fence) false w):=by
 have HR:=Zh hR;have hal:=(List.getElem?_eq_some_iff.1 hxa).1;have hbl:=(List.getElem?_eq_some_iff.1 hxb).1;obtain⟨c,hc⟩:∃ c,c=rrC S r false V:=⟨_,rfl⟩;rw [show rrV S r false V=.agg c by rw [hc]];have HC:=Zh hc;clear hc;go_enter Tryz.func92,Tryz.ntmps92;apply wp_seq_k;intro K hK;have HK:=Zh hK;clear hK
 go_wp2_with fail
 refine Zhf (P:=fun X=>K _ X) w _ _ _ _ _ _ ?_;intro W b0 b1 b2 hz hbW;refine HK.o _ _ ?_;clear HK K;rw [HC.o] at b0;have HU:Hid (Zb2 w W B w.heap.size (w.heap.size+1+1) S r false V):=Zh ⟨HR.o.below hbW,Zbf.of_below hbW HR.o.hB,HR.o.hB,b0,⟨_,b2,rfl⟩,Nat.le_refl _,ω,ω⟩;have HE:=Zh b1;have hzW:w.heap.size<W.heap.size:=ω;clear b0 b1 b2 hbW hz HC;obtain⟨q0,cp,hvr,hat⟩:=HU.o.ref.rgAt (show 0<r.regs.length by omega);have k13:W.cell? ⟨w.heap.size,13,none⟩=some (.slice (some ⟨q0,0,none⟩) r.regs.length cp):=by rw [<- hvr];exact HU.o.blk.cell 13
 obtain⟨e0,e1,e2,e3,e4,e5⟩:=HE.o.c6;have c3:W.cell? ⟨q0,a*4+3,none⟩=some (.int .u64 ((xa.on<<<S.C.ahead:Nat):Int)):=by
  obtain⟨p,o,e,hc⟩:=hat a xa hxa;simp only [Option.some.injEq,Addr.mk.injEq,and_true] at e;obtain⟨rfl,rfl⟩:=e;have:=hc 3 _ rfl
  rwa [Nat.zero_add] at this
 have HSS:=Zh (show ∀ y,Below W.heap.size W y->(fun y:World=>Zb2 w y B w.heap.size (w.heap.size+1+1) S r false V/\(Zdw S.C.ahead).At y (some ⟨q0,0,none⟩) r.regs/\y.cell? ⟨w.heap.size,13,none⟩=some (.slice (some ⟨q0,0,none⟩) r.regs.length cp)/\y.cell? ⟨w.heap.size+1,0,none⟩=some (.int .i64 13)/\y.cell? ⟨w.heap.size+1,1,none⟩=some (.int .i64 (d:Int))/\y.cell? ⟨w.heap.size+1,2,none⟩=some (.int .i64 (a:Int))/\y.cell? ⟨w.heap.size+1,3,none⟩=some (.int .i64 (b:Int))/\y.cell? ⟨w.heap.size+1,4,none⟩=some (.int .i64 imm)/\y.cell? ⟨w.heap.size+1,5,none⟩=some (.string ⟨loc.toArray⟩)/\y.cell? ⟨q0,a*4+3,none⟩=some (.int .u64 ((xa.on<<<S.C.ahead:Nat):Int))) y from fun y hb=>⟨HU.o.below hb,hat.below hb,Zac k13 hb,Zac e0 hb,Zac e1 hb,Zac e2 hb,Zac e3 hb,Zac e4 hb,Zac e5 hb,Zac c3 hb⟩);have hi1:(0:Int)<=(a:Int):=ω;have hi2:(a:Int)<(r.regs.length:Int):=ω;have hi3:(0:Int)<=(b:Int):=ω;have hi4:(b:Int)<(r.regs.length:Int):=ω;clear hat hvr HR hR
 (have e7:W.cell? ⟨w.heap.size+1,7,none⟩=some (.int .i64 fence):=HE.o.cell 7)
 have k12:=HU.o.blk.cm 12;have k18:W.cell? ⟨w.heap.size,18,none⟩=some V.br.v:=HU.o.blk.cell 18;have HBL:=Zh (show (S.a.bars++r.bars).length<=1000000 by have:=hS.l4;have:=hI.bars;rw [List.length_append];omega)
 go_wp2_with (at_builtin;refine Hid.o ?_)
 have HA:=Zh (Ztv W (S.C.th:Int) (pl:Int) fence);have HV:=Zh (HU.o.below (Zad W (.cells #[.int .i64 (S.C.th:Int),.int .i64 (pl:Int),.int .i64 fence] 169 (0,0))));refine Zh ?_;refine Enc.appW Zum _ rfl (.tmp 76) (.tmp 83) rfl [⟨(S.C.th:Int),(pl:Int),fence⟩] B (S.a.bars++r.bars) V.br.v W.heap.size 0 1 rfl rfl HA.o HV.o.ref.br (by have:=HBL.o;simp only [List.length_singleton];omega) (by have:=HBL.o;simp only [List.length_singleton];omega) HV.o.ref.hB ?_;intro v' w4 ho4 hg4;obtain⟨s4,rfl,hs4⟩:=Zlr ho4;clear hs4;rw [List.append_assoc] at ho4;have hb4:=Zax HV.o.blk HV.o.ref.br (by decide) hg4;have HU:=Zh (HV.o.br hg4 ho4);have k18:w4.cell? ⟨w.heap.size,18,none⟩=some V.br.v:=hb4.cell 18;have f18:=hb4.frozen 18
 repeat (first | ((with_reducible refine Zfw ?_);refine Zcn Tryz.f92 3 6 211 rfl rfl rfl rfl rfl rfl rfl HU.o rfl rfl (by decide) (of_decide_eq_true rfl) rfl (fun _ _ h=>h)) | go_step)
end
section
set_option maxHeartbeats 4000000
set_option maxRecDepth 100000
theorem Z3l (B:Nat)(S:RrS)(_hS:Zen S)(hrisc:S.C.risc=decide (S.T.arch=2))(r:Rn)(V:RrV)(nr k:Nat)(hI:Inv S.C nr k r)(hnr:nr<=32)(_hfl:r.full=false)(pl:Nat)(d a b:Nat)(hd:d<nr)(xa xb:Rg)(hxa:r.regs[a]?=some xa)(hxb:r.regs[b]?=some xb)(imm:Int)(loc label:List UInt8)(fence:Int)(w:World)(hR:Zba w B S r V)(hok:Zid S.C r.evs xa)(himm:Zdl imm)(hlt:xa.on<<<S.C.ahead<18446744073709551616):Calls Tryz.prog 92 #[rrV S r false V,.int .i64 (pl:Int),.agg #[.int .i64 8,.int .i64 (d:Int),.int .i64 (a:Int),.int .i64 (b:Int),.int .i64 imm,.string ⟨loc.toArray⟩,.string ⟨label.toArray⟩,.int .i64 fence]] w (Zbr B S (some (Zg1 S.C r (d:Int) ⟨Zc0 8 xa.h (.num imm),xa.on⟩)) w):=by
 have HW:=Zh (fun V w h=>(Z36 B S hrisc r V d ⟨Zc0 8 xa.h (.num imm),xa.on⟩ w h (by rw [hI.rlen];exact hd) (by rw [hI.rlen];exact hnr)).mono fun e w' p=>(p.st rfl:Zbr B S (some (Zg1 S.C r (d:Int) ⟨Zc0 8 xa.h (.num imm),xa.on⟩)) w e w'));have HMX:=Zh (fun w=>Zvl S.C.ahead 8 (Or.inl rfl) xa ⟨.num imm,0⟩ hok.1.num himm w hlt (by simp));simp only [Za6,Za2,Zcf,Zce,Nat.zero_shiftLeft,Nat.or_zero] at HMX;have HR:=Zh hR;have hal:=(List.getElem?_eq_some_iff.1 hxa).1;have hbl:=(List.getElem?_eq_some_iff.1 hxb).1;obtain⟨c,hc⟩:∃ c,c=rrC S r false V:=⟨_,rfl⟩;rw [show rrV S r false V=.agg c by rw [hc]];have HC:=Zh hc;clear hc;go_enter Tryz.func92,Tryz.ntmps92;apply wp_seq_k;intro K hK;have HK:=Zh hK;clear hK
 go_wp2_with fail
 refine Zhf (P:=fun X=>K _ X) w _ _ _ _ _ _ ?_;intro W b0 b1 b2 hz hbW;refine HK.o _ _ ?_;clear HK K;rw [HC.o] at b0;have HU:Hid (Zb2 w W B w.heap.size (w.heap.size+1+1) S r false V):=Zh ⟨HR.o.below hbW,Zbf.of_below hbW HR.o.hB,HR.o.hB,b0,⟨_,b2,rfl⟩,Nat.le_refl _,ω,ω⟩;have HE:=Zh b1;have hzW:w.heap.size<W.heap.size:=ω;clear b0 b1 b2 hbW hz HC;obtain⟨q0,cp,hvr,hat⟩:=HU.o.ref.rgAt (show 0<r.regs.length by omega);have k13:W.cell? ⟨w.heap.size,13,none⟩=some (.slice (some ⟨q0,0,none⟩) r.regs.length cp):=by rw [<- hvr];exact HU.o.blk.cell 13
 have e0:=HE.o.k0;have e1:=HE.o.k1;have e2:=HE.o.k2;have e3:=HE.o.k3;have e4:=HE.o.k4;have e5:=HE.o.k5;have c3:W.cell? ⟨q0,a*4+3,none⟩=some (.int .u64 ((xa.on<<<S.C.ahead:Nat):Int)):=by
  obtain⟨p,o,e,hc⟩:=hat a xa hxa;simp only [Option.some.injEq,Addr.mk.injEq,and_true] at e;obtain⟨rfl,rfl⟩:=e;have:=hc 3 _ rfl
  rwa [Nat.zero_add] at this
 have HSS:=Zh (show ∀ y,Below W.heap.size W y->(fun y:World=>Zb2 w y B w.heap.size (w.heap.size+1+1) S r false V/\(Zdw S.C.ahead).At y (some ⟨q0,0,none⟩) r.regs/\y.cell? ⟨w.heap.size,13,none⟩=some (.slice (some ⟨q0,0,none⟩) r.regs.length cp)/\y.cell? ⟨w.heap.size+1,0,none⟩=some (.int .i64 8)/\y.cell? ⟨w.heap.size+1,1,none⟩=some (.int .i64 (d:Int))/\y.cell? ⟨w.heap.size+1,2,none⟩=some (.int .i64 (a:Int))/\y.cell? ⟨w.heap.size+1,3,none⟩=some (.int .i64 (b:Int))/\y.cell? ⟨w.heap.size+1,4,none⟩=some (.int .i64 imm)/\y.cell? ⟨w.heap.size+1,5,none⟩=some (.string ⟨loc.toArray⟩)/\y.cell? ⟨q0,a*4+3,none⟩=some (.int .u64 ((xa.on<<<S.C.ahead:Nat):Int))) y from fun y hb=>⟨HU.o.below hb,hat.below hb,Zac k13 hb,Zac e0 hb,Zac e1 hb,Zac e2 hb,Zac e3 hb,Zac e4 hb,Zac e5 hb,Zac c3 hb⟩);have hi1:(0:Int)<=(a:Int):=ω;have hi2:(a:Int)<(r.regs.length:Int):=ω;have hi3:(0:Int)<=(b:Int):=ω;have hi4:(b:Int)<(r.regs.length:Int):=ω;clear hat hvr HR hR
 go_wp2_with fail
 refine wz (fun y:World=>Zb2 w y B w.heap.size (w.heap.size+1+1) S r false V/\(Zdw S.C.ahead).At y (some ⟨q0,0,none⟩) r.regs/\y.cell? ⟨w.heap.size,13,none⟩=some (.slice (some ⟨q0,0,none⟩) r.regs.length cp)/\y.cell? ⟨w.heap.size+1,0,none⟩=some (.int .i64 8)/\y.cell? ⟨w.heap.size+1,1,none⟩=some (.int .i64 (d:Int))/\y.cell? ⟨w.heap.size+1,2,none⟩=some (.int .i64 (a:Int))/\y.cell? ⟨w.heap.size+1,3,none⟩=some (.int .i64 (b:Int))/\y.cell? ⟨w.heap.size+1,4,none⟩=some (.int .i64 imm)/\y.cell? ⟨w.heap.size+1,5,none⟩=some (.string ⟨loc.toArray⟩)/\y.cell? ⟨q0,a*4+3,none⟩=some (.int .u64 ((xa.on<<<S.C.ahead:Nat):Int))) [0,2,4,6,8,9,10,12,13,14] (HSS.o _ (Below.refl _ _).drew) (fun hHeld=>?_);refine wq 1 ?_;refine wq 3 ?_;refine wq 5 ?_;refine wq 7 ?_;refine wq 11 ?_;refine wv 0 ((rrV S r false V)) rfl (fun x' hS=>Zay rfl rfl (Zeu hS.1.blk)) (by assumption) ?_;refine wt 2 (by assumption) ?_;refine wt 4 (by assumption) ?_;refine wt 6 (by assumption) ?_;refine wt 8 (by assumption) ?_;refine wt 9 (by assumption) ?_;refine wv 10 ((Za6 S.C.ahead xa)) rfl (fun x' hS=>Zay rfl rfl (Zdx hS.2.1 hxa)) (by assumption) ?_;refine wt 12 (by assumption) ?_;refine wt 13 (by assumption) ?_;refine Zan (i:=14) κ rfl (fun K hK=>?_);go_simp
 go_at_call 142
 refine (HMX.o _).mono ?_;rintro e wp ⟨rfl,hbp⟩;have hS2:=HSS.o wp (Zas hbp);refine hK.out _ _ hS2 ?_;clear hK K;refine pu ?_;refine wl 15 ?_
 repeat (first | (go_at_call 140;refine Hid.o ?_) | go_step)
 refine Zh ?_;refine (HW.o V wp hS2.1.ref).mono ?_;rintro e w1 ⟨r1,fl1,V1,rfl,hr1,hk1,hg1⟩;dsimp only;obtain⟨z,hz,hzs⟩:=hS2.1.out1 hk1
 repeat (first | ((with_reducible refine Zat ?_);refine Zar 137 6 151 (w.heap.size+1+1) rfl rfl rfl hz (by exact hzs) κ (Zbk _ _ _ _) rfl rfl ?_) | go_step)
 refine Zbv 137 6 (w.heap.size+1+1) rfl (hz.row _) Tryz.underlying137 rfl κ rfl rfl ?_;exact Zbr.of (hS2.1.ret1 hr1 hk1) hg1
theorem Zzq (B:Nat)(S:RrS)(_hS:Zen S)(hrisc:S.C.risc=decide (S.T.arch=2))(r:Rn)(V:RrV)(nr k:Nat)(hI:Inv S.C nr k r)(hnr:nr<=32)(_hfl:r.full=false)(pl:Nat)(d a b:Nat)(hd:d<nr)(xa xb:Rg)(hxa:r.regs[a]?=some xa)(hxb:r.regs[b]?=some xb)(imm:Int)(loc label:List UInt8)(fence:Int)(w:World)(hR:Zba w B S r V)(hab:a=b):Calls Tryz.prog 92 #[rrV S r false V,.int .i64 (pl:Int),.agg #[.int .i64 9,.int .i64 (d:Int),.int .i64 (a:Int),.int .i64 (b:Int),.int .i64 imm,.string ⟨loc.toArray⟩,.string ⟨label.toArray⟩,.int .i64 fence]] w (Zbr B S (some (Zg1 S.C r (d:Int) ⟨.num 0,xa.on⟩)) w):=by
 have HW:=Zh (fun V w h=>(Z36 B S hrisc r V d ⟨.num 0,xa.on⟩ w h (by rw [hI.rlen];exact hd) (by rw [hI.rlen];exact hnr)).mono fun e w' p=>(p.st rfl:Zbr B S (some (Zg1 S.C r (d:Int) ⟨.num 0,xa.on⟩)) w e w'));simp only [Za6,Za2,Zcf,Zce] at HW;have hab2:decide ((a:Int)=(b:Int))=true:=by simp [hab]
 have hab3:((a:Int) == (b:Int))=true:=by simp [hab]
 clear hab;have HR:=Zh hR;have hal:=(List.getElem?_eq_some_iff.1 hxa).1;have hbl:=(List.getElem?_eq_some_iff.1 hxb).1;obtain⟨c,hc⟩:∃ c,c=rrC S r false V:=⟨_,rfl⟩;rw [show rrV S r false V=.agg c by rw [hc]];have HC:=Zh hc;clear hc;go_enter Tryz.func92,Tryz.ntmps92;apply wp_seq_k;intro K hK;have HK:=Zh hK;clear hK
 go_wp2_with fail
 refine Zhf (P:=fun X=>K _ X) w _ _ _ _ _ _ ?_;intro W b0 b1 b2 hz hbW;refine HK.o _ _ ?_;clear HK K;rw [HC.o] at b0;have HU:Hid (Zb2 w W B w.heap.size (w.heap.size+1+1) S r false V):=Zh ⟨HR.o.below hbW,Zbf.of_below hbW HR.o.hB,HR.o.hB,b0,⟨_,b2,rfl⟩,Nat.le_refl _,ω,ω⟩;have HE:=Zh b1;have hzW:w.heap.size<W.heap.size:=ω;clear b0 b1 b2 hbW hz HC;obtain⟨q0,cp,hvr,hat⟩:=HU.o.ref.rgAt (show 0<r.regs.length by omega);have k13:W.cell? ⟨w.heap.size,13,none⟩=some (.slice (some ⟨q0,0,none⟩) r.regs.length cp):=by rw [<- hvr];exact HU.o.blk.cell 13
 have e0:=HE.o.k0;have e1:=HE.o.k1;have e2:=HE.o.k2;have e3:=HE.o.k3;have e4:=HE.o.k4;have e5:=HE.o.k5;have c3:W.cell? ⟨q0,a*4+3,none⟩=some (.int .u64 ((xa.on<<<S.C.ahead:Nat):Int)):=by
  obtain⟨p,o,e,hc⟩:=hat a xa hxa;simp only [Option.some.injEq,Addr.mk.injEq,and_true] at e;obtain⟨rfl,rfl⟩:=e;have:=hc 3 _ rfl
  rwa [Nat.zero_add] at this
 have HSS:=Zh (show ∀ y,Below W.heap.size W y->(fun y:World=>Zb2 w y B w.heap.size (w.heap.size+1+1) S r false V/\(Zdw S.C.ahead).At y (some ⟨q0,0,none⟩) r.regs/\y.cell? ⟨w.heap.size,13,none⟩=some (.slice (some ⟨q0,0,none⟩) r.regs.length cp)/\y.cell? ⟨w.heap.size+1,0,none⟩=some (.int .i64 9)/\y.cell? ⟨w.heap.size+1,1,none⟩=some (.int .i64 (d:Int))/\y.cell? ⟨w.heap.size+1,2,none⟩=some (.int .i64 (a:Int))/\y.cell? ⟨w.heap.size+1,3,none⟩=some (.int .i64 (b:Int))/\y.cell? ⟨w.heap.size+1,4,none⟩=some (.int .i64 imm)/\y.cell? ⟨w.heap.size+1,5,none⟩=some (.string ⟨loc.toArray⟩)/\y.cell? ⟨q0,a*4+3,none⟩=some (.int .u64 ((xa.on<<<S.C.ahead:Nat):Int))) y from fun y hb=>⟨HU.o.below hb,hat.below hb,Zac k13 hb,Zac e0 hb,Zac e1 hb,Zac e2 hb,Zac e3 hb,Zac e4 hb,Zac e5 hb,Zac c3 hb⟩);have hi1:(0:Int)<=(a:Int):=ω;have hi2:(a:Int)<(r.regs.length:Int):=ω;have hi3:(0:Int)<=(b:Int):=ω;have hi4:(b:Int)<(r.regs.length:Int):=ω;clear hat hvr HR hR
 go_wp2_with fail
 refine wz (fun y:World=>Zb2 w y B w.heap.size (w.heap.size+1+1) S r false V/\(Zdw S.C.ahead).At y (some ⟨q0,0,none⟩) r.regs/\y.cell? ⟨w.heap.size,13,none⟩=some (.slice (some ⟨q0,0,none⟩) r.regs.length cp)/\y.cell? ⟨w.heap.size+1,0,none⟩=some (.int .i64 9)/\y.cell? ⟨w.heap.size+1,1,none⟩=some (.int .i64 (d:Int))/\y.cell? ⟨w.heap.size+1,2,none⟩=some (.int .i64 (a:Int))/\y.cell? ⟨w.heap.size+1,3,none⟩=some (.int .i64 (b:Int))/\y.cell? ⟨w.heap.size+1,4,none⟩=some (.int .i64 imm)/\y.cell? ⟨w.heap.size+1,5,none⟩=some (.string ⟨loc.toArray⟩)/\y.cell? ⟨q0,a*4+3,none⟩=some (.int .u64 ((xa.on<<<S.C.ahead:Nat):Int))) [0,2,4,6,7,8,9,10] (HSS.o _ (Below.refl _ _).drew) (fun hHeld=>?_);refine wq 1 ?_;refine wq 3 ?_;refine wq 5 ?_;refine wv 0 ((rrV S r false V)) rfl (fun x' hS=>Zay rfl rfl (Zeu hS.1.blk)) (by assumption) ?_;refine wt 2 (by assumption) ?_;refine wt 4 (by assumption) ?_;refine wt 6 (by assumption) ?_;refine wt 7 (by assumption) ?_;refine wt 8 (by assumption) ?_;refine wt 9 (by assumption) ?_;refine wt 10 (by assumption) ?_;refine wl 11 ?_
 repeat (first | (go_at_call 140;refine Hid.o ?_) | go_step)
 refine Zh ?_;refine (HW.o V _ hHeld.1.ref).mono ?_;rintro e w1 ⟨r1,fl1,V1,rfl,hr1,hk1,hg1⟩;dsimp only;obtain⟨z,hz,hzs⟩:=hHeld.1.out1 hk1
 repeat (first | ((with_reducible refine Zat ?_);refine Zar 137 6 170 (w.heap.size+1+1) rfl rfl rfl hz (by exact hzs) κ (Zbk _ _ _ _) rfl rfl ?_) | go_step)
 refine Zbv 137 6 (w.heap.size+1+1) rfl (hz.row _) Tryz.underlying137 rfl κ rfl rfl ?_;exact Zbr.of (hHeld.1.ret1 hr1 hk1) hg1
theorem Z3m (B:Nat)(S:RrS)(_hS:Zen S)(hrisc:S.C.risc=decide (S.T.arch=2))(r:Rn)(V:RrV)(nr k:Nat)(hI:Inv S.C nr k r)(hnr:nr<=32)(_hfl:r.full=false)(pl:Nat)(d a b:Nat)(hd:d<nr)(xa xb:Rg)(hxa:r.regs[a]?=some xa)(hxb:r.regs[b]?=some xb)(imm:Int)(loc label:List UInt8)(fence:Int)(w:World)(hR:Zba w B S r V)(hoka:Zid S.C r.evs xa)(hokb:Zid S.C r.evs xb)(hlta:xa.on<<<S.C.ahead<18446744073709551616)(hltb:xb.on<<<S.C.ahead<18446744073709551616)(hab:a≠b):Calls Tryz.prog 92 #[rrV S r false V,.int .i64 (pl:Int),.agg #[.int .i64 9,.int .i64 (d:Int),.int .i64 (a:Int),.int .i64 (b:Int),.int .i64 imm,.string ⟨loc.toArray⟩,.string ⟨label.toArray⟩,.int .i64 fence]] w (Zbr B S (some (Zg1 S.C r (d:Int) ⟨Zc0 9 xa.h xb.h,xa.on|||xb.on⟩)) w):=by
 have HW:=Zh (fun V w h=>(Z36 B S hrisc r V d ⟨Zc0 9 xa.h xb.h,xa.on|||xb.on⟩ w h (by rw [hI.rlen];exact hd) (by rw [hI.rlen];exact hnr)).mono fun e w' p=>(p.st rfl:Zbr B S (some (Zg1 S.C r (d:Int) ⟨Zc0 9 xa.h xb.h,xa.on|||xb.on⟩)) w e w'));have HMX:=Zh (fun w=>Zvl S.C.ahead 9 (Or.inr (Or.inl rfl)) xa xb hoka.1.num hokb.1.num w hlta hltb);have HR:=Zh hR;have hal:=(List.getElem?_eq_some_iff.1 hxa).1;have hbl:=(List.getElem?_eq_some_iff.1 hxb).1;obtain⟨c,hc⟩:∃ c,c=rrC S r false V:=⟨_,rfl⟩;rw [show rrV S r false V=.agg c by rw [hc]];have HC:=Zh hc;clear hc;go_enter Tryz.func92,Tryz.ntmps92;apply wp_seq_k;intro K hK;have HK:=Zh hK;clear hK
 go_wp2_with fail
 refine Zhf (P:=fun X=>K _ X) w _ _ _ _ _ _ ?_;intro W b0 b1 b2 hz hbW;refine HK.o _ _ ?_;clear HK K;rw [HC.o] at b0;have HU:Hid (Zb2 w W B w.heap.size (w.heap.size+1+1) S r false V):=Zh ⟨HR.o.below hbW,Zbf.of_below hbW HR.o.hB,HR.o.hB,b0,⟨_,b2,rfl⟩,Nat.le_refl _,ω,ω⟩;have HE:=Zh b1;have hzW:w.heap.size<W.heap.size:=ω;clear b0 b1 b2 hbW hz HC;obtain⟨q0,cp,hvr,hat⟩:=HU.o.ref.rgAt (show 0<r.regs.length by omega);have k13:W.cell? ⟨w.heap.size,13,none⟩=some (.slice (some ⟨q0,0,none⟩) r.regs.length cp):=by rw [<- hvr];exact HU.o.blk.cell 13
 have e0:=HE.o.k0;have e1:=HE.o.k1;have e2:=HE.o.k2;have e3:=HE.o.k3;have e4:=HE.o.k4;have e5:=HE.o.k5;have c3:W.cell? ⟨q0,a*4+3,none⟩=some (.int .u64 ((xa.on<<<S.C.ahead:Nat):Int)):=by
  obtain⟨p,o,e,hc⟩:=hat a xa hxa;simp only [Option.some.injEq,Addr.mk.injEq,and_true] at e;obtain⟨rfl,rfl⟩:=e;have:=hc 3 _ rfl
  rwa [Nat.zero_add] at this
 have HSS:=Zh (show ∀ y,Below W.heap.size W y->(fun y:World=>Zb2 w y B w.heap.size (w.heap.size+1+1) S r false V/\(Zdw S.C.ahead).At y (some ⟨q0,0,none⟩) r.regs/\y.cell? ⟨w.heap.size,13,none⟩=some (.slice (some ⟨q0,0,none⟩) r.regs.length cp)/\y.cell? ⟨w.heap.size+1,0,none⟩=some (.int .i64 9)/\y.cell? ⟨w.heap.size+1,1,none⟩=some (.int .i64 (d:Int))/\y.cell? ⟨w.heap.size+1,2,none⟩=some (.int .i64 (a:Int))/\y.cell? ⟨w.heap.size+1,3,none⟩=some (.int .i64 (b:Int))/\y.cell? ⟨w.heap.size+1,4,none⟩=some (.int .i64 imm)/\y.cell? ⟨w.heap.size+1,5,none⟩=some (.string ⟨loc.toArray⟩)/\y.cell? ⟨q0,a*4+3,none⟩=some (.int .u64 ((xa.on<<<S.C.ahead:Nat):Int))) y from fun y hb=>⟨HU.o.below hb,hat.below hb,Zac k13 hb,Zac e0 hb,Zac e1 hb,Zac e2 hb,Zac e3 hb,Zac e4 hb,Zac e5 hb,Zac c3 hb⟩);have hi1:(0:Int)<=(a:Int):=ω;have hi2:(a:Int)<(r.regs.length:Int):=ω;have hi3:(0:Int)<=(b:Int):=ω;have hi4:(b:Int)<(r.regs.length:Int):=ω;clear hat hvr HR hR
 (have hab2:decide ((a:Int)=(b:Int))=false:=by simp;omega);have hab3:((a:Int) == (b:Int))=false:=by simp;omega
 go_wp2_with fail
 refine wz (fun y:World=>Zb2 w y B w.heap.size (w.heap.size+1+1) S r false V/\(Zdw S.C.ahead).At y (some ⟨q0,0,none⟩) r.regs/\y.cell? ⟨w.heap.size,13,none⟩=some (.slice (some ⟨q0,0,none⟩) r.regs.length cp)/\y.cell? ⟨w.heap.size+1,0,none⟩=some (.int .i64 9)/\y.cell? ⟨w.heap.size+1,1,none⟩=some (.int .i64 (d:Int))/\y.cell? ⟨w.heap.size+1,2,none⟩=some (.int .i64 (a:Int))/\y.cell? ⟨w.heap.size+1,3,none⟩=some (.int .i64 (b:Int))/\y.cell? ⟨w.heap.size+1,4,none⟩=some (.int .i64 imm)/\y.cell? ⟨w.heap.size+1,5,none⟩=some (.string ⟨loc.toArray⟩)/\y.cell? ⟨q0,a*4+3,none⟩=some (.int .u64 ((xa.on<<<S.C.ahead:Nat):Int))) [0,2,4,6,8,9,10,12,14,15,16,17] (HSS.o _ (Below.refl _ _).drew) (fun hHeld=>?_);refine wq 1 ?_;refine wq 3 ?_;refine wq 5 ?_;refine wq 7 ?_;refine wq 11 ?_;refine wq 13 ?_;refine wv 0 ((rrV S r false V)) rfl (fun x' hS=>Zay rfl rfl (Zeu hS.1.blk)) (by assumption) ?_;refine wt 2 (by assumption) ?_;refine wt 4 (by assumption) ?_;refine wt 6 (by assumption) ?_;refine wt 8 (by assumption) ?_;refine wt 9 (by assumption) ?_;refine wv 10 ((Za6 S.C.ahead xa)) rfl (fun x' hS=>Zay rfl rfl (Zdx hS.2.1 hxa)) (by assumption) ?_;refine wt 12 (by assumption) ?_;refine wt 14 (by assumption) ?_;refine wt 15 (by assumption) ?_;refine wv 16 ((Za6 S.C.ahead xb)) rfl (fun x' hS=>Zay rfl rfl (Zdx hS.2.1 hxb)) (by assumption) ?_;refine Zan (i:=17) κ rfl (fun K hK=>?_);go_simp
 go_at_call 142
 refine (HMX.o _).mono ?_;rintro e wp ⟨rfl,hbp⟩;have hS2:=HSS.o wp (Zas hbp);refine hK.out _ _ hS2 ?_;clear hK K;refine pu ?_;refine wl 18 ?_
 repeat (first | (go_at_call 140;refine Hid.o ?_) | go_step)
 refine Zh ?_;refine (HW.o V wp hS2.1.ref).mono ?_;rintro e w1 ⟨r1,fl1,V1,rfl,hr1,hk1,hg1⟩;dsimp only;obtain⟨z,hz,hzs⟩:=hS2.1.out1 hk1
 repeat (first | ((with_reducible refine Zat ?_);refine Zar 137 6 189 (w.heap.size+1+1) rfl rfl rfl hz (by exact hzs) κ (Zbk _ _ _ _) rfl rfl ?_) | go_step)
 refine Zbv 137 6 (w.heap.size+1+1) rfl (hz.row _) Tryz.underlying137 rfl κ rfl rfl ?_;exact Zbr.of (hS2.1.ret1 hr1 hk1) hg1
theorem Zzm (B:Nat)(S:RrS)(_hS:Zen S)(hrisc:S.C.risc=decide (S.T.arch=2))(r:Rn)(V:RrV)(nr k:Nat)(hI:Inv S.C nr k r)(hnr:nr<=32)(_hfl:r.full=false)(pl:Nat)(d a b:Nat)(hd:d<nr)(xa xb:Rg)(hxa:r.regs[a]?=some xa)(hxb:r.regs[b]?=some xb)(imm:Int)(loc label:List UInt8)(fence:Int)(w:World)(hR:Zba w B S r V)(hoka:Zid S.C r.evs xa)(hokb:Zid S.C r.evs xb)(hlta:xa.on<<<S.C.ahead<18446744073709551616)(hltb:xb.on<<<S.C.ahead<18446744073709551616):Calls Tryz.prog 92 #[rrV S r false V,.int .i64 (pl:Int),.agg #[.int .i64 10,.int .i64 (d:Int),.int .i64 (a:Int),.int .i64 (b:Int),.int .i64 imm,.string ⟨loc.toArray⟩,.string ⟨label.toArray⟩,.int .i64 fence]] w (Zbr B S (some (Zg1 S.C r (d:Int) ⟨Zc0 10 xa.h xb.h,xa.on|||xb.on⟩)) w):=by
 have HW:=Zh (fun V w h=>(Z36 B S hrisc r V d ⟨Zc0 10 xa.h xb.h,xa.on|||xb.on⟩ w h (by rw [hI.rlen];exact hd) (by rw [hI.rlen];exact hnr)).mono fun e w' p=>(p.st rfl:Zbr B S (some (Zg1 S.C r (d:Int) ⟨Zc0 10 xa.h xb.h,xa.on|||xb.on⟩)) w e w'));have HMX:=Zh (fun w=>Zvl S.C.ahead 10 (Or.inr (Or.inr rfl)) xa xb hoka.1.num hokb.1.num w hlta hltb);have HR:=Zh hR;have hal:=(List.getElem?_eq_some_iff.1 hxa).1;have hbl:=(List.getElem?_eq_some_iff.1 hxb).1;obtain⟨c,hc⟩:∃ c,c=rrC S r false V:=⟨_,rfl⟩;rw [show rrV S r false V=.agg c by rw [hc]];have HC:=Zh hc;clear hc;go_enter Tryz.func92,Tryz.ntmps92;apply wp_seq_k;intro K hK;have HK:=Zh hK;clear hK
 go_wp2_with fail
 refine Zhf (P:=fun X=>K _ X) w _ _ _ _ _ _ ?_;intro W b0 b1 b2 hz hbW;refine HK.o _ _ ?_;clear HK K;rw [HC.o] at b0;have HU:Hid (Zb2 w W B w.heap.size (w.heap.size+1+1) S r false V):=Zh ⟨HR.o.below hbW,Zbf.of_below hbW HR.o.hB,HR.o.hB,b0,⟨_,b2,rfl⟩,Nat.le_refl _,ω,ω⟩;have HE:=Zh b1;have hzW:w.heap.size<W.heap.size:=ω;clear b0 b1 b2 hbW hz HC;obtain⟨q0,cp,hvr,hat⟩:=HU.o.ref.rgAt (show 0<r.regs.length by omega);have k13:W.cell? ⟨w.heap.size,13,none⟩=some (.slice (some ⟨q0,0,none⟩) r.regs.length cp):=by rw [<- hvr];exact HU.o.blk.cell 13
 have e0:=HE.o.k0;have e1:=HE.o.k1;have e2:=HE.o.k2;have e3:=HE.o.k3;have e4:=HE.o.k4;have e5:=HE.o.k5;have c3:W.cell? ⟨q0,a*4+3,none⟩=some (.int .u64 ((xa.on<<<S.C.ahead:Nat):Int)):=by
  obtain⟨p,o,e,hc⟩:=hat a xa hxa;simp only [Option.some.injEq,Addr.mk.injEq,and_true] at e;obtain⟨rfl,rfl⟩:=e;have:=hc 3 _ rfl
  rwa [Nat.zero_add] at this
 have HSS:=Zh (show ∀ y,Below W.heap.size W y->(fun y:World=>Zb2 w y B w.heap.size (w.heap.size+1+1) S r false V/\(Zdw S.C.ahead).At y (some ⟨q0,0,none⟩) r.regs/\y.cell? ⟨w.heap.size,13,none⟩=some (.slice (some ⟨q0,0,none⟩) r.regs.length cp)/\y.cell? ⟨w.heap.size+1,0,none⟩=some (.int .i64 10)/\y.cell? ⟨w.heap.size+1,1,none⟩=some (.int .i64 (d:Int))/\y.cell? ⟨w.heap.size+1,2,none⟩=some (.int .i64 (a:Int))/\y.cell? ⟨w.heap.size+1,3,none⟩=some (.int .i64 (b:Int))/\y.cell? ⟨w.heap.size+1,4,none⟩=some (.int .i64 imm)/\y.cell? ⟨w.heap.size+1,5,none⟩=some (.string ⟨loc.toArray⟩)/\y.cell? ⟨q0,a*4+3,none⟩=some (.int .u64 ((xa.on<<<S.C.ahead:Nat):Int))) y from fun y hb=>⟨HU.o.below hb,hat.below hb,Zac k13 hb,Zac e0 hb,Zac e1 hb,Zac e2 hb,Zac e3 hb,Zac e4 hb,Zac e5 hb,Zac c3 hb⟩);have hi1:(0:Int)<=(a:Int):=ω;have hi2:(a:Int)<(r.regs.length:Int):=ω;have hi3:(0:Int)<=(b:Int):=ω;have hi4:(b:Int)<(r.regs.length:Int):=ω;clear hat hvr HR hR
 skip
 go_wp2_with fail
 refine wz (fun y:World=>Zb2 w y B w.heap.size (w.heap.size+1+1) S r false V/\(Zdw S.C.ahead).At y (some ⟨q0,0,none⟩) r.regs/\y.cell? ⟨w.heap.size,13,none⟩=some (.slice (some ⟨q0,0,none⟩) r.regs.length cp)/\y.cell? ⟨w.heap.size+1,0,none⟩=some (.int .i64 10)/\y.cell? ⟨w.heap.size+1,1,none⟩=some (.int .i64 (d:Int))/\y.cell? ⟨w.heap.size+1,2,none⟩=some (.int .i64 (a:Int))/\y.cell? ⟨w.heap.size+1,3,none⟩=some (.int .i64 (b:Int))/\y.cell? ⟨w.heap.size+1,4,none⟩=some (.int .i64 imm)/\y.cell? ⟨w.heap.size+1,5,none⟩=some (.string ⟨loc.toArray⟩)/\y.cell? ⟨q0,a*4+3,none⟩=some (.int .u64 ((xa.on<<<S.C.ahead:Nat):Int))) [0,2,4,6,8,9,10,12,14,15,16,17] (HSS.o _ (Below.refl _ _).drew) (fun hHeld=>?_);refine wq 1 ?_;refine wq 3 ?_;refine wq 5 ?_;refine wq 7 ?_;refine wq 11 ?_;refine wq 13 ?_;refine wv 0 ((rrV S r false V)) rfl (fun x' hS=>Zay rfl rfl (Zeu hS.1.blk)) (by assumption) ?_;refine wt 2 (by assumption) ?_;refine wt 4 (by assumption) ?_;refine wt 6 (by assumption) ?_;refine wt 8 (by assumption) ?_;refine wt 9 (by assumption) ?_;refine wv 10 ((Za6 S.C.ahead xa)) rfl (fun x' hS=>Zay rfl rfl (Zdx hS.2.1 hxa)) (by assumption) ?_;refine wt 12 (by assumption) ?_;refine wt 14 (by assumption) ?_;refine wt 15 (by assumption) ?_;refine wv 16 ((Za6 S.C.ahead xb)) rfl (fun x' hS=>Zay rfl rfl (Zdx hS.2.1 hxb)) (by assumption) ?_;refine Zan (i:=17) κ rfl (fun K hK=>?_);go_simp
 go_at_call 142
 refine (HMX.o _).mono ?_;rintro e wp ⟨rfl,hbp⟩;have hS2:=HSS.o wp (Zas hbp);refine hK.out _ _ hS2 ?_;clear hK K;refine pu ?_;refine wl 18 ?_
 repeat (first | (go_at_call 140;refine Hid.o ?_) | go_step)
 refine Zh ?_;refine (HW.o V wp hS2.1.ref).mono ?_;rintro e w1 ⟨r1,fl1,V1,rfl,hr1,hk1,hg1⟩;dsimp only;obtain⟨z,hz,hzs⟩:=hS2.1.out1 hk1
 repeat (first | ((with_reducible refine Zat ?_);refine Zar 137 6 210 (w.heap.size+1+1) rfl rfl rfl hz (by exact hzs) κ (Zbk _ _ _ _) rfl rfl ?_) | go_step)
 refine Zbv 137 6 (w.heap.size+1+1) rfl (hz.row _) Tryz.underlying137 rfl κ rfl rfl ?_;exact Zbr.of (hS2.1.ret1 hr1 hk1) hg1
end
theorem Zjy (l:List Int):Zbs l=(Zde.flat l).toArray:=by
 unfold Zbs Enc.flat
 induction l with
 | nil=>rfl
 | cons x l ih=>simp_all
theorem Z70 (n:Nat):madeCells #[.int .i64 0,.int .i64 0] (n*2)=(Zbj.flat (List.replicate n ((0:Int),(0:Int)))).toArray:=by
 apply Array.ext';apply List.ext_getElem?;intro m;have hl:(Zbj.flat (List.replicate n ((0:Int),(0:Int)))).length=n*2:=by rw [Zbj.flat_len,List.length_replicate]
 by_cases hm:m<n*2
 ·have h1:m / 2<n:=ω;have h2:(List.replicate n ((0:Int),(0:Int)))[m / 2]?=some (0,0):=by simp [h1]
  have h3:=Zbj.flat_at h2 (show m % 2<2 by omega);rw [show m / 2*Zbj.size+m % 2=m by show m / 2*2+m % 2=m;omega] at h3;rw [show (Zbj.flat (List.replicate n ((0:Int),(0:Int)))).toArray.toList=Zbj.flat (List.replicate n ((0:Int),(0:Int))) from rfl,h3];exact m_100
 ·rw [List.getElem?_eq_none (by simp [madeCells];omega),List.getElem?_eq_none (by simp [hl];omega)]
theorem Z48:(Tryz.prog.info? 130).map (fun i=>(i.zero,i.size,i.bytes))=some (some (.agg #[.int .i64 0,.int .i64 0]),2,16):=by kernel_rfl
theorem Zvo (n:Nat)(hn:n<=1024)(w:World):(Instr.makeSlice 85 (.int .i64 (n:Int)) (.int .i64 (n:Int))).run Tryz.prog w=.ok (.slice (some ⟨w.heap.size,0,none⟩) n n) (w.alloc (.cells (Zbj.flat (List.replicate n ((0:Int),(0:Int)))).toArray 130 (0,0))):=by
 obtain⟨i0,hi,hz0,hz1,hz2⟩:=Zbx Z48;have h:=run_make (P:=Tryz.prog) w 85 130 i0 _ Tryz.underlying85 hi hz0 .i64 .i64 (n:Int) (n:Int) ω (Int.le_refl _) (by rw [hz2];omega) ω;rw [h,hz1];simp only [Int.toNat_natCast];rw [show (Value.agg #[.int .i64 0,.int .i64 0]).cells=#[.int .i64 0,.int .i64 0] from rfl,Z70]
abbrev Zii:Enc Bool:=⟨5,fun b=>[if b then .iface 159 (.int .i64 0) else .nilIface,.int .u64 0,.int .u64 0,.int .u64 0,.int .u64 0],fun _=>rfl,ω,fun x u h=>by simp at h;rcases h with rfl | rfl;cases x <;> rfl;rfl⟩
def zl (i n:Nat):List Bool:=List.replicate i true++List.replicate (n - i) false
theorem Z02 {i n:Nat}(h:i<=n):(zl i n).length=n:=by simp [zl];omega
theorem Z63 {i n:Nat}(h:i<n):(zl i n).set i true=zl (i+1) n:=by
 unfold zl;rw [List.set_append_right _ _ (by simp)];simp only [List.length_replicate,Nat.sub_self];rw [show n - i=(n - (i+1))+1 by omega,List.replicate_succ,List.set_cons_zero,List.replicate_succ',List.append_assoc];rfl
theorem Z8q {i n:Nat}(h:i<n):(zl i n)[i]?=some false:=by
 unfold zl;rw [List.getElem?_append_right (by simp)];simp only [List.length_replicate,Nat.sub_self];rw [show n - i=(n - i - 1)+1 by omega,List.replicate_succ];rfl
theorem Zuz (l:List Bool)(i:Nat)(h:i<l.length):(Zii.flat l).toArray.setIfInBounds (i*5) (.iface 159 (.int .i64 0))=(Zii.flat (l.set i true)).toArray:=by
 apply Array.ext';apply List.ext_getElem?;intro m;have hl:(Zii.flat l).length=l.length*5:=Zii.flat_len l;rw [show ((Zii.flat (l.set i true)).toArray.toList)=Zii.flat (l.set i true) from rfl,Zfn Zii l i true m h];simp only [Array.toList_setIfInBounds,List.getElem?_set];show _=if i*5<=m/\m<i*5+5 then _ else _
 by_cases hm:i*5<=m/\m<i*5+5
 ·rw [if_pos hm];by_cases h0:m=i*5
  ·subst h0;simp [hl];omega
  ·rw [if_neg ω];have hx:=Zii.flat_at (List.getElem?_eq_getElem h) (show m - i*5<5 by omega);rw [show i*Zii.size+(m - i*5)=m by show i*5+(m - i*5)=m;omega] at hx;rw [hx];have hc:m - i*5=1\/m - i*5=2\/m - i*5=3\/m - i*5=4:=ω;show _=(Zii.enc true)[m - i*5]?;rcases hc with hc | hc | hc | hc <;> rw [hc] <;> rfl
 ·rw [if_neg hm,if_neg ω]
theorem Zsq (n:Nat):Zii.flat (zl n n)=Zdf.flat (List.replicate n ⟨.num 0,0⟩):=by
 unfold zl;rw [Nat.sub_self,List.replicate_zero,List.append_nil];unfold Enc.flat;rw [List.map_replicate,List.map_replicate];rfl
theorem Z72 (n:Nat):madeCells #[.nilIface,.int .u64 0,.int .u64 0,.int .u64 0,.int .u64 0] (n*5)=(Zii.flat (zl 0 n)).toArray:=by
 apply Array.ext';apply List.ext_getElem?;intro m;have hl:(Zii.flat (zl 0 n)).length=n*5:=by rw [Zii.flat_len,Z02 (Nat.zero_le n)]
 by_cases hm:m<n*5
 ·have h1:m / 5<n:=ω;have h2:(zl 0 n)[m / 5]?=some false:=by simp [zl,h1]
  have h3:=Zii.flat_at h2 (show m % 5<5 by omega);rw [show m / 5*Zii.size+m % 5=m by show m / 5*5+m % 5=m;omega] at h3;rw [h3];unfold madeCells;have hc:m % 5=0\/m % 5=1\/m % 5=2\/m % 5=3\/m % 5=4:=ω;rcases hc with hc | hc | hc | hc | hc <;> simp [hc,hm]
 ·rw [List.getElem?_eq_none (by simp [madeCells];omega),List.getElem?_eq_none (by simp [hl];omega)]
theorem Z49:(Tryz.prog.info? 163).map (fun i=>(i.zero,i.size,i.bytes))=some (some (.agg #[.nilIface,.int .u64 0,.int .u64 0,.int .u64 0,.int .u64 0]),5,48):=by kernel_rfl
theorem Z2t (n:Nat)(hn:n<=1000)(w:World):(Instr.makeSlice 123 (.int .i64 (n:Int)) (.int .i64 (n:Int))).run Tryz.prog w=.ok (.slice (some ⟨w.heap.size,0,none⟩) n n) (w.alloc (.cells (Zii.flat (zl 0 n)).toArray 163 (0,0))):=by
 obtain⟨i0,hi,hz0,hz1,hz2⟩:=Zbx Z49;have h:=run_make (P:=Tryz.prog) w 123 163 i0 _ Tryz.underlying123 hi hz0 .i64 .i64 (n:Int) (n:Int) ω (Int.le_refl _) (by rw [hz2];omega) ω;rw [h,hz1];simp only [Int.toNat_natCast];rw [show (Value.agg #[.nilIface,.int .u64 0,.int .u64 0,.int .u64 0,.int .u64 0]).cells=#[.nilIface,.int .u64 0,.int .u64 0,.int .u64 0,.int .u64 0] from rfl,<- Z72]
theorem Zux (l:List Rg)(i:Nat)(x:Rg)(h:l[i]?=some x)(v:Zeb):(Zdf.flat l).toArray.setIfInBounds (i*5) (Zai v)=(Zdf.flat (l.set i ⟨v,x.on⟩)).toArray:=by
 have hi:=(List.getElem?_eq_some_iff.1 h).1;apply Array.ext';apply List.ext_getElem?;intro m;have hl:(Zdf.flat l).length=l.length*5:=Zdf.flat_len l;rw [show ((Zdf.flat (l.set i ⟨v,x.on⟩)).toArray.toList)=Zdf.flat (l.set i ⟨v,x.on⟩) from rfl,Zfn Zdf l i _ m hi];simp only [Array.toList_setIfInBounds,List.getElem?_set];show _=if i*5<=m/\m<i*5+5 then _ else _
 by_cases hm:i*5<=m/\m<i*5+5
 ·rw [if_pos hm];by_cases h0:m=i*5
  ·subst h0;simp [hl];omega
  ·rw [if_neg ω];have hx:=Zdf.flat_at h (show m - i*5<5 by omega);rw [show i*Zdf.size+(m - i*5)=m by show i*5+(m - i*5)=m;omega] at hx;rw [hx];have hc:m - i*5=1\/m - i*5=2\/m - i*5=3\/m - i*5=4:=ω;show _=(Zdf.enc ⟨v,x.on⟩)[m - i*5]?;rcases hc with hc | hc | hc | hc <;> rw [hc] <;> rfl
 ·rw [if_neg hm,if_neg ω]
theorem Za7.has {w:World}{B g:Nat}{S:Zgk}{r:Rn}{V:Zd8}(h:Za7 w B g S r V){i q:Nat}{x:Rg}(hi:r.regs[i]?=some x)(hq:V.rg=.slice (some ⟨q,0,none⟩) r.regs.length r.regs.length)(v:Zeb) :
  Za7 (w.setCell ⟨q,i*5,none⟩ (Zai v)) B g S { r with regs:=r.regs.set i ⟨v,x.on⟩ } V:=by
 obtain⟨q',e,hb,hB⟩:=h.regs;rw [hq] at e;simp only [Value.slice.injEq,Option.some.injEq,Addr.mk.injEq,and_true] at e;subst e;have hgq:g≠q:=(Za5 hb h.blk (by decide)).symm;have k1:=hb.set_ (i*5) (Zai v);rw [Zux r.regs i x hi v] at k1;have ho:∀ {t:TypeId} {z n:Nat} {u:Value} {cs:List Value},w.ownsRow B t z u n cs->t≠163->(w.setCell ⟨q,i*5,none⟩ (Zai v)).ownsRow B t z u n cs:=fun h1 hne=>Zae h1 hb hne _ _
 exact⟨h.blk.far hgq _,h.hg,⟨q,by rw [hq,List.length_set],k1,hB⟩,ho h.evs (by decide),ho h.bars (by decide),ho h.addr (by decide),ho h.data (by decide),ho h.hang (by decide),h.a1,h.a2,h.a3⟩
end Go.Proofs.YtgjefdaaihgliaaGreatDoor
