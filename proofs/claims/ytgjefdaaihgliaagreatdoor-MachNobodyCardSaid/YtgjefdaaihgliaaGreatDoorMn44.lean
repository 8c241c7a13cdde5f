/- Layer 15: the reference's step: memory by a register. -/
import Derived.Test.YtgjefdaaihgliaaGreatDoorMn37
import Derived.Test.YtgjefdaaihgliaaGreatDoorMn41

namespace Go.Proofs.YtgjefdaaihgliaaGreatDoor
open Go.RowKit
section
set_option maxHeartbeats 4000000
set_option maxRecDepth 100000
theorem Zwq (B:Nat)(S:RrS)(hS:Zen S)(_hrisc:S.C.risc=decide (S.T.arch=2))(r:Rn)(V:RrV)(nr k:Nat)(_hI:Inv S.C nr k r)(_hnr:nr<=32)(_hfl:r.full=false)(pl:Nat)(d a b:Nat)(_hd:d<nr)(xa xb:Rg)(hxa:r.regs[a]?=some xa)(hxb:r.regs[b]?=some xb)(imm:Int)(loc label:List UInt8)(fence:Int)(w:World)(hR:Zba w B S r V)(hadr:∀ s,xa.h=.adr s->s∈S.C.locs)(o:Option Rn)(at_:Int)(hat:atK S.C xa.h=at_)
  (HWo:∀ V w,Zba w B S r V->Calls Tryz.prog 138 #[rrV S r false V,.int .i64 (pl:Int),.int .i64 at_,Za6 S.C.ahead xb,.int .u64 ((xa.on<<<S.C.ahead:Nat):Int)] w (Zbr B S o w)):Calls Tryz.prog 92 #[rrV S r false V,.int .i64 (pl:Int),.agg #[.int .i64 7,.int .i64 (d:Int),.int .i64 (a:Int),.int .i64 (b:Int),.int .i64 imm,.string ⟨loc.toArray⟩,.string ⟨label.toArray⟩,.int .i64 fence]] w (Zbr B S o w):=by
 have HW:=Zh HWo;have HAT:=Zh hat;have HR:=Zh hR;have hal:=(List.getElem?_eq_some_iff.1 hxa).1;have hbl:=(List.getElem?_eq_some_iff.1 hxb).1;obtain⟨c,hc⟩:∃ c,c=rrC S r false V:=⟨_,rfl⟩;rw [show rrV S r false V=.agg c by rw [hc]];have HC:=Zh hc;clear hc;go_enter Tryz.func92,Tryz.ntmps92;apply wp_seq_k;intro K hK;have HK:=Zh hK;clear hK
 go_wp2_with fail
 refine Zhf (P:=fun X=>K _ X) w _ _ _ _ _ _ ?_;intro W b0 b1 b2 hz hbW;refine HK.o _ _ ?_;clear HK K;rw [HC.o] at b0;have HU:Hid (Zb2 w W B w.heap.size (w.heap.size+1+1) S r false V):=Zh ⟨HR.o.below hbW,Zbf.of_below hbW HR.o.hB,HR.o.hB,b0,⟨_,b2,rfl⟩,Nat.le_refl _,ω,ω⟩;have HE:=Zh b1;obtain⟨q0,cp,hvr,hat⟩:=HU.o.ref.rgAt (show 0<r.regs.length by omega);have k13:W.cell? ⟨w.heap.size,13,none⟩=some (.slice (some ⟨q0,0,none⟩) r.regs.length cp):=by rw [<- hvr];exact HU.o.blk.cell 13
 have e0:=HE.o.k0;have e1:=HE.o.k1;have e2:=HE.o.k2;have e3:=HE.o.k3;have e4:=HE.o.k4;have e5:=HE.o.k5;have c3:W.cell? ⟨q0,a*4+3,none⟩=some (.int .u64 ((xa.on<<<S.C.ahead:Nat):Int)):=by
  obtain⟨p,o,e,hc⟩:=hat a xa hxa;simp only [Option.some.injEq,Addr.mk.injEq,and_true] at e;obtain⟨rfl,rfl⟩:=e;have:=hc 3 _ rfl
  rwa [Nat.zero_add] at this
 have HSS:=Zh (show ∀ y,Below W.heap.size W y->(fun y:World=>Zb2 w y B w.heap.size (w.heap.size+1+1) S r false V/\(Zdw S.C.ahead).At y (some ⟨q0,0,none⟩) r.regs/\y.cell? ⟨w.heap.size,13,none⟩=some (.slice (some ⟨q0,0,none⟩) r.regs.length cp)/\y.cell? ⟨w.heap.size+1,0,none⟩=some (.int .i64 7)/\y.cell? ⟨w.heap.size+1,1,none⟩=some (.int .i64 (d:Int))/\y.cell? ⟨w.heap.size+1,2,none⟩=some (.int .i64 (a:Int))/\y.cell? ⟨w.heap.size+1,3,none⟩=some (.int .i64 (b:Int))/\y.cell? ⟨w.heap.size+1,4,none⟩=some (.int .i64 imm)/\y.cell? ⟨w.heap.size+1,5,none⟩=some (.string ⟨loc.toArray⟩)/\y.cell? ⟨q0,a*4+3,none⟩=some (.int .u64 ((xa.on<<<S.C.ahead:Nat):Int))) y from fun y hb=>⟨HU.o.below hb,hat.below hb,Zac k13 hb,Zac e0 hb,Zac e1 hb,Zac e2 hb,Zac e3 hb,Zac e4 hb,Zac e5 hb,Zac c3 hb⟩)
 go_wp2_with fail
 refine wz (fun y:World=>Zb2 w y B w.heap.size (w.heap.size+1+1) S r false V/\(Zdw S.C.ahead).At y (some ⟨q0,0,none⟩) r.regs/\y.cell? ⟨w.heap.size,13,none⟩=some (.slice (some ⟨q0,0,none⟩) r.regs.length cp)/\y.cell? ⟨w.heap.size+1,0,none⟩=some (.int .i64 7)/\y.cell? ⟨w.heap.size+1,1,none⟩=some (.int .i64 (d:Int))/\y.cell? ⟨w.heap.size+1,2,none⟩=some (.int .i64 (a:Int))/\y.cell? ⟨w.heap.size+1,3,none⟩=some (.int .i64 (b:Int))/\y.cell? ⟨w.heap.size+1,4,none⟩=some (.int .i64 imm)/\y.cell? ⟨w.heap.size+1,5,none⟩=some (.string ⟨loc.toArray⟩)/\y.cell? ⟨q0,a*4+3,none⟩=some (.int .u64 ((xa.on<<<S.C.ahead:Nat):Int))) [0,2,4,5,7,9,10,11,13,15,16,17,18] (HSS.o _ (Below.refl _ _).drew) (fun hHeld=>?_);refine wq 1 ?_;refine wq 3 ?_;refine wq 6 ?_;refine wq 8 ?_;refine wq 12 ?_;refine wq 14 ?_;refine wv 0 ((rrV S r false V)) rfl (fun x' hS=>Zay rfl rfl (Zeu hS.1.blk)) (by assumption) ?_;refine wv 2 ((rrV S r false V)) rfl (fun x' hS=>Zay rfl rfl (Zeu hS.1.blk)) (by assumption) ?_;refine wt 4 (by assumption) ?_;refine wt 7 (by assumption) ?_;refine wt 9 (by assumption) ?_;refine wt 10 (by assumption) ?_;refine wv 11 ((Za6 S.C.ahead xb)) rfl (fun x' hS=>Zay rfl rfl (Zdx hS.2.1 hxb)) (by assumption) ?_;refine wt 13 (by assumption) ?_;refine wt 15 (by assumption) ?_;refine wt 16 (by assumption) ?_;refine wt 17 (by assumption) ?_;refine wt 18 (by assumption) ?_;refine Zan (i:=5) κ rfl (fun K hK=>?_);go_simp
 go_at_call 141
 refine (atR B S r V a xa _ hHeld.1.ref hxa hS.few hadr).mono ?_;rintro e wp ⟨he,hbp⟩;rw [HAT.o] at he;subst he;have hS2:=HSS.o wp (Zas hbp);refine hK.out _ _ hS2 ?_;refine pu ?_;refine wl 19 ?_
 repeat (first | (go_at_call 138;refine Hid.o ?_) | go_step)
 refine Zh ?_;refine (HW.o V wp hS2.1.ref).mono ?_;rintro e w1 ⟨r1,fl1,V1,rfl,hr1,hk1,hg1⟩;dsimp only;obtain⟨z,hz,hzs⟩:=hS2.1.out1 hk1
 repeat (first | ((with_reducible refine Zat ?_);refine Zar 137 6 133 (w.heap.size+1+1) rfl rfl rfl hz (by exact hzs) κ (Zbk _ _ _ _) rfl rfl ?_) | go_step)
 refine Zbv 137 6 (w.heap.size+1+1) rfl (hz.row _) Tryz.underlying137 rfl κ rfl rfl ?_;exact Zbr.of (hS2.1.ret1 hr1 hk1) hg1
theorem Z3k (B:Nat)(S:RrS)(hS:Zen S)(hrisc:S.C.risc=decide (S.T.arch=2))(r:Rn)(V:RrV)(nr k:Nat)(hI:Inv S.C nr k r)(hnr:nr<=32)(hfl:r.full=false)(pl:Nat)(d a b:Nat)(hd:d<nr)(xa xb:Rg)(hxa:r.regs[a]?=some xa)(_hxb:r.regs[b]?=some xb)(imm:Int)(loc label:List UInt8)(fence:Int)(w:World)(hR:Zba w B S r V)(hadr:∀ s,xa.h=.adr s->s∈S.C.locs)(s:Nm)(hxs:xa.h=.adr s)(hon:Rds r.evs xa.on):Calls Tryz.prog 92 #[rrV S r false V,.int .i64 (pl:Int),.agg #[.int .i64 6,.int .i64 (d:Int),.int .i64 (a:Int),.int .i64 (b:Int),.int .i64 imm,.string ⟨loc.toArray⟩,.string ⟨label.toArray⟩,.int .i64 fence]] w (Zbr B S (some (Zfd S.C r pl s xa.on (d:Int))) w):=by
 have HW:=Zh (fun V w h=>(Z0u B S hS hrisc r V nr k hI hnr hfl pl s d hd xa.on w h hon).mono fun e w' p=>(p.st rfl:Zbr B S (some (Zfd S.C r pl s xa.on (d:Int))) w e w'));have HAT:=Zh (show atK S.C xa.h=((S.C.locs.idxOf s:Nat):Int) by rw [hxs];rfl);have h0:¬ ((S.C.locs.idxOf s:Nat):Int)<0:=ω;generalize ((S.C.locs.idxOf s:Nat):Int)=at_ at *;have HR:=Zh hR;have hal:=(List.getElem?_eq_some_iff.1 hxa).1;obtain⟨c,hc⟩:∃ c,c=rrC S r false V:=⟨_,rfl⟩;rw [show rrV S r false V=.agg c by rw [hc]];have HC:=Zh hc;clear hc;go_enter Tryz.func92,Tryz.ntmps92;apply wp_seq_k;intro K hK;have HK:=Zh hK;clear hK
 go_wp2_with fail
 refine Zhf (P:=fun X=>K _ X) w _ _ _ _ _ _ ?_;intro W b0 b1 b2 hz hbW;refine HK.o _ _ ?_;rw [HC.o] at b0;have HU:Hid (Zb2 w W B w.heap.size (w.heap.size+1+1) S r false V):=Zh ⟨HR.o.below hbW,Zbf.of_below hbW HR.o.hB,HR.o.hB,b0,⟨_,b2,rfl⟩,Nat.le_refl _,ω,ω⟩;have HE:=Zh b1;obtain⟨q0,cp,hvr,hat⟩:=HU.o.ref.rgAt (show 0<r.regs.length by omega);have k13:W.cell? ⟨w.heap.size,13,none⟩=some (.slice (some ⟨q0,0,none⟩) r.regs.length cp):=by rw [<- hvr];exact HU.o.blk.cell 13
 have e0:=HE.o.k0;have e1:=HE.o.k1;have e2:=HE.o.k2;have e3:=HE.o.k3;have e4:=HE.o.k4;have e5:=HE.o.k5;have c3:W.cell? ⟨q0,a*4+3,none⟩=some (.int .u64 ((xa.on<<<S.C.ahead:Nat):Int)):=by
  obtain⟨p,o,e,hc⟩:=hat a xa hxa;simp only [Option.some.injEq,Addr.mk.injEq,and_true] at e;obtain⟨rfl,rfl⟩:=e;have:=hc 3 _ rfl
  rwa [Nat.zero_add] at this
 have HSS:=Zh (show ∀ y,Below W.heap.size W y->(fun y:World=>Zb2 w y B w.heap.size (w.heap.size+1+1) S r false V/\(Zdw S.C.ahead).At y (some ⟨q0,0,none⟩) r.regs/\y.cell? ⟨w.heap.size,13,none⟩=some (.slice (some ⟨q0,0,none⟩) r.regs.length cp)/\y.cell? ⟨w.heap.size+1,0,none⟩=some (.int .i64 6)/\y.cell? ⟨w.heap.size+1,1,none⟩=some (.int .i64 (d:Int))/\y.cell? ⟨w.heap.size+1,2,none⟩=some (.int .i64 (a:Int))/\y.cell? ⟨w.heap.size+1,3,none⟩=some (.int .i64 (b:Int))/\y.cell? ⟨w.heap.size+1,4,none⟩=some (.int .i64 imm)/\y.cell? ⟨w.heap.size+1,5,none⟩=some (.string ⟨loc.toArray⟩)/\y.cell? ⟨q0,a*4+3,none⟩=some (.int .u64 ((xa.on<<<S.C.ahead:Nat):Int))) y from fun y hb=>⟨HU.o.below hb,hat.below hb,Zac k13 hb,Zac e0 hb,Zac e1 hb,Zac e2 hb,Zac e3 hb,Zac e4 hb,Zac e5 hb,Zac c3 hb⟩)
 repeat (first | ((with_reducible refine Zat ?_);refine Zaz 137 3 w.heap.size rfl rfl HU.o.blk Tryz.underlying137 rfl κ rfl ?_) | (go_at_call 141;refine Hid.o ?_) | go_step)
 refine Zh ?_;refine (atR B S r V a xa W HU.o.ref hxa hS.few hadr).mono ?_;rintro e w1 ⟨he,hb1⟩;rw [HAT.o] at he;subst he
 go_wp2_with fail
 refine wz (fun y:World=>Zb2 w y B w.heap.size (w.heap.size+1+1) S r false V/\(Zdw S.C.ahead).At y (some ⟨q0,0,none⟩) r.regs/\y.cell? ⟨w.heap.size,13,none⟩=some (.slice (some ⟨q0,0,none⟩) r.regs.length cp)/\y.cell? ⟨w.heap.size+1,0,none⟩=some (.int .i64 6)/\y.cell? ⟨w.heap.size+1,1,none⟩=some (.int .i64 (d:Int))/\y.cell? ⟨w.heap.size+1,2,none⟩=some (.int .i64 (a:Int))/\y.cell? ⟨w.heap.size+1,3,none⟩=some (.int .i64 (b:Int))/\y.cell? ⟨w.heap.size+1,4,none⟩=some (.int .i64 imm)/\y.cell? ⟨w.heap.size+1,5,none⟩=some (.string ⟨loc.toArray⟩)/\y.cell? ⟨q0,a*4+3,none⟩=some (.int .u64 ((xa.on<<<S.C.ahead:Nat):Int))) [0,2,4,5,7,9,11,12,13,14] (HSS.o _ hb1.drew) (fun hHeld=>?_);refine wq 1 ?_;refine wq 3 ?_;refine wq 6 ?_;refine wq 8 ?_;refine wq 10 ?_;refine wv 0 ((rrV S r false V)) rfl (fun x' hS=>Zay rfl rfl (Zeu hS.1.blk)) (by assumption) ?_;refine wv 2 ((rrV S r false V)) rfl (fun x' hS=>Zay rfl rfl (Zeu hS.1.blk)) (by assumption) ?_;refine wt 4 (by assumption) ?_;refine wt 7 (by assumption) ?_;refine wt 9 (by assumption) ?_;refine wt 11 (by assumption) ?_;refine wt 12 (by assumption) ?_;refine wt 13 (by assumption) ?_;refine wt 14 (by assumption) ?_;refine Zan (i:=5) κ rfl (fun K hK=>?_);go_simp
 go_at_call 141
 refine (atR B S r V a xa _ hHeld.1.ref hxa hS.few hadr).mono ?_;rintro e wp ⟨he,hbp⟩;rw [HAT.o] at he;subst he;have hS2:=HSS.o wp (Zab hb1.drew hbp);refine hK.out _ _ hS2 ?_;refine pu ?_;refine wl 15 ?_
 repeat (first | (go_at_call 139;refine Hid.o ?_) | go_step)
 refine Zh ?_;refine (HW.o V wp hS2.1.ref).mono ?_;rintro e w1 ⟨r1,fl1,V1,rfl,hr1,hk1,hg1⟩;dsimp only;obtain⟨z,hz,hzs⟩:=hS2.1.out1 hk1
 repeat (first | ((with_reducible refine Zat ?_);refine Zar 137 6 111 (w.heap.size+1+1) rfl rfl rfl hz (by exact hzs) κ (Zbk _ _ _ _) rfl rfl ?_) | go_step)
 refine Zbv 137 6 (w.heap.size+1+1) rfl (hz.row _) Tryz.underlying137 rfl κ rfl rfl ?_;exact Zbr.of (hS2.1.ret1 hr1 hk1) hg1
theorem Zzp (B:Nat)(S:RrS)(hS:Zen S)(_hrisc:S.C.risc=decide (S.T.arch=2))(r:Rn)(V:RrV)(nr k:Nat)(_hI:Inv S.C nr k r)(_hnr:nr<=32)(_hfl:r.full=false)(pl:Nat)(d a b:Nat)(_hd:d<nr)(xa xb:Rg)(hxa:r.regs[a]?=some xa)(hxb:r.regs[b]?=some xb)(imm:Int)(loc label:List UInt8)(fence:Int)(w:World)(hR:Zba w B S r V)(hadr:∀ s,xa.h=.adr s->s∈S.C.locs)(hno:atK S.C xa.h=-1):Calls Tryz.prog 92 #[rrV S r false V,.int .i64 (pl:Int),.agg #[.int .i64 6,.int .i64 (d:Int),.int .i64 (a:Int),.int .i64 (b:Int),.int .i64 imm,.string ⟨loc.toArray⟩,.string ⟨label.toArray⟩,.int .i64 fence]] w (Ze1 B S r true w):=by
 have HAT:=Zh hno;have HR:=Zh hR;have hbl:=(List.getElem?_eq_some_iff.1 hxb).1;obtain⟨c,hc⟩:∃ c,c=rrC S r false V:=⟨_,rfl⟩;rw [show rrV S r false V=.agg c by rw [hc]];have HC:=Zh hc;clear hc;go_enter Tryz.func92,Tryz.ntmps92;apply wp_seq_k;intro K hK;have HK:=Zh hK;clear hK
 go_wp2_with fail
 refine Zhf (P:=fun X=>K _ X) w _ _ _ _ _ _ ?_;intro W b0 b1 b2 hz hbW;refine HK.o _ _ ?_;rw [HC.o] at b0;have HU:Hid (Zb2 w W B w.heap.size (w.heap.size+1+1) S r false V):=Zh ⟨HR.o.below hbW,Zbf.of_below hbW HR.o.hB,HR.o.hB,b0,⟨_,b2,rfl⟩,Nat.le_refl _,ω,ω⟩;have HE:=Zh b1;obtain⟨q0,cp,hvr,hat⟩:=HU.o.ref.rgAt (show 0<r.regs.length by omega);have k13:W.cell? ⟨w.heap.size,13,none⟩=some (.slice (some ⟨q0,0,none⟩) r.regs.length cp):=by rw [<- hvr];exact HU.o.blk.cell 13
 obtain⟨e0,e1,e2,e3,e4,e5⟩:=HE.o.c6;have c3:W.cell? ⟨q0,a*4+3,none⟩=some (.int .u64 ((xa.on<<<S.C.ahead:Nat):Int)):=by
  obtain⟨p,o,e,hc⟩:=hat a xa hxa;simp only [Option.some.injEq,Addr.mk.injEq,and_true] at e;obtain⟨rfl,rfl⟩:=e;have:=hc 3 _ rfl
  rwa [Nat.zero_add] at this
 repeat (first | ((with_reducible refine Zat ?_);refine Zaz 137 3 w.heap.size rfl rfl HU.o.blk Tryz.underlying137 rfl κ rfl ?_) | (go_at_call 141;refine Hid.o ?_) | go_step)
 refine Zh ?_;refine (atR B S r V a xa W HU.o.ref hxa hS.few hadr).mono ?_;rintro e w1 ⟨he,hb1⟩;rw [HAT.o] at he;subst he;dsimp only;have HU1:=Zh (HU.o.below hb1);have f24:=HU1.o.blk.frozen 24;have k24:=HU1.o.blk.cm 24;have HV:=Zh HU1.o.flow
 repeat (first | ((with_reducible refine Zfw ?_);refine Zcn Tryz.f92 3 6 95 rfl rfl rfl rfl rfl rfl rfl HV.o rfl rfl (by decide) (of_decide_eq_true rfl) rfl (fun _ _ h=>h)) | go_step)
end
theorem Zm3 {α β:Type}(o:Option α)(n:β):(o.map (fun y=>(y,n))).map Prod.fst=o:=by cases o <;> rfl
theorem Zz8 {C:Cx}{h:Zeb}(hn:∀ s,h≠.adr s):atK C h=-1:=by
 cases h with
 | num n=>rfl
 | adr s=>exact absurd rfl (hn s)
 | rd i=>rfl
 | non=>rfl
theorem Zvk {C:Cx}{r:Rn}{pl:Nat}{x:Ins}(hn:∀ s,(rgA r x.a).h≠.adr s):Zit C r pl x=none:=by
 unfold Zit;cases h:(rgA r x.a).h with
 | num n=>rfl
 | adr s=>exact absurd h (hn s)
 | rd i=>rfl
 | non=>rfl
theorem Z6i (B:Nat)(S:RrS)(hS:Zen S)(hrisc:S.C.risc=decide (S.T.arch=2))(r:Rn)(V:RrV)(nr k:Nat)(hI:Inv S.C nr k r)(hnr:nr<=32)(hfl:r.full=false)(hk:k<=256)(c:List Ins)(pl:Nat)(x:Ins)(hv:Zpw S.C nr c pl x)(hop:x.op≠11)(w:World)(hR:Zba w B S r V) :
  Calls Tryz.prog 92 #[rrV S r false V,.int .i64 (pl:Int),.agg #[.int .i64 x.op,.int .i64 x.d,.int .i64 x.a,.int .i64 x.b,.int .i64 x.imm,.string ⟨x.loc.toArray⟩,.string ⟨x.label.toArray⟩,.int .i64 x.fence]] w (Zbr B S ((Zbn S.C r c pl x).map Prod.fst) w):=by
 have hvo:=hv.op;have hvd:=hv.d;have hva:=hv.a;have hvb:=hv.b;have himm:=hv.imm;have hvl:=hv.loc;obtain⟨oka,hxa⟩:=hI.rg hva.1 hva.2;obtain⟨okb,hxb⟩:=hI.rg hvb.1 hvb.2;obtain⟨op,d,a,b,imm,loc,label,fence⟩:=x;simp only at hvo hvd hva hvb himm hvl hxa hxb oka okb hop ⊢;obtain⟨d,rfl⟩:=Int.eq_ofNat_of_zero_le hvd.1;obtain⟨a,rfl⟩:=Int.eq_ofNat_of_zero_le hva.1;obtain⟨b,rfl⟩:=Int.eq_ofNat_of_zero_le hvb.1;have hd:d<nr:=by have:=hvd.2;omega
 rw [Int.toNat_natCast] at hxa hxb;obtain⟨xa,ea⟩:∃ xa,rgA r (a:Int)=xa:=⟨_,rfl⟩;obtain⟨xb,eb⟩:∃ xb,rgA r (b:Int)=xb:=⟨_,rfl⟩;rw [ea] at hxa oka;rw [eb] at hxb okb;have room:=hI.room;have lta:=Zh1 oka.2.lt room;have ltb:=Zh1 okb.2.lt room;have hadr:∀ s,xa.h=.adr s->s∈S.C.locs:=fun s hs=>by
  have:=oka.1;rw [hs] at this;exact this
 have hc:op=1\/op=2\/op=3\/op=4\/op=5\/op=6\/op=7\/op=8\/op=9\/op=10\/op=12\/op=13:=ω;rcases hc with rfl | rfl | rfl | rfl | rfl | rfl | rfl | rfl | rfl | rfl | rfl | rfl
 ·rw [show Zbn S.C r c pl ⟨1,d,a,b,imm,loc,label,fence⟩=(Zcz S.C r pl loc 0 ⟨.num imm,0⟩).map (·,pl+1) from rfl,Zm3];exact Z3f B S hS hrisc r V nr k hI hnr hfl pl d a b hd xa xb hxa hxb imm loc label fence w hR (hvl ω)
 ·rw [show Zbn S.C r c pl ⟨2,d,a,b,imm,loc,label,fence⟩=(Zcz S.C r pl loc 0 (rgA r (a:Int))).map (·,pl+1) from rfl,Zm3,ea];exact Z3g B S hS hrisc r V nr k hI hnr hfl pl d a b hd xa xb hxa hxb imm loc label fence w hR (hvl ω) oka
 ·exact Z3h B S hS hrisc r V nr k hI hnr hfl pl d a b hd xa xb hxa hxb imm loc label fence w hR (hvl ω)
 ·exact Z3i B S hS hrisc r V nr k hI hnr hfl pl d a b hd xa xb hxa hxb imm loc label fence w hR
 ·exact (Z3j B S hS hrisc r V nr k hI hnr hfl pl d a b hd xa xb hxa hxb imm loc label fence w hR hk).mono fun e w' p=>p.st rfl
 ·rw [show Zbn S.C r c pl ⟨6,d,a,b,imm,loc,label,fence⟩=(Zit S.C r pl ⟨6,d,a,b,imm,loc,label,fence⟩).map (·,pl+1) from rfl,Zm3];by_cases hs:∃ s,xa.h=.adr s
  ·obtain⟨s,hs⟩:=hs;rw [show Zit S.C r pl ⟨6,d,a,b,imm,loc,label,fence⟩=some (Zfd S.C r pl s xa.on (d:Int)) by unfold Zit;simp only [ea,hs];rfl];exact Z3k B S hS hrisc r V nr k hI hnr hfl pl d a b hd xa xb hxa hxb imm loc label fence w hR hadr s hs oka.2
  ·rw [Zvk (by show ∀ s,(rgA r (a:Int)).h≠.adr s;rw [ea];exact fun s h=>hs ⟨s,h⟩)];exact (Zzp B S hS hrisc r V nr k hI hnr hfl pl d a b hd xa xb hxa hxb imm loc label fence w hR hadr (Zz8 fun s h=>hs ⟨s,h⟩)).mono fun e w' p=>p.no rfl hfl
 ·rw [show Zbn S.C r c pl ⟨7,d,a,b,imm,loc,label,fence⟩=(Zit S.C r pl ⟨7,d,a,b,imm,loc,label,fence⟩).map (·,pl+1) from rfl,Zm3];by_cases hs:∃ s,xa.h=.adr s
  ·obtain⟨s,hs⟩:=hs;rw [show Zit S.C r pl ⟨7,d,a,b,imm,loc,label,fence⟩=Zcz S.C r pl s xa.on xb by unfold Zit;simp only [ea,eb,hs];rfl];exact Zwq B S hS hrisc r V nr k hI hnr hfl pl d a b hd xa xb hxa hxb imm loc label fence w hR hadr _ _ (show atK S.C xa.h=((S.C.locs.idxOf s:Nat):Int) by rw [hs];rfl) fun V w h=>Zpt B S hS r V nr k hI hfl pl s xb okb xa.on w h oka.2
  ·rw [Zvk (by show ∀ s,(rgA r (a:Int)).h≠.adr s;rw [ea];exact fun s h=>hs ⟨s,h⟩)];exact Zwq B S hS hrisc r V nr k hI hnr hfl pl d a b hd xa xb hxa hxb imm loc label fence w hR hadr _ _ (Zz8 fun s h=>hs ⟨s,h⟩) fun V w h=>(Ze0 B S r V pl (-1) xb _ w h (Or.inl ω)).mono fun e w' p=>p.no rfl hfl
 ·have e8:Zbn S.C r c pl ⟨8,d,a,b,imm,loc,label,fence⟩=some (Zg1 S.C r (d:Int) ⟨Zc0 8 xa.h (.num imm),xa.on⟩,pl+1):=by
   show some (Zfq S.C r ⟨8,d,a,b,imm,loc,label,fence⟩,pl+1)=_;unfold Zfq;simp only [ea,if_true,show ¬ ((8:Int)=9/\(a:Int)=(b:Int)) by omega,if_false,Nat.or_zero]
  rw [e8];exact Z3l B S hS hrisc r V nr k hI hnr hfl pl d a b hd xa xb hxa hxb imm loc label fence w hR oka himm lta
 ·by_cases hab:a=b
  ·have e9:Zbn S.C r c pl ⟨9,d,a,b,imm,loc,label,fence⟩=some (Zg1 S.C r (d:Int) ⟨.num 0,xa.on⟩,pl+1):=by
    subst hab;show some (Zfq S.C r ⟨9,d,a,a,imm,loc,label,fence⟩,pl+1)=_;unfold Zfq;simp [ea]
   rw [e9];exact Zzq B S hS hrisc r V nr k hI hnr hfl pl d a b hd xa xb hxa hxb imm loc label fence w hR hab
  ·have e9:Zbn S.C r c pl ⟨9,d,a,b,imm,loc,label,fence⟩=some (Zg1 S.C r (d:Int) ⟨Zc0 9 xa.h xb.h,xa.on|||xb.on⟩,pl+1):=by
    show some (Zfq S.C r ⟨9,d,a,b,imm,loc,label,fence⟩,pl+1)=_;unfold Zfq;simp [ea,eb,show ¬ (a:Int)=(b:Int) by omega]
   rw [e9];exact Z3m B S hS hrisc r V nr k hI hnr hfl pl d a b hd xa xb hxa hxb imm loc label fence w hR oka okb lta ltb hab
 ·have e10:Zbn S.C r c pl ⟨10,d,a,b,imm,loc,label,fence⟩=some (Zg1 S.C r (d:Int) ⟨Zc0 10 xa.h xb.h,xa.on|||xb.on⟩,pl+1):=by
   show some (Zfq S.C r ⟨10,d,a,b,imm,loc,label,fence⟩,pl+1)=_;unfold Zfq;simp [ea,eb]
  rw [e10];exact Zzm B S hS hrisc r V nr k hI hnr hfl pl d a b hd xa xb hxa hxb imm loc label fence w hR oka okb lta ltb
 ·exact (Zzn B S hS hrisc r V nr k hI hnr hfl pl d a b hd xa xb hxa hxb imm loc label fence w hR).mono fun e w' p=>p.st rfl
 ·exact (Zzo B S hS hrisc r V nr k hI hnr hfl pl d a b hd xa xb hxa hxb imm loc label fence w hR hk).mono fun e w' p=>p.st rfl
section
abbrev rnE:Rn:=⟨[],0,[],[],[],[],[],false⟩
theorem Z8h (S:RrS)(V:RrV)(hv:V.rg=⟨none,0,0⟩):rrC S rnE false V=#[.int .i64 S.T.arch,.string ⟨S.T.name.toArray⟩,.string ⟨S.T.cycle.toArray⟩,S.iv.v,S.cv.v,.int .i64 S.T.q,.int .i64 S.T.k,.int .i64 S.T.t,.int .i64 S.T.r,.string ⟨S.T.l.toArray⟩,.int .i64 S.T.v,S.kv.v,.int .i64 (S.C.th:Int),.slice none 0 0,.int .u64 0,S.lo.v,S.ini.v,V.ev.v,V.br.v,V.ad.v,V.da.v,V.ct.v,S.th.v,S.en.v,.bool false,.bool false]:=by
 simp only [rrC,hv,Nat.zero_shiftLeft];rfl
theorem Z2d (f:Nat)(w:World):(Zdw f).At (w.alloc (.cells #[.int .i64 1,.int .i64 0,.string ⟨#[]⟩,.int .u64 0] 141 (0,0))) (some ⟨w.heap.size,0,none⟩) [⟨.num 0,0⟩]:=by
 have hB:=Blk.new w 141 #[.int .i64 1,.int .i64 0,.string ⟨#[]⟩,.int .u64 0];intro i x hx;refine⟨w.heap.size,0,rfl,fun j u hj=>?_⟩
 match i,hx with
 | 0,hx=>
  simp at hx;subst hx;rw [show 0+0*(Zdw f).size+j=j by omega,hB.cell];rw [<- hj];simp only [Za2,Zcf,Zce,Nat.zero_shiftLeft];simp
set_option maxHeartbeats 4000000
set_option maxRecDepth 100000
theorem Z4j (B:Nat)(S:RrS)(V:RrV)(Ai:Option Addr)(ci:Nat)(w:World)(hiv:S.iv=⟨Ai,S.T.init.length,ci⟩)(HI:Zi2 w Ai S.T.init)(hrisc:S.C.risc=decide (S.T.arch=2))(hini:∀ x∈S.T.init,x.th=(S.C.th:Int)->0<=x.rg/\x.rg<((Zdn S.C.risc:Nat):Int))(hil:S.T.init.length<=9223372036854775806)(hvr:V.rg=⟨none,0,0⟩)(hR:Zba w B S rnE V) :
  Calls Tryz.prog 89 #[.agg #[.int .i64 S.T.arch,.string ⟨S.T.name.toArray⟩,.string ⟨S.T.cycle.toArray⟩,S.iv.v,S.cv.v,.int .i64 S.T.q,.int .i64 S.T.k,.int .i64 S.T.t,.int .i64 S.T.r,.string ⟨S.T.l.toArray⟩,.int .i64 S.T.v,S.kv.v],.agg #[S.lo.v,S.ini.v,V.ev.v,V.br.v,V.ad.v,V.da.v,V.ct.v,S.th.v,S.en.v],.int .i64 (S.C.th:Int)] w (Ze1 B S (rn0 S.C.risc S.T.init S.C.th) false w):=by
 have HR:=Zh hR;have HII:=Zh HI;have HIV:=Zh hiv;have HRI:=Zh hrisc;have HVR:=Zh hvr;have HINI:=Zh hini;obtain⟨tc,htc⟩:∃ c,c=#[.int .i64 S.T.arch,.string ⟨S.T.name.toArray⟩,.string ⟨S.T.cycle.toArray⟩,S.iv.v,S.cv.v,.int .i64 S.T.q,.int .i64 S.T.k,.int .i64 S.T.t,.int .i64 S.T.r,.string ⟨S.T.l.toArray⟩,.int .i64 S.T.v,S.kv.v]:=⟨_,rfl⟩;obtain⟨oc,hoc⟩:∃ c,c=#[S.lo.v,S.ini.v,V.ev.v,V.br.v,V.ad.v,V.da.v,V.ct.v,S.th.v,S.en.v]:=⟨_,rfl⟩;rw [<- htc,<- hoc];have HTC:=Zh htc;have HOC:=Zh hoc;clear htc hoc hR hini HI hiv hrisc hvr;go_enter Tryz.func89,Tryz.ntmps89;apply wp_seq_k;intro K hK;have HK:=Zh hK;clear hK
 go_wp2_with fail
 refine Zhf (P:=fun X=>K _ X) w _ _ _ _ _ _ ?_;intro W b0 b1 b2 hz hbW;refine HK.o _ _ ?_;clear HK K;rw [HTC.o] at b0;rw [HOC.o] at b1;have HT:=Zh b0;have HO:=Zh b1;have HQ:=Zh b2;have HBW:=Zh hbW;have hz0:w.heap.size<W.heap.size:=ω;have hz1:w.heap.size+1<W.heap.size:=ω;have hz2:w.heap.size+1+1<W.heap.size:=ω;clear b0 b1 b2 hbW hz;have HZ:=Zh (Blk.new W 137 #[.int .i64 0,.string ⟨#[]⟩,.string ⟨#[]⟩,.slice none 0 0,.slice none 0 0,.int .i64 0,.int .i64 0,.int .i64 0,.int .i64 0,.string ⟨#[]⟩,.int .i64 0,.slice none 0 0,.int .i64 0,.slice none 0 0,.int .u64 0,.slice none 0 0,.slice none 0 0,.slice none 0 0,.slice none 0 0,.slice none 0 0,.slice none 0 0,.slice none 0 0,.slice none 0 0,.slice none 0 0,.bool false,.bool false])
 repeat (first | ((with_reducible refine Zat ?_);refine Zaz 32 3 w.heap.size rfl rfl HT.o Tryz.underlying32 rfl κ rfl ?_) | ((with_reducible refine Zat ?_);refine Zaz 87 4 (w.heap.size+1) rfl rfl HO.o Tryz.underlying87 rfl κ rfl ?_) | ((with_reducible refine Zat ?_);refine Zar 137 7 15 W.heap.size (c:=#[.int .i64 S.T.arch,.string ⟨S.T.name.toArray⟩,.string ⟨S.T.cycle.toArray⟩,S.iv.v,S.cv.v,.int .i64 S.T.q,.int .i64 S.T.k,.int .i64 S.T.t,.int .i64 S.T.r,.string ⟨S.T.l.toArray⟩,.int .i64 S.T.v,S.kv.v,.int .i64 (S.C.th:Int),.slice none 0 0,.int .u64 0,S.lo.v,S.ini.v,V.ev.v,V.br.v,V.ad.v,V.da.v,V.ct.v,S.th.v,S.en.v,.bool false,.bool false]) rfl rfl rfl HZ.o (by rfl) κ κ rfl rfl ?_;refine Hid.o ?_) | go_step)
 refine Zh ?_;have hB1:=below_setRow (Zad W (.cells #[.int .i64 0,.string ⟨#[]⟩,.string ⟨#[]⟩,.slice none 0 0,.slice none 0 0,.int .i64 0,.int .i64 0,.int .i64 0,.int .i64 0,.string ⟨#[]⟩,.int .i64 0,.slice none 0 0,.int .i64 0,.slice none 0 0,.int .u64 0,.slice none 0 0,.slice none 0 0,.slice none 0 0,.slice none 0 0,.slice none 0 0,.slice none 0 0,.slice none 0 0,.slice none 0 0,.slice none 0 0,.bool false,.bool false] 137 (0,0))) (Nat.le_refl _) #[.int .i64 S.T.arch,.string ⟨S.T.name.toArray⟩,.string ⟨S.T.cycle.toArray⟩,S.iv.v,S.cv.v,.int .i64 S.T.q,.int .i64 S.T.k,.int .i64 S.T.t,.int .i64 S.T.r,.string ⟨S.T.l.toArray⟩,.int .i64 S.T.v,S.kv.v,.int .i64 (S.C.th:Int),.slice none 0 0,.int .u64 0,S.lo.v,S.ini.v,V.ev.v,V.br.v,V.ad.v,V.da.v,V.ct.v,S.th.v,S.en.v,.bool false,.bool false]
 have HG:=Zh (show Blk ((W.alloc (.cells #[.int .i64 0,.string ⟨#[]⟩,.string ⟨#[]⟩,.slice none 0 0,.slice none 0 0,.int .i64 0,.int .i64 0,.int .i64 0,.int .i64 0,.string ⟨#[]⟩,.int .i64 0,.slice none 0 0,.int .i64 0,.slice none 0 0,.int .u64 0,.slice none 0 0,.slice none 0 0,.slice none 0 0,.slice none 0 0,.slice none 0 0,.slice none 0 0,.slice none 0 0,.slice none 0 0,.slice none 0 0,.bool false,.bool false] 137 (0,0))).setRow W.heap.size #[.int .i64 S.T.arch,.string ⟨S.T.name.toArray⟩,.string ⟨S.T.cycle.toArray⟩,S.iv.v,S.cv.v,.int .i64 S.T.q,.int .i64 S.T.k,.int .i64 S.T.t,.int .i64 S.T.r,.string ⟨S.T.l.toArray⟩,.int .i64 S.T.v,S.kv.v,.int .i64 (S.C.th:Int),.slice none 0 0,.int .u64 0,S.lo.v,S.ini.v,V.ev.v,V.br.v,V.ad.v,V.da.v,V.ct.v,S.th.v,S.en.v,.bool false,.bool false]) W.heap.size 137 (rrC S rnE false V) by rw [Z8h S V HVR.o];exact HZ.o.row _);have HT1:=Zh (HT.o.go hB1);have HQ1:=Zh (HQ.o.go hB1);have HB:=Zh (Zab HBW.o hB1);clear hB1 HT HQ HO HBW HZ
 generalize ((W.alloc (.cells #[.int .i64 0,.string ⟨#[]⟩,.string ⟨#[]⟩,.slice none 0 0,.slice none 0 0,.int .i64 0,.int .i64 0,.int .i64 0,.int .i64 0,.string ⟨#[]⟩,.int .i64 0,.slice none 0 0,.int .i64 0,.slice none 0 0,.int .u64 0,.slice none 0 0,.slice none 0 0,.slice none 0 0,.slice none 0 0,.slice none 0 0,.slice none 0 0,.slice none 0 0,.slice none 0 0,.slice none 0 0,.bool false,.bool false] 137 (0,0))).setRow W.heap.size #[.int .i64 S.T.arch,.string ⟨S.T.name.toArray⟩,.string ⟨S.T.cycle.toArray⟩,S.iv.v,S.cv.v,.int .i64 S.T.q,.int .i64 S.T.k,.int .i64 S.T.t,.int .i64 S.T.r,.string ⟨S.T.l.toArray⟩,.int .i64 S.T.v,S.kv.v,.int .i64 (S.C.th:Int),.slice none 0 0,.int .u64 0,S.lo.v,S.ini.v,V.ev.v,V.br.v,V.ad.v,V.da.v,V.ct.v,S.th.v,S.en.v,.bool false,.bool false])=W1 at *;generalize (Value.agg #[.int .i64 S.T.arch,.string ⟨S.T.name.toArray⟩,.string ⟨S.T.cycle.toArray⟩,S.iv.v,S.cv.v,.int .i64 S.T.q,.int .i64 S.T.k,.int .i64 S.T.t,.int .i64 S.T.r,.string ⟨S.T.l.toArray⟩,.int .i64 S.T.v,S.kv.v,.int .i64 (S.C.th:Int),.slice none 0 0,.int .u64 0,S.lo.v,S.ini.v,V.ev.v,V.br.v,V.ad.v,V.da.v,V.ct.v,S.th.v,S.en.v,.bool false,.bool false])=x15;generalize (Value.agg #[.int .i64 S.T.arch,.string ⟨S.T.name.toArray⟩,.string ⟨S.T.cycle.toArray⟩,S.iv.v,S.cv.v,.int .i64 S.T.q,.int .i64 S.T.k,.int .i64 S.T.t,.int .i64 S.T.r,.string ⟨S.T.l.toArray⟩,.int .i64 S.T.v,S.kv.v])=x12
 generalize (Value.agg #[S.lo.v,S.ini.v,V.ev.v,V.br.v,V.ad.v,V.da.v,V.ct.v,S.th.v,S.en.v])=x14;obtain⟨N,hnr⟩:∃ N,Zdn S.C.risc=N:=⟨_,rfl⟩
 have HOR:Hid ((S.T.arch=2/\N=32)\/((S.T.arch == 2)=false/\N=15)):=Zh (by
  by_cases ha:S.T.arch=2
  ·exact Or.inl ⟨ha,by rw [<- hnr,HRI.o,ha];rfl⟩
  ·exact Or.inr ⟨by simpa using ha,by rw [<- hnr,HRI.o];unfold Zdn;simp [ha]⟩)
 have HN:=Zh hnr;have t0:=HT1.o.cm 0;clear hnr;rcases HOR.o with ⟨ha,hN⟩ | ⟨ha,hN⟩
 all_goals
  try rw [ha] at t0
  go_wp2_with fail
  first | rw [show (15:Int)=(N:Int) from by omega] | rw [show (32:Int)=(N:Int) from by omega]
  have hN2:N<=32:=ω;clear t0 ha hN HOR;go_loopw [9] (fun v wr=>∃ i:Nat,i<=N/\v=.int .i64 (i:Int)/\∃ s:Sl,(Zdw S.C.ahead).Own 141 w.heap.size wr s.v (List.replicate i ⟨.num 0,0⟩)/\Blk wr W.heap.size 137 (rrC S { rnE with regs:=List.replicate i ⟨.num 0,0⟩ } false { V with rg:=s })/\Blk wr w.heap.size 32 #[.int .i64 S.T.arch,.string ⟨S.T.name.toArray⟩,.string ⟨S.T.cycle.toArray⟩,S.iv.v,S.cv.v,.int .i64 S.T.q,.int .i64 S.T.k,.int .i64 S.T.t,.int .i64 S.T.r,.string ⟨S.T.l.toArray⟩,.int .i64 S.T.v,S.kv.v]/\Blk wr (w.heap.size+1+1) 137 #[.int .i64 0,.string ⟨#[]⟩,.string ⟨#[]⟩,.slice none 0 0,.slice none 0 0,.int .i64 0,.int .i64 0,.int .i64 0,.int .i64 0,.string ⟨#[]⟩,.int .i64 0,.slice none 0 0,.int .i64 0,.slice none 0 0,.int .u64 0,.slice none 0 0,.slice none 0 0,.slice none 0 0,.slice none 0 0,.slice none 0 0,.slice none 0 0,.slice none 0 0,.slice none 0 0,.slice none 0 0,.bool false,.bool false]/\Below w.heap.size w wr) (fun v _=>N - (intOf v).toNat)
  case atStart=>exact⟨0,ω,rfl,⟨none,0,0⟩,Enc.Own.nil _ _ _,by rw [<- HVR.o];exact HG.o,HT1.o,HQ1.o,HB.o⟩
  case round=>
   obtain⟨i,hi,rfl,s,ho,hg,ht,hq,hb⟩:=hrel;have HO:=Zh ho;have HG2:=Zh hg;have HT2:=Zh ht;have HQ2:=Zh hq;have HB2:=Zh hb;have hsz:=hb.size;clear ho hg ht hq hb HG HT1 HQ1 HB;by_cases hlt:i<N
   ·have hij:(i:Int)<N:=ω;have hii:(0:Int)<=(i:Int):=ω;have k13:wr.cell? ⟨W.heap.size,13,none⟩=some s.v:=HG2.o.cell 13;have hal:=Zad wr (.cells #[.int .i64 1,.int .i64 0,.string ⟨#[]⟩,.int .u64 0] 141 (0,0));have HPA:=Zh (Z2d S.C.ahead wr);have HO3:=Zh (HO.o.below hal);have HG3:=Zh (HG2.o.go hal);have HT3:=Zh (HT2.o.go hal);have HQ3:=Zh (HQ2.o.go hal);have HB3:=Zh (Zab HB2.o hal);clear hal
    go_wp2_with (at_builtin;refine Enc.appW (Z19 S.C.ahead) _ rfl (.tmp 25) (.tmp 27) rfl [⟨.num 0,0⟩] w.heap.size (List.replicate i ⟨.num 0,0⟩) _ wr.heap.size 0 1 rfl rfl HPA.o HO3.o (by simp;omega) (by simp;omega) HB3.o.size ?_;intro v' w3 hown3 hg3;obtain⟨s3,rfl,hs3⟩:=Zlr hown3;clear hs3;have HO4:=Zh hown3;have HGR:=Zh hg3;have HG4:=Zh (Zax HG3.o HO3.o (by decide) hg3);have HT4:=Zh (Zax HT3.o HO3.o (by decide) hg3);have HQ4:=Zh (Zax HQ3.o HO3.o (by decide) hg3);clear hown3 hg3;have k13:w3.cell? ⟨W.heap.size,13,none⟩=some s.v:=HG4.o.cell 13;have f13:=HG4.o.frozen 13)
    go_roundw
    case rel=>exact⟨i+1,ω,by first | go_num | omega,s3,Zae (by rw [List.replicate_succ'];exact HO4.o) HG4.o (by decide) _ _,HG4.o.set_ 13 _,HT4.o.far (p:=⟨W.heap.size,13,none⟩) (show w.heap.size≠W.heap.size by omega) _,HQ4.o.far (p:=⟨W.heap.size,13,none⟩) (show w.heap.size+1+1≠W.heap.size by omega) _,((HB3.o.trans HGR.o.below).setCell (p:=⟨W.heap.size,13,none⟩) (show w.heap.size<=W.heap.size by omega) _)⟩
    case measure=>simp [intOf];omega
   ·have hin:N=i:=ω;subst hin;have t3:wr.cell? ⟨w.heap.size,3,none⟩=some (.slice Ai S.T.init.length ci):=by have:=HT2.o.cell 3;rw [this,HIV.o];rfl
    go_wp2_with fail
    clear t3;go_loopw [10] (fun v wr2=>∃ i:Nat,i<=S.T.init.length/\v=.int .i64 (i:Int)/\∃ L:List Rg,L=(S.T.init.take i).foldl (Zkv S.C.th) (List.replicate N ⟨.num 0,0⟩)/\L.length=N/\(Zdw S.C.ahead).Own 141 w.heap.size wr2 s.v L/\Blk wr2 W.heap.size 137 (rrC S { rnE with regs:=L } false { V with rg:=s })/\Blk wr2 w.heap.size 32 #[.int .i64 S.T.arch,.string ⟨S.T.name.toArray⟩,.string ⟨S.T.cycle.toArray⟩,S.iv.v,S.cv.v,.int .i64 S.T.q,.int .i64 S.T.k,.int .i64 S.T.t,.int .i64 S.T.r,.string ⟨S.T.l.toArray⟩,.int .i64 S.T.v,S.kv.v]/\Blk wr2 (w.heap.size+1+1) 137 #[.int .i64 0,.string ⟨#[]⟩,.string ⟨#[]⟩,.slice none 0 0,.slice none 0 0,.int .i64 0,.int .i64 0,.int .i64 0,.int .i64 0,.string ⟨#[]⟩,.int .i64 0,.slice none 0 0,.int .i64 0,.slice none 0 0,.int .u64 0,.slice none 0 0,.slice none 0 0,.slice none 0 0,.slice none 0 0,.slice none 0 0,.slice none 0 0,.slice none 0 0,.slice none 0 0,.slice none 0 0,.bool false,.bool false]/\Below w.heap.size w wr2) (fun v _=>S.T.init.length - (intOf v).toNat)
    case atStart=>exact⟨0,ω,rfl,_,rfl,by simp,HO.o,HG2.o,HT2.o,HQ2.o,HB2.o⟩
    case round=>
     obtain⟨i,hi2,rfl,L,hL,hlen,ho,hg,ht,hq,hb⟩:=hrel;have HL:=Zh hL;have HO3:=Zh ho;have HG3:=Zh hg;have HT3:=Zh ht;have HQ3:=Zh hq;have HB3:=Zh hb;have hsz2:=hb.size;have hgz:W.heap.size<wr.heap.size:=hg.lt;clear hL ho hg ht hq hb HO HG2 HT2 HQ2 HB2;have t3:wr.cell? ⟨w.heap.size,3,none⟩=some (.slice Ai S.T.init.length ci):=by have:=HT3.o.cell 3;rw [this,HIV.o];rfl
     have hii2:(0:Int)<=(i:Int):=ω;by_cases hlt2:i<S.T.init.length
     ·have hij2:(i:Int)<(S.T.init.length:Int):=ω;have ex:=List.getElem?_eq_getElem hlt2;obtain⟨x,hx⟩:∃ x,S.T.init[i]=x:=⟨_,rfl⟩;rw [hx] at ex
      have HNX:=Zh (show (S.T.init.take (i+1)).foldl (Zkv S.C.th) (List.replicate N ⟨.num 0,0⟩)=Zkv S.C.th L x by
       obtain⟨h1,h2⟩:=List.getElem?_eq_some_iff.1 ex
       rw [List.take_succ_eq_append_getElem h1,List.foldl_append,<- HL.o,h2];rfl)
      have hini:=HINI.o x (List.mem_of_getElem? ex);obtain⟨b,o,hA,c0,c1,c2,c3,c4,_⟩:=(HII.o.below HB3.o) i x ex;subst hA;clear ex hx;obtain⟨xth,xrg,xloc,xvl,xvn⟩:=x;simp only at c0 c1 c2 c3 c4 hini;have hal:=Zad wr (.cells #[.int .i64 xth,.int .i64 xrg,.string ⟨xloc.toArray⟩,.string ⟨xvl.toArray⟩,.int .i64 xvn] 94 (0,0));have HO4:=Zh (HO3.o.below hal);have HG4:=Zh (HG3.o.go hal);have HT4:=Zh (HT3.o.go hal);have HQ4:=Zh (HQ3.o.go hal);have HB4:=Zh (Zab HB3.o hal);clear hal;by_cases hth:xth=(S.C.th:Int)
      ·obtain⟨hr0,hr1⟩:=hini hth;rw [HN.o] at hr1;obtain⟨kr,hkr⟩:=Int.eq_ofNat_of_zero_le hr0;subst hkr hth;clear hini;have hkl:kr<L.length:=ω;have hk2:(kr:Int)<(L.length:Int):=ω;obtain⟨q1,cp1,hsv,hq1⟩:=Zke HO4.o (show 0<L.length by omega);have hob:s.v.ownBlock=some q1:=by rw [hsv];rfl
       have HNE:=Zh (Zc2 HO4.o HG4.o (by decide));rw [hob] at HNE;have HNT:=Zh (Zc2 HO4.o HT4.o (by decide));rw [hob] at HNT;have HNQ:=Zh (Zc2 HO4.o HQ4.o (by decide));rw [hob] at HNQ;have k13:wr.cell? ⟨W.heap.size,13,none⟩=some (.slice (some ⟨q1,0,none⟩) L.length cp1):=by rw [<- hsv];exact HG3.o.cell 13
       have HTE:=Zh (Zkf (by rw [hsv] at HO4;exact HO4.o) hkl);have HOB:=Zh hob;have HSV:=Zh hsv;clear hob hsv;by_cases hvl:xvl=[]
       ·subst hvl;have HIS:=Zh (show Zkv S.C.th L ⟨(S.C.th:Int),(kr:Int),xloc,[],xvn⟩=L.set kr ⟨.num xvn,0⟩ by unfold Zkv;rw [if_pos rfl];rfl)
        go_wp2_with ((with_reducible refine Zat ?_);refine wpList_store_mid rfl _ _ _ rfl q1 (kr*4) #[.int .i64 1,.int .i64 xvn,.string ⟨#[]⟩,.int .u64 0] rfl rfl HTE.o κ κ ?_;refine Hid.o ?_)
        refine Zh ?_;have ho5:=Zjh HO4.o HOB.o hkl ⟨.num xvn,0⟩;simp only [Za2,Zcf,Zce,Nat.zero_shiftLeft] at ho5;have HO5:Hid ((Zdw S.C.ahead).Own 141 w.heap.size (World.setCells (wr.alloc (.cells #[.int .i64 (S.C.th:Int),.int .i64 (kr:Int),.string ⟨xloc.toArray⟩,.string ⟨([]:List UInt8).toArray⟩,.int .i64 xvn] 94 (0,0))) q1 (kr*4) [.int .i64 1,.int .i64 xvn,.string ⟨#[]⟩,.int .u64 0]) s.v (L.set kr ⟨.num xvn,0⟩)):=Zh ho5;have HG5:=Zh (Zal HG4.o (fun e=>HNE.o (by rw [e])) [.int .i64 1,.int .i64 xvn,.string ⟨#[]⟩,.int .u64 0] (kr*4));have HT5:=Zh (Zal HT4.o (fun e=>HNT.o (by rw [e])) [.int .i64 1,.int .i64 xvn,.string ⟨#[]⟩,.int .u64 0] (kr*4));have HQ5:=Zh (Zal HQ4.o (fun e=>HNQ.o (by rw [e])) [.int .i64 1,.int .i64 xvn,.string ⟨#[]⟩,.int .u64 0] (kr*4));have HB5:=Zh (Zam HB4.o hq1 [.int .i64 1,.int .i64 xvn,.string ⟨#[]⟩,.int .u64 0] (kr*4));clear ho5 HO4 HG4 HT4 HQ4 HB4 HTE HOB HSV k13 hq1 HNE HNT HNQ;generalize hW5:(World.setCells _ _ _ _:World)=W5 at *;clear hW5
        go_wp2_with fail
        go_roundw
        case rel=>exact⟨i+1,ω,by first | go_num | omega,L.set kr ⟨.num xvn,0⟩,by rw [HNX.o,HIS.o],by rw [List.length_set];exact hlen,HO5.o,HG5.o,HT5.o,HQ5.o,HB5.o⟩
        case measure=>simp [intOf];omega
       ·have hve:xvl.isEmpty=false:=by simpa using hvl
        have HIS:=Zh (show Zkv S.C.th L ⟨(S.C.th:Int),(kr:Int),xloc,xvl,xvn⟩=L.set kr ⟨.adr xvl,0⟩ by
         unfold Zkv;rw [if_pos rfl,show Zxe ⟨(S.C.th:Int),(kr:Int),xloc,xvl,xvn⟩=⟨.adr xvl,0⟩ by unfold Zxe;rw [if_neg hvl]];rfl)
        go_wp2_with ((with_reducible refine Zat ?_);refine wpList_store_mid rfl _ _ _ rfl q1 (kr*4) #[.int .i64 2,.int .i64 0,.string ⟨xvl.toArray⟩,.int .u64 0] rfl rfl HTE.o κ κ ?_;refine Hid.o ?_)
        refine Zh ?_;have ho5:=Zjh HO4.o HOB.o hkl ⟨.adr xvl,0⟩;simp only [Za2,Zcf,Zce,Nat.zero_shiftLeft] at ho5;have HO5:Hid ((Zdw S.C.ahead).Own 141 w.heap.size (World.setCells (wr.alloc (.cells #[.int .i64 (S.C.th:Int),.int .i64 (kr:Int),.string ⟨xloc.toArray⟩,.string ⟨xvl.toArray⟩,.int .i64 xvn] 94 (0,0))) q1 (kr*4) [.int .i64 2,.int .i64 0,.string ⟨xvl.toArray⟩,.int .u64 0]) s.v (L.set kr ⟨.adr xvl,0⟩)):=Zh ho5;have HG5:=Zh (Zal HG4.o (fun e=>HNE.o (by rw [e])) [.int .i64 2,.int .i64 0,.string ⟨xvl.toArray⟩,.int .u64 0] (kr*4));have HT5:=Zh (Zal HT4.o (fun e=>HNT.o (by rw [e])) [.int .i64 2,.int .i64 0,.string ⟨xvl.toArray⟩,.int .u64 0] (kr*4));have HQ5:=Zh (Zal HQ4.o (fun e=>HNQ.o (by rw [e])) [.int .i64 2,.int .i64 0,.string ⟨xvl.toArray⟩,.int .u64 0] (kr*4));have HB5:=Zh (Zam HB4.o hq1 [.int .i64 2,.int .i64 0,.string ⟨xvl.toArray⟩,.int .u64 0] (kr*4));clear ho5 HO4 HG4 HT4 HQ4 HB4 HTE HOB HSV k13 hq1 HNE HNT HNQ;generalize hW5:(World.setCells _ _ _ _:World)=W5 at *;clear hW5
        go_wp2_with fail
        go_roundw
        case rel=>exact⟨i+1,ω,by first | go_num | omega,L.set kr ⟨.adr xvl,0⟩,by rw [HNX.o,HIS.o],by rw [List.length_set];exact hlen,HO5.o,HG5.o,HT5.o,HQ5.o,HB5.o⟩
        case measure=>simp [intOf];omega
      ·have HIS:=Zh (show Zkv S.C.th L ⟨xth,xrg,xloc,xvl,xvn⟩=L from if_neg hth);clear hini
       go_wp2_with fail
       go_roundw
       case rel=>exact⟨i+1,ω,by first | go_num | omega,L,by rw [HNX.o,HIS.o],hlen,HO4.o,HG4.o,HT4.o,HQ4.o,HB4.o⟩
       case measure=>simp [intOf];omega
     ·have hie:i=S.T.init.length:=ω;subst hie
      have HU:Hid (Zb2 w wr B W.heap.size (w.heap.size+1+1) S (rn0 S.C.risc S.T.init S.C.th) false { V with rg:=s }):=Zh ⟨by
       have e:(rn0 S.C.risc S.T.init S.C.th)={ rnE with regs:=L }:=by
        unfold rn0 Z0c;rw [HN.o,HL.o,List.take_length]
       rw [e]
       exact (HR.o.below HB3.o).rgG (Zfb HO3.o HR.o.hB),Zbf.of_below HB3.o HR.o.hB,HR.o.hB,HG3.o,⟨_,HQ3.o,rfl⟩,ω,ω,ω⟩
      obtain⟨z,hz,hzs⟩:=HU.o.out;clear HL HO3 HG3 HT3 HQ3 HB3
      go_wp2_with (first | ((with_reducible refine Zat ?_);refine Zaz 137 7 W.heap.size rfl rfl HU.o.blk Tryz.underlying137 rfl κ rfl ?_) | ((with_reducible refine Zat ?_);refine Zar 137 6 74 (w.heap.size+1+1) rfl rfl rfl hz (by exact hzs) κ (Zbk _ _ _ _) rfl rfl ?_))
      refine Zbv 137 6 (w.heap.size+1+1) rfl (hz.row _) Tryz.underlying137 rfl κ rfl rfl ?_;exact HU.o.ret
end
section
theorem Zw3 {K:Act->World->Prop}{F:Nat->Nat->World->Prop}{A:Nat->Nat->Act}{G:Prop}(h1:(∀ la lb W3,F la lb W3->K (A la lb) W3)->G)(h2:∀ la lb W3,F la lb W3->K (A la lb) W3):G:=h1 h2
theorem Zcj.keep {w w':World}{A:Option Addr}{c:List Ins}{B:Nat}(h:Zcj w A c)(hA:c≠[]->∀ p,A=some p->p.block<B)(hb:Below B w w'):Zcj w' A c:=fun i x hx=>by
 obtain⟨b,o,e,h0,h1,h2,h3,h4,h5,h6,h7,h8,h9⟩:=h i x hx;have hB:b<B:=hA (fun e0=>by rw [e0] at hx;simp at hx) _ e;have k:∀ {n v},w.cell? ⟨b,n,none⟩=some v->w'.cell? ⟨b,n,none⟩=some v:=fun {n v} hv=>Zer hv hb hB
 exact⟨b,o,e,k h0,k h1,k h2,k h3,k h4,k h5,k h6,k h7,h8,h9⟩
def Zia (B:Nat)(S:RrS)(o:Option (Rn×Nat))(k m:Nat)(w:World)(e:Ending)(w':World):Prop:=∃ r1 fl V n,e=.returned (.tuple #[rrV S r1 fl V,.int .i64 ((n:Nat):Int)])/\Zba w' B S r1 V/\Zbf B w w'/\k<n/\n<=m/\((fl=false/\o=some (r1,n))\/(fl=true/\o=none/\r1.full=false))
theorem Zia.of {B g q n k m:Nat}{S:RrS}{o:Option (Rn×Nat)}{w W:World}{r1:Rn}{fl:Bool}{V:RrV}(h:Zb2 w W B g q S r1 fl V)(h1:k<n)(h2:n<=m)(hg:(fl=false/\o=some (r1,n))\/(fl=true/\o=none/\r1.full=false)):Zia B S o k m w (.returned (.tuple #[.agg (rrC S r1 fl V),.int .i64 ((n:Nat):Int)])) (W.setRow q (rrC S r1 fl V)):=by
 obtain⟨z,hz,_⟩:=h.out;exact⟨r1,fl,V,n,rfl,h.ref.row hz _,h.keep.row h.hB h.hq _,h1,h2,hg⟩
set_option maxHeartbeats 4000000
set_option maxRecDepth 100000
theorem Z1h (B:Nat)(S:RrS)(r:Rn)(V:RrV)(nr k:Nat)(hI:Inv S.C nr k r)(hfl:r.full=false)(c:List Ins)(Ac:Option Addr)(cc:Nat)(at_:Nat)(op imm fence:Int)(d a b:Nat)(loc label:List UInt8)(w:World)(hc:Zcj w Ac c)(hcB:c≠[]->∀ p,Ac=some p->p.block<B)(hcl:c.length<=256)(_hcc:c.length<=cc)(hx:c[at_]?=some ⟨op,d,a,b,imm,loc,label,fence⟩)
  (hlab:Zhp c at_ ⟨op,d,a,b,imm,loc,label,fence⟩<c.length) (xa xb:Rg) (hxa:r.regs[a]?=some xa) (hxb:r.regs[b]?=some xb) (hra:Zid S.C r.evs xa) (hrb:Zid S.C r.evs xb) (hR:Zba w B S r V) :
  Calls Tryz.prog 91 #[rrV S r false V,.slice Ac c.length cc,.int .i64 (at_:Int),.int .i64 ((Zhp c at_ ⟨op,d,a,b,imm,loc,label,fence⟩:Nat):Int)] w (Zia B S (brL r c at_ ⟨op,d,a,b,imm,loc,label,fence⟩) at_ c.length w):=by
 have HR:=Zh hR;have hal:=(List.getElem?_eq_some_iff.1 hxa).1;have hbl:=(List.getElem?_eq_some_iff.1 hxb).1;have hkl:=(List.getElem?_eq_some_iff.1 hx).1;obtain⟨bc,oc,rfl,_,_,m2,m3,_,_,_,_,_⟩:=hc at_ _ hx;simp only at m2 m3;obtain⟨L,hL⟩:∃ L,Zhp c at_ ⟨op,d,a,b,imm,loc,label,fence⟩=L:=⟨_,rfl⟩;rw [hL] at hlab ⊢;have HBW0:=Zh (Below.refl w.heap.size w);have HINS:=Zh (fun W r1 fl V1 (h:Zb2 w W B w.heap.size (w.heap.size+1) S r1 fl V1)=>hc.keep hcB h.keep.below);obtain⟨cR,hcR⟩:∃ cR,cR=rrC S r false V:=⟨_,rfl⟩;rw [show rrV S r false V=.agg cR by rw [hcR]];have HC:=Zh hcR;clear hcR;go_enter Tryz.func91,Tryz.ntmps91;apply wp_seq_k;intro K hK;have HK:=Zh hK;clear hK
 go_wp2_with fail
 refine Z31 (P:=fun X=>K _ X) w _ _ _ _ ?_;intro W b0 b2 hz hbW;refine HK.o _ _ ?_;clear HK K;rw [HC.o] at b0;have HU:Hid (Zb2 w W B w.heap.size (w.heap.size+1) S r false V):=Zh ⟨HR.o.below hbW,Zbf.of_below hbW HR.o.hB,HR.o.hB,b0,⟨_,b2,rfl⟩,Nat.le_refl _,ω,ω⟩;have hzW:w.heap.size<W.heap.size:=ω;have hzW1:w.heap.size+1<W.heap.size:=ω;have HBW:=Zh hbW;clear b0 b2 hbW hz HC;obtain⟨q0,cp,hvr,hat⟩:=HU.o.ref.rgAt (show 0<r.regs.length by omega);have k13:W.cell? ⟨w.heap.size,13,none⟩=some (.slice (some ⟨q0,0,none⟩) r.regs.length cp):=by rw [<- hvr];exact HU.o.blk.cell 13
 have m2:=Zac m2 HBW.o;have m3:=Zac m3 HBW.o;have HSS:=Zh (show ∀ y,Below W.heap.size W y->(fun y:World=>Zb2 w y B w.heap.size (w.heap.size+1) S r false V/\(Zdw S.C.ahead).At y (some ⟨q0,0,none⟩) r.regs/\y.cell? ⟨w.heap.size,13,none⟩=some (.slice (some ⟨q0,0,none⟩) r.regs.length cp)/\y.cell? ⟨bc,oc+at_*8+2,none⟩=some (.int .i64 (a:Int))/\y.cell? ⟨bc,oc+at_*8+3,none⟩=some (.int .i64 (b:Int))/\Below W.heap.size W y) y from fun y hb=>⟨HU.o.below hb,hat.below hb,Zac k13 hb,Zac m2 hb,Zac m3 hb,hb⟩);have hi1:(0:Int)<=(a:Int):=ω;have hi2:(a:Int)<(r.regs.length:Int):=ω;have hi3:(0:Int)<=(b:Int):=ω;have hi4:(b:Int)<(r.regs.length:Int):=ω;have hi5:(0:Int)<=(at_:Int):=ω;have hi6:(at_:Int)<(c.length:Int):=ω;clear hat hvr HR hR k13 m2 m3;apply wp_seq_k;intro K hK;have HK:=Zh hK;clear hK;apply Zw3 (K:=K) (F:=fun la lb W3=>Zb2 w W3 B w.heap.size (w.heap.size+1) S r false V/\Blk W3 la 141 #[.int .i64 (Za2 xa.h),.int .i64 (Zcf S.C.ahead xa.h),.string ⟨(Zce xa.h).toArray⟩,.int .u64 ((xa.on<<<S.C.ahead:Nat):Int)]/\Blk W3 lb 141 #[.int .i64 (Za2 xb.h),.int .i64 (Zcf S.C.ahead xb.h),.string ⟨(Zce xb.h).toArray⟩,.int .u64 ((xb.on<<<S.C.ahead:Nat):Int)]/\la≠lb/\w.heap.size+1<la/\w.heap.size+1<lb)
 ·intro HM;have HM:=Zh HM;refine wz (fun y:World=>Zb2 w y B w.heap.size (w.heap.size+1) S r false V/\(Zdw S.C.ahead).At y (some ⟨q0,0,none⟩) r.regs/\y.cell? ⟨w.heap.size,13,none⟩=some (.slice (some ⟨q0,0,none⟩) r.regs.length cp)/\y.cell? ⟨bc,oc+at_*8+2,none⟩=some (.int .i64 (a:Int))/\y.cell? ⟨bc,oc+at_*8+3,none⟩=some (.int .i64 (b:Int))/\Below W.heap.size W y) [1,6,8,10,15,16,17,18,19,20] (HSS.o _ (Below.refl _ _).drew) (fun hHeld=>?_);refine wq 0 ?_;refine wq 2 ?_;refine wq 3 ?_;refine wq 4 ?_;refine wq 5 ?_;refine wq 9 ?_;refine wq 11 ?_;refine wq 12 ?_;refine wq 13 ?_;refine wq 14 ?_;refine wt 1 (by assumption) ?_;refine wt 6 (by assumption) ?_;refine wq 7 ?_;refine wv 8 ((Za6 S.C.ahead xa)) rfl (fun x' hS=>Zay rfl rfl (Zdx hS.2.1 hxa)) (by assumption) ?_;refine wt 10 (by assumption) ?_;refine wt 15 (by assumption) ?_;refine wt 16 (by assumption) ?_;refine wv 17 ((Za6 S.C.ahead xb)) rfl (fun x' hS=>Zay rfl rfl (Zdx hS.2.1 hxb)) (by assumption) ?_;clear hHeld;refine Zcq (i:=18) (j:=19) κ rfl rfl (fun K hK=>?_) (fun K hK=>?_)
  ·go_simp;refine hK.out _ _ (HSS.o _ (by repeat (first | exact Below.refl _ _ | exact Below.refl _ _ | with_reducible refine Below.drew ?_ | with_reducible refine Zaa ?_ _))) ?_;clear hK K;refine pu ?_;refine Zan (i:=19) κ rfl (fun K hK=>?_);go_simp;refine hK.out _ _ (HSS.o _ (by repeat (first | exact Below.refl _ _ | exact Below.refl _ _ | with_reducible refine Below.drew ?_ | with_reducible refine Zaa ?_ _))) ?_;clear hK K;refine pu ?_;generalize hW2:(World.drew (World.alloc _ _))=W2;have BA:Hid (Blk W2 W.heap.size 141 #[.int .i64 0,.int .i64 0,.string ⟨#[]⟩,.int .u64 0]):=by rw [<- hW2];exact Zh (((Blk.new W 141 #[.int .i64 0,.int .i64 0,.string ⟨#[]⟩,.int .u64 0]).alloc _).drew)
   have BB:Hid (Blk W2 (W.heap.size+1) 141 #[.int .i64 0,.int .i64 0,.string ⟨#[]⟩,.int .u64 0]):=by rw [<- hW2];exact Zh ((Zd9 W _ 141 #[.int .i64 0,.int .i64 0,.string ⟨#[]⟩,.int .u64 0]).drew)
   have HW2:Hid (Below W.heap.size W W2):=by rw [<- hW2];exact Zh ((by repeat (first | exact Below.refl _ _ | exact Below.refl _ _ | with_reducible refine Below.drew ?_ | with_reducible refine Zaa ?_ _)))
   clear hW2;refine Zan (i:=20) κ rfl (fun K hK=>?_);rw [if_pos κ];refine Zi0 141 10 23 (W.heap.size) rfl rfl BA.out (by rfl) κ κ rfl rfl ?_;have hw3:=below_setRow HW2.o (show W.heap.size<=W.heap.size by omega) #[.int .i64 (Za2 xa.h),.int .i64 (Zcf S.C.ahead xa.h),.string ⟨(Zce xa.h).toArray⟩,.int .u64 ((xa.on<<<S.C.ahead:Nat):Int)];refine hK.out _ _ (HSS.o _ hw3) ?_;clear hK K;refine pu ?_;refine wl 21 ?_;refine Zar 141 11 32 ((W.heap.size+1)) rfl rfl rfl (BB.out.farRow (show (W.heap.size+1)≠W.heap.size by omega) _) (by rfl) κ κ rfl rfl ?_;have hw4:=below_setRow hw3 (show W.heap.size<=(W.heap.size+1) by omega) #[.int .i64 (Za2 xb.h),.int .i64 (Zcf S.C.ahead xb.h),.string ⟨(Zce xb.h).toArray⟩,.int .u64 ((xb.on<<<S.C.ahead:Nat):Int)]
   have hF:Zb2 w ((W2.setRow (W.heap.size) #[.int .i64 (Za2 xa.h),.int .i64 (Zcf S.C.ahead xa.h),.string ⟨(Zce xa.h).toArray⟩,.int .u64 ((xa.on<<<S.C.ahead:Nat):Int)]).setRow ((W.heap.size+1)) #[.int .i64 (Za2 xb.h),.int .i64 (Zcf S.C.ahead xb.h),.string ⟨(Zce xb.h).toArray⟩,.int .u64 ((xb.on<<<S.C.ahead:Nat):Int)]) B w.heap.size (w.heap.size+1) S r false V/\Blk ((W2.setRow (W.heap.size) #[.int .i64 (Za2 xa.h),.int .i64 (Zcf S.C.ahead xa.h),.string ⟨(Zce xa.h).toArray⟩,.int .u64 ((xa.on<<<S.C.ahead:Nat):Int)]).setRow ((W.heap.size+1)) #[.int .i64 (Za2 xb.h),.int .i64 (Zcf S.C.ahead xb.h),.string ⟨(Zce xb.h).toArray⟩,.int .u64 ((xb.on<<<S.C.ahead:Nat):Int)]) (W.heap.size) 141 #[.int .i64 (Za2 xa.h),.int .i64 (Zcf S.C.ahead xa.h),.string ⟨(Zce xa.h).toArray⟩,.int .u64 ((xa.on<<<S.C.ahead:Nat):Int)]/\Blk ((W2.setRow (W.heap.size) #[.int .i64 (Za2 xa.h),.int .i64 (Zcf S.C.ahead xa.h),.string ⟨(Zce xa.h).toArray⟩,.int .u64 ((xa.on<<<S.C.ahead:Nat):Int)]).setRow ((W.heap.size+1)) #[.int .i64 (Za2 xb.h),.int .i64 (Zcf S.C.ahead xb.h),.string ⟨(Zce xb.h).toArray⟩,.int .u64 ((xb.on<<<S.C.ahead:Nat):Int)]) ((W.heap.size+1)) 141 #[.int .i64 (Za2 xb.h),.int .i64 (Zcf S.C.ahead xb.h),.string ⟨(Zce xb.h).toArray⟩,.int .u64 ((xb.on<<<S.C.ahead:Nat):Int)]/\W.heap.size≠(W.heap.size+1)/\w.heap.size+1<W.heap.size/\w.heap.size+1<(W.heap.size+1):=⟨HU.o.below hw4,(BA.out.row _).farRow ω _,(BB.out.farRow ω _).row _,ω,ω,ω⟩
   clear hw3 hw4 BA BB HW2;generalize ((W2.setRow (W.heap.size) #[.int .i64 (Za2 xa.h),.int .i64 (Zcf S.C.ahead xa.h),.string ⟨(Zce xa.h).toArray⟩,.int .u64 ((xa.on<<<S.C.ahead:Nat):Int)]).setRow ((W.heap.size+1)) #[.int .i64 (Za2 xb.h),.int .i64 (Zcf S.C.ahead xb.h),.string ⟨(Zce xb.h).toArray⟩,.int .u64 ((xb.on<<<S.C.ahead:Nat):Int)])=W3 at hF ⊢;generalize W.heap.size+1=l1 at hF ⊢;generalize W.heap.size=l2 at hF ⊢;exact wpList_nil (HM.o _ _ _ hF)
  ·go_simp;refine hK.out _ _ (HSS.o _ (by repeat (first | exact Below.refl _ _ | exact Below.refl _ _ | with_reducible refine Below.drew ?_ | with_reducible refine Zaa ?_ _))) ?_;clear hK K;refine pu ?_;refine Zan (i:=18) κ rfl (fun K hK=>?_);go_simp;refine hK.out _ _ (HSS.o _ (by repeat (first | exact Below.refl _ _ | exact Below.refl _ _ | with_reducible refine Below.drew ?_ | with_reducible refine Zaa ?_ _))) ?_;clear hK K;refine pu ?_;generalize hW2:(World.drew (World.alloc _ _))=W2;have BA:Hid (Blk W2 (W.heap.size+1) 141 #[.int .i64 0,.int .i64 0,.string ⟨#[]⟩,.int .u64 0]):=by rw [<- hW2];exact Zh ((Zd9 W _ 141 #[.int .i64 0,.int .i64 0,.string ⟨#[]⟩,.int .u64 0]).drew)
   have BB:Hid (Blk W2 W.heap.size 141 #[.int .i64 0,.int .i64 0,.string ⟨#[]⟩,.int .u64 0]):=by rw [<- hW2];exact Zh (((Blk.new W 141 #[.int .i64 0,.int .i64 0,.string ⟨#[]⟩,.int .u64 0]).alloc _).drew)
   have HW2:Hid (Below W.heap.size W W2):=by rw [<- hW2];exact Zh ((by repeat (first | exact Below.refl _ _ | exact Below.refl _ _ | with_reducible refine Below.drew ?_ | with_reducible refine Zaa ?_ _)))
   clear hW2;refine Zan (i:=20) κ rfl (fun K hK=>?_);rw [if_pos κ];refine Zi0 141 10 23 ((W.heap.size+1)) rfl rfl BA.out (by rfl) κ κ rfl rfl ?_;have hw3:=below_setRow HW2.o (show W.heap.size<=(W.heap.size+1) by omega) #[.int .i64 (Za2 xa.h),.int .i64 (Zcf S.C.ahead xa.h),.string ⟨(Zce xa.h).toArray⟩,.int .u64 ((xa.on<<<S.C.ahead:Nat):Int)];refine hK.out _ _ (HSS.o _ hw3) ?_;clear hK K;refine pu ?_;refine wl 21 ?_;refine Zar 141 11 32 (W.heap.size) rfl rfl rfl (BB.out.farRow (show W.heap.size≠(W.heap.size+1) by omega) _) (by rfl) κ κ rfl rfl ?_;have hw4:=below_setRow hw3 (show W.heap.size<=W.heap.size by omega) #[.int .i64 (Za2 xb.h),.int .i64 (Zcf S.C.ahead xb.h),.string ⟨(Zce xb.h).toArray⟩,.int .u64 ((xb.on<<<S.C.ahead:Nat):Int)]
   have hF:Zb2 w ((W2.setRow ((W.heap.size+1)) #[.int .i64 (Za2 xa.h),.int .i64 (Zcf S.C.ahead xa.h),.string ⟨(Zce xa.h).toArray⟩,.int .u64 ((xa.on<<<S.C.ahead:Nat):Int)]).setRow (W.heap.size) #[.int .i64 (Za2 xb.h),.int .i64 (Zcf S.C.ahead xb.h),.string ⟨(Zce xb.h).toArray⟩,.int .u64 ((xb.on<<<S.C.ahead:Nat):Int)]) B w.heap.size (w.heap.size+1) S r false V/\Blk ((W2.setRow ((W.heap.size+1)) #[.int .i64 (Za2 xa.h),.int .i64 (Zcf S.C.ahead xa.h),.string ⟨(Zce xa.h).toArray⟩,.int .u64 ((xa.on<<<S.C.ahead:Nat):Int)]).setRow (W.heap.size) #[.int .i64 (Za2 xb.h),.int .i64 (Zcf S.C.ahead xb.h),.string ⟨(Zce xb.h).toArray⟩,.int .u64 ((xb.on<<<S.C.ahead:Nat):Int)]) ((W.heap.size+1)) 141 #[.int .i64 (Za2 xa.h),.int .i64 (Zcf S.C.ahead xa.h),.string ⟨(Zce xa.h).toArray⟩,.int .u64 ((xa.on<<<S.C.ahead:Nat):Int)]/\Blk ((W2.setRow ((W.heap.size+1)) #[.int .i64 (Za2 xa.h),.int .i64 (Zcf S.C.ahead xa.h),.string ⟨(Zce xa.h).toArray⟩,.int .u64 ((xa.on<<<S.C.ahead:Nat):Int)]).setRow (W.heap.size) #[.int .i64 (Za2 xb.h),.int .i64 (Zcf S.C.ahead xb.h),.string ⟨(Zce xb.h).toArray⟩,.int .u64 ((xb.on<<<S.C.ahead:Nat):Int)]) (W.heap.size) 141 #[.int .i64 (Za2 xb.h),.int .i64 (Zcf S.C.ahead xb.h),.string ⟨(Zce xb.h).toArray⟩,.int .u64 ((xb.on<<<S.C.ahead:Nat):Int)]/\(W.heap.size+1)≠W.heap.size/\w.heap.size+1<(W.heap.size+1)/\w.heap.size+1<W.heap.size:=⟨HU.o.below hw4,(BA.out.row _).farRow ω _,(BB.out.farRow ω _).row _,ω,ω,ω⟩
   clear hw3 hw4 BA BB HW2;generalize ((W2.setRow ((W.heap.size+1)) #[.int .i64 (Za2 xa.h),.int .i64 (Zcf S.C.ahead xa.h),.string ⟨(Zce xa.h).toArray⟩,.int .u64 ((xa.on<<<S.C.ahead:Nat):Int)]).setRow (W.heap.size) #[.int .i64 (Za2 xb.h),.int .i64 (Zcf S.C.ahead xb.h),.string ⟨(Zce xb.h).toArray⟩,.int .u64 ((xb.on<<<S.C.ahead:Nat):Int)])=W3 at hF ⊢;generalize W.heap.size+1=l1 at hF ⊢;generalize W.heap.size=l2 at hF ⊢;exact wpList_nil (HM.o _ _ _ hF)
 ·intro la lb W3 ⟨hU,hA,hB,hne,hla,hlb⟩;refine HK.o _ _ ?_;clear HK K HSS HU HBW;obtain⟨ca,hca⟩:∃ A,r.ctrl<<<S.C.ahead=A:=⟨_,rfl⟩;obtain⟨oa,hoa⟩:∃ A,xa.on<<<S.C.ahead=A:=⟨_,rfl⟩;obtain⟨ob,hob⟩:∃ A,xb.on<<<S.C.ahead=A:=⟨_,rfl⟩;obtain⟨cb,hcb⟩:∃ A,(r.ctrl|||xa.on)<<<S.C.ahead=A:=⟨_,rfl⟩;obtain⟨cc2,hcc2⟩:∃ A,(r.ctrl|||xa.on|||xb.on)<<<S.C.ahead=A:=⟨_,rfl⟩;have room:=hI.room;have o1:bits .or .u64 ((ca:Nat):Int) ((oa:Nat):Int)=((cb:Nat):Int):=by
   rw [<- hca,<- hoa,<- hcb,Zcw (Zh1 hI.ctrl.lt room) (Zh1 hra.2.lt room),Zh2]
  have o2:bits .or .u64 ((cb:Nat):Int) ((ob:Nat):Int)=((cc2:Nat):Int):=by
   rw [<- hcb,<- hob,<- hcc2,Zcw (Zh1 (hI.ctrl.or hra.2).lt room) (Zh1 hrb.2.lt room)];exact congrArg _ (Zh2 _ _ _).symm
  have g14:W3.cell? ⟨w.heap.size,14,none⟩=some (.int .u64 ((ca:Nat):Int)):=by rw [<- hca];exact hU.blk.cell 14
  have f14:=hU.blk.frozen 14;have a3:W3.cell? ⟨la,3,none⟩=some (.int .u64 ((oa:Nat):Int)):=by rw [<- hoa];exact hA.cell 3
  have b3:W3.cell? ⟨lb,3,none⟩=some (.int .u64 ((ob:Nat):Int)):=by rw [<- hob];exact hB.cell 3
  have hu4:=hU.ctrl (r.ctrl|||xa.on|||xb.on);rw [hcc2] at hu4;have HA:=Zh (hA.far (p:=⟨w.heap.size,14,none⟩) (show la≠w.heap.size by omega) (.int .u64 ((cc2:Nat):Int)));have HB:=Zh (hB.far (p:=⟨w.heap.size,14,none⟩) (show lb≠w.heap.size by omega) (.int .u64 ((cc2:Nat):Int)));have HU:=Zh hu4;have HLE:=Zh (fun w=>Z5d S.C.ahead xa xb w);have ea:rgA r (a:Int)=xa:=by unfold rgA;rw [Int.toNat_natCast,hxa];rfl
  have eb:rgA r (b:Int)=xb:=by unfold rgA;rw [Int.toNat_natCast,hxb];rfl
  have HBR:=Zh (show brL r c at_ ⟨op,d,a,b,imm,loc,label,fence⟩=if Zbz xa.h||Zbz xb.h then (if ((c.take L).drop (at_+1)).any (fun y=>decide (y.op≠12)) then none else some ({ r with ctrl:=r.ctrl|||xa.on|||xb.on },at_+1)) else some ({ r with ctrl:=r.ctrl|||xa.on|||xb.on },if Zap xa.h xb.h then L else at_+1) by
   unfold brL
   simp only [ea,eb,hL])
  generalize hr1:({ r with ctrl:=r.ctrl|||xa.on|||xb.on }:Rn)=r1 at *;have hfl1:r1.full=false:=by rw [<- hr1];exact hfl
  have hlab1:at_<L:=by rw [<- hL];unfold Zhp;omega
  clear hr1 hU hA hB hu4 hca hoa hob hcb hcc2 hI hra hrb ea eb hxa hxb
  repeat (first | ((with_reducible refine Zat ?_);refine Zaz 141 10 la rfl rfl HA.o Tryz.underlying141 rfl κ rfl ?_) | ((with_reducible refine Zat ?_);refine Zaz 141 11 lb rfl rfl HB.o Tryz.underlying141 rfl κ rfl ?_) | (go_at_call 137;refine Hid.o ?_) | go_step)
  refine Zh ?_;refine (HLE.o _).mono ?_;rintro e w5 ⟨v,he,hv,hb5⟩;have HU5:=Zh (HU.o.below hb5);obtain⟨z,hz,hzs⟩:=HU5.o.out;clear HU HA HB HLE o1 o2 g14 f14 a3 b3 hb5;obtain⟨ko,hko⟩:∃ x,(Zbz xa.h||Zbz xb.h)=x:=⟨_,rfl⟩;rw [hko] at he hv;have HKO:=Zh hko;rw [hko] at HBR;clear hko;cases ko with
  | false=>
   have HVL:=Zh (hv rfl);clear hv;subst he;cases v with
   | true=>
    dsimp only [Bool.not_false]
    repeat (first | ((with_reducible refine Zat ?_);refine Zaz 137 4 w.heap.size rfl rfl HU5.o.blk Tryz.underlying137 rfl κ rfl ?_) | ((with_reducible refine Zat ?_);refine Zar 137 8 52 (w.heap.size+1) rfl rfl rfl hz (by exact hzs) κ (Zbk _ _ _ _) rfl rfl ?_) | go_step)
    refine Zgv 137 8 (w.heap.size+1) 9 rfl (hz.row _) Tryz.underlying137 rfl κ rfl rfl rfl ?_;exact Zia.of (n:=L) (HU5.o) ω ω (Or.inl ⟨rfl,by rw [HBR.o,<- HVL.o];rfl⟩)
   | false=>
    dsimp only [Bool.not_false];have HO:=Zh (show brL r c at_ ⟨op,d,a,b,imm,loc,label,fence⟩=some (r1,at_+1) by rw [HBR.o,<- HVL.o];rfl);clear hz hzs
    go_wp2_with fail
    go_loopw [14] (fun x wr=>x=.int .i64 ((at_:Int)+1)/\Zb2 w wr B w.heap.size (w.heap.size+1) S r1 false V) (fun _ _=>0)
    case atStart=>exact⟨by go_num,HU5.o⟩
    case round=>
     obtain⟨rfl,hu⟩:=hrel;have HU6:=Zh hu;obtain⟨z,hz,hzs⟩:=hu.out;clear hu HU5
     go_wp2_with (first | ((with_reducible refine Zat ?_);refine Zaz 137 4 w.heap.size rfl rfl HU6.o.blk Tryz.underlying137 rfl κ rfl ?_) | ((with_reducible refine Zat ?_);refine Zar 137 8 72 (w.heap.size+1) rfl rfl rfl hz (by exact hzs) κ (Zbk _ _ _ _) rfl rfl ?_))
     all_goals
      refine Zgv 137 8 (w.heap.size+1) 9 rfl (hz.row _) Tryz.underlying137 rfl κ rfl rfl rfl ?_;exact Zia.of (n:=at_+1) (HU6.o) ω ω (Or.inl ⟨rfl,HO.o⟩)
  | true=>
   clear hv;subst he;dsimp only [Bool.not_true];clear hz hzs
   go_wp2_with fail
   go_loopw [14] (fun x wr=>∃ (j:Nat) (fl:Bool),at_+1<=j/\j<=L/\x=.int .i64 (j:Int)/\fl=((c.take j).drop (at_+1)).any (fun y=>decide (y.op≠12))/\Zb2 w wr B w.heap.size (w.heap.size+1) S r1 fl V) (fun x _=>L - (intOf x).toNat)
   case atStart=>exact⟨at_+1,false,ω,ω,by go_num,by rw [List.drop_eq_nil_of_le (by rw [List.length_take];omega)];rfl,HU5.o⟩
   case round=>
    obtain⟨j,fl,hj1,hj2,rfl,hf,hu⟩:=hrel;have HF:=Zh hf;have HU6:=Zh hu;obtain⟨z,hz,hzs⟩:=hu.out;clear hu hf HU5;by_cases hlt:j<L
    ·have hjl:(j:Int)<(L:Int):=ω;have hjc:(j:Int)<(c.length:Int):=ω;have hj0:(0:Int)<=(j:Int):=ω;obtain⟨y,hy⟩:∃ y,c[j]?=some y:=⟨_,List.getElem?_eq_getElem ω⟩;have hins:=HINS.o _ _ _ _ HU6.o;obtain⟨b',o',e',m0,_⟩:=hins j y hy;simp only [Option.some.injEq,Addr.mk.injEq,and_true] at e';obtain⟨rfl,rfl⟩:=e'
     have HN:=Zh (show ((c.take (j+1)).drop (at_+1)).any (fun y=>decide (y.op≠12))=(fl||decide (y.op≠12)) by
      rw [List.take_add_one,hy,List.drop_append_of_le_length (by rw [List.length_take];omega),List.any_append,<- HF.o]
      simp only [Option.toList_some,List.any_cons,List.any_nil,Bool.or_false])
     have f24:=HU6.o.blk.frozen 24;have k24:=HU6.o.blk.cm 24;have HU7:=Zh HU6.o.flow;clear hins hy hz hzs;by_cases h12:y.op=12
     ·have hn:fl=((c.take (j+1)).drop (at_+1)).any (fun y=>decide (y.op≠12)):=by rw [HN.o,h12];simp
      have HNN:=Zh hn;clear hn
      go_wp2_with fail
      go_roundw
      case rel=>exact⟨j+1,fl,ω,ω,by go_num,HNN.o,HU6.o⟩
      case measure=>exact msr
     ·have hn:true=((c.take (j+1)).drop (at_+1)).any (fun y=>decide (y.op≠12)):=by rw [HN.o];simp [h12]
      have HNN:=Zh hn;clear hn
      go_wp2_with fail
      go_roundw
      case rel=>exact⟨j+1,true,ω,ω,by go_num,HNN.o,HU7.o⟩
      case measure=>exact msr
    ·have hjL:j=L:=ω;subst hjL
     go_wp2_with (first | ((with_reducible refine Zat ?_);refine Zaz 137 4 w.heap.size rfl rfl HU6.o.blk Tryz.underlying137 rfl κ rfl ?_) | ((with_reducible refine Zat ?_);refine Zar 137 8 72 (w.heap.size+1) rfl rfl rfl hz (by exact hzs) κ (Zbk _ _ _ _) rfl rfl ?_))
     have HO:Hid ((fl=false/\brL r c at_ ⟨op,d,a,b,imm,loc,label,fence⟩=some (r1,at_+1))\/(fl=true/\brL r c at_ ⟨op,d,a,b,imm,loc,label,fence⟩=none/\r1.full=false)):=by
      have e:=HBR.o;rw [if_pos trivial,<- HF.o] at e;cases fl with
      | true=>exact Zh (Or.inr ⟨rfl,by rw [e];rfl,hfl1⟩)
      | false=>exact Zh (Or.inl ⟨rfl,by rw [e];rfl⟩)
     all_goals
      refine Zgv 137 8 (w.heap.size+1) 9 rfl (hz.row _) Tryz.underlying137 rfl κ rfl rfl rfl ?_;exact Zia.of (n:=at_+1) (HU6.o) ω ω (HO.o)
end
section
def Zee (B:Nat)(S:RrS)(o:Option Rn)(w:World)(e:Ending)(w':World):Prop:=∃ r1 fl V,e=.returned (rrV S r1 fl V)/\Zba w' B S r1 V/\Zbf B w w'/\((fl=false/\o=some r1)\/(fl=true/\o=none/\r1.full=false))
theorem Zs8 {C:Cx}{r:Rn}{c:List Ins}{k:Nat}{x:Ins}{p:Rn×Nat}(h11:x.op≠11)(h:Zbn C r c k x=some p):p.2=k+1:=by
 unfold Zbn at h
 split at h
 ·obtain⟨a,_,rfl⟩:=Option.map_eq_some_iff.1 h;rfl
 split at h
 ·obtain⟨a,_,rfl⟩:=Option.map_eq_some_iff.1 h;rfl
 split at h
 ·simp only [Option.some.injEq] at h;subst h;rfl
 split at h
 ·simp only [Option.some.injEq] at h;subst h;rfl
 split at h
 ·simp only [Option.some.injEq] at h;subst h;rfl
 split at h
 ·simp only [Option.some.injEq] at h;subst h;rfl
 split at h
 ·obtain⟨a,_,rfl⟩:=Option.map_eq_some_iff.1 h;rfl
 split at h
 ·simp only [Option.some.injEq] at h;subst h;rfl
 simp only [Option.some.injEq] at h;subst h;rfl
theorem Zru {C:Cx}{nr k:Nat}{c:List Ins}{x:Ins}{r0 r1 r2:Rn}{fl2:Bool}(hv:Zpw C nr c k x)(h11:x.op≠11)(hI:Inv C nr k r1)(hx:c[k]?=some x)(hf:r1.full=false)(hgo:goL C c k r1=goL C c 0 r0)
  (hg:(fl2=false/\(Zbn C r1 c k x).map Prod.fst=some r2)\/(fl2=true/\(Zbn C r1 c k x).map Prod.fst=none/\r2.full=false)) :
  (fl2=false/\Inv C nr (k+1) r2/\goL C c (k+1) r2=goL C c 0 r0)\/(fl2=true/\goL C c 0 r0=none/\r2.full=false):=by
 rcases hg with ⟨h1,h2⟩ | ⟨h1,h2,h3⟩
 ·obtain⟨p,hp,rfl⟩:=Option.map_eq_some_iff.1 h2;have hn:=Zs8 h11 hp;refine Or.inl ⟨h1,?_,?_⟩
  ·rw [<- hn];exact hI.step hv hp
  ·rw [<- hgo,Zjg hx hf hp,hn]
 ·have hs:Zbn C r1 c k x=none:=by
   cases h:Zbn C r1 c k x with
   | none=>rfl
   | some p=>rw [h] at h2;cases h2
  exact Or.inr ⟨h1,by rw [<- hgo,Zjf hx hf hs],h3⟩
theorem Zwf {C:Cx}{nr k n2:Nat}{c:List Ins}{x:Ins}{r0 r1 r2:Rn}{fl2:Bool}(hv:Zpw C nr c k x)(h11:x.op=11)(hI:Inv C nr k r1)(hx:c[k]?=some x)(hf:r1.full=false)(hgo:goL C c k r1=goL C c 0 r0)
  (hg:(fl2=false/\brL r1 c k x=some (r2,n2))\/(fl2=true/\brL r1 c k x=none/\r2.full=false)) :
  (fl2=false/\Inv C nr n2 r2/\goL C c n2 r2=goL C c 0 r0)\/(fl2=true/\goL C c 0 r0=none/\r2.full=false):=by
 have e:Zbn C r1 c k x=brL r1 c k x:=by unfold Zbn;simp [h11]
 rcases hg with ⟨h1,h2⟩ | ⟨h1,h2,h3⟩
 ·rw [<- e] at h2;exact Or.inl ⟨h1,hI.step hv h2,by rw [<- hgo,Zjg hx hf h2]⟩
 ·rw [<- e] at h2;exact Or.inr ⟨h1,by rw [<- hgo,Zjf hx hf h2],h3⟩
theorem Zee.of {B:Nat}{S:RrS}{o:Option Rn}{w w':World}{e:Ending}{r1:Rn}{fl:Bool}(h:Ze1 B S r1 fl w e w')(hg:(fl=false/\o=some r1)\/(fl=true/\o=none/\r1.full=false)):Zee B S o w e w':=by
 obtain⟨V,h1,h2,h3⟩:=h;exact⟨r1,fl,V,h1,h2,h3,hg⟩
set_option maxHeartbeats 4000000
set_option maxRecDepth 100000
theorem Z9k (B:Nat)(S:RrS)(hS:Zen S)(V:RrV)(Ai Acs Ac:Option Addr)(ci ccs cc nr:Nat)(c:List Ins)(w:World)(hiv:S.iv=⟨Ai,S.T.init.length,ci⟩)(HI:Zi2 w Ai S.T.init)(hcv:S.cv=⟨Acs,S.T.code.length,ccs⟩)(hrisc:S.C.risc=decide (S.T.arch=2))(hini:∀ x∈S.T.init,x.th=(S.C.th:Int)->0<=x.rg/\x.rg<((Zdn S.C.risc:Nat):Int))(hil:S.T.init.length<=9223372036854775806)(hvr:V.rg=⟨none,0,0⟩)(hnr:nr=Zdn S.C.risc)
  (hth:S.C.th<S.T.code.length) (hcl:c.length<=256) (hcc:c.length<=cc) (bs os:Nat) (hAcs:Acs=some ⟨bs,os,none⟩) (hbs:bs<B) (hcs:w.cell? ⟨bs,os+S.C.th,none⟩=some (.slice Ac c.length cc)) (hc:Zcj w Ac c) (hcB:c≠[]->∀ p,Ac=some p->p.block<B)
  (hval:∀ (k:Nat) (x:Ins),c[k]?=some x->Zpw S.C nr c k x) (h11:∀ (k:Nat) (x:Ins),c[k]?=some x->x.op=11->S.C.risc=true) (hlnk:S.C.risc=true->(Zfi c).1=0) (hinv:Inv S.C nr 0 (rn0 S.C.risc S.T.init S.C.th)) (hR:Zba w B S rnE V) :
  Calls Tryz.prog 52 #[.agg #[.int .i64 S.T.arch,.string ⟨S.T.name.toArray⟩,.string ⟨S.T.cycle.toArray⟩,S.iv.v,S.cv.v,.int .i64 S.T.q,.int .i64 S.T.k,.int .i64 S.T.t,.int .i64 S.T.r,.string ⟨S.T.l.toArray⟩,.int .i64 S.T.v,S.kv.v],.agg #[S.lo.v,S.ini.v,V.ev.v,V.br.v,V.ad.v,V.da.v,V.ct.v,S.th.v,S.en.v],.int .i64 (S.C.th:Int)] w (Zee B S (goL S.C c 0 (rn0 S.C.risc S.T.init S.C.th)) w):=by
 have HR:=Zh hR;have HBG:=Zh (fun w hi h=>Z4j B S V Ai ci w hiv hi hrisc hini hil hvr h);obtain⟨r0,hr0⟩:∃ r0,rn0 S.C.risc S.T.init S.C.th=r0:=⟨_,rfl⟩;rw [hr0] at hinv HBG ⊢;clear hr0;have HINV:=Zh hinv;clear hinv;have HCV:=Zh hcv;have HII:=Zh HI;have HRI:=Zh hrisc;obtain⟨tc,htc⟩:∃ c,c=#[.int .i64 S.T.arch,.string ⟨S.T.name.toArray⟩,.string ⟨S.T.cycle.toArray⟩,S.iv.v,S.cv.v,.int .i64 S.T.q,.int .i64 S.T.k,.int .i64 S.T.t,.int .i64 S.T.r,.string ⟨S.T.l.toArray⟩,.int .i64 S.T.v,S.kv.v]:=⟨_,rfl⟩;obtain⟨oc,hoc⟩:∃ c,c=#[S.lo.v,S.ini.v,V.ev.v,V.br.v,V.ad.v,V.da.v,V.ct.v,S.th.v,S.en.v]:=⟨_,rfl⟩;rw [<- htc,<- hoc];have HTC:=Zh htc;have HOC:=Zh hoc;clear htc hoc hR hiv HI hcv hrisc hini hvr;go_enter Tryz.func52,Tryz.ntmps52;apply wp_seq_k;intro K hK;have HK:=Zh hK;clear hK
 go_wp2_with fail
 refine Zhf (P:=fun X=>K _ X) w _ _ _ _ _ _ ?_;intro W b0 b1 b2 hz hbW;refine HK.o _ _ ?_;clear HK K;rw [HTC.o] at b0;rw [HOC.o] at b1;have HT:=Zh b0;have HO:=Zh b1;have HQ:=Zh b2;have HBW:=Zh hbW;clear b0 b1 b2 hbW hz
 repeat (first | ((with_reducible refine Zat ?_);refine Zaz 32 3 w.heap.size rfl rfl HT.o Tryz.underlying32 rfl κ rfl ?_) | ((with_reducible refine Zat ?_);refine Zaz 87 4 (w.heap.size+1) rfl rfl HO.o Tryz.underlying87 rfl κ rfl ?_) | (go_at_call 89;refine Hid.o ?_) | go_step)
 refine Zh ?_;refine (HBG.o W (HII.o.below HBW.o) (HR.o.below HBW.o)).mono ?_;rintro e w1 ⟨V1,rfl,hr1,hk1⟩;dsimp only;have HT1:=Zh (hk1.keep _ _ _ HT.o (by decide) (by decide) (by decide));have HQ1:=Zh (hk1.keep _ _ _ HQ.o (by decide) (by decide) (by decide));have HZ:=Zh (Blk.new w1 137 #[.int .i64 0,.string ⟨#[]⟩,.string ⟨#[]⟩,.slice none 0 0,.slice none 0 0,.int .i64 0,.int .i64 0,.int .i64 0,.int .i64 0,.string ⟨#[]⟩,.int .i64 0,.slice none 0 0,.int .i64 0,.slice none 0 0,.int .u64 0,.slice none 0 0,.slice none 0 0,.slice none 0 0,.slice none 0 0,.slice none 0 0,.slice none 0 0,.slice none 0 0,.slice none 0 0,.slice none 0 0,.bool false,.bool false])
 repeat (first | ((with_reducible refine Zat ?_);refine Zar 137 7 14 w1.heap.size rfl rfl rfl HZ.o (by rfl) κ (Zbk _ _ _ _) rfl rfl ?_;refine Hid.o ?_) | go_step)
 refine Zh ?_;have hal:=Zad w1 (.cells #[.int .i64 0,.string ⟨#[]⟩,.string ⟨#[]⟩,.slice none 0 0,.slice none 0 0,.int .i64 0,.int .i64 0,.int .i64 0,.int .i64 0,.string ⟨#[]⟩,.int .i64 0,.slice none 0 0,.int .i64 0,.slice none 0 0,.int .u64 0,.slice none 0 0,.slice none 0 0,.slice none 0 0,.slice none 0 0,.slice none 0 0,.slice none 0 0,.slice none 0 0,.slice none 0 0,.slice none 0 0,.bool false,.bool false] 137 (0,0));have hww:w.heap.size+1+1<w1.heap.size:=HQ1.o.lt
 have HU:=Zh (show Zb2 w ((w1.alloc (.cells #[.int .i64 0,.string ⟨#[]⟩,.string ⟨#[]⟩,.slice none 0 0,.slice none 0 0,.int .i64 0,.int .i64 0,.int .i64 0,.int .i64 0,.string ⟨#[]⟩,.int .i64 0,.slice none 0 0,.int .i64 0,.slice none 0 0,.int .u64 0,.slice none 0 0,.slice none 0 0,.slice none 0 0,.slice none 0 0,.slice none 0 0,.slice none 0 0,.slice none 0 0,.slice none 0 0,.slice none 0 0,.bool false,.bool false] 137 (0,0))).setRow w1.heap.size (rrC S r0 false V1)) B w1.heap.size (w.heap.size+1+1) S r0 false V1 from
  ⟨(hr1.below hal).row HZ.o _,(((Zbf.of_below HBW.o HR.o.hB).trans hk1).below' hal HR.o.hB).row HR.o.hB (show w.heap.size<=w1.heap.size by omega) _,HR.o.hB,HZ.o.row _,⟨_,(HQ1.o.go hal).farRow (show w.heap.size+1+1≠w1.heap.size by omega) _,rfl⟩,ω,ω,ω⟩)
 have HT2:=Zh ((HT1.o.go hal).farRow (show w.heap.size≠w1.heap.size by omega) (rrC S r0 false V1));clear hal HT HO HQ HZ HT1 HQ1 hr1 hk1 HBW;generalize ((w1.alloc (.cells #[.int .i64 0,.string ⟨#[]⟩,.string ⟨#[]⟩,.slice none 0 0,.slice none 0 0,.int .i64 0,.int .i64 0,.int .i64 0,.int .i64 0,.string ⟨#[]⟩,.int .i64 0,.slice none 0 0,.int .i64 0,.slice none 0 0,.int .u64 0,.slice none 0 0,.slice none 0 0,.slice none 0 0,.slice none 0 0,.slice none 0 0,.slice none 0 0,.slice none 0 0,.slice none 0 0,.slice none 0 0,.bool false,.bool false] 137 (0,0))).setRow w1.heap.size (rrC S r0 false V1))=W2 at *;generalize (rrV S r0 false V1:Value)=x14;generalize (Value.agg #[.int .i64 S.T.arch,.string ⟨S.T.name.toArray⟩,.string ⟨S.T.cycle.toArray⟩,S.iv.v,S.cv.v,.int .i64 S.T.q,.int .i64 S.T.k,.int .i64 S.T.t,.int .i64 S.T.r,.string ⟨S.T.l.toArray⟩,.int .i64 S.T.v,S.kv.v])=x12;generalize (Value.agg #[S.lo.v,S.ini.v,V.ev.v,V.br.v,V.ad.v,V.da.v,V.ct.v,S.th.v,S.en.v])=x13;generalize hG:w1.heap.size=G at *;have t4:W2.cell? ⟨w.heap.size,4,none⟩=some (.slice (some ⟨bs,os,none⟩) S.T.code.length ccs):=by have:=HT2.o.cell 4;rw [this];show some S.cv.v=_;rw [HCV.o,hAcs]
 have tc1:W2.cell? ⟨bs,os+S.C.th,none⟩=some (.slice Ac c.length cc):=Zer hcs HU.o.keep.below hbs;have hi1:(0:Int)<=(S.C.th:Int):=ω;have hi2:(S.C.th:Int)<(S.T.code.length:Int):=ω;have hmk:=fun w=>Znc c.length ω w
 subst hAcs;have hwz:w.heap.size<W2.heap.size:=HT2.o.lt;by_cases ha:S.T.arch=2
 ·have t0:W2.cell? ⟨w.heap.size,0,none⟩=some (.int .i64 2):=by rw [<- ha];exact HT2.o.cell 0
  have hri:S.C.risc=true:=by rw [HRI.o,ha];rfl
  have hE:=hlnk hri;clear hri
  go_wp2_with (go_at_call 90;refine Hid.o ?_)
  refine Zh ?_;have hal:=Zad W2 (.cells (Zbs (List.replicate c.length 0)) 3 (0,0));have HU3:=Zh (HU.o.below hal);refine (Zvb c Ac cc _ hcl (hc.keep hcB HU3.o.keep.below)).mono ?_;rintro e w4 ⟨hres,hb4⟩;rcases hres with ⟨hne,_⟩ | ⟨_,Al,cl,rfl,_,hown⟩
  ·exact absurd hE hne
  dsimp only;have HU4:=Zh (HU3.o.below hb4);have HLK:Hid (S.C.risc=true->∃ Bx,Zde.Own 3 Bx w4 (.slice Al c.length cl) (Zmx c)):=Zh (fun _=>⟨_,hown⟩);clear hown hal hb4 HU HU3 hE t0 t4 tc1 hmk hwz
  go_wp2_with fail
  go_loopw [10] (fun v wr=>∃ k:Nat,k<=c.length/\v=.int .i64 (k:Int)/\∃ (r1:Rn) (fl:Bool) (V2:RrV),Zb2 w wr B G (w.heap.size+1+1) S r1 fl V2/\(S.C.risc=true->∃ Bx,Zde.Own 3 Bx wr (.slice (Al) c.length (cl)) (Zmx c))/\((fl=false/\Inv S.C nr k r1/\goL S.C c k r1=goL S.C c 0 r0)\/(fl=true/\goL S.C c 0 r0=none/\r1.full=false))) (fun v _=>c.length - (intOf v).toNat)
  case atStart=>exact⟨0,ω,rfl,r0,false,V1,HU4.o,HLK.o,Or.inl ⟨rfl,HINV.o,rfl⟩⟩
  case round=>
   obtain⟨k,hk,rfl,r1,fl,V2,hu,hlk,hgo⟩:=hrel;have HU:=Zh hu;have HLK2:=Zh hlk;have HGO:=Zh hgo;have k24:=hu.blk.cm 24;have k25:=hu.blk.cm 25;obtain⟨z,hz,hzs⟩:=hu.out;clear hu hlk hgo HU4 HINV HLK;by_cases hend:k<c.length/\fl=false/\r1.full=false
   ·obtain⟨hlt,hf1,hf2⟩:=hend;have hgo1:Inv S.C nr k r1/\goL S.C c k r1=goL S.C c 0 r0:=by
     rcases HGO.o with ⟨_,h⟩ | ⟨h,_⟩
     ·exact h
     ·rw [hf1] at h;cases h
    have HGI:=Zh hgo1;subst hf1;rw [hf2] at k25;have hki:(k:Int)<(c.length:Int):=ω;have hk0:(0:Int)<=(k:Int):=ω;obtain⟨x,hx⟩:∃ x,c[k]?=some x:=⟨_,List.getElem?_eq_getElem hlt⟩;have hins:=hc.keep hcB HU.o.keep.below;obtain⟨bc,oc,hAc,m0,m1,m2,m3,m4,m5,m6,m7,_⟩:=hins k x hx;have HX:=Zh hx;have HIN2:=Zh hins;clear HGO hgo1 hx hins hz hzs;by_cases h11x:x.op=11
    ·have hri1:=h11 k x HX.o h11x;obtain⟨Bx,hlo⟩:=HLK2.o hri1;obtain⟨A',cap',e,hat,_⟩:=Enc.Own.at_ hlo;simp only [Value.slice.injEq] at e;have hlk:(Zmx c)[k]?=some ((Zhp c k x:Nat):Int):=by
      unfold Zmx;rw [if_pos (hlnk hri1),List.getElem?_map,List.getElem?_range hlt];show some (Zqg c k)=_;unfold Zqg;rw [HX.o];simp [h11x,Zhp]
     obtain⟨bl,ol,e2,hcl9⟩:=hat k _ hlk;have l0:wr.cell? ⟨bl,ol+k,none⟩=some (.int .i64 ((Zhp c k x:Nat):Int)):=by have:=hcl9 0 _ rfl;rwa [Nat.mul_one,Nat.add_zero] at this
     have e3:=e.1;rw [e2] at e3;subst e3;have hv:=hval k x HX.o;obtain⟨d',hd'⟩:=Int.eq_ofNat_of_zero_le hv.d.1;obtain⟨a',ha'⟩:=Int.eq_ofNat_of_zero_le hv.a.1;obtain⟨b',hb'⟩:=Int.eq_ofNat_of_zero_le hv.b.1;obtain⟨oka,hxa⟩:=HGI.o.1.rg hv.a.1 hv.a.2;obtain⟨okb,hxb⟩:=HGI.o.1.rg hv.b.1 hv.b.2;have hxe:(⟨x.op,(d':Int),(a':Int),(b':Int),x.imm,x.loc,x.label,x.fence⟩:Ins)=x:=by rw [<- hd',<- ha',<- hb']
     have hxa2:r1.regs[a']?=some (rgA r1 x.a):=by rw [<- hxa,ha',Int.toNat_natCast]
     have hxb2:r1.regs[b']?=some (rgA r1 x.b):=by rw [<- hxb,hb',Int.toNat_natCast]
     have HBRN:=Zh (fun W (h:Zba W B S r1 V2) (hi:Zcj W Ac c)=>Z1h B S r1 V2 nr k HGI.o.1 hf2 c Ac cc k x.op x.imm x.fence d' a' b' x.loc x.label W hi hcB hcl hcc (by rw [hxe];exact HX.o) (by rw [hxe];exact hv.lab h11x) (rgA r1 x.a) (rgA r1 x.b) hxa2 hxb2 oka okb h);rw [hxe] at HBRN
     have HL0:=Zh (show ∀ W,Zbf B wr W->W.cell? ⟨bl,ol+k,none⟩=some (.int .i64 ((Zhp c k x:Nat):Int)) from fun W hkk=>by
      obtain⟨A9,c9,e9,hat9,_⟩:=Enc.Own.at_ (hkk.own hlo (by decide) (by decide) (by decide));simp only [Value.slice.injEq] at e9;obtain⟨b9,o9,e8,hc9⟩:=hat9 k _ hlk;rw [<- e9.1] at e8;simp only [Option.some.injEq,Addr.mk.injEq,and_true] at e8;obtain⟨rfl,rfl⟩:=e8;have:=hc9 0 _ rfl
      rwa [Nat.mul_one,Nat.add_zero] at this)
     have HGOES:=Zh (fun r2 fl2 n2 (hg:(fl2=false/\brL r1 c k x=some (r2,n2))\/(fl2=true/\brL r1 c k x=none/\r2.full=false))=>Zwf hv h11x HGI.o.1 HX.o hf2 HGI.o.2 hg);clear hd' ha' hb' hxe hxa hxb hxa2 hxb2 oka okb hv e2 hat hcl9 e;subst hAc
     go_wp2_with fail
     refine wz (fun y:World=>Blk y G 137 (rrC S r1 false V2)/\y.cell? ⟨bl,ol+k,none⟩=some (.int .i64 ((Zhp c k x:Nat):Int))) [0,6] ⟨HU.o.drew.blk,l0⟩ (fun hHeld=>?_);refine wq 1 ?_;refine wq 2 ?_;refine wq 3 ?_;refine wq 4 ?_;refine wq 5 ?_;refine wv 0 ((rrV S r1 false V2)) rfl (fun x' hS=>Zay rfl rfl (Zeu hS.1)) (by assumption) ?_;refine wt 6 (by assumption) ?_;clear hHeld;refine Zan (i:=7) κ rfl (fun K hK=>?_);go_simp
     go_at_call 91
     refine (HBRN.o _ HU.o.drew.ref (HIN2.o.below (Below.refl _ _).drew)).mono ?_;rintro e w5 ⟨r2,fl2,V3,n2,rfl,hr2,hk2,hn1,hn2,hg2⟩;have hb5:=hk2.keep _ _ _ HU.o.drew.blk (by decide) (by decide) (by decide);refine hK.out _ _ ⟨hb5,HL0.o w5 ((Zbf.refl B wr).drew.trans hk2)⟩ ?_;clear hK K;refine pu ?_;refine wq 8 ?_;refine wq 9 ?_;refine wq 10 ?_;refine wl 11 ?_;have HU5:=Zh (HU.o.drew.row (fl':=fl2) hr2 hk2);have HG5:=Zh (HGOES.o r2 fl2 n2 hg2)
     have HLK5:Hid (S.C.risc=true->∃ Bx,Zde.Own 3 Bx (w5.setRow G (rrC S r2 fl2 V3)) (.slice (some ⟨bl,ol,none⟩) c.length cl) (Zmx c)):=Zh (fun h=>by
      obtain⟨Bx,ho⟩:=HLK2.o h
      exact⟨Bx,Zcp (hk2.own (show wr.drew.ownsRow _ _ _ _ _ _ from ho) (by decide) (by decide) (by decide)) hb5 (by decide) _⟩)
     clear hr2 hk2 hg2 HU HBRN HL0 HGOES HGI l0 k24 k25 m0 m1 m2 m3 m4 m5 m6 m7 hlk hlo
     go_wp2_with ((with_reducible refine Zat ?_);refine Zar 137 7 61 G rfl rfl rfl hb5 (by exact rfl) κ (Zbk _ _ _ _) rfl rfl ?_)
     go_roundw
     case rel=>exact⟨n2,ω,by first | rfl | go_num | omega,r2,fl2,V3,HU5.o,HLK5.o,by have h:=HG5.o;first | exact h | simpa using h⟩
     case measure=>exact msr
    ·have HST:=Zh (fun W (h:Zba W B S r1 V2)=>Z6i B S hS HRI.o r1 V2 nr k HGI.o.1 (by rw [hnr];unfold Zdn;split <;> omega) hf2 ω c k x (hval k x HX.o) h11x W h);have HGOES:=Zh (fun r2 fl2 (hg:(fl2=false/\(Zbn S.C r1 c k x).map Prod.fst=some r2)\/(fl2=true/\(Zbn S.C r1 c k x).map Prod.fst=none/\r2.full=false))=>Zru (hval k x HX.o) h11x HGI.o.1 HX.o hf2 HGI.o.2 hg);subst hAc
     go_wp2_with fail
     refine wz (fun y:World=>Zb2 w y B G (w.heap.size+1+1) S r1 false V2/\y.cell? ⟨bc,oc+k*8,none⟩=some (.int .i64 x.op)/\y.cell? ⟨bc,oc+k*8+1,none⟩=some (.int .i64 x.d)/\y.cell? ⟨bc,oc+k*8+2,none⟩=some (.int .i64 x.a)/\y.cell? ⟨bc,oc+k*8+3,none⟩=some (.int .i64 x.b)/\y.cell? ⟨bc,oc+k*8+4,none⟩=some (.int .i64 x.imm)/\y.cell? ⟨bc,oc+k*8+5,none⟩=some (.string ⟨x.loc.toArray⟩)/\y.cell? ⟨bc,oc+k*8+6,none⟩=some (.string ⟨x.label.toArray⟩)/\y.cell? ⟨bc,oc+k*8+7,none⟩=some (.int .i64 x.fence)) [0,5] ⟨HU.o.drew,m0,m1,m2,m3,m4,m5,m6,m7⟩ (fun hHeld=>?_);refine wq 1 ?_;refine wq 2 ?_;refine wq 3 ?_;refine wq 4 ?_;refine wv 0 ((rrV S r1 false V2)) rfl (fun x' hS=>Zay rfl rfl (Zeu hS.1.blk)) (by assumption) ?_;refine wt 5 (by assumption) ?_;refine wl 6 ?_;have HU1:=Zh hHeld.1;clear hHeld m0 m1 m2 m3 m4 m5 m6 m7 k24 k25
     repeat (first | (go_at_call 92;refine Hid.o ?_) | go_step)
     refine Zh ?_;refine (HST.o _ HU1.o.ref).mono ?_;rintro e w5 ⟨r2,fl2,V3,rfl,hr2,hk2,hg2⟩;dsimp only;have hb5:=hk2.keep _ _ _ HU1.o.blk (by decide) (by decide) (by decide);have HU5:=Zh (HU1.o.row (fl':=fl2) hr2 hk2);have HG5:=Zh (HGOES.o r2 fl2 hg2)
     have HLK5:Hid (S.C.risc=true->∃ Bx,Zde.Own 3 Bx (w5.setRow G (rrC S r2 fl2 V3)) (.slice (Al) c.length (cl)) (Zmx c)):=Zh (fun h=>by
      obtain⟨Bx,ho⟩:=HLK2.o h
      exact⟨Bx,Zcp (hk2.own (show wr.drew.ownsRow _ _ _ _ _ _ from ho) (by decide) (by decide) (by decide)) hb5 (by decide) _⟩)
     clear hr2 hk2 hg2 HU HU1 HST HGOES HGI
     go_wp2_with ((with_reducible refine Zat ?_);refine Zar 137 7 69 G rfl rfl rfl hb5 (by exact rfl) κ (Zbk _ _ _ _) rfl rfl ?_)
     go_roundw
     case rel=>exact⟨k+1,ω,by first | go_num | omega,r2,fl2,V3,HU5.o,HLK5.o,by have h:=HG5.o;first | exact h | simpa using h⟩
     case measure=>exact msr
   exact m_7
 ·have t0:W2.cell? ⟨w.heap.size,0,none⟩=some (.int .i64 S.T.arch):=HT2.o.cell 0;have hri:¬ S.C.risc=true:=by rw [HRI.o];simpa using ha
  go_wp2_with fail
  have hal:=Zad W2 (.cells (Zbs (List.replicate c.length 0)) 3 (0,0));have HU4:=Zh (HU.o.below hal);have HLK:Hid (S.C.risc=true->∃ Bx,Zde.Own 3 Bx (W2.alloc (.cells (Zbs (List.replicate c.length 0)) 3 (0,0))) (.slice (some ⟨W2.heap.size,0,none⟩) c.length c.length) (Zmx c)):=Zh (fun h=>absurd h hri);have HNR:=Zh hri;clear hri hal HU t0 t4 tc1 hmk hwz;generalize (W2.alloc (.cells (Zbs (List.replicate c.length 0)) 3 (0,0)))=w4 at *;go_loopw [10] (fun v wr=>∃ k:Nat,k<=c.length/\v=.int .i64 (k:Int)/\∃ (r1:Rn) (fl:Bool) (V2:RrV),Zb2 w wr B G (w.heap.size+1+1) S r1 fl V2/\(S.C.risc=true->∃ Bx,Zde.Own 3 Bx wr (.slice (some ⟨W2.heap.size,0,none⟩) c.length (c.length)) (Zmx c))/\((fl=false/\Inv S.C nr k r1/\goL S.C c k r1=goL S.C c 0 r0)\/(fl=true/\goL S.C c 0 r0=none/\r1.full=false))) (fun v _=>c.length - (intOf v).toNat)
  case atStart=>exact⟨0,ω,rfl,r0,false,V1,HU4.o,HLK.o,Or.inl ⟨rfl,HINV.o,rfl⟩⟩
  case round=>
   obtain⟨k,hk,rfl,r1,fl,V2,hu,hlk,hgo⟩:=hrel;have HU:=Zh hu;have HLK2:=Zh hlk;have HGO:=Zh hgo;have k24:=hu.blk.cm 24;have k25:=hu.blk.cm 25;obtain⟨z,hz,hzs⟩:=hu.out;clear hu hlk hgo HU4 HINV HLK;by_cases hend:k<c.length/\fl=false/\r1.full=false
   ·obtain⟨hlt,hf1,hf2⟩:=hend;have hgo1:Inv S.C nr k r1/\goL S.C c k r1=goL S.C c 0 r0:=by
     rcases HGO.o with ⟨_,h⟩ | ⟨h,_⟩
     ·exact h
     ·rw [hf1] at h;cases h
    have HGI:=Zh hgo1;subst hf1;rw [hf2] at k25;have hki:(k:Int)<(c.length:Int):=ω;have hk0:(0:Int)<=(k:Int):=ω;obtain⟨x,hx⟩:∃ x,c[k]?=some x:=⟨_,List.getElem?_eq_getElem hlt⟩;have hins:=hc.keep hcB HU.o.keep.below;obtain⟨bc,oc,hAc,m0,m1,m2,m3,m4,m5,m6,m7,_⟩:=hins k x hx;have HX:=Zh hx;have HIN2:=Zh hins;clear HGO hgo1 hx hins hz hzs;by_cases h11x:x.op=11
    ·have hri1:=h11 k x HX.o h11x;obtain⟨Bx,hlo⟩:=HLK2.o hri1;obtain⟨A',cap',e,hat,_⟩:=Enc.Own.at_ hlo;simp only [Value.slice.injEq] at e;have hlk:(Zmx c)[k]?=some ((Zhp c k x:Nat):Int):=by
      unfold Zmx;rw [if_pos (hlnk hri1),List.getElem?_map,List.getElem?_range hlt];show some (Zqg c k)=_;unfold Zqg;rw [HX.o];simp [h11x,Zhp]
     obtain⟨bl,ol,e2,hcl9⟩:=hat k _ hlk;have l0:wr.cell? ⟨bl,ol+k,none⟩=some (.int .i64 ((Zhp c k x:Nat):Int)):=by have:=hcl9 0 _ rfl;rwa [Nat.mul_one,Nat.add_zero] at this
     have e3:=e.1;rw [e2] at e3;exact absurd hri1 HNR.o
    ·have HST:=Zh (fun W (h:Zba W B S r1 V2)=>Z6i B S hS HRI.o r1 V2 nr k HGI.o.1 (by rw [hnr];unfold Zdn;split <;> omega) hf2 ω c k x (hval k x HX.o) h11x W h);have HGOES:=Zh (fun r2 fl2 (hg:(fl2=false/\(Zbn S.C r1 c k x).map Prod.fst=some r2)\/(fl2=true/\(Zbn S.C r1 c k x).map Prod.fst=none/\r2.full=false))=>Zru (hval k x HX.o) h11x HGI.o.1 HX.o hf2 HGI.o.2 hg);subst hAc
     go_wp2_with fail
     refine wz (fun y:World=>Zb2 w y B G (w.heap.size+1+1) S r1 false V2/\y.cell? ⟨bc,oc+k*8,none⟩=some (.int .i64 x.op)/\y.cell? ⟨bc,oc+k*8+1,none⟩=some (.int .i64 x.d)/\y.cell? ⟨bc,oc+k*8+2,none⟩=some (.int .i64 x.a)/\y.cell? ⟨bc,oc+k*8+3,none⟩=some (.int .i64 x.b)/\y.cell? ⟨bc,oc+k*8+4,none⟩=some (.int .i64 x.imm)/\y.cell? ⟨bc,oc+k*8+5,none⟩=some (.string ⟨x.loc.toArray⟩)/\y.cell? ⟨bc,oc+k*8+6,none⟩=some (.string ⟨x.label.toArray⟩)/\y.cell? ⟨bc,oc+k*8+7,none⟩=some (.int .i64 x.fence)) [0,5] ⟨HU.o.drew,m0,m1,m2,m3,m4,m5,m6,m7⟩ (fun hHeld=>?_);refine wq 1 ?_;refine wq 2 ?_;refine wq 3 ?_;refine wq 4 ?_;refine wv 0 ((rrV S r1 false V2)) rfl (fun x' hS=>Zay rfl rfl (Zeu hS.1.blk)) (by assumption) ?_;refine wt 5 (by assumption) ?_;refine wl 6 ?_;have HU1:=Zh hHeld.1;clear hHeld m0 m1 m2 m3 m4 m5 m6 m7 k24 k25
     repeat (first | (go_at_call 92;refine Hid.o ?_) | go_step)
     refine Zh ?_;refine (HST.o _ HU1.o.ref).mono ?_;rintro e w5 ⟨r2,fl2,V3,rfl,hr2,hk2,hg2⟩;dsimp only;have hb5:=hk2.keep _ _ _ HU1.o.blk (by decide) (by decide) (by decide);have HU5:=Zh (HU1.o.row (fl':=fl2) hr2 hk2);have HG5:=Zh (HGOES.o r2 fl2 hg2)
     have HLK5:Hid (S.C.risc=true->∃ Bx,Zde.Own 3 Bx (w5.setRow G (rrC S r2 fl2 V3)) (.slice (some ⟨W2.heap.size,0,none⟩) c.length (c.length)) (Zmx c)):=Zh (fun h=>by
      obtain⟨Bx,ho⟩:=HLK2.o h
      exact⟨Bx,Zcp (hk2.own (show wr.drew.ownsRow _ _ _ _ _ _ from ho) (by decide) (by decide) (by decide)) hb5 (by decide) _⟩)
     clear hr2 hk2 hg2 HU HU1 HST HGOES HGI
     go_wp2_with ((with_reducible refine Zat ?_);refine Zar 137 7 69 G rfl rfl rfl hb5 (by exact rfl) κ (Zbk _ _ _ _) rfl rfl ?_)
     go_roundw
     case rel=>exact⟨k+1,ω,by first | go_num | omega,r2,fl2,V3,HU5.o,HLK5.o,by have h:=HG5.o;first | exact h | simpa using h⟩
     case measure=>exact msr
   exact m_7
end
section
theorem Zn8 (l:List (Int×Int)):∀ k,(Ze5 k l).length<=k*l.length
 | 0=>by simp [Ze5]
 | k+1=>by
  rw [Zec,List.length_append,Nat.succ_mul];have:=Zn8 l k;have:=List.length_filter_le (fun p:Int×Int=>decide (p.1=(k:Int))) l;omega
theorem Zof {l:List (Int×Int)}{i:Nat}{x:Int×Int}(k:Int)(hx:l[i]?=some x):(l.take (i+1)).filter (fun p=>decide (p.1=k))=(l.take i).filter (fun p=>decide (p.1=k))++(if x.1=k then [x] else []):=by
 rw [List.take_add_one,hx,List.filter_append];simp only [Option.toList_some,List.filter_cons,List.filter_nil,decide_eq_true_eq]
set_option maxHeartbeats 4000000
set_option maxRecDepth 100000
theorem Z3b (A:Option Addr)(cap:Nat)(l:List (Int×Int))(w:World)(h:Zbj.At w A l)(hl:l.length<=1000000) :
  Calls Tryz.prog 54 #[.slice A l.length cap] w fun e w'=>∃ s:Sl,e=.returned s.v/\Zbj.Own 175 w.heap.size w' s.v (Zf6 l)/\Below w.heap.size w w':=by
 have HA:=Zh h;go_enter Tryz.func54,Tryz.ntmps54
 go_wp2_with fail
 go_loopw [4,3] (fun ii vv wr=>∃ (k:Nat) (s:Sl),k<=64/\ii=.int .i64 k/\vv=s.v/\Zbj.Own 175 w.heap.size wr s.v (Ze5 k l)/\Below w.heap.size w wr) (fun ii _ _=>64 - (intOf ii).toNat)
 case atStart=>exact⟨0,⟨none,0,0⟩,Nat.zero_le _,rfl,rfl,Enc.Own.nil _ _ _,Below.refl _ _⟩
 case round=>
  obtain⟨k,s,hk,rfl,rfl,ho,hb⟩:=hrel;obtain⟨wk,hwk⟩:∃ z:World,z=wr:=⟨_,rfl⟩;subst hwk;have HO:=Zh ho;have HB:=Zh hb;have hql:=Zn8 l k;have hq2:k*l.length<=64*l.length:=Nat.mul_le_mul_right _ hk;by_cases hlt:k<64
  ·have hki:(k:Int)<64:=ω
   go_wp2_with fail
   go_loopw [5,3] (fun ii vv wr=>∃ (i:Nat) (s:Sl) (q:List (Int×Int)),i<=l.length/\ii=.int .i64 i/\vv=s.v/\q=Ze5 k l++(l.take i).filter (fun p=>decide (p.1=(k:Int)))/\Zbj.Own 175 w.heap.size wr s.v q/\Below w.heap.size w wr) (fun ii _ _=>l.length - (intOf ii).toNat)
   case atStart=>exact⟨0,s,_,Nat.zero_le _,rfl,rfl,by simp,HO.o,HB.o⟩
   case round=>
    obtain⟨i,s,q,hi,rfl,rfl,hq,ho,hb⟩:=hrel;have HQ:=Zh hq;have HO:=Zh ho;have HB:=Zh hb;have hqq:q.length<=65*l.length:=by
     rw [hq,List.length_append];have h1:=List.length_filter_le (fun p:Int×Int=>decide (p.1=(k:Int))) (l.take i);rw [List.length_take] at h1;omega
    by_cases hli:i<l.length
    ·obtain⟨x,hx⟩:∃ x,l[i]?=some x:=⟨_,List.getElem?_eq_getElem hli⟩;obtain⟨b,o,rfl,c0,c1⟩:=Z56 (HA.o.below HB.o) hx;obtain⟨x1,x2⟩:=x;simp only at c0 c1;by_cases hxk:x1=(k:Int)
     ·subst hxk;have HS:=Zh (show q++[((k:Int),x2)]=Ze5 k l++(l.take (i+1)).filter (fun p=>decide (p.1=(k:Int))) by rw [Zof _ hx,if_pos rfl,HQ.o,List.append_assoc]);have HPA:=Zh (Zni wr ((k:Int),x2));have HBA:=Zh (Zad wr (.cells #[.int .i64 (k:Int),.int .i64 x2] 175 (0,0)));have hzr:=HB.o.size
      go_wp2_with (at_builtin;refine Enc.appW Zp6 _ rfl (.tmp 23) (.tmp 28) rfl [((k:Int),x2)] w.heap.size q _ wr.heap.size 0 1 rfl rfl HPA.o (HO.o.below HBA.o) (by simp;omega) (by simp;omega) (by simp;omega) ?_;intro v' w3 hown3 hg3;obtain⟨s3,rfl,hs3⟩:=Zlr hown3;clear hs3;have HO3:=Zh hown3;have HG3:=Zh hg3;clear hown3 hg3)
      go_roundw
      case rel=>exact⟨i+1,s3,_,ω,by go_num,rfl,HS.o,HO3.o,(HB.o.trans (HBA.o.mono hzr)).trans HG3.o.below⟩
      case measure=>exact msr
     ·have HS:=Zh (show q=Ze5 k l++(l.take (i+1)).filter (fun p=>decide (p.1=(k:Int))) by rw [Zof _ hx,if_neg hxk,HQ.o,List.append_nil])
      go_wp2_with fail
      go_roundw
      case rel=>exact⟨i+1,s,_,ω,by go_num,rfl,HS.o,HO.o,HB.o⟩
      case measure=>exact msr
    ·have hil:i=l.length:=ω;subst hil
     go_wp2_with fail
     go_roundw
     case rel=>exact⟨k+1,s,ω,by go_num,rfl,by rw [Zec];have:=HQ.o;rw [List.take_length] at this;rw [<- this];exact HO.o,HB.o⟩
     case measure=>exact msr
  ·have hk64:k=64:=ω;subst hk64
   go_wp2_with fail
   go_ret;exact⟨s,rfl,HO.o,HB.o⟩
end
abbrev Z53 (V:Zn4):Ztj:=⟨V.lo.v,V.ini.v,V.ev.v,V.br.v,V.ad.v,V.da.v,V.ct.v,V.th.v,V.en.v⟩
theorem Zcg.refAt {w:World}{B O:Nat}{L:Zpu}{V:Zn4}(h:Zcg w B O L (Z53 V))(hB:B<=w.heap.size){S:RrS}(h0:S.lo=V.lo)(h1:S.C.locs=L.lo)(h2:S.a=L.a) :
  Zba w B S rnE ⟨⟨none,0,0⟩,V.ev,V.br,V.ad,V.da,V.ct⟩:=by
 refine⟨hB,?_,Enc.Own.nil _ _ _,?_,?_,?_,?_,?_,h.a1,h.a2,h.a3⟩
 ·rw [h0,h1];exact h.lo
 ·show Zq8.Own _ B w V.ev.v (S.a.evs++[]);rw [List.append_nil,h2];exact h.ev
 ·show Zoe.Own _ B w V.br.v (S.a.bars++[]);rw [List.append_nil,h2];exact h.br
 ·show Zbj.Own _ B w V.ad.v (S.a.addr++[]);rw [List.append_nil,h2];exact h.ad
 ·show Zbj.Own _ B w V.da.v (S.a.data++[]);rw [List.append_nil,h2];exact h.da
 ·show Zbj.Own _ B w V.ct.v (S.a.hang++[]);rw [List.append_nil,h2];exact h.ct
theorem Zbf.heap {B q:Nat}{w w1:World}{t:TypeId}{cs:Array Value}(h:Zbf B w w1)(hb:Blk w q t cs)(h1:t≠225)(h2:t≠169)(h3:t≠175):w1.heap[q]?=w.heap[q]?:=(h.keep q t cs hb h1 h2 h3).trans hb.symm
theorem Zba.setO {w:World}{B q:Nat}{S:RrS}{r:Rn}{V:RrV}(h:Zba w B S r V){cs:Array Value}(hq:Blk w q 130 cs)(i:Nat)(u:Value):Zba (w.setCell ⟨q,i,none⟩ u) B S r V:=
 ⟨by simpa [World.setCell] using h.hB,Zae h.lo hq (by decide) _ _,Zae h.rg hq (by decide) _ _,Zae h.ev hq (by decide) _ _,Zae h.br hq (by decide) _ _,Zae h.ad hq (by decide) _ _,Zae h.da hq (by decide) _ _,Zae h.ct hq (by decide) _ _,h.a1,h.a2,h.a3⟩
structure OfS (w wr:World) (O:Nat) (L:Zpu) (V:Zn4) (tc:Array Value):Prop where
 out:Zcg wr w.heap.size O L (Z53 V)
 tst:Blk wr w.heap.size 32 tc
 res:Blk wr (w.heap.size+1) 87 #[.slice none 0 0,.slice none 0 0,.slice none 0 0,.slice none 0 0,.slice none 0 0,.slice none 0 0,.slice none 0 0,.slice none 0 0,.slice none 0 0]
 bel:Below w.heap.size w wr
 hO:w.heap.size+1<O
structure Zsa (w wq:World) (O G:Nat) (S:RrS) (r:Rn) (fl:Bool) (V:RrV) (I:List Int) (ths:List Th) (m:List (Int×Int)) (tc:Array Value):Prop where
 ref:Zba wq w.heap.size S r V
 blk:Blk wq G 137 (rrC S r fl V)
 out:∃ z,Blk wq O 87 z/\z.size=9/\z[7]?=some S.th.v
 ini:Zxk Zde 3 w.heap.size wq S.ini.v I
 en:Zxk Zbj 130 w.heap.size wq S.en.v m
 th:wq.ownsRow w.heap.size 25 3 S.th.v ths.length (Za1 ths)
 tst:Blk wq w.heap.size 32 tc
 res:Blk wq (w.heap.size+1) 87 #[.slice none 0 0,.slice none 0 0,.slice none 0 0,.slice none 0 0,.slice none 0 0,.slice none 0 0,.slice none 0 0,.slice none 0 0,.slice none 0 0]
 bel:Below w.heap.size w wq
 hO:w.heap.size+1<O
namespace OfS
variable {w wr w1:World} {O:Nat} {L:Zpu} {V:Zn4} {tc:Array Value}
theorem below (h:OfS w wr O L V tc)(hb:Below wr.heap.size wr w1):OfS w w1 O L V tc:=
 ⟨h.out.below hb,h.tst.go hb,h.res.go hb,Zab h.bel hb,h.hO⟩
theorem en_ (h:OfS w wr O L V tc){i q n:Nat}(x:Int×Int)(hn:L.a.ends.length=n)(hi:i<n)(hq:V.en=⟨some ⟨q,0,none⟩,n,n⟩) :
  OfS w ((wr.setCell ⟨q,i*2,none⟩ (.int .i64 x.1)).setCell ⟨q,i*2+1,none⟩ (.int .i64 x.2)) O { L with a:={ L.a with ends:=L.a.ends.set i x } } V tc:=by
 subst hn;have hv:(Z53 V).en=.slice (some ⟨q,0,none⟩) L.a.ends.length L.a.ends.length:=by show V.en.v=_;rw [hq]
 obtain⟨hb,hB⟩:=h.out.en_blk hv
 exact⟨h.out.en_ hi hv,(h.tst.far (Za5 h.tst hb (by decide)) _).far (Za5 h.tst hb (by decide)) _,
  (h.res.far (Za5 h.res hb (by decide)) _).far (Za5 h.res hb (by decide)) _,
  (h.bel.setCell (p:=⟨q,i*2,none⟩) hB _).setCell (p:=⟨q,i*2+1,none⟩) hB _,h.hO⟩
theorem pr_ (h:OfS w wr O L V tc){s:Sl}{l:List (Int×Int)}(ho:Zbj.Own 175 wr.heap.size w1 s.v l)(hb:Below wr.heap.size wr w1) :
  OfS w (w1.setCell ⟨O,4,none⟩ s.v) O { L with a:={ L.a with addr:=l } } { V with ad:=s } tc/\OfS w (w1.setCell ⟨O,5,none⟩ s.v) O { L with a:={ L.a with data:=l } } { V with da:=s } tc/\OfS w (w1.setCell ⟨O,6,none⟩ s.v) O { L with a:={ L.a with hang:=l } } { V with ct:=s } tc:=by
 have hz:=h.bel.size;have hg:∀ v:Value,Zbh wr w1 w.heap.size v s.v:=fun v=>⟨hb.mono hz,fun i hi _=>hb.block i hi,fun b e=>Or.inr (ho.lt b e).1⟩
 have ho2:=Zd4 ho hz;have ht:=h.tst.go hb;have hO:=h.hO;have hr:=h.res.go hb;have hbl:=Zab h.bel hb;have k:∀ i,Blk (w1.setCell ⟨O,i,none⟩ s.v) w.heap.size 32 tc/\Blk (w1.setCell ⟨O,i,none⟩ s.v) (w.heap.size+1) 87 #[.slice none 0 0,.slice none 0 0,.slice none 0 0,.slice none 0 0,.slice none 0 0,.slice none 0 0,.slice none 0 0,.slice none 0 0,.slice none 0 0]/\Below w.heap.size w (w1.setCell ⟨O,i,none⟩ s.v):=fun i=>
  ⟨ht.far (p:=⟨O,i,none⟩) (show w.heap.size≠O by omega) _,hr.far (p:=⟨O,i,none⟩) (show w.heap.size+1≠O by omega) _,hbl.setCell (p:=⟨O,i,none⟩) (show w.heap.size<=O by omega) _⟩
 exact⟨⟨h.out.ad_ (hg _) ho2,(k 4).1,(k 4).2.1,(k 4).2.2,hO⟩,⟨h.out.da_ (hg _) ho2,(k 5).1,(k 5).2.1,(k 5).2.2,hO⟩,⟨h.out.ct_ (hg _) ho2,(k 6).1,(k 6).2.1,(k 6).2.2,hO⟩⟩
theorem ret (h:OfS w wr O L V tc)(u0 u1 u2 u3 u4 u5 u6 u7 u8:Value):∃ V':Zn4,(.agg #[V.lo.v,V.ini.v,V.ev.v,V.br.v,V.ad.v,V.da.v,V.ct.v,V.th.v,V.en.v]:Value)=Zzw V'/\Zxl (((((((((wr.setCell ⟨w.heap.size+1,0,none⟩ u0).setCell ⟨w.heap.size+1,1,none⟩ u1).setCell ⟨w.heap.size+1,2,none⟩ u2).setCell ⟨w.heap.size+1,3,none⟩ u3).setCell ⟨w.heap.size+1,4,none⟩ u4).setCell ⟨w.heap.size+1,5,none⟩ u5).setCell ⟨w.heap.size+1,6,none⟩ u6).setCell ⟨w.heap.size+1,7,none⟩ u7).setCell ⟨w.heap.size+1,8,none⟩ u8) L V':=
 (h.out.off9 h.res (by have:=h.hO;omega) u0 u1 u2 u3 u4 u5 u6 u7 u8).trc
theorem ran (h:OfS w wr O L V tc){w5:World}{S:RrS}{r:Rn}{fl:Bool}{W:RrV}(hr:Zba w5 w.heap.size S r W)(hk:Zbf w.heap.size wr w5)(e1:S.ini=V.ini)(e2:S.th=V.th)(e3:S.en=V.en)(z:Array Value) :
  Zsa w ((w5.alloc (.cells z 137 (0,0))).setRow w5.heap.size (rrC S r fl W)) O w5.heap.size S r fl W L.ini L.th L.a.ends tc:=by
 have hal:=Zad w5 (.cells z 137 (0,0));have hZ:=Blk.new w5 137 z;have hz:=hk.size;have hb0:=h.bel.size;have hy:=h.res;have hO1:=hk.keep _ _ _ h.out.blk (by decide) (by decide) (by decide);have ht1:=hk.keep _ _ _ h.tst (by decide) (by decide) (by decide);have hy1:=hk.keep _ _ _ hy (by decide) (by decide) (by decide);have n1:=hO1.lt;have n2:=ht1.lt;have n3:=hy1.lt;refine⟨(hr.below hal).row hZ _,hZ.row _,⟨_,(hO1.go hal).farRow ω _,rfl,by rw [e2];rfl⟩,?_,?_,?_,(ht1.go hal).farRow ω _,(hy1.go hal).farRow ω _,below_setRow ((h.bel.trans hk.below).trans (hal.mono ω)) ω _,h.hO⟩
 ·rw [e1];exact ((h.out.ini.keep (fun q hq=>hk.heap hq (by decide) (by decide) (by decide))).keep (fun q hq=>hal.block q hq.lt)).keep (fun q hq=>setRow_other _ _ _ _ (Za5 hq hZ (by decide)))
 ·rw [e3];exact ((h.out.en.keep (fun q hq=>hk.heap hq (by decide) (by decide) (by decide))).keep (fun q hq=>hal.block q hq.lt)).keep (fun q hq=>setRow_other _ _ _ _ (Za5 hq hZ (by decide)))
 ·rw [e2];exact Zcp (Zah (hk.own h.out.th (by decide) (by decide) (by decide)) hal) hZ (by decide) _
end OfS
namespace Zsa
variable {w wq w1:World} {O G:Nat} {S:RrS} {r:Rn} {fl:Bool} {V:RrV} {I:List Int} {ths:List Th} {m:List (Int×Int)} {tc:Array Value}
theorem below (h:Zsa w wq O G S r fl V I ths m tc)(hb:Below wq.heap.size wq w1):Zsa w w1 O G S r fl V I ths m tc:=
 ⟨h.ref.below hb,h.blk.go hb,h.out.imp fun _ hz=>⟨hz.1.go hb,hz.2⟩,h.ini.keep (fun _ hq=>hb.block _ hq.lt),h.en.keep (fun _ hq=>hb.block _ hq.lt),Zah h.th hb,h.tst.go hb,h.res.go hb,Zab h.bel hb,h.hO⟩
theorem en_blk (h:Zsa w wq O G S r fl V I ths m tc){q n:Nat}(hq:S.en=⟨some ⟨q,0,none⟩,n,n⟩):Blk wq q 130 (Zbj.flat m).toArray/\w.heap.size<=q/\m.length=n:=by
 obtain⟨q',e,hb,hB⟩:=h.en;rw [hq] at e;simp only [Sl.v,Value.slice.injEq,Option.some.injEq,Addr.mk.injEq,and_true] at e;obtain⟨rfl,rfl,_⟩:=e;exact⟨hb,hB,rfl⟩
theorem put (h:Zsa w wq O G S r fl V I ths m tc){i q n:Nat}(x y:Int)(hi:i<n)(hq:S.en=⟨some ⟨q,0,none⟩,n,n⟩) :
  Zsa w ((wq.setCell ⟨q,i*2,none⟩ (.int .i64 x)).setCell ⟨q,i*2+1,none⟩ (.int .i64 y)) O G S r fl V I ths (m.set i (x,y)) tc:=by
 obtain⟨hb,hB,rfl⟩:=h.en_blk hq;have k0:=hb.set_ (i*2) (.int .i64 x);have k1:=k0.set_ (i*2+1) (.int .i64 y);rw [Zoj m i (x,y) hi] at k1
 exact⟨(h.ref.setO hb _ _).setO k0 _ _,(h.blk.far (Za5 h.blk hb (by decide)) _).far (Za5 h.blk hb (by decide)) _,
  h.out.imp fun _ hz=>⟨(hz.1.far (Za5 hz.1 hb (by decide)) _).far (Za5 hz.1 hb (by decide)) _,hz.2⟩,
  (h.ini.keep (fun _ hq2=>Below.heap_setCell wq _ _ _ (Za5 hq2 hb (by decide)))).keep (fun _ hq2=>Below.heap_setCell _ _ _ _ (Za5 hq2 k0 (by decide))),
  ⟨q,by rw [hq,List.length_set],k1,hB⟩,Zae (Zae h.th hb (by decide) _ _) k0 (by decide) _ _,
  (h.tst.far (Za5 h.tst hb (by decide)) _).far (Za5 h.tst hb (by decide)) _,
  (h.res.far (Za5 h.res hb (by decide)) _).far (Za5 h.res hb (by decide)) _,
  (h.bel.setCell (p:=⟨q,i*2,none⟩) hB _).setCell (p:=⟨q,i*2+1,none⟩) hB _,h.hO⟩
theorem fin (h:Zsa w wq O G S r fl V I ths m tc)(ha:S.C.ahead=S.a.evs.length) :
  OfS w (wq.setRow O (Z01 ⟨S.lo,S.ini,V.ev,V.br,V.ad,V.da,V.ct,S.th,S.en⟩)) O ⟨S.C.locs,I,ths,Z2f S.a r m⟩ ⟨S.lo,S.ini,V.ev,V.br,V.ad,V.da,V.ct,S.th,S.en⟩ tc:=by
 obtain⟨z,hz,hzs,_⟩:=h.out;have hO:=h.hO;have hr:=h.ref
 refine⟨⟨hz.row _,ω,Zcp hr.lo hz (by decide) _,h.ini.keep (fun _ hq2=>setRow_other wq O _ _ (Za5 hq2 hz (by decide))),Zcp hr.ev hz (by decide) _,Zcp hr.br hz (by decide) _,?_,?_,?_,Zcp h.th hz (by decide) _,h.en.keep (fun _ hq2=>setRow_other wq O _ _ (Za5 hq2 hz (by decide))),hr.a1,hr.a2,hr.a3⟩,
  h.tst.farRow ω _,h.res.farRow ω _,below_setRow h.bel ω _,hO⟩
 ·have:=Zcp hr.ad hz (by decide) (Z01 ⟨S.lo,S.ini,V.ev,V.br,V.ad,V.da,V.ct,S.th,S.en⟩);rw [ha] at this;exact this
 ·have:=Zcp hr.da hz (by decide) (Z01 ⟨S.lo,S.ini,V.ev,V.br,V.ad,V.da,V.ct,S.th,S.en⟩);rw [ha] at this;exact this
 ·have:=Zcp hr.ct hz (by decide) (Z01 ⟨S.lo,S.ini,V.ev,V.br,V.ad,V.da,V.ct,S.th,S.en⟩);rw [ha] at this;exact this
end Zsa
theorem Zcg.enS {w:World}{B O:Nat}{L:Zpu}{V:Zn4}(h:Zcg w B O L (Z53 V)):∃ q,V.en=⟨some ⟨q,0,none⟩,L.a.ends.length,L.a.ends.length⟩:=by
 obtain⟨q,e,_,_⟩:=h.en;obtain⟨_,_,_,_,_,_,_,_,⟨A,n,c⟩⟩:=V;simp only [Sl.v,Value.slice.injEq] at e;obtain⟨rfl,rfl,rfl⟩:=e;exact⟨q,rfl⟩
theorem Z55 {α:Type}{E:Enc α}{t:TypeId}{w:World}{B:Nat}{s:Sl}{l:List α}(h:E.Own t B w s.v l):s=⟨s.A,l.length,s.c⟩:=by
 have:=Zv7 h;obtain⟨A,n,c⟩:=s;simp only at this;subst this;rfl
theorem Zqs (s:Sl)(l:List (Int×Int))(B:Nat)(w:World)(h:Zbj.Own 175 B w s.v l)(hl:l.length<=1000000) :
  Calls Tryz.prog 54 #[s.v] w fun e w'=>∃ s':Sl,e=.returned s'.v/\Zbj.Own 175 w.heap.size w' s'.v (Zf6 l)/\Below w.heap.size w w':=by
 obtain⟨s',e1,e2,hat⟩:=Zha h;have e3:=Z55 h;obtain⟨A,n,c⟩:=s;obtain⟨A',n',c'⟩:=s';simp only [Sl.v,Value.slice.injEq] at e1;obtain⟨rfl,rfl,rfl⟩:=e1;simp only at e2;subst e2;exact Z3b A c l w hat hl
theorem Zn3.fin {k:Nat}{a' a:Tr}(h:Zn3 k a' a)(m:List (Int×Int)):(⟨a'.evs,a'.bars,Zf6 a'.addr,Zf6 a'.data,Zf6 a'.hang,m⟩:Tr)={ a with ends:=m }:=by
 rw [h.evs,h.bars,h.addr,h.data,h.hang]
abbrev rrS (T:Tst)(Ai:Option Addr)(bs os ci cc:Nat)(A0:Option Addr)(l0 q0 k:Nat)(V:Zn4)(a':Tr):RrS:=⟨T,⟨Ai,T.init.length,ci⟩,⟨some ⟨bs,os,none⟩,T.code.length,cc⟩,⟨A0,l0,q0⟩,⟨k,isR T,a'.evs.length,Zaq T⟩,V.lo,V.ini,V.th,V.en,a'⟩
theorem Z8e {T:Tst}(hE:Zbb T=0){Ai:Option Addr}{bs os ci cc l0 q0 k nt O:Nat}{A0:Option Addr}{c:List Ins}{a' a:Tr}{V:Zn4}{w y:World}{I:List Int}{ths:List Th}{tc:Array Value}
  (hT:Zcu w T Ai (some ⟨bs,os,none⟩) (.slice A0 l0 q0)) (hc:T.code[k]?=some c) (hraw:Zn3 k a' a) (hok:Z09 nt k a) (hof:OfS w y O ⟨Zaq T,I,ths,a'⟩ V tc) :
  Calls Tryz.prog 52 #[.agg #[.int .i64 T.arch,.string ⟨T.name.toArray⟩,.string ⟨T.cycle.toArray⟩,.slice Ai T.init.length ci,.slice (some ⟨bs,os,none⟩) T.code.length cc,.int .i64 T.q,.int .i64 T.k,.int .i64 T.t,.int .i64 T.r,.string ⟨T.l.toArray⟩,.int .i64 T.v,.slice A0 l0 q0],.agg (Z01 V),.int .i64 (k:Int)] y
   (Zee w.heap.size (rrS T Ai bs os ci cc A0 l0 q0 k V a') (goL ⟨k,isR T,a'.evs.length,Zaq T⟩ c 0 (rn0 (isR T) T.init k)) y):=by
 obtain⟨hk,_⟩:=List.getElem?_eq_some_iff.1 hc;obtain⟨_,hlo,_,hcod,_⟩:=Za0 hE;obtain⟨h16,_,hthr⟩:=Zca hcod;obtain⟨b,o,A2,c2,e,hc0,hins,_,hcc⟩:=hT.code k c hc;simp only [Option.some.injEq,Addr.mk.injEq,and_true] at e;obtain⟨rfl,rfl⟩:=e;have hbs:bs<w.heap.size:=World.block_lt_of_cell? w _ hc0;have hbel:=hof.bel;have l1:=hraw.n1;have l2:=hraw.n2;have l3:=hraw.n3;have l4:=hok.bars;have l5:=hok.evs;have l6:a'.bars.length=a.bars.length:=by rw [hraw.bars]
 have l7:a'.evs.length=a.evs.length:=by rw [hraw.evs]
 have hS:Zen (rrS T Ai bs os ci cc A0 l0 q0 k V a'):=⟨rfl,by show a'.addr.length<=_;omega,by show a'.data.length<=_;omega,by show a'.hang.length<=_;omega,by show a'.bars.length<=_;omega,hlo⟩;exact Z9k w.heap.size (rrS T Ai bs os ci cc A0 l0 q0 k V a') hS ⟨⟨none,0,0⟩,V.ev,V.br,V.ad,V.da,V.ct⟩ Ai (some ⟨bs,os,none⟩) A2 ci cc c2 (Zdn (isR T)) c y rfl (hT.below hbel).init rfl rfl
  (fun x hx hth=>((Zkc hE hx).reg (by simp only at hth;omega)).2.1) hT.ilen rfl rfl hk (hthr k c hc).1 hcc bs os rfl hbs (Zac hc0 hbel) (hins.below hbel)
  (fun hne p hp=>by
    obtain⟨x,hx⟩:∃ x,c[0]?=some x:=⟨_,List.getElem?_eq_getElem (List.length_pos_iff.2 hne)⟩;obtain⟨b,o,e,h0,_⟩:=hins 0 x hx;rw [hp] at e;cases e
    exact World.block_lt_of_cell? w _ h0)
  (fun j x hx=>Zkq hE rfl hc hx) (fun j x hx h11=>Z22 hE hc hx h11) (fun hr=>Z5f hE hc hr) (Z5c hE rfl (by show a'.evs.length<=64;omega) k)
  (hof.out.refAt hof.bel.size rfl rfl rfl)
section
theorem Zwk {w:World}{g:Nat}{v0 v1 v2 v3 v4 v5 v6 v7 v8:Value}(h:Blk w g 87 #[v0,v1,v2,v3,v4,v5,v6,v7,v8]):(loadVar 87 ⟨g,0,none⟩).run Tryz.prog w=.ok (.agg #[v0,v1,v2,v3,v4,v5,v6,v7,v8]) w:=
 run_loadVar_row w g 87 87 #[v0,v1,v2,v3,v4,v5,v6,v7,v8] (0,0) _ h Tryz.underlying87 rfl κ
theorem Zyv {P:Program}{ops:Array Oper}{rest:List Oper}{o:Oper}{a:Act}{W:World}{Q:Exit->Act->World->Prop}(T:TypeId)(tp:Nat){A:Addr}{v:Value}
  (h1:o.op=.load T (.tmp tp)) (g1:o.guard=none) (ha:a.tmps.getD tp undef=.pointer (some A)) (hl:(loadVar T A).run P W=.ok v W) (hK:wpList P ops Q rest (a.put o.dst v) W):wpList P ops Q (o :: rest) a W:=
 wpList_plain g1 fun K1 hK1=>by
  unfold Oper.wp execOp;simp only [h1,Act.eval,ha,Instr.loadAt,Instr.sureAddr,Sem.run_bind,Sem.run_pure,Result.andThen_ok,hl];exact hK1 _ _ hK
theorem Zb5 {P:Program}{ops:Array Oper}{rest:List Oper}{o:Oper}{a:Act}{W:World}{Q:Exit->Act->World->Prop}(sl:Nat)
  (h1:o.op=.assign (.tmp sl)) (g1:o.guard=none) (hK:wpList P ops Q rest (a.put o.dst (a.tmps.getD sl undef)) W):wpList P ops Q (o :: rest) a W:=
 wpList_plain g1 fun K1 hK1=>by
  unfold Oper.wp execOp;simp only [h1,Act.eval,Sem.run_pure];exact hK1 _ _ hK
theorem Z2x {P:Program}{ops:Array Oper}{rest:List Oper}{o:Oper}{a:Act}{W:World}{Q:Exit->Act->World->Prop}(op:Op)(_:o.op=op)(h:Hid (wpList P ops Q (o :: rest) a W)):wpList P ops Q (o :: rest) a W:=h.out
theorem Zzv (V:Zn4):(Z01 V).all (·.oneCell')=true:=by simp [Z01,Value.oneCell']
def OfR (T:Tst)(w:World)(e:Ending)(w':World):Prop:=(match Zcs T with
 | .error (c,k)=>e=.returned (.tuple #[.agg #[.slice none 0 0,.slice none 0 0,.slice none 0 0,.slice none 0 0,.slice none 0 0,.slice none 0 0,.slice none 0 0,.slice none 0 0,.slice none 0 0],.int .i64 c,.int .i64 (k:Int)])
 | .ok a=>∃ V:Zn4,e=.returned (.tuple #[Zzw V,.int .i64 0,.int .i64 0])/\Zxl w' ⟨Zaq T,Ze3 (Zaq T) T.init,Za8 T,a⟩ V/\Z07 w.heap.size V.lo.A/\Z07 w.heap.size V.th.A)/\Below w.heap.size w w'
theorem OfR.bad {T:Tst}{w w':World}{c:Int}{k:Nat}(h:Zcs T=.error (c,k))(hb:Below w.heap.size w w'):OfR T w (.returned (.tuple #[.agg #[.slice none 0 0,.slice none 0 0,.slice none 0 0,.slice none 0 0,.slice none 0 0,.slice none 0 0,.slice none 0 0,.slice none 0 0,.slice none 0 0],.int .i64 c,.int .i64 (k:Int)])) w':=by
 unfold OfR;rw [h];exact⟨rfl,hb⟩
theorem Zvr {w:World}{B:Nat}{t:TypeId}{z m n c:Nat}{A:Option Addr}{cs:List Value}(h:w.ownsRow B t z (.slice A n c) m cs):Z07 B A:=fun p hp=>by
 rcases h.2 with ⟨e,_⟩ | ⟨g,cap,cur,e,h1,_⟩
 ·simp only [Value.slice.injEq] at e;rw [e.1] at hp;cases hp
 ·simp only [Value.slice.injEq] at e;rw [e.1] at hp;cases hp
  exact h1
theorem OfR.ok {T:Tst}{w w':World}{a:Tr}{v:Value}{V:Zn4}(h:Zcs T=.ok a)(e:v=Zzw V)(ht:Zxl w' ⟨Zaq T,Ze3 (Zaq T) T.init,Za8 T,a⟩ V)(hb:Below w.heap.size w w')(hn:Z07 w.heap.size V.lo.A/\Z07 w.heap.size V.th.A):OfR T w (.returned (.tuple #[v,.int .i64 0,.int .i64 0])) w':=by
 unfold OfR;rw [h];exact⟨⟨V,by rw [e],ht,hn⟩,hb⟩
theorem Z2b (o:Option (Int×Int)):∃ p1 p2 okb,Zup o=.tuple #[.agg #[.int .i64 p1,.int .i64 p2],.bool okb]/\((okb=true/\o=some (p1,p2))\/(okb=false/\o=none)):=by
 cases o with
 | none=>exact⟨0,0,false,rfl,Or.inr ⟨rfl,rfl⟩⟩
 | some p=>exact⟨p.1,p.2,true,rfl,Or.inl ⟨rfl,rfl⟩⟩
section
set_option maxHeartbeats 100000000
set_option maxRecDepth 100000
theorem ofR (T:Tst)(Ai Ac:Option Addr)(ci cc:Nat)(kv:Value)(w:World)(hT:Zcu w T Ai Ac kv) :
  Calls Tryz.prog 26 #[Zbu T (.slice Ai T.init.length ci) (.slice Ac T.code.length cc) kv] w (OfR T w):=by
 obtain⟨A0,l0,q0,rfl⟩:∃ A n c,kv=.slice A n c:=by obtain⟨A,cap,e,_⟩:=hT.kids;exact⟨A,_,cap,e⟩
 have HT0:=Zh hT;obtain⟨tc,htc⟩:∃ c:Array Value,c=#[.int .i64 T.arch,.string ⟨T.name.toArray⟩,.string ⟨T.cycle.toArray⟩,.slice Ai T.init.length ci,.slice Ac T.code.length cc,.int .i64 T.q,.int .i64 T.k,.int .i64 T.t,.int .i64 T.r,.string ⟨T.l.toArray⟩,.int .i64 T.v,.slice A0 l0 q0]:=⟨_,rfl⟩;have HCK:Hid (∀ y,Zcu y T Ai Ac (.slice A0 l0 q0)->Calls Tryz.prog 48 #[.agg tc] y fun e y'=>e=.returned (.int .i64 (Zbb T))/\Below y.heap.size y y'):=Zh (fun y h=>by rw [htc];exact Ztz ci cc h);have HLO:Hid (∀ y,Zcu y T Ai Ac (.slice A0 l0 q0)->Calls Tryz.prog 49 #[.agg tc] y (Z39 T y)):=Zh (fun y h=>by rw [htc];exact Z7z ci cc h);rw [show Zbu T (.slice Ai T.init.length ci) (.slice Ac T.code.length cc) (.slice A0 l0 q0)=.agg tc by rw [htc]];have HTC:=Zh htc;have HTZ:=Zh (show tc.size=12 by rw [htc];rfl);have hil:=hT.ilen;have hcl:=hT.clen;clear hT htc;go_enter Tryz.func26,Tryz.ntmps26;apply wp_seq_k;intro K hK;have HK:=Zh hK;clear hK
 go_wp2_with fail
 refine Z31 (P:=fun X=>K _ X) w _ _ _ _ ?_;intro W b0 b1 hz hbW;refine HK.o _ _ ?_;clear HK K;have HTB:=Zh b0;have HRB:=Zh b1;have HBW:=Zh hbW;clear b0 b1 hbW hz
 repeat (first | ((with_reducible refine Zat ?_);refine Zaz 32 1 w.heap.size rfl rfl HTB.o Tryz.underlying32 rfl (by rw [HTZ.o];kernel_rfl) rfl ?_) | (go_at_call 48;refine Hid.o ?_) | go_step)
 refine Zh ?_;refine (HCK.o W (HT0.o.below HBW.o)).mono ?_;rintro e w2 ⟨rfl,hb⟩;dsimp only;have HB2:=Zh (Zab HBW.o hb);have HTB2:=Zh (HTB.o.go hb);have HRB2:=Zh (HRB.o.go hb);have hz2:w.heap.size+1<w2.heap.size:=HRB2.o.lt;clear hb HTB HRB HBW HCK;by_cases hE:Zbb T=0
 ·have HE:=Zh hE;have f1:(Zbb T != 0)=false:=by simpa using hE
  have HSM:=Zh (Za0 hE);have HB3:=Zh (Zad w2 (.cells #[.slice none 0 0,.slice none 0 0,.slice none 0 0,.slice none 0 0,.slice none 0 0,.slice none 0 0,.slice none 0 0,.slice none 0 0,.slice none 0 0] 87 (0,0)));have HTB3:=Zh (HTB2.o.alloc (.cells #[.slice none 0 0,.slice none 0 0,.slice none 0 0,.slice none 0 0,.slice none 0 0,.slice none 0 0,.slice none 0 0,.slice none 0 0,.slice none 0 0] 87 (0,0)));clear hE
  go_wp2_with (first | ((with_reducible refine Zat ?_);refine Zaz 32 1 w.heap.size rfl rfl HTB3.o Tryz.underlying32 rfl (by rw [HTZ.o];kernel_rfl) rfl ?_) | (go_at_call 49;refine Hid.o ?_))
  refine Zh ?_;refine (HLO.o _ (HT0.o.below (Zab HB2.o HB3.o))).mono ?_;rintro e w3 ⟨hor,hb⟩;rcases hor with ⟨hne,_⟩ | ⟨hz0,Al,cl,rfl,hown⟩
  ·exact absurd HE.o hne
  clear hz0;dsimp only;obtain⟨nl,hnl⟩:∃ n,(Zdq (Zel T)).length=n:=⟨_,rfl⟩;have HNL:=Zh hnl;have HLW:Hid (Zc1.Own 9 w.heap.size w3 (.slice Al nl cl) (Zaq T)):=by
   rw [<- hnl];exact Zh (Zd4 hown (show w.heap.size<=(w2.alloc (.cells #[.slice none 0 0,.slice none 0 0,.slice none 0 0,.slice none 0 0,.slice none 0 0,.slice none 0 0,.slice none 0 0,.slice none 0 0,.slice none 0 0] 87 (0,0))).heap.size by simp;omega))
  rw [hnl];have hnl64:nl<=64:=by have:=HSM.o.2.1;omega
  have HTB4:=Zh (HTB3.o.go hb);have HRB4:=Zh ((HRB2.o.alloc (.cells #[.slice none 0 0,.slice none 0 0,.slice none 0 0,.slice none 0 0,.slice none 0 0,.slice none 0 0,.slice none 0 0,.slice none 0 0,.slice none 0 0] 87 (0,0))).go hb);have HOB4:=Zh ((Blk.new w2 87 #[.slice none 0 0,.slice none 0 0,.slice none 0 0,.slice none 0 0,.slice none 0 0,.slice none 0 0,.slice none 0 0,.slice none 0 0,.slice none 0 0]).go hb);have HB4:=Zh (Zab HB2.o (Zab HB3.o hb));have hz4:w2.heap.size<w3.heap.size:=HOB4.o.lt;clear hb hown hnl HTB2 HTB3 HRB2 HB2 HB3 HLO;have o0:=HOB4.o.cell 0;have o1:=HOB4.o.cell 1;have fo:=HOB4.o.frozen;have hmk:=Znc nl ω
  go_wp2_with fail
  have HOX:=Zh (show Blk (((w3.setCell ⟨w2.heap.size,0,none⟩ (.slice Al nl cl)).setCell ⟨w2.heap.size,1,none⟩ (.slice (some ⟨w3.heap.size,0,none⟩) nl nl)).alloc (.cells (Zbs (List.replicate nl 0)) 3 (0,0))) w2.heap.size 87 #[.slice Al nl cl,.slice (some ⟨w3.heap.size,0,none⟩) nl nl,.slice none 0 0,.slice none 0 0,.slice none 0 0,.slice none 0 0,.slice none 0 0,.slice none 0 0,.slice none 0 0] from ((HOB4.o.set_ 0 (.slice Al nl cl)).set_ 1 (.slice (some ⟨w3.heap.size,0,none⟩) nl nl)).alloc _);have HQX:Hid (Blk (((w3.setCell ⟨w2.heap.size,0,none⟩ (.slice Al nl cl)).setCell ⟨w2.heap.size,1,none⟩ (.slice (some ⟨w3.heap.size,0,none⟩) nl nl)).alloc (.cells (Zbs (List.replicate nl 0)) 3 (0,0))) w3.heap.size 3 (Zde.flat (List.replicate nl 0)).toArray):=by
   have:=Blk.new ((w3.setCell ⟨w2.heap.size,0,none⟩ (.slice Al nl cl)).setCell ⟨w2.heap.size,1,none⟩ (.slice (some ⟨w3.heap.size,0,none⟩) nl nl)) 3 (Zbs (List.replicate nl 0));simp only [World.size_setCell] at this;rw [Zjy] at this ⊢;exact Zh this
  have HLX:=Zh (Zah (Zae (Zae HLW.o HOB4.o (by decide) 0 (.slice Al nl cl)) (HOB4.o.set_ 0 (.slice Al nl cl)) (by decide) 1 (.slice (some ⟨w3.heap.size,0,none⟩) nl nl)) (Zad _ (.cells (Zbs (List.replicate nl 0)) 3 (0,0))));have HTX:=Zh (((HTB4.o.far (p:=⟨w2.heap.size,0,none⟩) (show w.heap.size≠w2.heap.size by omega) (.slice Al nl cl)).far (p:=⟨w2.heap.size,1,none⟩) (show w.heap.size≠w2.heap.size by omega) (.slice (some ⟨w3.heap.size,0,none⟩) nl nl)).alloc (.cells (Zbs (List.replicate nl 0)) 3 (0,0)));have HRX:=Zh (((HRB4.o.far (p:=⟨w2.heap.size,0,none⟩) (show w.heap.size+1≠w2.heap.size by omega) (.slice Al nl cl)).far (p:=⟨w2.heap.size,1,none⟩) (show w.heap.size+1≠w2.heap.size by omega) (.slice (some ⟨w3.heap.size,0,none⟩) nl nl)).alloc (.cells (Zbs (List.replicate nl 0)) 3 (0,0)));have HBX:=Zh (Zaa ((HB4.o.setCell (p:=⟨w2.heap.size,0,none⟩) (show w.heap.size<=w2.heap.size by omega) (.slice Al nl cl)).setCell (p:=⟨w2.heap.size,1,none⟩) (show w.heap.size<=w2.heap.size by omega) (.slice (some ⟨w3.heap.size,0,none⟩) nl nl)) (.cells (Zbs (List.replicate nl 0)) 3 (0,0)));generalize ((w3.setCell ⟨w2.heap.size,0,none⟩ (.slice Al nl cl)).setCell ⟨w2.heap.size,1,none⟩ (.slice (some ⟨w3.heap.size,0,none⟩) nl nl)).alloc (.cells (Zbs (List.replicate nl 0)) 3 (0,0))=w4 at *;clear o0 o1 fo hmk HOB4 HTB4 HRB4 HB4 HLW
  go_loopw [9] (fun v wr=>∃ (i:Nat) (I:List Int),i<=T.init.length/\v=.int .i64 i/\I=(T.init.take i).foldl (Zp9 (Zaq T)) (List.replicate nl 0)/\I.length=nl/\Blk wr w2.heap.size 87 #[.slice Al nl cl,.slice (some ⟨w3.heap.size,0,none⟩) nl nl,.slice none 0 0,.slice none 0 0,.slice none 0 0,.slice none 0 0,.slice none 0 0,.slice none 0 0,.slice none 0 0]/\Blk wr w3.heap.size 3 (Zde.flat I).toArray/\Zc1.Own 9 w.heap.size wr (.slice Al nl cl) (Zaq T)/\Blk wr w.heap.size 32 tc/\Blk wr (w.heap.size+1) 87 #[.slice none 0 0,.slice none 0 0,.slice none 0 0,.slice none 0 0,.slice none 0 0,.slice none 0 0,.slice none 0 0,.slice none 0 0,.slice none 0 0]/\Below w.heap.size w wr) (fun v _=>T.init.length - (intOf v).toNat)
  case atStart=>exact⟨0,_,Nat.zero_le _,rfl,rfl,by simp,HOX.o,HQX.o,HLX.o,HTX.o,HRX.o,HBX.o⟩
  case round=>
   obtain⟨i,I,hi,rfl,hI,hIl,ho,hq,hlo,ht,hr,hb⟩:=hrel;have HII:=Zh hI;have HO:=Zh ho;have HQ:=Zh hq;have HLO:=Zh hlo;have HTB:=Zh ht;have HRB:=Zh hr;have HB:=Zh hb;have b3:wr.cell? ⟨w.heap.size,3,none⟩=some (.slice Ai T.init.length ci):=(by have:=ht.cell 3;rw [this,HTC.o];rfl);clear hI ho hq hlo ht hr hb HOX HQX HLX HTX HRX HBX;by_cases hlt:i<T.init.length
   ·have ex:=List.getElem?_eq_getElem hlt;obtain⟨x,hx⟩:∃ x,T.init[i]=x:=⟨_,rfl⟩;rw [hx] at ex
    have HNX:=Zh (show (T.init.take (i+1)).foldl (Zp9 (Zaq T)) (List.replicate nl 0)=Zp9 (Zaq T) I x by
     obtain⟨h1,h2⟩:=List.getElem?_eq_some_iff.1 ex
     rw [List.take_succ_eq_append_getElem h1,List.foldl_append,<- HII.o,h2];rfl)
    have hok:=Zkc HE.o (List.mem_of_getElem? ex);obtain⟨b,o,hA,c0,c1,c2,c3,c4,_⟩:=(HT0.o.below HB.o).init i x ex;subst hA;have hii:(0:Int)<=(i:Int):=ω;have hij:(i:Int)<(T.init.length:Int):=ω;clear ex hx;by_cases hth:x.th=-1
    ·obtain⟨hm,_⟩:=hok.mem hth;obtain⟨k,hk⟩:∃ k,(Zaq T).idxOf x.loc=k:=⟨_,rfl⟩;have hkn:k<nl:=by have h1:=List.idxOf_lt_length_of_mem hm;have h2:(Zaq T).length=nl:=HNL.o;omega
     rw [hth] at c0;have HPL:Hid (∀ y:World,Zc1.At y Al (Zaq T)->Calls Tryz.prog 50 #[.agg #[.slice Al nl cl,.slice (some ⟨w3.heap.size,0,none⟩) nl nl,.slice none 0 0,.slice none 0 0,.slice none 0 0,.slice none 0 0,.slice none 0 0,.slice none 0 0,.slice none 0 0],.string ⟨x.loc.toArray⟩] y fun e y'=>e=.returned (.int .i64 (k:Int))/\Below y.heap.size y y'):=Zh (fun y hy=>by rw [<- hk];exact Zlv ⟨⟨Al,nl,cl⟩,⟨some ⟨w3.heap.size,0,none⟩,nl,nl⟩,⟨none,0,0⟩,⟨none,0,0⟩,⟨none,0,0⟩,⟨none,0,0⟩,⟨none,0,0⟩,⟨none,0,0⟩,⟨none,0,0⟩⟩ (Zaq T) x.loc y hy HNL.o.symm (by have:(Zaq T).length=nl:=HNL.o;omega) hm);have HFS:=Zh (show Zp9 (Zaq T) I x=I.set k x.vn by unfold Zp9;rw [if_pos hth,hk]);have HAT:Hid (Zc1.At wr Al (Zaq T)):=by
      obtain⟨A',cap',e,hat,_⟩:=Enc.Own.at_ (E:=Zc1) HLO.o;simp only [Value.slice.injEq] at e;obtain⟨rfl,_⟩:=e;exact Zh hat
     have HS:=Zh (And.intro HO.o.drew (And.intro (HO.o.drew.cell 1) (And.intro (show wr.drew.cell? ⟨w.heap.size,3,none⟩=_ from b3) (And.intro (show wr.drew.cell? ⟨b,o+i*5+2,none⟩=_ from c2) (show wr.drew.cell? ⟨b,o+i*5+4,none⟩=_ from c4)))));clear hok hth hm hk
     go_wp2_with fail
     refine wz (fun y:World=>Blk y w2.heap.size 87 #[.slice Al nl cl,.slice (some ⟨w3.heap.size,0,none⟩) nl nl,.slice none 0 0,.slice none 0 0,.slice none 0 0,.slice none 0 0,.slice none 0 0,.slice none 0 0,.slice none 0 0]/\y.cell? ⟨w2.heap.size,1,none⟩=some (.slice (some ⟨w3.heap.size,0,none⟩) nl nl)/\y.cell? ⟨w.heap.size,3,none⟩=some (.slice (some ⟨b,o,none⟩) T.init.length ci)/\y.cell? ⟨b,o+i*5+2,none⟩=some (.string ⟨x.loc.toArray⟩)/\y.cell? ⟨b,o+i*5+4,none⟩=some (.int .i64 x.vn)) [1,2,4,6,7,8,9,11,13,14,15,16] HS.o (fun hHeld=>?_);refine wq 0 ?_;refine wq 3 ?_;refine wq 5 ?_;refine wq 10 ?_;refine wq 12 ?_;refine wt 1 (by assumption) ?_;refine wv 2 ((.agg #[.slice Al nl cl,.slice (some ⟨w3.heap.size,0,none⟩) nl nl,.slice none 0 0,.slice none 0 0,.slice none 0 0,.slice none 0 0,.slice none 0 0,.slice none 0 0,.slice none 0 0])) rfl (fun x' hS=>Zay rfl rfl (Zwk hS.1)) (by assumption) ?_;refine wt 4 (by assumption) ?_;refine wt 6 (by assumption) ?_;refine wt 7 (by assumption) ?_;refine wt 8 (by assumption) ?_;refine wt 11 (by assumption) ?_;refine wt 13 (by assumption) ?_;refine wt 14 (by assumption) ?_;refine wt 15 (by assumption) ?_;refine wt 16 (by assumption) ?_;refine Zan (i:=9) κ rfl (fun K hK=>?_);go_simp
     go_at_call 50
     refine (HPL.o _ (show Zc1.At wr.drew Al (Zaq T) from HAT.o)).mono ?_;rintro e w6 ⟨rfl,hb6⟩;have HB6:=Zh (Zas hb6);refine hK.out _ _ ⟨hHeld.1.go hb6,Zac hHeld.2.1 hb6,Zac hHeld.2.2.1 hb6,Zac hHeld.2.2.2.1 hb6,Zac hHeld.2.2.2.2 hb6⟩ ?_;clear hK K hHeld hb6 HS HAT HPL;refine pu ?_;refine wl 17 ?_;have HQ6:=Zh (HQ.o.go HB6.o);have hki:(k:Int)<(nl:Int):=ω;have hki0:(0:Int)<=(k:Int):=ω;obtain⟨n0,hn0⟩:∃ n0,I[k]?=some n0:=⟨_,List.getElem?_eq_getElem ω⟩;have z0:w6.cell? ⟨w3.heap.size,k,none⟩=some (.int .i64 n0):=(by have h1:=Zde.flat_at hn0 (show 0<1 by omega);rw [show k*Zde.size+0=k by show k*1+0=k;omega] at h1;rw [HQ6.o.cell,List.getElem?_toArray];exact h1);have f0:=HQ6.o.frozen k;clear hn0
     go_wp2_with fail
     have HW:=Zh (show Blk (w6.setCell ⟨w3.heap.size,k,none⟩ (.int .i64 x.vn)) w3.heap.size 3 (Zde.flat (I.set k x.vn)).toArray by
      have:=HQ6.o.set_ k (.int .i64 x.vn);rw [Zoh _ _ _ ω] at this
      exact this)
     go_roundw
     case rel=>
      exact⟨i+1,I.set k x.vn,ω,by go_num,by rw [HNX.o,HFS.o],by simp [hIl],(HO.o.go HB6.o).far (by simp;omega) _,HW.o,Zae (Zah HLO.o HB6.o) HQ6.o (by decide) _ _,(HTB.o.go HB6.o).far (by simp;omega) _,(HRB.o.go HB6.o).far (by simp;omega) _,(Zab HB.o HB6.o).setCell (p:=⟨w3.heap.size,k,none⟩) (show w.heap.size<=w3.heap.size by omega) _⟩
     case measure=>simp [intOf];omega
    ·have HSM2:=Zh (show Zp9 (Zaq T) I x=I from if_neg hth);have htf:(x.th == -1)=false:=by simpa using hth
     clear hok
     go_wp2_with fail
     go_roundw
     case rel=>exact⟨i+1,I,ω,by go_num,by rw [HNX.o,HSM2.o],hIl,HO.o,HQ.o,HLO.o,HTB.o,HRB.o,HB.o⟩
     case measure=>simp [intOf];omega
   ·have hie:i=T.init.length:=ω;have hij:¬ (i:Int)<(T.init.length:Int):=ω
    have HFI:=Zh (show I=Ze3 (Zaq T) T.init by
     rw [HII.o,hie,List.take_length];unfold Ze3;rw [show (Zaq T).length=nl from HNL.o])
    have b5:wr.cell? ⟨w.heap.size,5,none⟩=some (.int .i64 T.q):=(by have:=HTB.o.cell 5;rw [this,HTC.o];rfl);have b6:wr.cell? ⟨w.heap.size,6,none⟩=some (.int .i64 T.k):=(by have:=HTB.o.cell 6;rw [this,HTC.o];rfl);have b7:wr.cell? ⟨w.heap.size,7,none⟩=some (.int .i64 T.t):=(by have:=HTB.o.cell 7;rw [this,HTC.o];rfl);have b8:wr.cell? ⟨w.heap.size,8,none⟩=some (.int .i64 T.r):=(by have:=HTB.o.cell 8;rw [this,HTC.o];rfl);have b9:wr.cell? ⟨w.heap.size,9,none⟩=some (.string ⟨T.l.toArray⟩):=(by have:=HTB.o.cell 9;rw [this,HTC.o];rfl);have b10:wr.cell? ⟨w.heap.size,10,none⟩=some (.int .i64 T.v):=(by have:=HTB.o.cell 10;rw [this,HTC.o];rfl);have b11:wr.cell? ⟨w.heap.size,11,none⟩=some (.slice A0 l0 q0):=(by have:=HTB.o.cell 11;rw [this,HTC.o];rfl);have HK:=Zh (Zd7.below HT0.o.kids (Nat.le_refl _) HB.o);have HL:=Zh HT0.o.llen;have hbz:=HB.o.size
    go_wp2_with (go_at_call 51;refine Hid.o ?_)
    refine Zh ?_;refine (Z8l w.heap.size _ hbz HK.o HL.o).mono ?_;rw [show Zl9 T.q T.k T.t T.r T.l T.v T.kids=Za8 T from rfl];rintro e w5 ⟨At,ct,rfl,hths,hb⟩;dsimp only;obtain⟨nt,hnt⟩:∃ n,(Za8 T).length=n:=⟨_,rfl⟩;have HTO:Hid (w5.ownsRow w.heap.size 25 3 (.slice At nt ct) (Za8 T).length (Za1 (Za8 T))):=by
     rw [<- hnt];exact Zh (Zd4 hths.2.2 hbz)
    rw [hnt];have HNT:=Zh hnt;have hnt3:nt<=1024:=by rw [<- hnt];exact Zez T
    have HO5:=Zh (HO.o.go hb);have HQ5:=Zh (HQ.o.go hb);have HLO5:=Zh (Zah HLO.o hb);have HTB5:=Zh (HTB.o.go hb);have HRB5:=Zh (HRB.o.go hb);have HB5:=Zh (Zab HB.o hb);have hqo:=Za5 HO.o HQ.o (by decide);have hwo:w2.heap.size<w5.heap.size:=HO5.o.lt;have hwt:w.heap.size<w5.heap.size:=HTB5.o.lt;clear hb hths hnt b3 b5 b6 b7 b8 b9 b10 b11 HO HQ HLO HTB HRB HB HK HL;have o7:=HO5.o.cell 7;have o8:=HO5.o.cell 8;have fo:=HO5.o.frozen;have hmk:=Zvo nt ω
    go_wp2_with fail
    have HOS:=Zh (HO5.o.set_ 7 (.slice At nt ct));have HOF:Hid (OfS w (((w5.setCell ⟨w2.heap.size,7,none⟩ (.slice At nt ct)).setCell ⟨w2.heap.size,8,none⟩ (.slice (some ⟨w5.heap.size,0,none⟩) nt nt)).alloc (.cells (Zbj.flat (List.replicate nt ((0:Int),(0:Int)))).toArray 130 (0,0))) w2.heap.size ⟨Zaq T,Ze3 (Zaq T) T.init,Za8 T,tr0 (Za8 T)⟩ ⟨⟨Al,nl,cl⟩,⟨some ⟨w3.heap.size,0,none⟩,nl,nl⟩,⟨none,0,0⟩,⟨none,0,0⟩,⟨none,0,0⟩,⟨none,0,0⟩,⟨none,0,0⟩,⟨At,nt,ct⟩,⟨some ⟨w5.heap.size,0,none⟩,nt,nt⟩⟩ tc):=by
     have hb:=Blk.new ((w5.setCell ⟨w2.heap.size,7,none⟩ (.slice At nt ct)).setCell ⟨w2.heap.size,8,none⟩ (.slice (some ⟨w5.heap.size,0,none⟩) nt nt)) 130 (Zbj.flat (List.replicate nt ((0:Int),(0:Int)))).toArray;simp only [World.size_setCell] at hb;have hq:=((HQ5.o.far (p:=⟨w2.heap.size,7,none⟩) (Ne.symm hqo) (.slice At nt ct)).far (p:=⟨w2.heap.size,8,none⟩) (Ne.symm hqo) (.slice (some ⟨w5.heap.size,0,none⟩) nt nt)).alloc (.cells (Zbj.flat (List.replicate nt ((0:Int),(0:Int)))).toArray 130 (0,0));rw [HFI.o] at hq
     refine Zh ⟨⟨(HOS.o.set_ 8 (.slice (some ⟨w5.heap.size,0,none⟩) nt nt)).alloc _,ω,Zah (Zae (Zae HLO5.o HO5.o (by decide) _ _) HOS.o (by decide) _ _) (Zad _ _),⟨w3.heap.size,?_,hq,ω⟩,Enc.Own.nil _ _ _,Enc.Own.nil _ _ _,Enc.Own.nil _ _ _,Enc.Own.nil _ _ _,Enc.Own.nil _ _ _,Zah (Zae (Zae HTO.o HO5.o (by decide) _ _) HOS.o (by decide) _ _) (Zad _ _),⟨w5.heap.size,?_,?_,ω⟩,(fun x hx=>by cases hx),(fun x hx=>by cases hx),(fun x hx=>by cases hx)⟩,
      (((HTB5.o.far (p:=⟨w2.heap.size,7,none⟩) (show w.heap.size≠w2.heap.size by omega) (.slice At nt ct)).far (p:=⟨w2.heap.size,8,none⟩) (show w.heap.size≠w2.heap.size by omega) (.slice (some ⟨w5.heap.size,0,none⟩) nt nt)).alloc (.cells (Zbj.flat (List.replicate nt ((0:Int),(0:Int)))).toArray 130 (0,0))),
      (((HRB5.o.far (p:=⟨w2.heap.size,7,none⟩) (show w.heap.size+1≠w2.heap.size by omega) (.slice At nt ct)).far (p:=⟨w2.heap.size,8,none⟩) (show w.heap.size+1≠w2.heap.size by omega) (.slice (some ⟨w5.heap.size,0,none⟩) nt nt)).alloc (.cells (Zbj.flat (List.replicate nt ((0:Int),(0:Int)))).toArray 130 (0,0))),
      (Zaa ((HB5.o.setCell (p:=⟨w2.heap.size,7,none⟩) (show w.heap.size<=w2.heap.size by omega) (.slice At nt ct)).setCell (p:=⟨w2.heap.size,8,none⟩) (show w.heap.size<=w2.heap.size by omega) (.slice (some ⟨w5.heap.size,0,none⟩) nt nt)) (.cells (Zbj.flat (List.replicate nt ((0:Int),(0:Int)))).toArray 130 (0,0))),hz2⟩
     ·show (.slice (some ⟨w3.heap.size,0,none⟩) nl nl:Value)=_;rw [<- HFI.o,hIl]
     ·show (.slice (some ⟨w5.heap.size,0,none⟩) nt nt:Value)=_;simp only [tr0,List.length_replicate,HNT.o]
     ·simp only [tr0,HNT.o];exact hb
    generalize ((w5.setCell ⟨w2.heap.size,7,none⟩ (.slice At nt ct)).setCell ⟨w2.heap.size,8,none⟩ (.slice (some ⟨w5.heap.size,0,none⟩) nt nt)).alloc (.cells (Zbj.flat (List.replicate nt ((0:Int),(0:Int)))).toArray 130 (0,0))=w6 at *;clear HO5 HQ5 HLO5 HTB5 HRB5 HB5 HTO HOS o7 o8 fo hmk hqo hij;obtain⟨X,hX⟩:∃ X,Zhe (isR T) (Zaq T) T.init (Za8 T) 0 T.code (tr0 (Za8 T))=X:=⟨_,rfl⟩;have HX:=Zh hX;have HTR:=Zh (Zpq HE.o hX);clear hX;go_loopw [12] (fun v wr=>∃ (k:Nat) (a' a:Tr) (V:Zn4),k<=T.code.length/\v=.int .i64 k/\Zhe (isR T) (Zaq T) T.init (Za8 T) k (T.code.drop k) a=X/\Zn3 k a' a/\Z09 nt k a/\OfS w wr w2.heap.size ⟨Zaq T,Ze3 (Zaq T) T.init,Za8 T,a'⟩ V tc) (fun v _=>T.code.length - (intOf v).toNat)
    case atStart=>exact⟨0,tr0 (Za8 T),tr0 (Za8 T),_,Nat.zero_le _,rfl,by rw [List.drop_zero];exact HX.o,Z57 _,by have:=Z6x T;rw [HNT.o] at this;exact this,HOF.o⟩
    case round=>
     obtain⟨k,a',a,V,hk,rfl,hgo,hraw,hok,hof⟩:=hrel;obtain⟨wk,hwk⟩:∃ z:World,z=wr:=⟨_,rfl⟩;subst hwk;clear HOF;have HGO:=Zh hgo;have HRW:=Zh hraw;have HTK:=Zh hok;have HOF:=Zh hof;obtain⟨qe,hqe⟩:=hof.out.enS;simp only [hraw.ends,hok.ends] at hqe;have HQE:=Zh hqe;obtain⟨oc,hoc⟩:∃ c,c=Z01 V:=⟨_,rfl⟩;have HOC:=Zh hoc;have HOZ:=Zh (show oc.size=9 by rw [hoc];rfl);have HOB:=Zh (show Blk wk w2.heap.size 87 oc by rw [hoc];exact hof.out.blk);have HTB:=Zh hof.tst;have b4:wk.cell? ⟨w.heap.size,4,none⟩=some (.slice Ac T.code.length cc):=(by have:=hof.tst.cell 4;rw [this,HTC.o];rfl);have hwk1:w2.heap.size<wk.heap.size:=hof.out.blk.lt;clear hgo hraw hok hof hqe hoc;by_cases hlt:k<T.code.length
     ·obtain⟨c,hc⟩:∃ c,T.code[k]?=some c:=⟨_,List.getElem?_eq_getElem hlt⟩;have HC:=Zh hc;have HDC:=Zh (show T.code.drop k=c :: T.code.drop (k+1) from Zcb hc);have hii:(0:Int)<=(k:Int):=ω;have hij:(k:Int)<(T.code.length:Int):=ω;obtain⟨bs,os,_,_,hAc,_⟩:=HT0.o.code k c hc;subst hAc;obtain⟨S,hS⟩:∃ S,S=rrS T Ai bs os ci cc A0 l0 q0 k V a':=⟨_,rfl⟩;have HSD:=Zh hS;have HRN:Hid (Calls Tryz.prog 52 #[.agg tc,.agg oc,.int .i64 (k:Int)] wk (Zee w.heap.size S (goL ⟨k,isR T,a.evs.length,Zaq T⟩ c 0 (rn0 (isR T) T.init k)) wk)):=by
       have:=Z8e HE.o HT0.o hc HRW.o HTK.o HOF.o (ci:=ci) (cc:=cc);rw [<- hS,HRW.o.evs] at this;rw [HTC.o,HOC.o];exact Zh this
      clear hc hS
      go_wp2_with (first | ((with_reducible refine Zat ?_);refine Zaz 32 1 w.heap.size rfl rfl HTB.o Tryz.underlying32 rfl (by rw [HTZ.o];kernel_rfl) rfl ?_) | ((with_reducible refine Zat ?_);refine Zaz 87 6 w2.heap.size rfl rfl HOB.o Tryz.underlying87 rfl (by rw [HOZ.o];kernel_rfl) rfl ?_) | (go_at_call 52;refine Hid.o ?_))
      refine Zh ?_;refine HRN.o.mono ?_;rintro e w5 ⟨r1,fl,V1,rfl,hr1,hk1,hg1⟩;dsimp only;have HZ:=Zh (Blk.new w5 137 #[.int .i64 0,.string ⟨#[]⟩,.string ⟨#[]⟩,.slice none 0 0,.slice none 0 0,.int .i64 0,.int .i64 0,.int .i64 0,.int .i64 0,.string ⟨#[]⟩,.int .i64 0,.slice none 0 0,.int .i64 0,.slice none 0 0,.int .u64 0,.slice none 0 0,.slice none 0 0,.slice none 0 0,.slice none 0 0,.slice none 0 0,.slice none 0 0,.slice none 0 0,.slice none 0 0,.slice none 0 0,.bool false,.bool false])
      repeat (first | ((with_reducible refine Zat ?_);refine Zar 137 13 92 w5.heap.size rfl rfl rfl HZ.o (by rfl) κ (Zbk _ _ _ _) rfl rfl ?_;refine Hid.o ?_) | go_step)
      refine Zh ?_;have HE9:=Zh (HOF.o.ran (fl:=fl) hr1 hk1 (by rw [HSD.o]) (by rw [HSD.o]) (by rw [HSD.o]) #[.int .i64 0,.string ⟨#[]⟩,.string ⟨#[]⟩,.slice none 0 0,.slice none 0 0,.int .i64 0,.int .i64 0,.int .i64 0,.int .i64 0,.string ⟨#[]⟩,.int .i64 0,.slice none 0 0,.int .i64 0,.slice none 0 0,.int .u64 0,.slice none 0 0,.slice none 0 0,.slice none 0 0,.slice none 0 0,.slice none 0 0,.slice none 0 0,.slice none 0 0,.slice none 0 0,.slice none 0 0,.bool false,.bool false]);have HG1:=Zh hg1;generalize ((w5.alloc (.cells #[.int .i64 0,.string ⟨#[]⟩,.string ⟨#[]⟩,.slice none 0 0,.slice none 0 0,.int .i64 0,.int .i64 0,.int .i64 0,.int .i64 0,.string ⟨#[]⟩,.int .i64 0,.slice none 0 0,.int .i64 0,.slice none 0 0,.int .u64 0,.slice none 0 0,.slice none 0 0,.slice none 0 0,.slice none 0 0,.slice none 0 0,.slice none 0 0,.slice none 0 0,.slice none 0 0,.slice none 0 0,.bool false,.bool false] 137 (0,0))).setRow w5.heap.size (rrC S r1 fl V1))=W9 at *;generalize w5.heap.size=G at *;generalize (rrV S r1 fl V1:Value)=x92;generalize (Value.agg oc)=x90;clear hr1 hk1 hg1 HZ HRN HOB HTB b4;have k25:=HE9.o.blk.cm 25;have k24:=HE9.o.blk.cm 24;have HRR:=Zh HE9.o.res;cases hfl:r1.full with
      | true=>
       rw [hfl] at k25
       have HXE:=Zh (show X=.error (2,k) by
        rcases HG1.o with ⟨_,h⟩ | ⟨_,_,h⟩
        ·exact Zey HGO.o HDC.o (Zpl rfl h hfl)
        ·rw [hfl] at h;cases h)
       have HTX:=Zh (show Zcs T=.error (2,k) by rw [HTR.o,HXE.o];rfl);clear hfl;have r0:=HRR.o.cell 0;have r1:=HRR.o.cell 1;have r2:=HRR.o.cell 2;have r3:=HRR.o.cell 3;have r4:=HRR.o.cell 4;have r5:=HRR.o.cell 5;have r6:=HRR.o.cell 6;have r7:=HRR.o.cell 7;have r8':=HRR.o.cell 8;have fr:=HRR.o.frozen
       go_wp2_with fail
       refine bodyPost_ret (v:=.tuple #[.agg #[.slice none 0 0,.slice none 0 0,.slice none 0 0,.slice none 0 0,.slice none 0 0,.slice none 0 0,.slice none 0 0,.slice none 0 0,.slice none 0 0],.int .i64 2,.int .i64 (k:Int)]) (by simp [results,Tryz.results26,go_sem, *]) rfl ?_;exact OfR.bad HTX.o (Zfv (HE9.o.bel) (Nat.le_succ _) _ _ _ _ _ _ _ _ _)
      | false=>
       rw [hfl] at k25;have HFL:=Zh hfl;clear hfl;obtain⟨Y,hY⟩:∃ Y,Ze7 k a.evs.length r1 0 (Za8 T) a.ends=Y:=⟨_,rfl⟩;have HY:=Zh hY
       have HP0:=Zh (show ((!fl)=true/\goL ⟨k,isR T,a.evs.length,Zaq T⟩ c 0 (rn0 (isR T) T.init k)=some r1/\Ze7 k a.evs.length r1 0 ((Za8 T).drop 0) a'.ends=Y)\/((!fl)=false/\X=.error (150,k)) by
        rcases HG1.o with ⟨h0,h⟩ | ⟨h0,h,_⟩
        ·exact Or.inl ⟨by rw [h0];rfl,h,by rw [List.drop_zero,HRW.o.ends];exact hY⟩
        ·exact Or.inr ⟨by rw [h0];rfl,Zey HGO.o HDC.o (Zpm rfl h)⟩)
       clear hY HRR HG1
       go_wp2_with fail
       clear k24 k25;go_loopw [15,14] (fun v u wq=>∃ (i:Nat) (m:List (Int×Int)) (ok:Bool),i<=nt/\v=.int .i64 i/\u=.bool ok/\((ok=true/\goL ⟨k,isR T,a.evs.length,Zaq T⟩ c 0 (rn0 (isR T) T.init k)=some r1/\Ze7 k a.evs.length r1 i ((Za8 T).drop i) m=Y)\/(ok=false/\X=.error (150,k)))/\Zsa w wq w2.heap.size G S r1 fl V1 (Ze3 (Zaq T) T.init) (Za8 T) m tc) (fun v _ _=>nt - (intOf v).toNat)
       case atStart=>exact⟨0,_,!fl,Nat.zero_le _,rfl,rfl,HP0.o,HE9.o⟩
       case round=>
        obtain⟨i,m,ok,hi,rfl,rfl,hpp,hes⟩:=hrel;have HPP:=Zh hpp;have HES:=Zh hes;obtain⟨zo,hzo,hzo9,hzo7⟩:=hes.out;obtain⟨At1,ct1,hth0,hth⟩:=Zet hes.th;have o7:wr.cell? ⟨w2.heap.size,7,none⟩=some (.slice At1 nt ct1):=by rw [hzo.cell,hzo7,hth0,HNT.o]
        have HZO:=Zh hzo;have HZN:=Zh hzo9;have HRR:=Zh hes.res;have HEQ:Hid (S.en=⟨some ⟨qe,0,none⟩,nt,nt⟩):=Zh (by rw [HSD.o];exact HQE.o);have hgw:G<wr.heap.size:=hes.blk.lt;have how:w2.heap.size<wr.heap.size:=hzo.lt;clear hpp hes HE9 HP0 hzo hzo9 hzo7 hth0;by_cases hgo:i<nt/\ok=true
        ·obtain⟨hlt2,hok1⟩:=hgo;subst hok1
         have HEN:=Zh (show goL ⟨k,isR T,a.evs.length,Zaq T⟩ c 0 (rn0 (isR T) T.init k)=some r1/\Ze7 k a.evs.length r1 i ((Za8 T).drop i) m=Y by
          rcases HPP.o with ⟨_,h⟩ | ⟨h,_⟩
          ·exact h
          ·cases h)
         obtain⟨x,hx⟩:∃ x,(Za8 T)[i]?=some x:=⟨_,List.getElem?_eq_getElem (by rw [HNT.o];exact hlt2)⟩;obtain⟨tb,tz9,hA,c0,c1,c2⟩:=hth i x hx;subst hA;obtain⟨xt,xr,xl⟩:=x;simp only at c0 c1 c2;have HXM:=Zh (List.mem_of_getElem? hx);have HDX:=Zh (show (Za8 T).drop i=(xt,xr,xl) :: (Za8 T).drop (i+1) from Zcb hx);clear hx hth HPP;have hii2:(0:Int)<=(i:Int):=ω;have hij2:(i:Int)<(nt:Int):=ω;by_cases hxt:xt=(k:Int)
         ·have hI8:=Zqb (fun j x hx=>Zkq HE.o rfl HC.o hx) c.length 0 _ _ (Nat.sub_le _ _) (Nat.zero_le _) (Z5c HE.o rfl HTK.o.evs k) HEN.o.1;obtain⟨_,hx1,hx2⟩:=Zww HE.o HXM.o (show xt≠-1 by omega);simp only at hx1 hx2;obtain⟨d,rfl⟩:=Int.eq_ofNat_of_zero_le hx1;have hdl:d<r1.regs.length:=by have:=hI8.rlen;omega
          obtain⟨y,hy⟩:∃ y,r1.regs[d]?=some y:=⟨_,List.getElem?_eq_getElem hdl⟩;subst hxt;obtain⟨q1,cp,hvr,hrat⟩:=HES.o.ref.rgAt ω;have HST:=Zh (show Zya k a.evs.length r1 m i ((k:Int),(d:Int),xl)=(Zsh a.evs.length y.h).map fun e=>m.set i e by unfold Zya;rw [if_pos rfl];simp only [Zhz hy])
          have HEI:=Zh (show (Zya k a.evs.length r1 m i ((k:Int),(d:Int),xl)).bind (fun m'=>Ze7 k a.evs.length r1 (i+1) ((Za8 T).drop (i+1)) m')=Y by
           have:=HEN.o.2;rw [HDX.o] at this
           exact this)
          obtain⟨p1,p2,okb,hev,hpo⟩:=Z2b (Zsh a.evs.length y.h)
          have HP2:=Zh (show (okb=true/\goL ⟨k,isR T,a.evs.length,Zaq T⟩ c 0 (rn0 (isR T) T.init k)=some r1/\Ze7 k a.evs.length r1 (i+1) ((Za8 T).drop (i+1)) (m.set i (p1,p2))=Y)\/(okb=false/\X=.error (150,k)) by
           have h:=HEI.o;rw [HST.o] at h;rcases hpo with ⟨h0,h1⟩ | ⟨h0,h1⟩
           ·rw [h1] at h;exact Or.inl ⟨h0,HEN.o.1,h⟩
           ·rw [h1] at h
            exact Or.inr ⟨h0,Zey HGO.o HDC.o (Zh5 rfl HEN.o.1 HFL.o (HY.o.trans h.symm))⟩)
          have HEP:Hid (∀ z,Calls Tryz.prog 53 #[Za6 S.C.ahead y] z fun e w'=>e=.returned (.tuple #[.agg #[.int .i64 p1,.int .i64 p2],.bool okb])/\Below z.heap.size z w'):=Zh (fun z=>by
           have:=Z4z S.C.ahead y z;rw [show S.C.ahead=a.evs.length by rw [HSD.o,<- HRW.o.evs],hev] at this;rw [show S.C.ahead=a.evs.length by rw [HSD.o,<- HRW.o.evs]]
           exact this)
          have k13:wr.cell? ⟨G,13,none⟩=some (.slice (some ⟨q1,0,none⟩) r1.regs.length cp):=by rw [<- hvr];exact HES.o.blk.cell 13
          have HSS:=Zh (show ∀ z,Below wr.heap.size wr z->(fun z:World=>(Zdw S.C.ahead).At z (some ⟨q1,0,none⟩) r1.regs/\z.cell? ⟨G,13,none⟩=some (.slice (some ⟨q1,0,none⟩) r1.regs.length cp)/\z.cell? ⟨w2.heap.size,7,none⟩=some (.slice (some ⟨tb,tz9,none⟩) nt ct1)/\z.cell? ⟨tb,tz9+i*3+1,none⟩=some (.int .i64 (d:Int))) z from fun z hb=>⟨hrat.below hb,Zac k13 hb,Zac o7 hb,Zac c1 hb⟩);have hd1:(0:Int)<=(d:Int):=ω;have hd2:(d:Int)<(r1.regs.length:Int):=ω;have htk:((k:Int) == (k:Int))=true:=by simp
          have HYY:=Zh hy;clear hI8 hx1 hx2 hdl hrat hvr hpo hev HRR k13
          go_wp2_with fail
          rename_i K hK;have HK:=Zh hK;clear hK;apply Zw3 (K:=K) (F:=fun la _ W3=>Zsa w W3 w2.heap.size G S r1 fl V1 (Ze3 (Zaq T) T.init) (Za8 T) m tc/\Blk W3 la 130 #[.int .i64 p1,.int .i64 p2])
          ·intro HM;have HM:=Zh HM;refine wz (fun z:World=>(Zdw S.C.ahead).At z (some ⟨q1,0,none⟩) r1.regs/\z.cell? ⟨G,13,none⟩=some (.slice (some ⟨q1,0,none⟩) r1.regs.length cp)/\z.cell? ⟨w2.heap.size,7,none⟩=some (.slice (some ⟨tb,tz9,none⟩) nt ct1)/\z.cell? ⟨tb,tz9+i*3+1,none⟩=some (.int .i64 (d:Int))) [1,3,5,6,7,9,14] (HSS.o _ (Below.refl _ _).drew) (fun hHeld=>?_);refine wq 0 ?_;refine wq 2 ?_;refine wq 4 ?_;refine wt 1 (by assumption) ?_;refine wt 3 (by assumption) ?_;refine wt 5 (by assumption) ?_;refine wt 6 (by assumption) ?_;refine wt 7 (by assumption) ?_;refine wq 8 ?_;refine wv 9 ((Za6 S.C.ahead y)) rfl (fun x' hS=>Zay rfl rfl (Zdx hS.1 HYY.o)) (by assumption) ?_;clear hHeld;refine Zcq (i:=10) (j:=14) κ rfl rfl (fun K hK=>?_) (fun K hK=>?_)
           ·go_simp
            go_at_call 53
            refine (HEP.o _).mono ?_;rintro e w10 ⟨rfl,hb10⟩;have HB10:=Zh (Zas hb10);refine hK.out _ _ (HSS.o _ HB10.o) ?_;clear hK K hb10;refine pu ?_;refine wq 11 ?_;refine wq 12 ?_;refine wq 13 ?_;refine Zan (i:=14) κ rfl (fun K hK=>?_);go_simp;refine hK.out _ _ (HSS.o _ (Zaa HB10.o _)) ?_;clear hK K;refine pu ?_;refine wl 15 ?_;refine Zar 130 16 130 w10.heap.size rfl rfl rfl (Blk.new w10 130 #[.int .i64 0,.int .i64 0]) (by rfl) κ κ rfl rfl ?_;have hF:Zsa w ((w10.alloc (.cells #[.int .i64 0,.int .i64 0] 130 (0,0))).setRow w10.heap.size #[.int .i64 p1,.int .i64 p2]) w2.heap.size G S r1 fl V1 (Ze3 (Zaq T) T.init) (Za8 T) m tc/\Blk ((w10.alloc (.cells #[.int .i64 0,.int .i64 0] 130 (0,0))).setRow w10.heap.size #[.int .i64 p1,.int .i64 p2]) w10.heap.size 130 #[.int .i64 p1,.int .i64 p2]:=
             ⟨HES.o.below (below_setRow (Zaa HB10.o _) HB10.o.size _),(Blk.new w10 130 #[.int .i64 0,.int .i64 0]).row _⟩
            generalize ((w10.alloc (.cells #[.int .i64 0,.int .i64 0] 130 (0,0))).setRow w10.heap.size #[.int .i64 p1,.int .i64 p2])=W3 at hF ⊢;generalize w10.heap.size=l1 at hF ⊢;exact m_63
           ·go_simp;refine hK.out _ _ (HSS.o _ (Zaa (Below.refl _ _).drew _)) ?_;clear hK K;refine pu ?_;have HZ:=Zh (Blk.new wr.drew 130 #[.int .i64 0,.int .i64 0]);have HBZ:=Zh (Zaa (Below.refl wr.heap.size wr).drew (.cells #[.int .i64 0,.int .i64 0] 130 (0,0)));refine Zan (i:=10) κ rfl (fun K hK=>?_);go_simp
            go_at_call 53
            refine (HEP.o _).mono ?_;rintro e w10 ⟨rfl,hb10⟩;have HB10:=Zh (Zab HBZ.o hb10);have HZ10:=Zh (HZ.o.go hb10);refine hK.out _ _ (HSS.o _ HB10.o) ?_;clear hK K hb10 HZ;refine pu ?_;refine wq 11 ?_;refine wq 12 ?_;refine wq 13 ?_;refine wl 15 ?_;refine Zar 130 16 130 wr.heap.size rfl rfl rfl HZ10.o (by rfl) κ κ rfl rfl ?_;have hF:Zsa w (w10.setRow wr.heap.size #[.int .i64 p1,.int .i64 p2]) w2.heap.size G S r1 fl V1 (Ze3 (Zaq T) T.init) (Za8 T) m tc/\Blk (w10.setRow wr.heap.size #[.int .i64 p1,.int .i64 p2]) wr.heap.size 130 #[.int .i64 p1,.int .i64 p2]:=
             ⟨HES.o.below (below_setRow HB10.o (Nat.le_refl _) _),HZ10.o.row _⟩
            clear HZ10 HB10 HBZ;generalize (w10.setRow wr.heap.size #[.int .i64 p1,.int .i64 p2])=W3 at hF ⊢;generalize wr.heap.size=l1 at hF ⊢;exact m_63
          ·intro la lb W3 ⟨hE3,hL3⟩;refine HK.o _ _ ?_;clear HK K HSS HEP;have HE3:=Zh hE3;have HL3:=Zh hL3;have k23:W3.cell? ⟨G,23,none⟩=some (.slice (some ⟨qe,0,none⟩) nt nt):=by have:=hE3.blk.cell 23;rw [this];show some S.en.v=_;rw [HEQ.o]
           obtain⟨hEB,hqB,hml⟩:=hE3.en_blk HEQ.o;obtain⟨e9,he9⟩:∃ e9,m[i]?=some e9:=⟨_,List.getElem?_eq_getElem ω⟩;have hcc:=Zhm hEB he9;have d0:=hcc.1;have d1:=hcc.2;have fz0:=hEB.frozen (i*2);have fz1:=hEB.frozen (i*2+1);have l0:=hL3.cell 0;have l1:=hL3.cell 1;have HE4:=Zh (hE3.put p1 p2 hlt2 HEQ.o);clear hE3 hL3 hEB hcc he9 o7 c0 c1 c2
           go_wp2_with fail
           go_roundw
           case rel=>exact⟨i+1,m.set i (p1,p2),okb,ω,by go_num,rfl,HP2.o,HE4.o⟩
           case measure=>simp [intOf];omega
         ·have hxf:(xt == (k:Int))=false:=by simpa using hxt
          have HNE:=Zh (show Ze7 k a.evs.length r1 (i+1) ((Za8 T).drop (i+1)) m=Y by
           have:=HEN.o.2;rw [HDX.o] at this;unfold Ze7 Zya at this;rw [if_neg hxt] at this
           exact this)
          clear hxt
          go_wp2_with fail
          go_roundw
          case rel=>exact⟨i+1,m,true,ω,by go_num,rfl,Or.inl ⟨rfl,HEN.o.1,HNE.o⟩,HES.o⟩
          case measure=>simp [intOf];omega
        ·cases ok with
         | true=>
          have hie:i=nt:=by
           refine Decidable.byContradiction fun h=>hgo ⟨ω,rfl⟩
          have hij2:¬ (i:Int)<(nt:Int):=ω
          have HYM:=Zh (show goL ⟨k,isR T,a.evs.length,Zaq T⟩ c 0 (rn0 (isR T) T.init k)=some r1/\Y=some m by
           rcases HPP.o with ⟨_,h1,h2⟩ | ⟨h,_⟩
           ·refine⟨h1,?_⟩;rw [List.drop_eq_nil_of_le (by rw [HNT.o];omega)] at h2;rw [<- h2];rfl
           ·cases h)
          have HXO:=Zh (Zwy rfl HYM.o.1 HFL.o (HY.o.trans HYM.o.2));have HGN:=Zh (Zwz HGO.o HDC.o HXO.o);have hcl2:=((Zca HSM.o.2.2.2.1).2.2 k c HC.o).1;have hml:m.length=nt:=(HES.o.en_blk HEQ.o).2.2;have HI8:=Zh (Zqb (fun j x hx=>Zkq HE.o rfl HC.o hx) c.length 0 _ _ (Nat.sub_le _ _) (Nat.zero_le _) (Z5c HE.o rfl HTK.o.evs k) HYM.o.1);have HTJ:=Zh (HTK.o.join (C:=⟨k,isR T,a.evs.length,Zaq T⟩) rfl HI8.o hcl2 hml);have HRJ:=Zh (HRW.o.join (C:=⟨k,isR T,a.evs.length,Zaq T⟩) rfl HI8.o (es:=m));have HFN:=Zh (HES.o.fin (by rw [HSD.o]));rw [show S.C.locs=Zaq T by rw [HSD.o],show S.a=a' by rw [HSD.o]] at HFN;have hlo:=Zkj HES.o.blk;clear hcl2 hth hgo HPP
          go_wp2_with ((with_reducible refine Zat ?_);refine Z2x (.fieldAddr 137 (.tmp 13) 4) rfl ?_)
          refine Zh ?_
          repeat (first | ((with_reducible refine Zat ?_);refine Zyv 87 143 (A:=⟨G,15,none⟩) rfl rfl rfl hlo ?_;refine Hid.o ?_) | go_step)
          refine Zh ?_;go_simp;refine Zar 87 6 144 w2.heap.size rfl rfl rfl HZO.o (by exact HZN.o) κ (Zzv ⟨S.lo,S.ini,V1.ev,V1.br,V1.ad,V1.da,V1.ct,S.th,S.en⟩) rfl rfl ?_
          repeat go_step
          go_roundw
          case rel=>exact⟨k+1,Z2f a' r1 m,Zi6 a r1 m,_,ω,by go_num,HGN.o,HRJ.o,HTJ.o,HFN.o⟩
          case measure=>simp [intOf];omega
         | false=>
          have HTX:=Zh (show Zcs T=.error (150,k) by
           rcases HPP.o with ⟨h,_⟩ | ⟨_,h⟩
           ·cases h
           ·rw [HTR.o,h];rfl)
          clear hth hgo HPP;by_cases hlt2:i<nt
          ·have hij2:(i:Int)<(nt:Int):=ω;exact m_15
          ·have hij2:¬ (i:Int)<(nt:Int):=ω;exact m_15
     ·have hke:k=T.code.length:=ω;have hij:¬ (k:Int)<(T.code.length:Int):=ω;have HXA:=Zh (show X=.ok a by have:=HGO.o;rw [hke,List.drop_length] at this;rw [<- this];rfl);obtain⟨Z,hZ⟩:∃ Z,Zso (Zaq T) 0 (Za8 T) a.ends=Z:=⟨_,rfl⟩;have HZ:=Zh hZ;clear hZ HOB HTB HOC HGO
      go_wp2_with fail
      clear b4;go_loopw [18] (fun v wq=>∃ (i:Nat) (m:List (Int×Int)),i<=nt/\v=.int .i64 i/\Zso (Zaq T) i ((Za8 T).drop i) m=Z/\m.length=nt/\OfS w wq w2.heap.size ⟨Zaq T,Ze3 (Zaq T) T.init,Za8 T,{ a' with ends:=m }⟩ V tc) (fun v _=>nt - (intOf v).toNat)
      case atStart=>exact⟨0,a'.ends,Nat.zero_le _,rfl,by rw [List.drop_zero,HRW.o.ends];exact HZ.o,by rw [HRW.o.ends];exact HTK.o.ends,HOF.o⟩
      case round=>
       obtain⟨i,m,hi,rfl,hfin,hml,hoq⟩:=hrel;have HFN:=Zh hfin;have HOQ:=Zh hoq;obtain⟨At1,ct1,hth0,hth⟩:=Zet hoq.out.th;have o7:wr.cell? ⟨w2.heap.size,7,none⟩=some (.slice At1 nt ct1):=by rw [hoq.out.blk.cell 7,<- HNT.o,<- hth0];rfl
       have how:w2.heap.size<wr.heap.size:=hoq.out.blk.lt;clear hfin hoq HOF hth0;by_cases hlt2:i<nt
       ·obtain⟨x,hx⟩:∃ x,(Za8 T)[i]?=some x:=⟨_,List.getElem?_eq_getElem (by rw [HNT.o];exact hlt2)⟩;obtain⟨tb,tz9,hA,c0,c1,c2⟩:=hth i x hx;subst hA;obtain⟨xt,xr,xl⟩:=x;simp only at c0 c1 c2;have HXM:=Zh (List.mem_of_getElem? hx)
        have HFX:=Zh (show Zso (Zaq T) (i+1) ((Za8 T).drop (i+1)) (Z2c (Zaq T) m i (xt,xr,xl))=Z by
         have:=HFN.o;rw [Zcb hx] at this
         exact this)
        clear hx hth;have hii2:(0:Int)<=(i:Int):=ω;have hij2:(i:Int)<(nt:Int):=ω;by_cases hxt:xt=-1
        ·have HLC:=Zh (Zwu HE.o HXM.o hxt);subst hxt;obtain⟨j,hj⟩:∃ j,(Zaq T).idxOf xl=j:=⟨_,rfl⟩
         have HFY:=Zh (show Zso (Zaq T) (i+1) ((Za8 T).drop (i+1)) (m.set i (3,(j:Int)))=Z by
          have:=HFX.o;unfold Z2c at this;rw [if_pos rfl,hj] at this
          exact this)
         have HPL:Hid (∀ y:World,Zc1.At y V.lo.A (Zaq T)->Calls Tryz.prog 50 #[.agg #[V.lo.v,V.ini.v,V.ev.v,V.br.v,V.ad.v,V.da.v,V.ct.v,V.th.v,V.en.v],.string ⟨xl.toArray⟩] y fun e y'=>e=.returned (.int .i64 (j:Int))/\Below y.heap.size y y'):=Zh (fun y hy=>by rw [<- hj];exact Zlv V (Zaq T) xl y hy (Zv7 HOQ.o.out.lo) HSM.o.2.1 HLC.o);have HAT:Hid (Zc1.At wr V.lo.A (Zaq T)):=by
          obtain⟨A',cap',e,hat,_⟩:=Enc.Own.at_ (E:=Zc1) HOQ.o.out.lo;simp only [Value.slice.injEq] at e;rw [<- e.1] at hat;exact Zh hat
         have o8:wr.cell? ⟨w2.heap.size,8,none⟩=some (.slice (some ⟨qe,0,none⟩) nt nt):=by have:=HOQ.o.out.blk.cell 8;rw [this];show some V.en.v=_;rw [HQE.o]
         have HS:=Zh (show (fun z:World=>Blk z w2.heap.size 87 #[V.lo.v,V.ini.v,V.ev.v,V.br.v,V.ad.v,V.da.v,V.ct.v,V.th.v,V.en.v]/\z.cell? ⟨w2.heap.size,8,none⟩=some (.slice (some ⟨qe,0,none⟩) nt nt)/\z.cell? ⟨w2.heap.size,7,none⟩=some (.slice (some ⟨tb,tz9,none⟩) nt ct1)/\z.cell? ⟨tb,tz9+i*3+2,none⟩=some (.string ⟨xl.toArray⟩)) wr.drew from⟨HOQ.o.out.blk,o8,o7,c2⟩);clear hj o8
         go_wp2_with fail
         refine wz (fun z:World=>Blk z w2.heap.size 87 #[V.lo.v,V.ini.v,V.ev.v,V.br.v,V.ad.v,V.da.v,V.ct.v,V.th.v,V.en.v]/\z.cell? ⟨w2.heap.size,8,none⟩=some (.slice (some ⟨qe,0,none⟩) nt nt)/\z.cell? ⟨w2.heap.size,7,none⟩=some (.slice (some ⟨tb,tz9,none⟩) nt ct1)/\z.cell? ⟨tb,tz9+i*3+2,none⟩=some (.string ⟨xl.toArray⟩)) [1,3,5,7,8,9,10,11] HS.o (fun hHeld=>?_);refine wq 0 ?_;refine wq 2 ?_;refine wq 4 ?_;refine wq 6 ?_;refine wt 1 (by assumption) ?_;refine wv 3 ((.agg #[V.lo.v,V.ini.v,V.ev.v,V.br.v,V.ad.v,V.da.v,V.ct.v,V.th.v,V.en.v])) rfl (fun x' hS=>Zay rfl rfl (Zwk hS.1)) (by assumption) ?_;refine wt 5 (by assumption) ?_;refine wt 7 (by assumption) ?_;refine wt 8 (by assumption) ?_;refine wt 9 (by assumption) ?_;refine Zan (i:=10) κ rfl (fun K hK=>?_);go_simp
         go_at_call 50
         refine (HPL.o _ (show Zc1.At wr.drew V.lo.A (Zaq T) from HAT.o)).mono ?_;rintro e w6 ⟨rfl,hb6⟩;have HB6:=Zh (Zas hb6);have hHeld6:=show (fun z:World=>Blk z w2.heap.size 87 #[V.lo.v,V.ini.v,V.ev.v,V.br.v,V.ad.v,V.da.v,V.ct.v,V.th.v,V.en.v]/\z.cell? ⟨w2.heap.size,8,none⟩=some (.slice (some ⟨qe,0,none⟩) nt nt)/\z.cell? ⟨w2.heap.size,7,none⟩=some (.slice (some ⟨tb,tz9,none⟩) nt ct1)/\z.cell? ⟨tb,tz9+i*3+2,none⟩=some (.string ⟨xl.toArray⟩)) w6 from⟨hHeld.1.go hb6,Zac hHeld.2.1 hb6,Zac hHeld.2.2.1 hb6,Zac hHeld.2.2.2 hb6⟩;refine hK.out _ _ hHeld6 ?_;clear hK K hHeld hb6 HS HAT HPL;refine pu ?_;refine Zan (i:=11) κ rfl (fun K hK=>?_);go_simp;refine hK.out _ _ hHeld6 ?_;clear hK K;refine pu ?_;refine wl 12 ?_;have HO6:=Zh (HOQ.o.below HB6.o);obtain⟨hEB,hqB⟩:=HO6.o.out.en_blk (show (Z53 V).en=.slice (some ⟨qe,0,none⟩) nt nt by show V.en.v=_;rw [HQE.o]);obtain⟨e9,he9⟩:∃ e9,m[i]?=some e9:=⟨_,List.getElem?_eq_getElem ω⟩;have hcc:=Zhm hEB he9;have d0:=hcc.1;have d1:=hcc.2;have fz0:=hEB.frozen (i*2);have fz1:=hEB.frozen (i*2+1);have HO7:=Zh (HO6.o.en_ (3,(j:Int)) hml hlt2 HQE.o);clear hEB hcc he9 hHeld6 o7 c0 c1 c2
         go_wp2_with fail
         go_roundw
         case rel=>exact⟨i+1,m.set i (3,(j:Int)),ω,by go_num,HFY.o,by simp [hml],HO7.o⟩
         case measure=>simp [intOf];omega
        ·have hxf:(xt == -1)=false:=by simpa using hxt
         have HFY:=Zh (show Zso (Zaq T) (i+1) ((Za8 T).drop (i+1)) m=Z by
          have:=HFX.o;unfold Z2c at this;rw [if_neg hxt] at this
          exact this)
         clear hxt
         go_wp2_with fail
         go_roundw
         case rel=>exact⟨i+1,m,ω,by go_num,HFY.o,hml,HOQ.o⟩
         case measure=>simp [intOf];omega
       ·have hie:i=nt:=ω;have hij2:¬ (i:Int)<(nt:Int):=ω
        have HMZ:=Zh (show m=Z by
         have:=HFN.o;rw [List.drop_eq_nil_of_le (by rw [HNT.o];omega)] at this
         exact this)
        have hk16:k<=16:=by have:=(Zca HSM.o.2.2.2.1).1;omega
        have n1:a'.addr.length<=1000000:=by have:=HRW.o.n1;omega
        have n2:a'.data.length<=1000000:=by have:=HRW.o.n2;omega
        have n3:a'.hang.length<=1000000:=by have:=HRW.o.n3;omega
        have k4:wr.cell? ⟨w2.heap.size,4,none⟩=some (.slice V.ad.A V.ad.n V.ad.c):=HOQ.o.out.blk.cell 4;clear hth
        go_wp2_with (go_at_call 54;refine Hid.o ?_)
        refine Zh ?_;refine (Zqs V.ad a'.addr _ _ HOQ.o.out.ad n1).mono ?_;rintro e w6 ⟨s6,rfl,ho6,hb6⟩;dsimp only;have HO6:=Zh (HOQ.o.pr_ ho6 hb6).1;have HB6:=Zh (HOQ.o.below hb6);have j4:w6.cell? ⟨w2.heap.size,4,none⟩=some (.slice V.ad.A V.ad.n V.ad.c):=HB6.o.out.blk.cell 4;have j5:w6.cell? ⟨w2.heap.size,5,none⟩=some (.slice V.da.A V.da.n V.da.c):=HB6.o.out.blk.cell 5;have f4:=HB6.o.out.blk.frozen 4;clear ho6 hb6 k4 o7
        go_wp2_with (go_at_call 54;refine Hid.o ?_)
        refine Zh ?_;generalize w6.setCell ⟨w2.heap.size,4,none⟩ (.slice s6.A s6.n s6.c)=w7 at *;refine (Zqs V.da a'.data _ _ HO6.o.out.da n2).mono ?_;rintro e w8 ⟨s8,rfl,ho8,hb8⟩;dsimp only;have HO8:=Zh (HO6.o.pr_ ho8 hb8).2.1;have HB8:=Zh (HO6.o.below hb8);clear j4 j5 f4;have j5:w8.cell? ⟨w2.heap.size,5,none⟩=some (.slice V.da.A V.da.n V.da.c):=HB8.o.out.blk.cell 5;have j6:w8.cell? ⟨w2.heap.size,6,none⟩=some (.slice V.ct.A V.ct.n V.ct.c):=HB8.o.out.blk.cell 6;have f5:=HB8.o.out.blk.frozen 5;clear ho8 hb8
        go_wp2_with (go_at_call 54;refine Hid.o ?_)
        refine Zh ?_;generalize w8.setCell ⟨w2.heap.size,5,none⟩ (.slice s8.A s8.n s8.c)=w9 at *;refine (Zqs V.ct a'.hang _ _ HO8.o.out.ct n3).mono ?_;rintro e w10 ⟨s10,rfl,ho10,hb10⟩;dsimp only;have HOA:=Zh (HO8.o.pr_ ho10 hb10).2.2;have HBA:=Zh (HO8.o.below hb10);clear j5 j6 f5;have j6:w10.cell? ⟨w2.heap.size,6,none⟩=some (.slice V.ct.A V.ct.n V.ct.c):=HBA.o.out.blk.cell 6;have f6:=HBA.o.out.blk.frozen 6;have HFR:=HBA.o.out.blk.frozen;have fr:=HBA.o.res.frozen;have p0:w10.cell? ⟨w2.heap.size,0,none⟩=some (.slice V.lo.A V.lo.n V.lo.c):=HBA.o.out.blk.cell 0;have p1:w10.cell? ⟨w2.heap.size,1,none⟩=some (.slice V.ini.A V.ini.n V.ini.c):=HBA.o.out.blk.cell 1;have p2:w10.cell? ⟨w2.heap.size,2,none⟩=some (.slice V.ev.A V.ev.n V.ev.c):=HBA.o.out.blk.cell 2;have p3:w10.cell? ⟨w2.heap.size,3,none⟩=some (.slice V.br.A V.br.n V.br.c):=HBA.o.out.blk.cell 3;have p4:w10.cell? ⟨w2.heap.size,4,none⟩=some (.slice s6.A s6.n s6.c):=HBA.o.out.blk.cell 4;have p5:w10.cell? ⟨w2.heap.size,5,none⟩=some (.slice s8.A s8.n s8.c):=HBA.o.out.blk.cell 5;have p7:w10.cell? ⟨w2.heap.size,7,none⟩=some (.slice V.th.A V.th.n V.th.c):=HBA.o.out.blk.cell 7;have p8:w10.cell? ⟨w2.heap.size,8,none⟩=some (.slice V.en.A V.en.n V.en.c):=HBA.o.out.blk.cell 8;have r0:=HBA.o.res.cell 0;have r1:=HBA.o.res.cell 1;have r2:=HBA.o.res.cell 2;have r3:=HBA.o.res.cell 3;have r4:=HBA.o.res.cell 4;have r5:=HBA.o.res.cell 5;have r6:=HBA.o.res.cell 6;have r7:=HBA.o.res.cell 7
        have r8':=HBA.o.res.cell 8;have hno:¬ w2.heap.size=w.heap.size+1:=ω;have hno2:¬ w.heap.size+1=w2.heap.size:=ω;clear ho10 hb10 HFR
        go_wp2_with fail
        refine bodyPost_ret (v:=.tuple #[.agg #[.slice V.lo.A V.lo.n V.lo.c,.slice V.ini.A V.ini.n V.ini.c,.slice V.ev.A V.ev.n V.ev.c,.slice V.br.A V.br.n V.br.c,.slice s6.A s6.n s6.c,.slice s8.A s8.n s8.c,.slice s10.A s10.n s10.c,.slice V.th.A V.th.n V.th.c,.slice V.en.A V.en.n V.en.c],.int .i64 0,.int .i64 0]) (by simp [results,Tryz.results26,go_sem, *]) rfl ?_;obtain⟨V',e,ht⟩:=HOA.o.ret (.slice V.lo.A V.lo.n V.lo.c) (.slice V.ini.A V.ini.n V.ini.c) (.slice V.ev.A V.ev.n V.ev.c) (.slice V.br.A V.br.n V.br.c) (.slice s6.A s6.n s6.c) (.slice s8.A s8.n s8.c) (.slice s10.A s10.n s10.c) (.slice V.th.A V.th.n V.th.c) (.slice V.en.A V.en.n V.en.c);rw [show (⟨a'.evs,a'.bars,Zf6 a'.addr,Zf6 a'.data,Zf6 a'.hang,m⟩:Tr)={ a with ends:=Z } by rw [HRW.o.fin m,HMZ.o]] at ht
        exact OfR.ok (by rw [HTR.o,HXA.o];show Except.ok _=_;rw [HZ.o]) e ht (Zfv (HOA.o.bel) (Nat.le_succ _) _ _ _ _ _ _ _ _ _) (by
         simp only [Zzw,Sl.v,Value.agg.injEq,Array.mk.injEq,List.cons.injEq,Value.slice.injEq] at e;obtain⟨⟨e1,_,_⟩,_,_,_,_,_,_,⟨e8,_,_⟩,_⟩:=e;rw [<- e1,<- e8]
         exact⟨Zvr HOA.o.out.lo,Zvr HOA.o.out.th⟩)
 ·have HE:=Zh hE;have f1:(Zbb T != 0)=true:=by simpa using hE
  have HTR:=Zh (show Zcs T=.error (Zbb T,0) by unfold Zcs;rw [if_pos hE]);clear hE;have r0:=HRB2.o.cell 0;have r1:=HRB2.o.cell 1;have r2:=HRB2.o.cell 2;have r3:=HRB2.o.cell 3;have r4:=HRB2.o.cell 4;have r5:=HRB2.o.cell 5;have r6:=HRB2.o.cell 6;have r7:=HRB2.o.cell 7;have r8':=HRB2.o.cell 8;have fr:=HRB2.o.frozen
  go_wp2_with fail
  refine bodyPost_ret (v:=.tuple #[.agg #[.slice none 0 0,.slice none 0 0,.slice none 0 0,.slice none 0 0,.slice none 0 0,.slice none 0 0,.slice none 0 0,.slice none 0 0,.slice none 0 0],.int .i64 (Zbb T),.int .i64 ((0:Nat):Int)]) (by simp [results,Tryz.results26,go_sem, *]) rfl ?_;exact OfR.bad HTR.o (Zfv (HB2.o) (Nat.le_succ _) _ _ _ _ _ _ _ _ _)
end
end
theorem Zmn {T:Tst}{c:Int}{k:Nat}(h:Zcs T=.error (c,k)):c≠0:=by
 unfold Zcs at h
 split at h
 ·rename_i hE;simp only [Except.error.injEq,Prod.mk.injEq] at h;rw [<- h.1];exact hE
 ·split at h
  ·rename_i e he;simp only [Except.error.injEq] at h;subst h;have key:∀ (cs:List (List Ins)) (i:Nat) (a:Tr),Zhe (isR T) (Zaq T) T.init (Za8 T) i cs a=.error (c,k)->c≠0:=by
    intro cs
    induction cs with
    | nil=>intro i a h;unfold Zhe at h;cases h
    | cons x cs ih=>
     intro i a h;unfold Zhe at h
     split at h
     ·rename_i e2 he2;simp only [Except.error.injEq,Prod.mk.injEq] at h;rw [<- h.1];unfold Zta at he2
      split at he2
      ·cases he2;decide
      ·split at he2
       ·cases he2;decide
       ·split at he2
        ·cases he2;decide
        ·cases he2
     ·exact ih _ _ h
   exact key _ _ _ he
  ·cases h
theorem Zyd {T:Tst}(hE:Zbb T=0){x:Ini}(hx:x∈T.init):Zeg T.arch T.code.length x=true:=by
 obtain⟨_,_,ha,_,hini,_⟩:=Za0 hE;obtain⟨k,hk⟩:=List.getElem?_of_mem hx;have hb:Zq1 T.arch T.code.length T.init k=false:=by
  unfold Zgn at hini
  split at hini
  ·cases hini
  cases h1:fst? (Zq1 T.arch T.code.length T.init) T.init.length with
  | some j=>rw [h1] at hini;cases hini
  | none=>exact Zes h1 k (List.getElem?_eq_some_iff.1 hk).1
 rw [Zf4 hk,Bool.or_eq_false_iff] at hb;simpa using hb.1
theorem Zxc {T:Tst}(hE:Zbb T=0):∀ t∈(Zby T).tds,∀ v∈t.vs,v.1≠[]->v.2=0:=by
 intro t ht v hv hne;obtain⟨k,_,rfl⟩:=List.mem_map.1 ht;have key:∀ (l:List Ini) (s:List (List UInt8×Int)),(∀ x∈l,x∈T.init)->(∀ y∈s,y.1≠[]->y.2=0)->∀ y∈l.foldl (fun l x=>if x.th=(k:Int) then l.set x.rg.toNat (x.vl,x.vn) else l) s,y.1≠[]->y.2=0:=by
  intro l
  induction l with
  | nil=>intro s _ hs;exact hs
  | cons x l ih=>
   intro s hl hs;refine ih _ (fun y hy=>hl y (List.mem_cons_of_mem _ hy)) ?_;by_cases hth:x.th=(k:Int)
   ·simp only [if_pos hth];intro y hy hyn;rcases List.mem_or_eq_of_mem_set hy with hy | rfl
    ·exact hs y hy hyn
    ·have hf:=Zyd hE (hl x (List.mem_cons_self ..));unfold Zeg at hf;rw [if_neg ω] at hf;simp only [Bool.and_eq_true,decide_eq_true_eq] at hf;obtain⟨_,_,_,h3⟩:=hf;have hne2:x.vl.isEmpty=false:=by
      cases h:x.vl with
      | nil=>exact absurd h hyn
      | cons a r=>rfl
     rw [hne2] at h3;simp only [Bool.false_eq_true,if_false,Bool.and_eq_true,decide_eq_true_eq] at h3;exact h3.2
   ·simp only [if_neg hth];exact hs
 exact key T.init _ (fun _ h=>h) (fun y hy hyn=>by
  have:=List.eq_of_mem_replicate hy;subst this
  rfl) v hv hne
theorem Zzj {T:Tst}(hE:Zbb T=0):SOM (Zby T):=by
 obtain⟨_,hl,ha,hcod,_,_,hany⟩:=Za0 hE;have hlen:(Zby T).tds.length=T.code.length:=by show ((List.range _).map _).length=_;simp
 have hth:∀ x∈Za8 T,Zbd T.arch x.1 x.2.1 x.2.2=true:=fun x hx=>Zwv hE hx
 have hml:(Ze3 (Zaq T) T.init).length=(Zaq T).length:=Zf8 _ _;refine⟨⟨?_,Nat.le_trans (Zez T) (by decide),Nat.le_trans hl (by decide),fun x hx hn=>?_,fun x hx hn=>?_⟩,Zgb _,fun x hx hn=>?_⟩
 ·rw [hlen];exact (Zca hcod).2.1
 ·have h:=hth x hx;unfold Zbd at h
  split at h
  ·simp only [Bool.and_eq_true] at h
   have hm:x.2.2∈Zaq T:=(Ze9 _ _).2 ⟨by
    unfold Zel
    exact List.mem_append_right _ (List.mem_append_right _ (List.mem_map.2 ⟨x,hx,rfl⟩)),Zgt h.2⟩
   refine⟨hm,?_⟩;show _<(Ze3 (Zaq T) T.init).length;rw [hml];exact List.idxOf_lt_length_iff.2 hm
  ·simp only [Bool.and_eq_true,decide_eq_true_eq] at h;omega
 ·have h:=hth x hx;unfold Zbd at h;rw [if_neg ω] at h;simp only [Bool.and_eq_true,decide_eq_true_eq] at h;have h2:x.1<(T.code.length:Int):=by
   have:=List.any_eq_false.1 hany x hx;simp only [decide_eq_true_eq] at this;omega
  have hk:x.1.toNat<(Zby T).tds.length:=by rw [hlen];omega
  refine⟨x.1.toNat,x.2.1.toNat,_,ω,ω,List.getElem?_eq_getElem hk,?_⟩;have hv:((Zby T).tds[x.1.toNat]).vs.length=Zdn (isR T):=by
   obtain⟨k,_,e⟩:=List.mem_map.1 (List.getElem_mem hk);rw [<- e];exact Zei _ _ _
  rw [hv];rcases Zho ha with ⟨e1,e2⟩ | ⟨e1,e2⟩
  ·rw [e1] at h;rw [e2];have:regs 1=15:=rfl;show _<15;omega
  ·rw [e1] at h;rw [e2];have:regs 2=32:=rfl;show _<32;omega
 ·have h:=hth x hx;unfold Zbd at h
  split at h
  ·assumption
  ·simp only [Bool.and_eq_true,decide_eq_true_eq] at h;omega
end Go.Proofs.YtgjefdaaihgliaaGreatDoor
