/- Layer 15: trace.Of behind a thread: how the things end, what is put down. -/
import Derived.Test.YtoegmdnfbemppaaGreatDoorTf02
import Derived.Test.YtoegmdnfbemppaaGreatDoorTf35

namespace Go.Proofs.YtoegmdnfbemppaaGreatDoor
open Go.RowKit
theorem Enc.appO {α:Type}{E:Enc α}{T S:TypeId}{bytes:Nat}(hE:E.Elem T S bytes){ops:Array Oper}{rest:List Oper}{o:Oper}{a:Act}{Q:Exit->Act->World->Prop}(V:World)
  (hg:o.guard=none) (s x:Operand) (hop:o.op=Op.call { callee:=Callee.builtin Builtin.append,args:=#[s,x],argTypes:=#[S,S] })
  (ys:List α) (B B2:Nat) (l:List α) (v vx:Value) (hs:a.eval s=v) (hx:a.eval x=vx)
  (hys:E.Own T B2 V vx ys) (hown:E.Own T B V v l) (b1:l.length+ys.length<=1152921504606846976) (b3:(l.length+ys.length)*bytes<=140737488355328) (hB:B<=V.heap.size)
  (hK:∀ v' w1,E.Own T B w1 v' (l++ys)->Zbn V w1 B v v'->wpList Tryz.prog ops Q rest (a.put o.dst v') w1) :
  wpList Tryz.prog ops Q (o :: rest) a V:=by
 obtain⟨A,cap,e1,hat,_,_⟩:=hys.at_
 rcases hys.2 with ⟨e,h0⟩ | ⟨g,c,cur,e,_⟩
 ·have hy:ys=[]:=List.length_eq_zero_iff.1 h0
  subst hy
  obtain⟨z,hz,hzs⟩:=hE.info
  obtain⟨i0,hi,hz0,hz1,hz2⟩:=Zc5 hz
  refine wpList_append_own_none hg s x S hop B T i0 E.size hE.sl hi v l.length (E.flat l) hs hown (by rw [hx,e]) (hK v V ?_ (Zbn.refl _ _ _))
  rw [List.append_nil];exact hown
 ·rw [e1] at e
  simp only [Value.slice.injEq,true_and] at e
  obtain⟨rfl,_⟩:=e
  exact Enc.appW hE V hg s x hop ys B l v g 0 cap hs (by rw [hx,e1]) hat hown b1 b3 hB hK
theorem Zg7 {w:World}{q i:Nat}{m:List (Int×Int)}{x:Int×Int}(h:Blk w q 54 (Zbg.flat m).toArray)(hx:m[i]?=some x):w.cell? ⟨q,i*2,none⟩=some (.int .i64 x.1)/\w.cell? ⟨q,i*2+1,none⟩=some (.int .i64 x.2):=by
 have h0:=Zbg.flat_at hx (show 0<Zbg.size by show 0<2;omega)
 have h1:=Zbg.flat_at hx (show 1<Zbg.size by show 1<2;omega)
 refine⟨?_,?_⟩
 ·rw [h.cell]
  rw [show i*Zbg.size+0=i*2 by show i*2+0=i*2;omega] at h0
  simpa using h0
 ·rw [h.cell]
  rw [show i*Zbg.size+1=i*2+1 from rfl] at h1
  simpa using h1
theorem Zb5.en_blk {w:World}{B O:Nat}{L:Zgv}{V:Zsd}(h:Zb5 w B O L V){q n:Nat}(hq:V.en=.slice (some ⟨q,0,none⟩) n n):Blk w q 54 (Zbg.flat L.a.ends).toArray/\B<=q:=by
 obtain⟨q',e,hb,hB⟩:=h.en
 rw [hq] at e
 simp only [Value.slice.injEq,Option.some.injEq,Addr.mk.injEq,and_true] at e
 obtain⟨rfl,_⟩:=e
 exact⟨hb,hB⟩
theorem Zb5.off {w:World}{B O q:Nat}{L:Zgv}{V:Zsd}{cs:Array Value}(h:Zb5 w B O L V)(hq:Blk w q 41 cs)(hne:O≠q)(i:Nat)(u:Value):Zb5 (w.setCell ⟨q,i,none⟩ u) B O L V:=
 ⟨h.blk.far hne u,h.hO,Zaf h.lo hq (by decide) _ _,h.ini.keep (fun _ hq2=>Below.heap_setCell w _ _ _ (Zaz hq2 hq (by decide))),Zaf h.ev hq (by decide) _ _,Zaf h.br hq (by decide) _ _,Zaf h.ad hq (by decide) _ _,Zaf h.da hq (by decide) _ _,Zaf h.ct hq (by decide) _ _,Zaf h.th hq (by decide) _ _,h.en.keep (fun _ hq2=>Below.heap_setCell w _ _ _ (Zaz hq2 hq (by decide))),h.a1,h.a2,h.a3⟩
theorem Zb5.off9 {w:World}{B O q:Nat}{L:Zgv}{V:Zsd}{cs:Array Value}(h:Zb5 w B O L V)(hq:Blk w q 41 cs)(hne:O≠q)(u0 u1 u2 u3 u4 u5 u6 u7 u8:Value) :
  Zb5 (((((((((w.setCell ⟨q,0,none⟩ u0).setCell ⟨q,1,none⟩ u1).setCell ⟨q,2,none⟩ u2).setCell ⟨q,3,none⟩ u3).setCell ⟨q,4,none⟩ u4).setCell ⟨q,5,none⟩ u5).setCell ⟨q,6,none⟩ u6).setCell ⟨q,7,none⟩ u7).setCell ⟨q,8,none⟩ u8) B O L V:=by
 have k1:=hq.set_ 0 u0
 have k2:=k1.set_ 1 u1
 have k3:=k2.set_ 2 u2
 have k4:=k3.set_ 3 u3
 have k5:=k4.set_ 4 u4
 have k6:=k5.set_ 5 u5
 have k7:=k6.set_ 6 u6
 have k8:=k7.set_ 7 u7
 exact ((((((((h.off hq hne 0 u0).off k1 hne 1 u1).off k2 hne 2 u2).off k3 hne 3 u3).off k4 hne 4 u4).off k5 hne 5 u5).off k6 hne 6 u6).off k7 hne 7 u7).off k8 hne 8 u8
structure Ze7 (w:World) (Bk:Nat) (wq:World) (O g:Nat) (S:Zgi) (r:Rn) (V8:Zd3) (L:Zgv) (V:Zsd) (tc:Array Value):Prop where
 out:Zb5 wq w.heap.size O L V
 run:Za1 wq Bk g S r V8
 tst:Blk wq w.heap.size 32 tc
 nil:Blk wq (w.heap.size+1) 41 #[.slice none 0 0,.slice none 0 0,.slice none 0 0,.slice none 0 0,.slice none 0 0,.slice none 0 0,.slice none 0 0,.slice none 0 0,.slice none 0 0]
 bel:Below w.heap.size w wq
 hO:w.heap.size+1<O
 hk:O<Bk
namespace Ze7
variable {w wq w1:World} {Bk O g:Nat} {S:Zgi} {r:Rn} {V8:Zd3} {L:Zgv} {V:Zsd} {tc:Array Value} {v':Value}
theorem below (h:Ze7 w Bk wq O g S r V8 L V tc)(hb:Below wq.heap.size wq w1):Ze7 w Bk w1 O g S r V8 L V tc:=
 ⟨h.out.below hb,h.run.below hb,h.tst.go hb,h.nil.go hb,Zaa h.bel hb,h.hO,h.hk⟩
theorem drew (h:Ze7 w Bk wq O g S r V8 L V tc):Ze7 w Bk wq.drew O g S r V8 L V tc:=⟨h.out.drew,h.run.drew,h.tst,h.nil,h.bel.drew,h.hO,h.hk⟩
theorem put (h:Ze7 w Bk wq O g S r V8 L V tc){i q n:Nat}(x y:Int)(hn:L.a.ends.length=n)(hi:i<n)(hq:V.en=.slice (some ⟨q,0,none⟩) n n)(hqk:q<Bk) :
  Ze7 w Bk ((wq.setCell ⟨q,i*2,none⟩ (.int .i64 x)).setCell ⟨q,i*2+1,none⟩ (.int .i64 y)) O g S r V8 { L with a:={ L.a with ends:=L.a.ends.set i (x,y) } } V tc:=by
 subst hn
 obtain⟨q',e,hb,hB⟩:=h.out.en
 rw [hq] at e
 simp only [Value.slice.injEq,Option.some.injEq,Addr.mk.injEq,and_true] at e
 obtain⟨rfl,_⟩:=e
 have hbel:=h.bel
 exact⟨h.out.en_ (x:=(x,y)) hi hq,h.run.above ((Zei.set wq _ _ hqk).trans (Zei.set _ _ _ hqk)),(h.tst.far (Zaz h.tst hb (by decide)) _).far (Zaz h.tst hb (by decide)) _,(h.nil.far (Zaz h.nil hb (by decide)) _).far (Zaz h.nil hb (by decide)) _,
  (hbel.setCell (p:=⟨q,i*2,none⟩) hB _).setCell (p:=⟨q,i*2+1,none⟩) hB _,h.hO,h.hk⟩
theorem en_blk (h:Ze7 w Bk wq O g S r V8 L V tc){q n:Nat}(hq:V.en=.slice (some ⟨q,0,none⟩) n n):Blk wq q 54 (Zbg.flat L.a.ends).toArray:=by
 obtain⟨q',e,hb,hB⟩:=h.out.en
 rw [hq] at e
 simp only [Value.slice.injEq,Option.some.injEq,Addr.mk.injEq,and_true] at e
 obtain⟨rfl,_⟩:=e
 exact hb
theorem ev_ (h:Ze7 w Bk wq O g S r V8 L V tc)(hlt:∀ b,V.ev.ownBlock=some b->b<Bk){l:List Evt}(hg:Zbn wq w1 w.heap.size V.ev v')(ho:Zp5.Own 50 w.heap.size w1 v' l):Ze7 w Bk (w1.setCell ⟨O,2,none⟩ v') O g S r V8 { L with a:={ L.a with evs:=l } } { V with ev:=v' } tc:=
 ⟨h.out.ev_ hg ho,h.run.above ((Zei.grew hg hlt).trans (Zei.set w1 2 v' h.hk)),(Zat h.tst h.out.ev (by decide) hg).far (p:=⟨O,2,none⟩) (by have:=h.hO;simp only [ne_eq];omega) v',(Zat h.nil h.out.ev (by decide) hg).far (p:=⟨O,2,none⟩) (by have:=h.hO;simp only [ne_eq];omega) v',(h.bel.trans hg.below).setCell (p:=⟨O,2,none⟩) (by have:=h.hO;show w.heap.size<=O;omega) v',h.hO,h.hk⟩
theorem br_ (h:Ze7 w Bk wq O g S r V8 L V tc)(hlt:∀ b,V.br.ownBlock=some b->b<Bk){l:List Br}(hg:Zbn wq w1 w.heap.size V.br v')(ho:Zm2.Own 79 w.heap.size w1 v' l):Ze7 w Bk (w1.setCell ⟨O,3,none⟩ v') O g S r V8 { L with a:={ L.a with bars:=l } } { V with br:=v' } tc:=
 ⟨h.out.br_ hg ho,h.run.above ((Zei.grew hg hlt).trans (Zei.set w1 3 v' h.hk)),(Zat h.tst h.out.br (by decide) hg).far (p:=⟨O,3,none⟩) (by have:=h.hO;simp only [ne_eq];omega) v',(Zat h.nil h.out.br (by decide) hg).far (p:=⟨O,3,none⟩) (by have:=h.hO;simp only [ne_eq];omega) v',(h.bel.trans hg.below).setCell (p:=⟨O,3,none⟩) (by have:=h.hO;show w.heap.size<=O;omega) v',h.hO,h.hk⟩
theorem ad_ (h:Ze7 w Bk wq O g S r V8 L V tc)(hlt:∀ b,V.ad.ownBlock=some b->b<Bk){l:List (Int×Int)}(hg:Zbn wq w1 w.heap.size V.ad v')(ho:Zbg.Own 52 w.heap.size w1 v' l):Ze7 w Bk (w1.setCell ⟨O,4,none⟩ v') O g S r V8 { L with a:={ L.a with addr:=l } } { V with ad:=v' } tc:=
 ⟨h.out.ad_ hg ho,h.run.above ((Zei.grew hg hlt).trans (Zei.set w1 4 v' h.hk)),(Zat h.tst h.out.ad (by decide) hg).far (p:=⟨O,4,none⟩) (by have:=h.hO;simp only [ne_eq];omega) v',(Zat h.nil h.out.ad (by decide) hg).far (p:=⟨O,4,none⟩) (by have:=h.hO;simp only [ne_eq];omega) v',(h.bel.trans hg.below).setCell (p:=⟨O,4,none⟩) (by have:=h.hO;show w.heap.size<=O;omega) v',h.hO,h.hk⟩
theorem da_ (h:Ze7 w Bk wq O g S r V8 L V tc)(hlt:∀ b,V.da.ownBlock=some b->b<Bk){l:List (Int×Int)}(hg:Zbn wq w1 w.heap.size V.da v')(ho:Zbg.Own 52 w.heap.size w1 v' l):Ze7 w Bk (w1.setCell ⟨O,5,none⟩ v') O g S r V8 { L with a:={ L.a with data:=l } } { V with da:=v' } tc:=
 ⟨h.out.da_ hg ho,h.run.above ((Zei.grew hg hlt).trans (Zei.set w1 5 v' h.hk)),(Zat h.tst h.out.da (by decide) hg).far (p:=⟨O,5,none⟩) (by have:=h.hO;simp only [ne_eq];omega) v',(Zat h.nil h.out.da (by decide) hg).far (p:=⟨O,5,none⟩) (by have:=h.hO;simp only [ne_eq];omega) v',(h.bel.trans hg.below).setCell (p:=⟨O,5,none⟩) (by have:=h.hO;show w.heap.size<=O;omega) v',h.hO,h.hk⟩
theorem ct_ (h:Ze7 w Bk wq O g S r V8 L V tc)(hlt:∀ b,V.ct.ownBlock=some b->b<Bk){l:List (Int×Int)}(hg:Zbn wq w1 w.heap.size V.ct v')(ho:Zbg.Own 52 w.heap.size w1 v' l):Ze7 w Bk (w1.setCell ⟨O,6,none⟩ v') O g S r V8 { L with a:={ L.a with hang:=l } } { V with ct:=v' } tc:=
 ⟨h.out.ct_ hg ho,h.run.above ((Zei.grew hg hlt).trans (Zei.set w1 6 v' h.hk)),(Zat h.tst h.out.ct (by decide) hg).far (p:=⟨O,6,none⟩) (by have:=h.hO;simp only [ne_eq];omega) v',(Zat h.nil h.out.ct (by decide) hg).far (p:=⟨O,6,none⟩) (by have:=h.hO;simp only [ne_eq];omega) v',(h.bel.trans hg.below).setCell (p:=⟨O,6,none⟩) (by have:=h.hO;show w.heap.size<=O;omega) v',h.hO,h.hk⟩
end Ze7
def Zax:Zd6->Int
 | .num _=>1
 | .adr _=>2
 | .rd _=>3
 | .non=>4
def Zb8 (f:Nat):Zd6->Int
 | .num n=>n
 | .adr _=>0
 | .rd i=>((f+i:Nat):Int)
 | .non=>0
def Zb7:Zd6->Nm
 | .adr s=>s
 | _=>[]
abbrev Zdi (f:Nat):Enc Rg:=⟨4,fun x=>[.int .i64 (Zax x.h),.int .i64 (Zb8 f x.h),.string ⟨(Zb7 x.h).toArray⟩,.int .u64 ((x.on<<<f:Nat):Int)],fun _=>rfl,by omega,fun x u h=>by simp at h;rcases h with rfl | rfl | rfl | rfl <;> rfl⟩
theorem Zyw (f:Nat):(Zdi f).Elem 125 119 40:=⟨Tryz.underlying119,.agg #[.int .i64 0,.int .i64 0,.string ⟨#[]⟩,.int .u64 0],by kernel_rfl,rfl⟩
abbrev Za3 (f:Nat)(x:Rg):Value:=.agg #[.int .i64 (Zax x.h),.int .i64 (Zb8 f x.h),.string ⟨(Zb7 x.h).toArray⟩,.int .u64 ((x.on<<<f:Nat):Int)]
structure Sl where
 A:Option Addr
 n:Nat
 c:Nat
abbrev Sl.v (s:Sl):Value:=.slice s.A s.n s.c
theorem Zee {w:World}{B:Nat}{t:TypeId}{z n:Nat}{v:Value}{cs:List Value}(h:w.ownsRow B t z v n cs):∃ s:Sl,v=s.v/\s.n=n:=by
 obtain⟨A,cap,e⟩:=Zbw h
 exact⟨⟨A,n,cap⟩,e,rfl⟩
theorem Zpw {w:World}{B:Nat}{t:TypeId}{z n:Nat}{s:Sl}{cs:List Value}(h:w.ownsRow B t z s.v n cs):s.n=n:=by
 obtain⟨A,cap,e⟩:=Zbw h
 simp only [Sl.v,Value.slice.injEq] at e
 exact e.2.1
structure Zfl where
 lo:Sl
 ini:Sl
 ev:Sl
 br:Sl
 ad:Sl
 da:Sl
 ct:Sl
 th:Sl
 en:Sl
abbrev Zgj (V:Zfl):Value:=.agg #[V.lo.v,V.ini.v,V.ev.v,V.br.v,V.ad.v,V.da.v,V.ct.v,V.th.v,V.en.v]
abbrev Zek (V:Zfl):Array Value:=#[V.lo.v,V.ini.v,V.ev.v,V.br.v,V.ad.v,V.da.v,V.ct.v,V.th.v,V.en.v]
structure RrV where
 rg:Sl
 ev:Sl
 br:Sl
 ad:Sl
 da:Sl
 ct:Sl
structure RrS where
 T:Tst
 iv:Sl
 cv:Sl
 kv:Sl
 C:Cx
 lo:Sl
 ini:Sl
 th:Sl
 en:Sl
 a:Tr
abbrev Zug (S:RrS)(V:RrV):Value:=Zgj ⟨S.lo,S.ini,V.ev,V.br,V.ad,V.da,V.ct,S.th,S.en⟩
abbrev rrC (S:RrS)(r:Rn)(fl:Bool)(V:RrV):Array Value:=#[.int .i64 S.T.arch,.string ⟨S.T.name.toArray⟩,.string ⟨S.T.cycle.toArray⟩,S.iv.v,S.cv.v,.int .i64 S.T.q,.int .i64 S.T.k,.int .i64 S.T.t,.int .i64 S.T.r,.string ⟨S.T.l.toArray⟩,.int .i64 S.T.v,S.kv.v,
 .int .i64 (S.C.th:Int),V.rg.v,.int .u64 ((r.ctrl<<<S.C.ahead:Nat):Int),S.lo.v,S.ini.v,V.ev.v,V.br.v,V.ad.v,V.da.v,V.ct.v,S.th.v,S.en.v,.bool fl,.bool r.full]
abbrev rrV (S:RrS)(r:Rn)(fl:Bool)(V:RrV):Value:=.agg (rrC S r fl V)
structure Za9 (B:Nat) (w w':World):Prop where
 below:Below B w w'
 keep:∀ b t cs,Blk w b t cs->t≠50->t≠79->t≠52->Blk w' b t cs
theorem Za9.size {B:Nat}{w w':World}(h:Za9 B w w'):w.heap.size<=w'.heap.size:=h.below.size
theorem Za9.refl (B:Nat)(w:World):Za9 B w w:=⟨Below.refl _ _,fun _ _ _ h _ _ _=>h⟩
theorem Za9.trans {B:Nat}{w w1 w2:World}(h:Za9 B w w1)(k:Za9 B w1 w2):Za9 B w w2:=
 ⟨h.below.trans k.below,fun b t cs hb h1 h2 h3=>k.keep b t cs (h.keep b t cs hb h1 h2 h3) h1 h2 h3⟩
theorem Za9.of_below {B:Nat}{w w':World}(h:Below w.heap.size w w')(hB:B<=w.heap.size):Za9 B w w':=
 ⟨h.mono hB,fun _ _ _ hb _ _ _=>hb.go h⟩
theorem Za9.grew {B B2:Nat}{w w1:World}{t:TypeId}{z n:Nat}{v v':Value}{cs:List Value}(ho:w.ownsRow B2 t z v n cs)(ht:t = 50\/t = 79\/t = 52)(hg:Zbn w w1 B v v'):Za9 B w w1:=
 ⟨hg.below,fun b t2 ds hb h1 h2 h3=>Zat hb ho (by rcases ht with e | e | e <;> rw [e] <;> first | exact Ne.symm h1 | exact Ne.symm h2 | exact Ne.symm h3) hg⟩
theorem Za9.set {B:Nat}{w w1:World}(h:Za9 B w w1){g:Nat}(hg:w.heap.size<=g)(hB:B<=w.heap.size)(i:Nat)(u:Value):Za9 B w (w1.setCell ⟨g,i,none⟩ u):=
 ⟨h.below.setCell (p:=⟨g,i,none⟩) (Nat.le_trans hB hg) u,fun b t cs hb h1 h2 h3=>(h.keep b t cs hb h1 h2 h3).far (p:=⟨g,i,none⟩) (by have:=hb.lt;simp only [ne_eq];omega) u⟩
theorem Za9.below' {B:Nat}{w w1 w2:World}(h:Za9 B w w1)(hb:Below w1.heap.size w1 w2)(hB:B<=w.heap.size):Za9 B w w2:=h.trans (Za9.of_below hb (Nat.le_trans hB h.size))
theorem Za9.drew {B:Nat}{w w1:World}(h:Za9 B w w1):Za9 B w w1.drew:=⟨h.below.drew,h.keep⟩
theorem Za9.own {B B2:Nat}{w w1:World}(hk:Za9 B w w1){t:TypeId}{z n:Nat}{v:Value}{cs:List Value}(ho:w.ownsRow B2 t z v n cs)(h1:t≠50)(h2:t≠79)(h3:t≠52):w1.ownsRow B2 t z v n cs:=
 Zep ho fun b hb=>by
  obtain⟨cur,hc,_⟩:=Zgt ho hb
  rw [hc]
  exact hk.keep b t cur hc h1 h2 h3
structure Za7 (w:World) (B:Nat) (S:RrS) (r:Rn) (V:RrV):Prop where
 hB:B<=w.heap.size
 lo:Zcx.Own 9 B w S.lo.v S.C.locs
 rg:(Zdi S.C.ahead).Own 125 B w V.rg.v r.regs
 ev:Zp5.Own 50 B w V.ev.v (S.a.evs++r.evs)
 br:Zm2.Own 79 B w V.br.v (S.a.bars++r.bars)
 ad:Zbg.Own 52 B w V.ad.v (S.a.addr++r.addr.map (shP S.C.ahead))
 da:Zbg.Own 52 B w V.da.v (S.a.data++r.data.map (shP S.C.ahead))
 ct:Zbg.Own 52 B w V.ct.v (S.a.hang++r.hang.map (shP S.C.ahead))
 a1:Zgs V.ad.v V.da.v
 a2:Zgs V.ad.v V.ct.v
 a3:Zgs V.da.v V.ct.v
namespace Za7
variable {w w' w1:World} {B:Nat} {S:RrS} {r:Rn} {V:RrV} {v':Sl}
theorem below (h:Za7 w B S r V)(hb:Below w.heap.size w w'):Za7 w' B S r V:=
 ⟨Nat.le_trans h.hB hb.size,Zau h.lo hb,Zau h.rg hb,Zau h.ev hb,Zau h.br hb,Zau h.ad hb,Zau h.da hb,Zau h.ct hb,h.a1,h.a2,h.a3⟩
theorem drew (h:Za7 w B S r V):Za7 w.drew B S r V:=⟨h.hB,h.lo,h.rg,h.ev,h.br,h.ad,h.da,h.ct,h.a1,h.a2,h.a3⟩
theorem set (h:Za7 w B S r V){g:Nat}{cs:Array Value}(hg:Blk w g 121 cs)(i:Nat)(u:Value):Za7 (w.setCell ⟨g,i,none⟩ u) B S r V:=
 ⟨by simpa [World.setCell] using h.hB,Zaf h.lo hg (by decide) _ _,Zaf h.rg hg (by decide) _ _,Zaf h.ev hg (by decide) _ _,Zaf h.br hg (by decide) _ _,Zaf h.ad hg (by decide) _ _,Zaf h.da hg (by decide) _ _,Zaf h.ct hg (by decide) _ _,h.a1,h.a2,h.a3⟩
theorem evG (h:Za7 w B S r V){l:List Evt}(hg:Zbn w w1 B V.ev.v v'.v)(ho:Zp5.Own 50 B w1 v'.v (S.a.evs++l)):Za7 w1 B S { r with evs:=l } { V with ev:=v' }:=
 ⟨Nat.le_trans h.hB hg.below.size,Zai h.lo h.ev (by decide) hg,Zai h.rg h.ev (by decide) hg,ho,Zai h.br h.ev (by decide) hg,Zai h.ad h.ev (by decide) hg,Zai h.da h.ev (by decide) hg,Zai h.ct h.ev (by decide) hg,h.a1,h.a2,h.a3⟩
theorem brG (h:Za7 w B S r V){l:List Br}(hg:Zbn w w1 B V.br.v v'.v)(ho:Zm2.Own 79 B w1 v'.v (S.a.bars++l)):Za7 w1 B S { r with bars:=l } { V with br:=v' }:=
 ⟨Nat.le_trans h.hB hg.below.size,Zai h.lo h.br (by decide) hg,Zai h.rg h.br (by decide) hg,Zai h.ev h.br (by decide) hg,ho,Zai h.ad h.br (by decide) hg,Zai h.da h.br (by decide) hg,Zai h.ct h.br (by decide) hg,h.a1,h.a2,h.a3⟩
theorem adG (h:Za7 w B S r V){l:List (Int×Int)}(hg:Zbn w w1 B V.ad.v v'.v)(ho:Zbg.Own 52 B w1 v'.v (S.a.addr++l.map (shP S.C.ahead))):Za7 w1 B S { r with addr:=l } { V with ad:=v' }:=
 ⟨Nat.le_trans h.hB hg.below.size,Zai h.lo h.ad (by decide) hg,Zai h.rg h.ad (by decide) hg,Zai h.ev h.ad (by decide) hg,Zai h.br h.ad (by decide) hg,ho,Zbc h.da h.a1.symm hg,Zbc h.ct h.a2.symm hg,(h.a1.symm.grew h.da hg).symm,(h.a2.symm.grew h.ct hg).symm,h.a3⟩
theorem daG (h:Za7 w B S r V){l:List (Int×Int)}(hg:Zbn w w1 B V.da.v v'.v)(ho:Zbg.Own 52 B w1 v'.v (S.a.data++l.map (shP S.C.ahead))):Za7 w1 B S { r with data:=l } { V with da:=v' }:=
 ⟨Nat.le_trans h.hB hg.below.size,Zai h.lo h.da (by decide) hg,Zai h.rg h.da (by decide) hg,Zai h.ev h.da (by decide) hg,Zai h.br h.da (by decide) hg,Zbc h.ad h.a1 hg,ho,Zbc h.ct h.a3.symm hg,h.a1.grew h.ad hg,h.a2,(h.a3.symm.grew h.ct hg).symm⟩
theorem ctG (h:Za7 w B S r V){l:List (Int×Int)}(hg:Zbn w w1 B V.ct.v v'.v)(ho:Zbg.Own 52 B w1 v'.v (S.a.hang++l.map (shP S.C.ahead))):Za7 w1 B S { r with hang:=l } { V with ct:=v' }:=
 ⟨Nat.le_trans h.hB hg.below.size,Zai h.lo h.ct (by decide) hg,Zai h.rg h.ct (by decide) hg,Zai h.ev h.ct (by decide) hg,Zai h.br h.ct (by decide) hg,Zbc h.ad h.a2 hg,Zbc h.da h.a3 hg,ho,h.a1,h.a2.grew h.ad hg,h.a3.grew h.da hg⟩
theorem rgG (h:Za7 w B S r V){l:List Rg}(ho:(Zdi S.C.ahead).Own 125 B w v'.v l):Za7 w B S { r with regs:=l } { V with rg:=v' }:=
 ⟨h.hB,h.lo,ho,h.ev,h.br,h.ad,h.da,h.ct,h.a1,h.a2,h.a3⟩
theorem ctrl (h:Za7 w B S r V)(c:Nat):Za7 w B S { r with ctrl:=c } V:=⟨h.hB,h.lo,h.rg,h.ev,h.br,h.ad,h.da,h.ct,h.a1,h.a2,h.a3⟩
theorem full (h:Za7 w B S r V)(c:Bool):Za7 w B S { r with full:=c } V:=⟨h.hB,h.lo,h.rg,h.ev,h.br,h.ad,h.da,h.ct,h.a1,h.a2,h.a3⟩
end Za7
def Zew (B:Nat)(S:RrS)(r:Rn)(fl:Bool)(w:World)(e:Ending)(w':World):Prop:=∃ V,e=.returned (rrV S r fl V)/\Za7 w' B S r V/\Za9 B w w'
structure Zc0 (w:World) (L:Zgv) (V:Zfl):Prop where
 lo:Zcx.At w V.lo.A L.lo
 nlo:V.lo.n=L.lo.length
 ini:Zey.At w V.ini.A L.ini
 nini:V.ini.n=L.ini.length
 ev:Zp5.At w V.ev.A L.a.evs
 nev:V.ev.n=L.a.evs.length
 br:Zm2.At w V.br.A L.a.bars
 nbr:V.br.n=L.a.bars.length
 ad:Zbg.At w V.ad.A L.a.addr
 nad:V.ad.n=L.a.addr.length
 da:Zbg.At w V.da.A L.a.data
 nda:V.da.n=L.a.data.length
 ct:Zbg.At w V.ct.A L.a.hang
 nct:V.ct.n=L.a.hang.length
 th:Zpp w V.th.A L.th
 nth:V.th.n=L.th.length
 en:Zbg.At w V.en.A L.a.ends
 nen:V.en.n=L.a.ends.length
theorem Zpp.go {w w':World}{A:Option Addr}{T:List Th}(h:Zpp w A T)(hb:Below w.heap.size w w'):Zpp w' A T:=fun i x hx=>by
 obtain⟨b,o,e,c0,c1,c2⟩:=h i x hx
 exact⟨b,o,e,Zac c0 hb,Zac c1 hb,Zac c2 hb⟩
theorem Zc0.below {w w':World}{L:Zgv}{V:Zfl}(h:Zc0 w L V)(hb:Below w.heap.size w w'):Zc0 w' L V:=
 ⟨h.lo.below hb,h.nlo,h.ini.below hb,h.nini,h.ev.below hb,h.nev,h.br.below hb,h.nbr,h.ad.below hb,h.nad,h.da.below hb,h.nda,h.ct.below hb,h.nct,h.th.go hb,h.nth,h.en.below hb,h.nen⟩
theorem Zl6 {α:Type}{E:Enc α}{t:TypeId}{B:Nat}{w:World}{v:Value}{l:List α}(h:Zwz E t B w v l):∃ s:Sl,v=s.v/\s.n=l.length/\E.At w s.A l:=by
 obtain⟨q,rfl,hb,_⟩:=h
 refine⟨⟨some ⟨q,0,none⟩,l.length,l.length⟩,rfl,rfl,fun i x hx=>⟨q,0,rfl,fun j u hu=>?_⟩⟩
 have hj:j<E.size:=by have:=(List.getElem?_eq_some_iff.1 hu).1;rwa [E.len] at this
 rw [Nat.zero_add,hb.cell,List.getElem?_toArray,E.flat_at hx hj]
 exact hu
theorem Zg3 {α:Type}{E:Enc α}{t:TypeId}{B:Nat}{w:World}{v:Value}{l:List α}(h:E.Own t B w v l):∃ s:Sl,v=s.v/\s.n=l.length/\E.At w s.A l:=by
 obtain⟨A,cap,e,hat,_⟩:=h.at_
 exact⟨⟨A,l.length,cap⟩,e,rfl,hat⟩
theorem Zb5.trc {w:World}{B O:Nat}{L:Zgv}{V:Zsd}(h:Zb5 w B O L V):∃ V':Zfl,(.agg #[V.lo,V.ini,V.ev,V.br,V.ad,V.da,V.ct,V.th,V.en]:Value)=Zgj V'/\Zc0 w L V':=by
 obtain⟨lo,ini,ev,br,ad,da,ct,th,en⟩:=V
 obtain⟨s1,h1,n1,a1⟩:=Zg3 h.lo
 obtain⟨s2,h2,n2,a2⟩:=Zl6 h.ini
 obtain⟨s3,h3,n3,a3⟩:=Zg3 h.ev
 obtain⟨s4,h4,n4,a4⟩:=Zg3 h.br
 obtain⟨s5,h5,n5,a5⟩:=Zg3 h.ad
 obtain⟨s6,h6,n6,a6⟩:=Zg3 h.da
 obtain⟨s7,h7,n7,a7⟩:=Zg3 h.ct
 obtain⟨A8,c8,h8,a8⟩:=Zes h.th
 obtain⟨s9,h9,n9,a9⟩:=Zl6 h.en
 simp only at h1 h2 h3 h4 h5 h6 h7 h8 h9
 subst h1 h2 h3 h4 h5 h6 h7 h8 h9
 exact⟨⟨s1,s2,s3,s4,s5,s6,s7,⟨A8,L.th.length,c8⟩,s9⟩,rfl,⟨a1,n1,a2,n2,a3,n3,a4,n4,a5,n5,a6,n6,a7,n7,a8,rfl,a9,n9⟩⟩
theorem Zgu {w:World}{A:Option Addr}{l:List Evt}(h:Zp5.At w A l){i:Nat}{x:Evt}(hx:l[i]?=some x):∃ b o,A=some ⟨b,o,none⟩/\w.cell? ⟨b,o+i*6,none⟩=some (.int .i64 x.th)/\w.cell? ⟨b,o+i*6+1,none⟩=some (.int .i64 x.pl)/\w.cell? ⟨b,o+i*6+2,none⟩=some (.int .i64 x.dr)/\w.cell? ⟨b,o+i*6+3,none⟩=some (.int .i64 x.lc)/\w.cell? ⟨b,o+i*6+4,none⟩=some (.int .i64 x.vl)/\w.cell? ⟨b,o+i*6+5,none⟩=some (.int .i64 x.rg):=by
 obtain⟨b,o,e,hc⟩:=h i x hx
 exact⟨b,o,e,hc 0 _ rfl,hc 1 _ rfl,hc 2 _ rfl,hc 3 _ rfl,hc 4 _ rfl,hc 5 _ rfl⟩
theorem Zpe {w:World}{A:Option Addr}{l:List Br}(h:Zm2.At w A l){i:Nat}{x:Br}(hx:l[i]?=some x):∃ b o,A=some ⟨b,o,none⟩/\w.cell? ⟨b,o+i*3,none⟩=some (.int .i64 x.th)/\w.cell? ⟨b,o+i*3+1,none⟩=some (.int .i64 x.pl)/\w.cell? ⟨b,o+i*3+2,none⟩=some (.int .i64 x.fe):=by
 obtain⟨b,o,e,hc⟩:=h i x hx
 exact⟨b,o,e,hc 0 _ rfl,hc 1 _ rfl,hc 2 _ rfl⟩
theorem Zk9 {w:World}{A:Option Addr}{l:List (Int×Int)}(h:Zbg.At w A l){i:Nat}{x:Int×Int}(hx:l[i]?=some x):∃ b o,A=some ⟨b,o,none⟩/\w.cell? ⟨b,o+i*2,none⟩=some (.int .i64 x.1)/\w.cell? ⟨b,o+i*2+1,none⟩=some (.int .i64 x.2):=by
 obtain⟨b,o,e,hc⟩:=h i x hx
 exact⟨b,o,e,hc 0 _ rfl,hc 1 _ rfl⟩
theorem Zyy {l:Nm}(h:Zbb l=true):l.length<=32:=by
 cases l with
 | nil=>simp
 | cons c r=>simp only [Zbb,Bool.and_eq_true,decide_eq_true_eq] at h;simp only [List.length_cons];omega
theorem Zvm {l:List Nm}(h:Zj1 l){i:Nat}{x y:Nm}(hx:l[i]?=some x)(hy:l[i+1]?=some y):ltN x y=true:=by
 obtain⟨h1,rfl⟩:=List.getElem?_eq_some_iff.1 hx
 obtain⟨h2,rfl⟩:=List.getElem?_eq_some_iff.1 hy
 exact List.pairwise_iff_getElem.1 h i (i+1) h1 h2 (Nat.lt_succ_self i)
def Z4v (a p b q:Int):Prop:=a<b\/(a=b/\p<q)
structure Z69 (n:Nat) (e:Evt):Prop where
 th:0<=e.th/\e.th<16
 pl:0<=e.pl/\e.pl<256
 lc:0<=e.lc/\e.lc<n
 vl:Zfq e.vl=true
 rg:0<=e.rg/\e.rg<=31
 dr:(e.dr=1/\e.vl=0)\/(e.dr=2/\e.rg=0)
structure Z63 (b:Br):Prop where
 th:0<=b.th/\b.th<16
 pl:0<=b.pl/\b.pl<256
 fe:1<=b.fe/\b.fe<=11
structure Z0s (evs:List Evt) (wr:Bool) (p:Int×Int):Prop where
 at_:∃ (i j:Nat) (x y:Evt),p=((i:Int),(j:Int))/\i<j/\evs[i]?=some x/\evs[j]?=some y/\x.dr=1/\x.th=y.th/\(wr=true->y.dr=2)
def ThO (a b:Th):Prop:=if a.1=-1\/b.1=-1 then a.1≠-1\/(b.1=-1/\ltN a.2.2 b.2.2=true) else (a.1<b.1\/(a.1=b.1/\a.2.1<b.2.1))
def Zx7 (L:Zgv)(x:Th)(e:Int×Int):Prop:=
 (x.1=-1/\x.2.1=0/\x.2.2∈L.lo/\e.1=3/\e.2=((L.lo.idxOf x.2.2:Nat):Int))\/
 (0<=x.1/\x.1<16/\0<=x.2.1/\x.2.1<=31/\x.2.2=[]/\((e.1=1/\Zfq e.2=true)\/(e.1=2/\∃ (i:Nat) (y:Evt),e.2=(i:Int)/\L.a.evs[i]?=some y/\y.dr=1/\y.th=x.1)))
structure Ziw (L:Zgv):Prop where
 nlo:L.lo.length<=64
 nini:L.ini.length=L.lo.length
 name:∀ x∈L.lo,Zbb x=true
 str:Zj1 L.lo
 num:∀ n∈L.ini,Zfq n=true
 nev:L.a.evs.length<=64
 ev:∀ e∈L.a.evs,Z69 L.lo.length e
 evo:∀ (i:Nat) x y,L.a.evs[i]?=some x->L.a.evs[i+1]?=some y->Z4v x.th x.pl y.th y.pl
 nbr:L.a.bars.length<=4096
 br:∀ b∈L.a.bars,Z63 b
 bro:∀ (i:Nat) x y,L.a.bars[i]?=some x->L.a.bars[i+1]?=some y->Z4v x.th x.pl y.th y.pl
 bre:∀ b∈L.a.bars,∀ e∈L.a.evs,e.th=b.th->e.pl≠b.pl
 ad:∀ p∈L.a.addr,Z0s L.a.evs false p
 ado:∀ (i:Nat) x y,L.a.addr[i]?=some x->L.a.addr[i+1]?=some y->Zo6 x y
 da:∀ p∈L.a.data,Z0s L.a.evs true p
 dao:∀ (i:Nat) x y,L.a.data[i]?=some x->L.a.data[i+1]?=some y->Zo6 x y
 ct:∀ p∈L.a.hang,Z0s L.a.evs false p
 cto:∀ (i:Nat) x y,L.a.hang[i]?=some x->L.a.hang[i+1]?=some y->Zo6 x y
 nen:L.a.ends.length=L.th.length
 nth:L.th.length<=1024
 tho:∀ (i:Nat) x y,L.th[i]?=some x->L.th[i+1]?=some y->ThO x y
 en:∀ (i:Nat) x e,L.th[i]?=some x->L.a.ends[i]?=some e->Zx7 L x e
abbrev Zkp:Enc Nat:=⟨1,fun n=>[.int .u64 (n:Int)],fun _=>rfl,by omega,fun _ u h=>by simp at h;subst h;rfl⟩
def Zr3 (m:List Nat)(p:Int×Int):List Nat:=m.set p.1.toNat ((m[p.1.toNat]?).getD 0|||2 ^ p.2.toNat)
def Z5k (n:Nat)(l:List (Int×Int)):List Nat:=l.foldl Zr3 (List.replicate n 0)
theorem Zyi (m:List Nat)(p:Int×Int):(Zr3 m p).length=m.length:=by simp [Zr3]
theorem Zyp (_n:Nat)(l:List (Int×Int))(hl:∀ p∈l,0<=p.2/\p.2<64):∀ m:List Nat,(∀ x∈m,x<18446744073709551616)->∀ x∈l.foldl Zr3 m,x<18446744073709551616:=by
 induction l with
 | nil=>intro m hm;exact hm
 | cons p l ih=>
  intro m hm
  rw [List.foldl_cons]
  refine ih (fun q hq=>hl q (List.mem_cons_of_mem _ hq)) _ (fun x hx=>?_)
  unfold Zr3 at hx
  rcases List.mem_or_eq_of_mem_set hx with h | rfl
  ·exact hm x h
  ·have h1:=hl p List.mem_cons_self
   have h2:(m[p.1.toNat]?).getD 0<2 ^ 64:=by
    cases h:m[p.1.toNat]? with
    | none=>simp
    | some y=>simpa using hm y (List.mem_of_getElem? h)
   have h3:2 ^ p.2.toNat<2 ^ 64:=Nat.pow_lt_pow_right (by omega) (by omega)
   simpa using Nat.or_lt_two_pow h2 h3
def Zns (hold:Evt->Evt->Bool)(i:Nat)(a:Evt):Nat->List Evt->List (Int×Int)
 | _,[]=>[]
 | j,b :: bs=>(if a.th=b.th/\a.pl<b.pl/\hold a b=true then [((i:Int),(j:Int))] else [])++Zns hold i a (j+1) bs
def btw (hold:Evt->Evt->Bool)(evs:List Evt):Nat->List Evt->List (Int×Int)
 | _,[]=>[]
 | i,a :: cs=>Zns hold i a 0 evs++btw hold evs (i+1) cs
theorem Zrh (hold:Evt->Evt->Bool)(i:Nat)(a:Evt):∀ (l:List Evt) (j:Nat),(Zns hold i a j l).length<=l.length
 | [],_=>by simp [Zns]
 | b :: bs,j=>by
  have:=Zrh hold i a bs (j+1)
  unfold Zns
  rw [List.length_append,List.length_cons]
  split <;> simp <;> omega
theorem Zrs (hold:Evt->Evt->Bool)(i:Nat)(a:Evt):∀ (l:List Evt) (j:Nat) (p:Int×Int),p∈Zns hold i a j l↔∃ (m:Nat) (b:Evt),l[m]?=some b/\p=((i:Int),((j+m:Nat):Int))/\a.th=b.th/\a.pl<b.pl/\hold a b=true
 | [],_,p=>by simp [Zns]
 | b :: bs,j,p=>by
  unfold Zns
  rw [List.mem_append,Zrs hold i a bs (j+1) p]
  constructor
  ·rintro (h | ⟨m,c,hc,rfl,h⟩)
   ·split at h
    ·rename_i hc
     rw [List.mem_singleton] at h
     exact⟨0,b,rfl,by rw [h];simp,hc⟩
    ·cases h
   ·exact⟨m+1,c,by simpa using hc,by congr 2;omega,h⟩
  ·rintro⟨m,c,hc,rfl,h⟩
   cases m with
   | zero=>
    left
    simp only [List.getElem?_cons_zero,Option.some.injEq] at hc
    subst hc
    rw [if_pos h];simp
   | succ m=>
    right
    exact⟨m,c,by simpa using hc,by congr 2;omega,h⟩
theorem Zuv (hold:Evt->Evt->Bool)(evs:List Evt):∀ (l:List Evt) (i:Nat) (p:Int×Int),p∈btw hold evs i l↔∃ (m n:Nat) (a b:Evt),l[m]?=some a/\evs[n]?=some b/\p=(((i+m:Nat):Int),(n:Int))/\a.th=b.th/\a.pl<b.pl/\hold a b=true
 | [],_,p=>by simp [btw]
 | a :: cs,i,p=>by
  unfold btw
  rw [List.mem_append,Zrs hold i a evs 0 p,Zuv hold evs cs (i+1) p]
  constructor
  ·rintro (⟨m,b,hb,rfl,h⟩ | ⟨m,n,c,b,hc,hb,rfl,h⟩)
   ·exact⟨0,m,a,b,rfl,hb,by simp,h⟩
   ·exact⟨m+1,n,c,b,by simpa using hc,hb,by congr 2;omega,h⟩
  ·rintro⟨m,n,c,b,hc,hb,rfl,h⟩
   cases m with
   | zero=>
    left
    simp only [List.getElem?_cons_zero,Option.some.injEq] at hc
    subst hc
    exact⟨n,b,hb,by simp,h⟩
   | succ m=>
    right
    exact⟨m,n,c,b,by simpa using hc,hb,by congr 2;omega,h⟩
theorem Zuu (hold:Evt->Evt->Bool)(evs:List Evt):∀ (l:List Evt) (i:Nat),(btw hold evs i l).length<=l.length*evs.length
 | [],_=>by simp [btw]
 | a :: cs,i=>by
  have h1:=Zrh hold i a evs 0
  have h2:=Zuu hold evs cs (i+1)
  unfold btw
  rw [List.length_append,List.length_cons,Nat.succ_mul]
  omega
def Zju (ord:Int->Int->Int->Bool)(bars:List Br)(a b:Evt):Bool:=bars.any fun x=>decide (x.th=a.th)&&decide (a.pl<x.pl)&&decide (x.pl<b.pl)&&ord x.fe a.dr b.dr
section
abbrev evV (x:Evt):Value:=.agg #[.int .i64 x.th,.int .i64 x.pl,.int .i64 x.dr,.int .i64 x.lc,.int .i64 x.vl,.int .i64 x.rg]
theorem Zh1 {α:Type}{c:List α}{j:Nat}{x:α}(h:c[j]?=some x)(p:α->Bool):(c.take (j+1)).any p=((c.take j).any p||p x):=by
 obtain⟨h1,rfl⟩:=List.getElem?_eq_some_iff.1 h
 rw [List.take_succ_eq_append_getElem h1,List.any_append]
 simp
theorem Z2p {α:Type}{c:List α}{j:Nat}{x:α}(h:c[j]?=some x)(p:α->Bool)(hp:p x=true):c.any p=true:=by
 obtain⟨h1,rfl⟩:=List.getElem?_eq_some_iff.1 h
 exact List.any_eq_true.2 ⟨_,List.getElem_mem h1,hp⟩
section
set_option maxHeartbeats 4000000
set_option maxRecDepth 100000
theorem Z6w (bars:List Br)(A:Option Addr)(cap p:Nat)(a b:Evt)(w:World)(h:Zm2.At w A bars)(hl:bars.length<=4096)(hp:w.cell? ⟨p,3,none⟩=some (.slice A bars.length cap)) :
  Calls Tryz.prog 76 #[evV a,evV b,.pointer (some ⟨p,0,none⟩)] w fun e w'=>e=.returned (.bool (Zju Zcu bars a b))/\Below w.heap.size w w':=by
 obtain⟨at_,ap,ad,al,av,ar⟩:=a
 obtain⟨bt,bp,bd,bl,bv,br⟩:=b
 simp only [evV]
 have HA:=Zh h
 have HB0:=Zh (Zap w (.cells #[.int .i64 at_,.int .i64 ap,.int .i64 ad,.int .i64 al,.int .i64 av,.int .i64 ar] 50 (0,0)) (.cells #[.int .i64 bt,.int .i64 bp,.int .i64 bd,.int .i64 bl,.int .i64 bv,.int .i64 br] 50 (0,0)))
 have hp2:=Zac hp HB0.out
 have HKA0:=Zh (Blk.alloc (Blk.new w 50 #[.int .i64 at_,.int .i64 ap,.int .i64 ad,.int .i64 al,.int .i64 av,.int .i64 ar]) (.cells #[.int .i64 bt,.int .i64 bp,.int .i64 bd,.int .i64 bl,.int .i64 bv,.int .i64 br] 50 (0,0)))
 have HKB0:Hid (Blk _ (w.heap.size+1) _ _):=Zh (Zcw w (.cells #[.int .i64 at_,.int .i64 ap,.int .i64 ad,.int .i64 al,.int .i64 av,.int .i64 ar] 50 (0,0)) 50 #[.int .i64 bt,.int .i64 bp,.int .i64 bd,.int .i64 bl,.int .i64 bv,.int .i64 br])
 obtain⟨P,hP⟩:∃ P:Br->Bool,(fun x:Br=>decide (x.th=at_)&&decide (ap<x.pl)&&decide (x.pl<bp)&&Zcu x.fe ad bd)=P:=⟨_,rfl⟩
 have HP:=Zh (fun x:Br=>show P x=(decide (x.th=at_)&&decide (ap<x.pl)&&decide (x.pl<bp)&&Zcu x.fe ad bd) by rw [<- hP])
 obtain⟨q,hq⟩:∃ q,bars.any P=q:=⟨_,rfl⟩
 have HQ:=Zh hq
 have hq2:Zju Zcu bars ⟨at_,ap,ad,al,av,ar⟩ ⟨bt,bp,bd,bl,bv,br⟩=q:=by rw [<- hq,<- hP];rfl
 rw [hq2]
 clear h hp hP hq hq2
 go_enter Tryz.func76,Tryz.ntmps76
 go_wp2_with fail
 generalize (w.alloc (.cells #[.int .i64 at_,.int .i64 ap,.int .i64 ad,.int .i64 al,.int .i64 av,.int .i64 ar] 50 (0,0))).alloc (.cells #[.int .i64 bt,.int .i64 bp,.int .i64 bd,.int .i64 bl,.int .i64 bv,.int .i64 br] 50 (0,0))=w1 at *
 go_loopw [11] (fun v wr=>∃ i:Nat,i<=bars.length/\v=.int .i64 i/\(bars.take i).any P=false/\Below w.heap.size w wr/\Blk wr w.heap.size 50 #[.int .i64 at_,.int .i64 ap,.int .i64 ad,.int .i64 al,.int .i64 av,.int .i64 ar]/\Blk wr (w.heap.size+1) 50 #[.int .i64 bt,.int .i64 bp,.int .i64 bd,.int .i64 bl,.int .i64 bv,.int .i64 br]) (fun v _=>bars.length - (intOf v).toNat)
 case atStart=>exact⟨0,Nat.zero_le _,rfl,by simp,HB0.out,HKA0.out,HKB0.out⟩
 case round=>
  obtain⟨i,hi,rfl,hno,hb,hka,hkb⟩:=hrel
  have HNO:=Zh hno
  have HB:=Zh hb
  have hii:(0:Int)<=(i:Int):=by omega
  have a0:=hka.cm 0
  have a1:=hka.cm 1
  have a2:=hka.cm 2
  have b1:=hkb.cm 1
  have b2:=hkb.cm 2
  have hgb:=hkb.lt
  have hga:=hka.lt
  by_cases hlt:i<bars.length
  ·have hij:(i:Int)<(bars.length:Int):=by omega
   obtain⟨x,hx⟩:∃ x,bars[i]?=some x:=⟨_,List.getElem?_eq_getElem hlt⟩
   obtain⟨g,o,rfl,c0,c1,c2⟩:=Zpe (HA.out.below hb) hx
   have HX:=Zh hx
   have hpx:=HP.out x
   obtain⟨xt,xp,xf⟩:=x
   simp only at c0 c1 c2 hpx
   have HB1:=Zh (Zab hb (.cells #[.int .i64 xt,.int .i64 xp,.int .i64 xf] 79 (0,0)))
   have HKA:=Zh (hka.alloc (.cells #[.int .i64 xt,.int .i64 xp,.int .i64 xf] 79 (0,0)))
   have HKB:=Zh (hkb.alloc (.cells #[.int .i64 xt,.int .i64 xp,.int .i64 xf] 79 (0,0)))
   clear hx hno hb hka hkb HB0 HKA0 HKB0
   by_cases h1:xt=at_
   ·by_cases h2:ap<xp
    ·by_cases h3:xp<bp
     ·obtain⟨r,hr⟩:∃ r,Zcu xf ad bd=r:=⟨_,rfl⟩
      have HR:=Zh (show P ⟨xt,xp,xf⟩=r by rw [hpx];simp [h1,h2,h3,hr])
      have HO:=Zh (fun z:World=>Z2q xf ad bd z)
      rw [hr] at HO
      subst h1
      clear hpx hr
      cases r
      ·go_wp2_with (go_at_call 13;refine (HO.out _).mono ?_;rintro e w' ⟨rfl,hb9⟩;have HB9:=Zh hb9;clear hb9)
       go_roundw
       case rel=>exact⟨i+1,by omega,by go_num,by rw [Zh1 HX.out,HNO.out,HR.out];rfl,Zaa HB1.out HB9.out,HKA.out.go HB9.out,HKB.out.go HB9.out⟩
       case measure=>simp [intOf];omega
      ·go_wp2_with (go_at_call 13;refine (HO.out _).mono ?_;rintro e w' ⟨rfl,hb9⟩;have HB9:=Zh hb9;clear hb9)
       go_ret
       exact⟨Zae (by rw [<- HQ.out,Z2p HX.out P HR.out]),Zaa HB1.out HB9.out⟩
     ·have HR:=Zh (show P ⟨xt,xp,xf⟩=false by rw [hpx];simp [h3])
      exact m_88
    ·have HR:=Zh (show P ⟨xt,xp,xf⟩=false by rw [hpx];simp [h2])
     exact m_88
   ·have HR:=Zh (show P ⟨xt,xp,xf⟩=false by rw [hpx];simp [h1])
    have h1f:(xt == at_)=false:=by simpa using h1
    clear hpx
    go_wp2_with fail
    go_roundw
    case rel=>exact⟨i+1,by omega,by go_num,by rw [Zh1 HX.out,HNO.out,HR.out];rfl,HB1.out,HKA.out,HKB.out⟩
    case measure=>simp [intOf];omega
  ·have hij:¬ (i:Int)<(bars.length:Int):=by omega
   have HF:=Zh (show bars.any P=false by have:=HNO.out;rwa [List.take_of_length_le (by omega)] at this)
   go_wp2_with fail
   go_ret
   exact⟨Zae (by rw [<- HQ.out,HF.out]),HB.out⟩
end
end
section
theorem Z5x (n:Nat):madeCells #[.int .u64 0] n=(Zkp.flat (List.replicate n 0)).toArray:=by
 rw [Zrd]
 congr 1
 induction n with
 | zero=>rfl
 | succ n ih=>rw [List.replicate_succ,List.replicate_succ,Enc.flat_cons,<- ih];rfl
theorem Z5p:(Tryz.prog.info? 110).map (fun i=>(i.zero,i.size,i.bytes))=some (some (.int .u64 0),1,8):=by kernel_rfl
theorem Zxv (n:Nat)(hn:n<=1000000)(w:World):(Instr.makeSlice 56 (.int .i64 (n:Int)) (.int .i64 (n:Int))).run Tryz.prog w=.ok (.slice (some ⟨w.heap.size,0,none⟩) n n) (w.alloc (.cells (Zkp.flat (List.replicate n 0)).toArray 110 (0,0))):=by
 obtain⟨i0,hi,hz0,hz1,hz2⟩:=Zc5 Z5p
 have h:=run_make (P:=Tryz.prog) w 56 110 i0 _ Tryz.underlying56 hi hz0 .i64 .i64 (n:Int) (n:Int) (by omega) (Int.le_refl _) (by rw [hz2];omega) (by omega)
 rw [h,hz1]
 simp only [Int.toNat_natCast,Nat.mul_one]
 rw [show (Value.int .u64 0).cells=#[Value.int .u64 0] from rfl,Z5x]
theorem Zxy {m:List Nat}{i x:Nat}(h:m[i]?=some x):(Zkp.flat m).toArray[i]?=some (.int .u64 (x:Int)):=by
 have:=Zkp.flat_at h (show 0<Zkp.size by show 0<1;omega)
 rw [show i*Zkp.size+0=i by show i*1+0=i;omega] at this
 simpa using this
theorem Zu2 (m:List Nat)(i x:Nat)(h:i<m.length):(Zkp.flat m).toArray.setIfInBounds i (.int .u64 (x:Int))=(Zkp.flat (m.set i x)).toArray:=by
 apply Array.ext'
 apply List.ext_getElem?
 intro j
 have hl:(Zkp.flat m).length=m.length:=by rw [Zkp.flat_len];show m.length*1=_;omega
 rw [show ((Zkp.flat (m.set i x)).toArray.toList)=Zkp.flat (m.set i x) from rfl,Zeu Zkp m i x j h]
 simp only [Array.toList_setIfInBounds,List.getElem?_set]
 show _=if i*1<=j/\j<i*1+1 then _ else _
 by_cases hij:i=j
 ·subst hij
  rw [if_pos (by omega)]
  simp [hl,h]
 ·rw [if_neg hij,if_neg (by omega)]
section
set_option maxHeartbeats 4000000
set_option maxRecDepth 100000
theorem Z34 (n:Nat)(V:Sl)(l:List (Int×Int))(w:World)(hn:n<=64)(hlen:l.length<=1000000)(h:Zbg.At w V.A l)(hV:V.n=l.length)(hl:∀ p∈l,0<=p.1/\p.1<n/\0<=p.2/\p.2<n) :
  Calls Tryz.prog 77 #[.int .i64 (n:Int),V.v] w fun e w'=>∃ q,e=.returned (.tuple #[.agg #[.int .i64 (n:Int),.slice (some ⟨q,0,none⟩) n n],.int .i64 0])/\Blk w' q 110 (Zkp.flat (Z5k n l)).toArray/\w.heap.size<=q/\Below w.heap.size w w':=by
 obtain⟨Av,nv,cv⟩:=V
 simp only at hV h
 subst hV
 simp only [Sl.v]
 have HA:=Zh h
 have HL:=Zh hl
 have hmk:=Zxv n (by omega)
 have hn1:(n:Int)<=64:=by omega
 clear h hl
 go_enter Tryz.func77,Tryz.ntmps77
 go_wp2_with fail
 have HB0:=Zh (Zab (Zap w (.cells #[.int .i64 0,.slice none 0 0] 58 (0,0)) (.cells (Zkp.flat (List.replicate n 0)).toArray 110 (0,0))) (.cells #[.int .i64 (n:Int),.slice (some ⟨w.heap.size+1,0,none⟩) n n] 58 (0,0)))
 have HR0:=Zh (Blk.alloc (Blk.alloc (Blk.new w 58 #[.int .i64 0,.slice none 0 0]) (.cells (Zkp.flat (List.replicate n 0)).toArray 110 (0,0))) (.cells #[.int .i64 (n:Int),.slice (some ⟨w.heap.size+1,0,none⟩) n n] 58 (0,0)))
 have HQ0:=Zh (Blk.alloc (Blk.new (w.alloc (.cells #[.int .i64 0,.slice none 0 0] 58 (0,0))) 110 (Zkp.flat (List.replicate n 0)).toArray) (.cells #[.int .i64 (n:Int),.slice (some ⟨w.heap.size+1,0,none⟩) n n] 58 (0,0)))
 have HO0:=Zh (Blk.new ((w.alloc (.cells #[.int .i64 0,.slice none 0 0] 58 (0,0))).alloc (.cells (Zkp.flat (List.replicate n 0)).toArray 110 (0,0))) 58 #[.int .i64 (n:Int),.slice (some ⟨w.heap.size+1,0,none⟩) n n])
 simp only [World.size_alloc] at HQ0 HO0
 generalize ((w.alloc (.cells #[.int .i64 0,.slice none 0 0] 58 (0,0))).alloc (.cells (Zkp.flat (List.replicate n 0)).toArray 110 (0,0))).alloc (.cells #[.int .i64 (n:Int),.slice (some ⟨w.heap.size+1,0,none⟩) n n] 58 (0,0))=w1 at *
 clear hmk
 go_loopw [22] (fun v wr=>∃ (i:Nat) (m:List Nat),i<=l.length/\v=.int .i64 i/\m=(l.take i).foldl Zr3 (List.replicate n 0)/\m.length=n/\(∀ x∈m,x<18446744073709551616)/\Blk wr w.heap.size 58 #[.int .i64 0,.slice none 0 0]/\Blk wr (w.heap.size+1) 110 (Zkp.flat m).toArray/\Blk wr (w.heap.size+1+1) 58 #[.int .i64 (n:Int),.slice (some ⟨w.heap.size+1,0,none⟩) n n]/\Below w.heap.size w wr) (fun v _=>l.length - (intOf v).toNat)
 case atStart=>exact⟨0,_,Nat.zero_le _,rfl,rfl,by simp,(fun x hx=>by rw [List.eq_of_mem_replicate hx];omega),HR0.out,HQ0.out,HO0.out,HB0.out⟩
 case round=>
  obtain⟨i,m,hi,rfl,hm,hml,hmx,hr,hq,ho,hb⟩:=hrel
  have HM:=Zh hm
  have HMX:=Zh hmx
  have HR:=Zh hr
  have HQ:=Zh hq
  have HO:=Zh ho
  have HB:=Zh hb
  have hzo:=ho.lt
  clear hm hmx hr hq ho hb HR0 HQ0 HO0 HB0
  have hii:(0:Int)<=(i:Int):=by omega
  by_cases hlt:i<l.length
  ·have hij:(i:Int)<(l.length:Int):=by omega
   obtain⟨p,hp⟩:∃ p,l[i]?=some p:=⟨_,List.getElem?_eq_getElem hlt⟩
   obtain⟨b,o,rfl,c0,c1⟩:=Zk9 (HA.out.below HB.out) hp
   obtain⟨h1,h2,h3,h4⟩:=HL.out p (List.mem_of_getElem? hp)
   have HS:=Zh (show (l.take (i+1)).foldl Zr3 (List.replicate n 0)=Zr3 m p by
    obtain⟨g1,g2⟩:=List.getElem?_eq_some_iff.1 hp
    rw [List.take_succ_eq_append_getElem g1,List.foldl_append,<- HM.out,g2];rfl)
   obtain⟨pa,pb⟩:=p
   simp only at c0 c1 h1 h2 h3 h4
   obtain⟨a,rfl⟩:=Int.eq_ofNat_of_zero_le h1
   obtain⟨d,rfl⟩:=Int.eq_ofNat_of_zero_le h3
   obtain⟨x,hx⟩:∃ x,m[a]?=some x:=⟨_,List.getElem?_eq_getElem (by omega)⟩
   have hx64:=HMX.out x (List.mem_of_getElem? hx)
   have HX:=Zh hx
   have HS2:=Zh (show Zr3 m ((a:Int),(d:Int))=m.set a (x|||2 ^ d) by unfold Zr3;simp [hx])
   have HD:=Zh (Blk.new wr 52 #[.int .i64 (a:Int),.int .i64 (d:Int)])
   have HB1:=Zh (Zad wr (.cells #[.int .i64 (a:Int),.int .i64 (d:Int)] 52 (0,0)))
   clear hp hx
   go_wp2_with fail
   have HO1:=Zh (HO.out.go HB1.out)
   have HQ1:=Zh (HQ.out.go HB1.out)
   have HR1:=Zh (HR.out.go HB1.out)
   have HB2:=Zh (Zaa HB.out HB1.out)
   generalize wr.alloc (.cells #[.int .i64 (a:Int),.int .i64 (d:Int)] 52 (0,0))=w2 at *
   have k1:w2.cell? ⟨w.heap.size+1+1,1,none⟩=some (.slice (some ⟨w.heap.size+1,0,none⟩) n n):=HO1.out.cell 1
   have k2:w2.cell? ⟨w.heap.size+1,a,none⟩=some (.int .u64 (x:Int)):=by rw [HQ1.out.cell];exact Zxy HX.out
   have k3:=HD.out.cm 0
   have k4:=HD.out.cm 1
   have hd64:d<64:=by omega
   have hs2:IntKind.u64.wrap ((2:Int) ^ d)=((2 ^ d:Nat):Int):=by have:=Zqm hd64;rwa [Int.one_mul] at this
   have hp:2 ^ d<18446744073709551616:=by
    have:2 ^ d<2 ^ 64:=Nat.pow_lt_pow_right (by omega) hd64
    simpa using this
   have ho:=Zcg hx64 hp
   have hv:bits .or .u64 (x:Int) (IntKind.u64.wrap ((2:Int) ^ min d 64))=((x|||2 ^ d:Nat):Int):=by rw [Nat.min_eq_left (by omega),hs2];exact ho
   have hdi:(0:Int)<=(d:Int):=by omega
   have hdj:(d:Int)<64:=by omega
   refine wz (fun y:World=>y.cell? ⟨w.heap.size+1+1,1,none⟩=some (.slice (some ⟨w.heap.size+1,0,none⟩) n n)/\y.cell? ⟨w.heap.size+1,a,none⟩=some (.int .u64 (x:Int))/\y.cell? ⟨wr.heap.size,0,none⟩=some (.int .i64 (a:Int))/\y.cell? ⟨wr.heap.size,1,none⟩=some (.int .i64 (d:Int))) [1,3,5,7,8,9] ⟨k1,k2,k3,k4⟩ (fun hHeld=>?_)
   refine wq 0 ?_
   refine wq 2 ?_
   refine wq 6 ?_
   refine wt 1 (by assumption) ?_
   refine wt 3 (by assumption) ?_
   refine wq 4 ?_
   refine wt 5 (by assumption) ?_
   refine wt 7 (by assumption) ?_
   refine wt 8 (by assumption) ?_
   refine wt 9 (by assumption) ?_
   refine wq 10 ?_
   refine wq 11 ?_
   refine wl 12 ?_
   have HV:=Zh hv
   clear hHeld k1 k3 k4 ho hs2 hp hv
   have fq:=HQ1.out.frozen a
   have HW:=Zh (show Blk (w2.setCell ⟨w.heap.size+1,a,none⟩ (.int .u64 (bits .or .u64 (x:Int) (IntKind.u64.wrap ((2:Int) ^ min d 64))))) (w.heap.size+1) 110 (Zkp.flat (Zr3 m ((a:Int),(d:Int)))).toArray by
    have:=HQ1.out.set_ a (.int .u64 (bits .or .u64 (x:Int) (IntKind.u64.wrap ((2:Int) ^ min d 64))))
    rw [HV.out,Zu2 _ _ _ (by omega),<- HS2.out] at this
    rw [HV.out]
    exact this)
   have HMM:=Zh (show ∀ y∈Zr3 m ((a:Int),(d:Int)),y<18446744073709551616 by
    have:=Zyp n [((a:Int),(d:Int))] (fun q hq=>by rw [List.mem_singleton] at hq;subst hq;simp only;omega) m HMX.out
    simpa using this)
   have HR2:=Zh (HR1.out.far (p:=⟨w.heap.size+1,a,none⟩) (show w.heap.size≠w.heap.size+1 by omega) (.int .u64 (bits .or .u64 (x:Int) (IntKind.u64.wrap ((2:Int) ^ min d 64)))))
   have HO2:=Zh (HO1.out.far (p:=⟨w.heap.size+1,a,none⟩) (show w.heap.size+1+1≠w.heap.size+1 by omega) (.int .u64 (bits .or .u64 (x:Int) (IntKind.u64.wrap ((2:Int) ^ min d 64)))))
   have HB3:=Zh (HB2.out.setCell (p:=⟨w.heap.size+1,a,none⟩) (show w.heap.size<=w.heap.size+1 by omega) (.int .u64 (bits .or .u64 (x:Int) (IntKind.u64.wrap ((2:Int) ^ min d 64)))))
   go_wp2_with fail
   go_roundw
   case rel=>exact⟨i+1,Zr3 m ((a:Int),(d:Int)),by omega,by go_num,HS.out.symm,by rw [Zyi];exact hml,HMM.out,HR2.out,HW.out,HO2.out,HB3.out.drew⟩
   case measure=>simp [intOf];omega
  ·have hij:¬ (i:Int)<(l.length:Int):=by omega
   have HF:=Zh (show m=Z5k n l by rw [HM.out,List.take_of_length_le (by omega)];rfl)
   have r0:=HR.out.cell 0
   have r1:=HR.out.cell 1
   have fr:=HR.out.frozen
   have o0:=HO.out.cell 0
   have o1:=HO.out.cell 1
   go_wp2_with fail
   refine bodyPost_ret (v:=.tuple #[.agg #[.int .i64 (n:Int),.slice (some ⟨w.heap.size+1,0,none⟩) n n],.int .i64 0]) (by simp [results,Tryz.results77,go_sem, *]) rfl ?_
   refine⟨w.heap.size+1,rfl,?_,by omega,?_⟩
   ·rw [<- HF.out]
    exact (HQ.out.far (p:=⟨w.heap.size,0,none⟩) (show w.heap.size+1≠w.heap.size by omega) _).far (p:=⟨w.heap.size,1,none⟩) (show w.heap.size+1≠w.heap.size by omega) _
   ·exact (HB.out.setCell (p:=⟨w.heap.size,0,none⟩) (Nat.le_refl _) _).setCell (p:=⟨w.heap.size,1,none⟩) (Nat.le_refl _) _
end
end
end Go.Proofs.YtoegmdnfbemppaaGreatDoor
