/- Layers 21 and 22: the machine at a test's beginning, as lists. -/
import Derived.Test.YtgjefdaaihgliaaGreatDoorMn27
import Derived.Test.YtgjefdaaihgliaaGreatDoorMn35

namespace Go.Proofs.YtgjefdaaihgliaaGreatDoor
open Go.RowKit
def Zc4 (n:Nat)(k:Nat)(init:List Ini):List (List UInt8×Int):=init.foldl (fun l x=>if x.th=(k:Int) then l.set x.rg.toNat (x.vl,x.vn) else l) (List.replicate n ([],0))
def tdK (n:Nat)(init:List Ini)(k:Nat):BTd:=⟨Zc4 n k init,0,[]⟩
def Zby (T:Tst):BMc:=⟨T.arch,T.code,Zaq T,Za8 T,Ze3 (Zaq T) T.init,(List.range T.code.length).map (tdK (Zdn (isR T)) T.init)⟩
def mkM (T:Tst)(j i:Nat):BMc:=⟨T.arch,T.code.take j,Zaq T,Za8 T,Ze3 (Zaq T) T.init,(List.range j).map (tdK (Zdn (isR T)) (T.init.take i))⟩
theorem Zei (n k:Nat)(init:List Ini):(Zc4 n k init).length=n:=by
 unfold Zc4;have key:∀ (l:List Ini) (v:List (List UInt8×Int)),(l.foldl (fun l x=>if x.th=(k:Int) then l.set x.rg.toNat (x.vl,x.vn) else l) v).length=v.length:=by
  intro l
  induction l with
  | nil=>intro v;rfl
  | cons x l ih=>
   intro v;rw [List.foldl_cons,ih]
   split <;> simp
 rw [key,List.length_replicate]
theorem Ze8 (n k:Nat)(l:List Ini)(x:Ini):Zc4 n k (l++[x])=if x.th=(k:Int) then (Zc4 n k l).set x.rg.toNat (x.vl,x.vn) else Zc4 n k l:=by
 unfold Zc4;rw [List.foldl_append];rfl
theorem Zwt (n N k:Nat)(l:List Ini)(x:Ini)(hk:x.th=(k:Int)):(List.range N).map (tdK n (l++[x]))=((List.range N).map (tdK n l)).set k { tdK n l k with vs:=(tdK n l k).vs.set x.rg.toNat (x.vl,x.vn) }:=by
 apply List.ext_getElem?;intro j;rw [List.getElem?_map,List.getElem?_set];by_cases hj:j<N
 ·rw [List.getElem?_range hj];by_cases e:k=j
  ·subst e;rw [if_pos rfl,if_pos (by simpa using hj)];simp only [Option.map_some,tdK,Ze8,if_pos hk]
  ·rw [if_neg e,List.getElem?_map,List.getElem?_range hj];simp only [Option.map_some,tdK,Ze8];rw [if_neg ω]
 ·rw [List.getElem?_eq_none (by simpa using hj)];by_cases e:k=j
  ·subst e;rw [if_pos rfl,if_neg (by simpa using hj)];rfl
  ·rw [if_neg e,List.getElem?_eq_none (by simpa using hj)];rfl
theorem Zr3 (n N:Nat)(l:List Ini)(x:Ini)(hk:x.th<0):(List.range N).map (tdK n (l++[x]))=(List.range N).map (tdK n l):=by
 apply List.map_congr_left;intro j _;simp only [tdK,Ze8];rw [if_neg ω]
theorem Zf8 (locs:List Nm)(init:List Ini):(Ze3 locs init).length=locs.length:=by
 unfold Ze3;have key:∀ (l:List Ini) (m:List Int),(l.foldl (Zp9 locs) m).length=m.length:=by
  intro l
  induction l with
  | nil=>intro m;rfl
  | cons x l ih=>
   intro m;rw [List.foldl_cons,ih];unfold Zp9
   split <;> simp
 rw [key];simp
theorem Zvn (T:Tst):mkM T T.code.length T.init.length=Zby T:=by unfold mkM Zby;rw [List.take_length,List.take_length]
theorem Zir {T:Tst}{a:Tr}(h:Zcs T=.ok a):Zbb T=0:=by
 refine Decidable.byContradiction fun hE=>?_
 unfold Zcs at h;rw [if_pos hE] at h;cases h
theorem Enc.appO {α:Type}{E:Enc α}{T S:TypeId}{bytes:Nat}(hE:E.Elem T S bytes){ops:Array Oper}{rest:List Oper}{o:Oper}{a:Act}{Q:Exit->Act->World->Prop}(V:World)
  (hg:o.guard=none) (s x:Operand) (hop:o.op=Op.call { callee:=Callee.builtin Builtin.append,args:=#[s,x],argTypes:=#[S,S] })
  (ys:List α) (B B2:Nat) (l:List α) (v vx:Value) (hs:a.eval s=v) (hx:a.eval x=vx)
  (hys:E.Own T B2 V vx ys) (hown:E.Own T B V v l) (b1:l.length+ys.length<=1152921504606846976) (b3:(l.length+ys.length)*bytes<=140737488355328) (hB:B<=V.heap.size)
  (hK:∀ v' w1,E.Own T B w1 v' (l++ys)->Zbh V w1 B v v'->wpList Tryz.prog ops Q rest (a.put o.dst v') w1) :
  wpList Tryz.prog ops Q (o :: rest) a V:=by
 obtain⟨A,cap,e1,hat,_,_⟩:=hys.at_;rcases hys.2 with ⟨e,h0⟩ | ⟨g,c,cur,e,_⟩
 ·have hy:ys=[]:=List.length_eq_zero_iff.1 h0;subst hy;obtain⟨z,hz,hzs⟩:=hE.info;obtain⟨i0,hi,hz0,hz1,hz2⟩:=Zbx hz;refine wpList_append_own_none hg s x S hop B T i0 E.size hE.sl hi v l.length (E.flat l) hs hown (by rw [hx,e]) (hK v V ?_ (Zbh.refl _ _ _));rw [List.append_nil];exact hown
 ·rw [e1] at e;simp only [Value.slice.injEq,true_and] at e;obtain⟨rfl,_⟩:=e;exact Enc.appW hE V hg s x hop ys B l v g 0 cap hs (by rw [hx,e1]) hat hown b1 b3 hB hK
theorem Zhm {w:World}{q i:Nat}{m:List (Int×Int)}{x:Int×Int}(h:Blk w q 130 (Zbj.flat m).toArray)(hx:m[i]?=some x):w.cell? ⟨q,i*2,none⟩=some (.int .i64 x.1)/\w.cell? ⟨q,i*2+1,none⟩=some (.int .i64 x.2):=by
 have h0:=Zbj.flat_at hx (show 0<Zbj.size by show 0<2;omega);have h1:=Zbj.flat_at hx (show 1<Zbj.size by show 1<2;omega);refine⟨?_,?_⟩
 ·rw [h.cell];rw [show i*Zbj.size+0=i*2 by show i*2+0=i*2;omega] at h0;simpa using h0
 ·rw [h.cell];rw [show i*Zbj.size+1=i*2+1 from rfl] at h1;simpa using h1
theorem Zcg.en_blk {w:World}{B O:Nat}{L:Zpu}{V:Ztj}(h:Zcg w B O L V){q n:Nat}(hq:V.en=.slice (some ⟨q,0,none⟩) n n):Blk w q 130 (Zbj.flat L.a.ends).toArray/\B<=q:=by
 obtain⟨q',e,hb,hB⟩:=h.en;rw [hq] at e;simp only [Value.slice.injEq,Option.some.injEq,Addr.mk.injEq,and_true] at e;obtain⟨rfl,_⟩:=e;exact⟨hb,hB⟩
theorem Zcg.off {w:World}{B O q:Nat}{L:Zpu}{V:Ztj}{cs:Array Value}(h:Zcg w B O L V)(hq:Blk w q 87 cs)(hne:O≠q)(i:Nat)(u:Value):Zcg (w.setCell ⟨q,i,none⟩ u) B O L V:=
 ⟨h.blk.far hne u,h.hO,Zae h.lo hq (by decide) _ _,h.ini.keep (fun _ hq2=>Below.heap_setCell w _ _ _ (Za5 hq2 hq (by decide))),Zae h.ev hq (by decide) _ _,Zae h.br hq (by decide) _ _,Zae h.ad hq (by decide) _ _,Zae h.da hq (by decide) _ _,Zae h.ct hq (by decide) _ _,Zae h.th hq (by decide) _ _,h.en.keep (fun _ hq2=>Below.heap_setCell w _ _ _ (Za5 hq2 hq (by decide))),h.a1,h.a2,h.a3⟩
theorem Zcg.off9 {w:World}{B O q:Nat}{L:Zpu}{V:Ztj}{cs:Array Value}(h:Zcg w B O L V)(hq:Blk w q 87 cs)(hne:O≠q)(u0 u1 u2 u3 u4 u5 u6 u7 u8:Value) :
  Zcg (((((((((w.setCell ⟨q,0,none⟩ u0).setCell ⟨q,1,none⟩ u1).setCell ⟨q,2,none⟩ u2).setCell ⟨q,3,none⟩ u3).setCell ⟨q,4,none⟩ u4).setCell ⟨q,5,none⟩ u5).setCell ⟨q,6,none⟩ u6).setCell ⟨q,7,none⟩ u7).setCell ⟨q,8,none⟩ u8) B O L V:=by
 have k1:=hq.set_ 0 u0;have k2:=k1.set_ 1 u1;have k3:=k2.set_ 2 u2;have k4:=k3.set_ 3 u3;have k5:=k4.set_ 4 u4;have k6:=k5.set_ 5 u5;have k7:=k6.set_ 6 u6;have k8:=k7.set_ 7 u7;exact ((((((((h.off hq hne 0 u0).off k1 hne 1 u1).off k2 hne 2 u2).off k3 hne 3 u3).off k4 hne 4 u4).off k5 hne 5 u5).off k6 hne 6 u6).off k7 hne 7 u7).off k8 hne 8 u8
structure Ze4 (w:World) (Bk:Nat) (wq:World) (O g:Nat) (S:Zgk) (r:Rn) (V8:Zd8) (L:Zpu) (V:Ztj) (tc:Array Value):Prop where
 out:Zcg wq w.heap.size O L V
 run:Za7 wq Bk g S r V8
 tst:Blk wq w.heap.size 32 tc
 nil:Blk wq (w.heap.size+1) 87 #[.slice none 0 0,.slice none 0 0,.slice none 0 0,.slice none 0 0,.slice none 0 0,.slice none 0 0,.slice none 0 0,.slice none 0 0,.slice none 0 0]
 bel:Below w.heap.size w wq
 hO:w.heap.size+1<O
 hk:O<Bk
namespace Ze4
variable {w wq w1:World} {Bk O g:Nat} {S:Zgk} {r:Rn} {V8:Zd8} {L:Zpu} {V:Ztj} {tc:Array Value} {v':Value}
theorem below (h:Ze4 w Bk wq O g S r V8 L V tc)(hb:Below wq.heap.size wq w1):Ze4 w Bk w1 O g S r V8 L V tc:=
 ⟨h.out.below hb,h.run.below hb,h.tst.go hb,h.nil.go hb,Zab h.bel hb,h.hO,h.hk⟩
theorem drew (h:Ze4 w Bk wq O g S r V8 L V tc):Ze4 w Bk wq.drew O g S r V8 L V tc:=⟨h.out.drew,h.run.drew,h.tst,h.nil,h.bel.drew,h.hO,h.hk⟩
theorem put (h:Ze4 w Bk wq O g S r V8 L V tc){i q n:Nat}(x y:Int)(hn:L.a.ends.length=n)(hi:i<n)(hq:V.en=.slice (some ⟨q,0,none⟩) n n)(hqk:q<Bk) :
  Ze4 w Bk ((wq.setCell ⟨q,i*2,none⟩ (.int .i64 x)).setCell ⟨q,i*2+1,none⟩ (.int .i64 y)) O g S r V8 { L with a:={ L.a with ends:=L.a.ends.set i (x,y) } } V tc:=by
 subst hn;obtain⟨q',e,hb,hB⟩:=h.out.en;rw [hq] at e;simp only [Value.slice.injEq,Option.some.injEq,Addr.mk.injEq,and_true] at e;obtain⟨rfl,_⟩:=e;have hbel:=h.bel
 exact⟨h.out.en_ (x:=(x,y)) hi hq,h.run.above ((Zem.set wq _ _ hqk).trans (Zem.set _ _ _ hqk)),(h.tst.far (Za5 h.tst hb (by decide)) _).far (Za5 h.tst hb (by decide)) _,(h.nil.far (Za5 h.nil hb (by decide)) _).far (Za5 h.nil hb (by decide)) _,
  (hbel.setCell (p:=⟨q,i*2,none⟩) hB _).setCell (p:=⟨q,i*2+1,none⟩) hB _,h.hO,h.hk⟩
theorem en_blk (h:Ze4 w Bk wq O g S r V8 L V tc){q n:Nat}(hq:V.en=.slice (some ⟨q,0,none⟩) n n):Blk wq q 130 (Zbj.flat L.a.ends).toArray:=by
 obtain⟨q',e,hb,hB⟩:=h.out.en;rw [hq] at e;simp only [Value.slice.injEq,Option.some.injEq,Addr.mk.injEq,and_true] at e;obtain⟨rfl,_⟩:=e;exact hb
theorem ev_ (h:Ze4 w Bk wq O g S r V8 L V tc)(hlt:∀ b,V.ev.ownBlock=some b->b<Bk){l:List Evt}(hg:Zbh wq w1 w.heap.size V.ev v')(ho:Zq8.Own 225 w.heap.size w1 v' l):Ze4 w Bk (w1.setCell ⟨O,2,none⟩ v') O g S r V8 { L with a:={ L.a with evs:=l } } { V with ev:=v' } tc:=
 ⟨h.out.ev_ hg ho,h.run.above ((Zem.grew hg hlt).trans (Zem.set w1 2 v' h.hk)),(Zax h.tst h.out.ev (by decide) hg).far (p:=⟨O,2,none⟩) (by have:=h.hO;simp only [ne_eq];omega) v',(Zax h.nil h.out.ev (by decide) hg).far (p:=⟨O,2,none⟩) (by have:=h.hO;simp only [ne_eq];omega) v',(h.bel.trans hg.below).setCell (p:=⟨O,2,none⟩) (by have:=h.hO;show w.heap.size<=O;omega) v',h.hO,h.hk⟩
theorem br_ (h:Ze4 w Bk wq O g S r V8 L V tc)(hlt:∀ b,V.br.ownBlock=some b->b<Bk){l:List Br}(hg:Zbh wq w1 w.heap.size V.br v')(ho:Zoe.Own 169 w.heap.size w1 v' l):Ze4 w Bk (w1.setCell ⟨O,3,none⟩ v') O g S r V8 { L with a:={ L.a with bars:=l } } { V with br:=v' } tc:=
 ⟨h.out.br_ hg ho,h.run.above ((Zem.grew hg hlt).trans (Zem.set w1 3 v' h.hk)),(Zax h.tst h.out.br (by decide) hg).far (p:=⟨O,3,none⟩) (by have:=h.hO;simp only [ne_eq];omega) v',(Zax h.nil h.out.br (by decide) hg).far (p:=⟨O,3,none⟩) (by have:=h.hO;simp only [ne_eq];omega) v',(h.bel.trans hg.below).setCell (p:=⟨O,3,none⟩) (by have:=h.hO;show w.heap.size<=O;omega) v',h.hO,h.hk⟩
theorem ad_ (h:Ze4 w Bk wq O g S r V8 L V tc)(hlt:∀ b,V.ad.ownBlock=some b->b<Bk){l:List (Int×Int)}(hg:Zbh wq w1 w.heap.size V.ad v')(ho:Zbj.Own 175 w.heap.size w1 v' l):Ze4 w Bk (w1.setCell ⟨O,4,none⟩ v') O g S r V8 { L with a:={ L.a with addr:=l } } { V with ad:=v' } tc:=
 ⟨h.out.ad_ hg ho,h.run.above ((Zem.grew hg hlt).trans (Zem.set w1 4 v' h.hk)),(Zax h.tst h.out.ad (by decide) hg).far (p:=⟨O,4,none⟩) (by have:=h.hO;simp only [ne_eq];omega) v',(Zax h.nil h.out.ad (by decide) hg).far (p:=⟨O,4,none⟩) (by have:=h.hO;simp only [ne_eq];omega) v',(h.bel.trans hg.below).setCell (p:=⟨O,4,none⟩) (by have:=h.hO;show w.heap.size<=O;omega) v',h.hO,h.hk⟩
theorem da_ (h:Ze4 w Bk wq O g S r V8 L V tc)(hlt:∀ b,V.da.ownBlock=some b->b<Bk){l:List (Int×Int)}(hg:Zbh wq w1 w.heap.size V.da v')(ho:Zbj.Own 175 w.heap.size w1 v' l):Ze4 w Bk (w1.setCell ⟨O,5,none⟩ v') O g S r V8 { L with a:={ L.a with data:=l } } { V with da:=v' } tc:=
 ⟨h.out.da_ hg ho,h.run.above ((Zem.grew hg hlt).trans (Zem.set w1 5 v' h.hk)),(Zax h.tst h.out.da (by decide) hg).far (p:=⟨O,5,none⟩) (by have:=h.hO;simp only [ne_eq];omega) v',(Zax h.nil h.out.da (by decide) hg).far (p:=⟨O,5,none⟩) (by have:=h.hO;simp only [ne_eq];omega) v',(h.bel.trans hg.below).setCell (p:=⟨O,5,none⟩) (by have:=h.hO;show w.heap.size<=O;omega) v',h.hO,h.hk⟩
theorem ct_ (h:Ze4 w Bk wq O g S r V8 L V tc)(hlt:∀ b,V.ct.ownBlock=some b->b<Bk){l:List (Int×Int)}(hg:Zbh wq w1 w.heap.size V.ct v')(ho:Zbj.Own 175 w.heap.size w1 v' l):Ze4 w Bk (w1.setCell ⟨O,6,none⟩ v') O g S r V8 { L with a:={ L.a with hang:=l } } { V with ct:=v' } tc:=
 ⟨h.out.ct_ hg ho,h.run.above ((Zem.grew hg hlt).trans (Zem.set w1 6 v' h.hk)),(Zax h.tst h.out.ct (by decide) hg).far (p:=⟨O,6,none⟩) (by have:=h.hO;simp only [ne_eq];omega) v',(Zax h.nil h.out.ct (by decide) hg).far (p:=⟨O,6,none⟩) (by have:=h.hO;simp only [ne_eq];omega) v',(h.bel.trans hg.below).setCell (p:=⟨O,6,none⟩) (by have:=h.hO;show w.heap.size<=O;omega) v',h.hO,h.hk⟩
end Ze4
section
def Zhg (B g:Nat)(S:Zgk)(V:Zd8)(o:Option Rn)(w:World)(e:Ending)(w':World):Prop:=match o with
 | some r'=>Zb4 B g S V r' (.bool true) w e w'
 | none=>∃ r',Zb4 B g S V r' (.bool false) w e w'
theorem Zhg.yes {B g:Nat}{S:Zgk}{V:Zd8}{r':Rn}{o:Option Rn}{w w':World}{e:Ending}(h:o=some r')(p:Zb4 B g S V r' (.bool true) w e w'):Zhg B g S V o w e w':=by subst h;exact p
theorem Zhg.no {B g:Nat}{S:Zgk}{V:Zd8}{r':Rn}{o:Option Rn}{w w':World}{e:Ending}(h:o=none)(p:Zb4 B g S V r' (.bool false) w e w'):Zhg B g S V o w e w':=by subst h;exact⟨r',p⟩
structure Rnd (w0 w:World) (g nr:Nat) (S:Zgk) (c:List Ins) (X:Option Rn) (V:Zd8) (k:Nat) (r:Rn) (V':Zd8) (wr:World):Prop where
 inv:Inv S.C nr k r
 run:Za7 wr w0.heap.size g S r V'
 go:goL S.C c k r=X
 below:Below w0.heap.size w wr
 fr:FrV w wr g V V'
theorem Rnd.step {w0 w wr w2:World}{g nr k n:Nat}{S:Zgk}{c:List Ins}{X:Option Rn}{V V1 V2:Zd8}{r r2:Rn}{x:Ins}(h:Rnd w0 w g nr S c X V k r V1 wr)(hx:c[k]?=some x)(hf:r.full=false)(hv:Zpw S.C nr c k x)(hs:Zbn S.C r c k x=some (r2,n))(hR:Za7 w2 w0.heap.size g S r2 V2)(hb:Below w0.heap.size wr w2)(hF:FrV wr w2 g V1 V2):Rnd w0 w g nr S c X V n r2 V2 w2:=
 ⟨h.inv.step hv hs,hR,by rw [<- h.go,Zjg hx hf hs],h.below.trans hb,h.fr.trans hF⟩
theorem Rnd.fell {w0 w wr w2:World}{g nr k:Nat}{S:Zgk}{c:List Ins}{X:Option Rn}{V V1 V2:Zd8}{r r2:Rn}{x:Ins}{e:Ending}(h:Rnd w0 w g nr S c X V k r V1 wr)(hx:c[k]?=some x)(hf:r.full=false)(hs:Zbn S.C r c k x=none)(he:e=.returned (.bool false))(hR:Za7 w2 w0.heap.size g S r2 V2)(hb:Below w0.heap.size wr w2)(hF:FrV wr w2 g V1 V2):Zhg w0.heap.size g S V X w e w2:=
 Zhg.no (by rw [<- h.go,Zjf hx hf hs]) ⟨V2,he,hR,h.below.trans hb,h.fr.trans hF⟩
section
variable {C:Cx} {r:Rn} {c:List Ins} {k:Nat} {d a b imm fence:Int} {loc label:Nm}
theorem Z0w:Zbn C r c k ⟨1,d,a,b,imm,loc,label,fence⟩=(Zcz C r k loc 0 ⟨.num imm,0⟩).map (·,k+1):=rfl
theorem Z0x:Zbn C r c k ⟨2,d,a,b,imm,loc,label,fence⟩=(Zcz C r k loc 0 (rgA r a)).map (·,k+1):=rfl
theorem Z6j:Zbn C r c k ⟨3,d,a,b,imm,loc,label,fence⟩=some (Zfd C r k loc 0 d,k+1):=rfl
theorem Z6k:Zbn C r c k ⟨4,d,a,b,imm,loc,label,fence⟩=some (Zg1 C r d ⟨.num imm,0⟩,k+1):=rfl
theorem Z6l:Zbn C r c k ⟨5,d,a,b,imm,loc,label,fence⟩=some (Z1d C r k 1,k+1):=rfl
theorem Z3p:Zbn C r c k ⟨13,d,a,b,imm,loc,label,fence⟩=some (Z1d C r k fence,k+1):=rfl
theorem Z0y:Zbn C r c k ⟨6,d,a,b,imm,loc,label,fence⟩=(Zit C r k ⟨6,d,a,b,imm,loc,label,fence⟩).map (·,k+1):=rfl
theorem Z0z:Zbn C r c k ⟨7,d,a,b,imm,loc,label,fence⟩=(Zit C r k ⟨7,d,a,b,imm,loc,label,fence⟩).map (·,k+1):=rfl
theorem Z6m:Zbn C r c k ⟨8,d,a,b,imm,loc,label,fence⟩=some (Zfq C r ⟨8,d,a,b,imm,loc,label,fence⟩,k+1):=rfl
theorem Z6n:Zbn C r c k ⟨9,d,a,b,imm,loc,label,fence⟩=some (Zfq C r ⟨9,d,a,b,imm,loc,label,fence⟩,k+1):=rfl
theorem Z3n:Zbn C r c k ⟨10,d,a,b,imm,loc,label,fence⟩=some (Zfq C r ⟨10,d,a,b,imm,loc,label,fence⟩,k+1):=rfl
theorem Zwr:Zbn C r c k ⟨11,d,a,b,imm,loc,label,fence⟩=brL r c k ⟨11,d,a,b,imm,loc,label,fence⟩:=rfl
theorem Z3o:Zbn C r c k ⟨12,d,a,b,imm,loc,label,fence⟩=some (r,k+1):=rfl
end
section
set_option maxHeartbeats 4000000
set_option maxRecDepth 100000
variable {w0 w:World} {g nr k:Nat} {S:Zgk} {r:Rn} {V:Zd8}
theorem Z3w (pl:Nat)(loc:Nm)(x:Rg)(HS:Zqx w0 S)(hb:Below w0.heap.size w0 w)(hI:Inv S.C nr k r)(hf:r.full=false)(hR:Za7 w w0.heap.size g S r V)(hloc:loc∈S.C.locs)(hx:Zid S.C r.evs x) :
  Calls Tryz.prog 72 #[.pointer (some ⟨g,0,none⟩),.int .i64 (pl:Int),.string ⟨loc.toArray⟩,.agg #[.int .u64 0,.int .u64 0,.int .u64 0,.int .u64 0],rgV x] w (Zcv w0.heap.size g S V r (Zcz S.C r pl loc 0 x) w):=Zxa pl loc 0 x HS hb hI hf hR hloc (Rds.zero _) hx
theorem Z3x (pl:Nat)(loc:Nm)(n:Int)(HS:Zqx w0 S)(hb:Below w0.heap.size w0 w)(hI:Inv S.C nr k r)(hf:r.full=false)(hR:Za7 w w0.heap.size g S r V)(hloc:loc∈S.C.locs)(hn:Zdl n) :
  Calls Tryz.prog 72 #[.pointer (some ⟨g,0,none⟩),.int .i64 (pl:Int),.string ⟨loc.toArray⟩,.agg #[.int .u64 0,.int .u64 0,.int .u64 0,.int .u64 0],.agg #[.iface 159 (.int .i64 n),.int .u64 0,.int .u64 0,.int .u64 0,.int .u64 0]] w (Zcv w0.heap.size g S V r (Zcz S.C r pl loc 0 ⟨.num n,0⟩) w):=Zxa pl loc 0 ⟨.num n,0⟩ HS hb hI hf hR hloc (Rds.zero _) ⟨hn,Rds.zero _⟩
theorem Z59 (pl:Nat)(loc:Nm)(d:Nat)(HS:Zqx w0 S)(hb:Below w0.heap.size w0 w)(hI:Inv S.C nr k r)(hf:r.full=false)(hR:Za7 w w0.heap.size g S r V)(hloc:loc∈S.C.locs)(hd:d<r.regs.length)(hl:r.regs.length<=32) :
  Calls Tryz.prog 73 #[.pointer (some ⟨g,0,none⟩),.int .i64 (pl:Int),.string ⟨loc.toArray⟩,.agg #[.int .u64 0,.int .u64 0,.int .u64 0,.int .u64 0],.int .i64 (d:Int)] w (Zb4 w0.heap.size g S V (Zfd S.C r pl loc 0 (d:Int)) (.tuple #[]) w):=Z58 pl loc 0 d HS hb hI hf hR hloc (Rds.zero _) hd hl
theorem Z8c (d:Nat)(n:Int)(HS:Zqx w0 S)(hb:Below w0.heap.size w0 w)(hd:d<r.regs.length)(hl:r.regs.length<=32)(hR:Za7 w w0.heap.size g S r V) :
  Calls Tryz.prog 74 #[.pointer (some ⟨g,0,none⟩),.int .i64 (d:Int),.agg #[.iface 159 (.int .i64 n),.int .u64 0,.int .u64 0,.int .u64 0,.int .u64 0]] w (Zb4 w0.heap.size g S V (Zg1 S.C r (d:Int) ⟨.num n,0⟩) (.tuple #[]) w):=Z7a d ⟨.num n,0⟩ HS hb hd hl hR
theorem Z8z (pl d a b:Nat)(op imm:Int)(hop:op=6\/op=7)(loc label:List UInt8)(fence:Int)(HS:Zqx w0 S)(hb:Below w0.heap.size w0 w)(hI:Inv S.C nr k r)(hf:r.full=false)(hR:Za7 w w0.heap.size g S r V)(hd:d<r.regs.length)(hl:r.regs.length<=32)(ha:a<r.regs.length)(hb2:b<r.regs.length) :
  Calls Tryz.prog 75 #[.pointer (some ⟨g,0,none⟩),.int .i64 (pl:Int),Z0l op d a b imm loc label fence] w (Zcv w0.heap.size g S V r (Zit S.C r pl ⟨op,d,a,b,imm,loc,label,fence⟩) w):=by
 have hae:=List.getElem?_eq_getElem ha;have hbe:=List.getElem?_eq_getElem hb2;obtain⟨ra,hra⟩:∃ x,r.regs[a]=x:=⟨_,rfl⟩;obtain⟨rb,hrb⟩:∃ x,r.regs[b]=x:=⟨_,rfl⟩;rw [hra] at hae;rw [hrb] at hbe;have oka:=hI.regs ra (List.mem_of_getElem? hae);have okb:=hI.regs rb (List.mem_of_getElem? hbe);have ga:=Zhz hae;have gb:=Zhz hbe;obtain⟨ah,ao⟩:=ra;cases ah with
 | adr s=>
  rcases hop with rfl | rfl
  ·have hm:Zit S.C r pl ⟨6,d,a,b,imm,loc,label,fence⟩=some (Zfd S.C r pl s ao (d:Int)):=by unfold Zit;simp only [ga];rfl
   rw [hm];exact Z5k pl d a b 6 imm rfl loc label fence s ao HS hb hI hf hR hd hl hae oka
  ·have hm:Zit S.C r pl ⟨7,d,a,b,imm,loc,label,fence⟩=Zcz S.C r pl s ao rb:=by unfold Zit;simp only [ga,gb];rfl
   rw [hm];exact Z5m pl d a b 7 imm rfl loc label fence s ao rb HS hb hI hf hR hae oka hbe okb
 | num n=>
  have hm:Zit S.C r pl ⟨op,d,a,b,imm,loc,label,fence⟩=none:=by unfold Zit;simp only [ga]
  rw [hm];exact Z5j pl op d a b imm loc label fence n ao hb hI hR hae
 | rd n=>
  have hm:Zit S.C r pl ⟨op,d,a,b,imm,loc,label,fence⟩=none:=by unfold Zit;simp only [ga]
  rw [hm];exact Z5l pl op d a b imm loc label fence n ao hb hI hR hae
 | non=>
  have hm:Zit S.C r pl ⟨op,d,a,b,imm,loc,label,fence⟩=none:=by unfold Zit;simp only [ga]
  rw [hm];exact Z5i pl op d a b imm loc label fence ao hb hI hR hae
theorem Z21 (op:Int)(hop:op=8\/op=9\/op=10)(d a b:Nat)(imm:Int)(loc label:List UInt8)(fence:Int)(HS:Zqx w0 S)(hb:Below w0.heap.size w0 w)(hI:Inv S.C nr k r)(hR:Za7 w w0.heap.size g S r V)(hd:d<r.regs.length)(hl:r.regs.length<=32)(ha:a<r.regs.length)(hb2:b<r.regs.length)(himm:Zdl imm) :
  Calls Tryz.prog 76 #[.pointer (some ⟨g,0,none⟩),Z0l op d a b imm loc label fence] w (Zb4 w0.heap.size g S V (Zfq S.C r ⟨op,d,a,b,imm,loc,label,fence⟩) (.tuple #[]) w):=by
 have hae:=List.getElem?_eq_getElem ha;have hbe:=List.getElem?_eq_getElem hb2;obtain⟨ra,hra⟩:∃ x,r.regs[a]=x:=⟨_,rfl⟩;obtain⟨rb,hrb⟩:∃ x,r.regs[b]=x:=⟨_,rfl⟩;rw [hra] at hae;rw [hrb] at hbe;have oka:=hI.regs ra (List.mem_of_getElem? hae);have okb:=hI.regs rb (List.mem_of_getElem? hbe);have ga:=Zhz hae;have gb:=Zhz hbe;have hm:Zfq S.C r ⟨op,d,a,b,imm,loc,label,fence⟩=Zg1 S.C r (d:Int) (Znm op a b ra (if op=8 then ⟨.num imm,0⟩ else rb)):=by
  rcases hop with rfl | rfl | rfl
  ·unfold Zfq Znm;simp only [ga];simp
  ·unfold Zfq Znm;simp only [ga,gb];by_cases hab:a=b
   ·simp [hab]
   ·have hab2:¬ (a:Int)=(b:Int):=ω;simp [hab,hab2]
  ·unfold Zfq Znm;simp only [ga,gb];simp
 rw [hm];exact Z8f op d a b imm loc label fence ra rb _ rfl himm HS hb hI hR hd hae oka hbe okb hl
end
end
section
theorem Zsd {w:World}{A:Option Addr}{l:List (Int×Int)}(h:Zbj.At w A l){i:Nat}{x:Int×Int}(hx:l[i]?=some x):∃ b o,A=some ⟨b,o,none⟩/\w.cell? ⟨b,o+i*2,none⟩=some (.int .i64 x.1)/\w.cell? ⟨b,o+i*2+1,none⟩=some (.int .i64 x.2):=by
 obtain⟨b,o,e,hc⟩:=h i x hx;exact⟨b,o,e,hc 0 _ rfl,hc 1 _ rfl⟩
theorem Zfj.moved {evs:List Evt}{n f:Nat}{l:List (Int×Int)}(h:Zfj evs n l)(hf:f+n<=64) :
  (∀ p∈l.map (shP f),okP p)/\(l.map (shP f)).Nodup/\(Zf6 (l.map (shP f))).Pairwise Zrm/\(∀ x,x∈Zf6 (l.map (shP f))↔x∈l.map (shP f))/\(∀ p∈l.map (shP f),(f:Int)<=p.1/\p.1<((f+n:Nat):Int)):=by
 have hin:∀ p∈l.map (shP f),∃ i j:Nat,p=(((f+i:Nat):Int),((f+j:Nat):Int))/\i<j/\j<n:=fun p hp=>by
  obtain⟨q,hq,rfl⟩:=List.mem_map.1 hp;obtain⟨i,j,rfl,h1,_,h3⟩:=h.at_ q hq;exact⟨i,j,by simp [shP],h1,h3⟩
 have hord:(l.map (shP f)).Pairwise Z35:=by
  rw [List.pairwise_map];exact h.ord.imp fun hpq=>by
   unfold Z35 shP at *;simp only;omega
 refine⟨fun p hp=>?_,?_,Zq2 hord 64,fun x=>?_,fun p hp=>?_⟩
 ·obtain⟨i,j,rfl,h1,h2⟩:=hin p hp;unfold okP;simp only;omega
 ·refine hord.imp fun {p q} hpq e=>?_
  subst e;unfold Z35 at hpq;omega
 ·rw [Zjw];refine⟨fun h=>h.1,fun h=>⟨h,?_⟩⟩;obtain⟨i,j,rfl,h1,h2⟩:=hin x h;exact⟨f+i,ω,rfl⟩
 ·obtain⟨i,j,rfl,h1,h2⟩:=hin p hp;simp only;omega
section
set_option maxHeartbeats 4000000
set_option maxRecDepth 100000
theorem Zvp (A:Option Addr)(cap n f:Nat)(evs:List Evt)(l:List (Int×Int))(w:World)(h:Zbj.At w A l)(hok:Zfj evs n l)(hf:f+n<=64)(_hcap:l.length<=cap) :
  Calls Tryz.prog 47 #[.slice A l.length cap,.int .i64 (f:Int)] w fun e w'=>∃ v,e=.returned v/\Zbj.Own 175 w.heap.size w' v (Zf6 (l.map (shP f)))/\Below w.heap.size w w':=by
 have HA:=Zh h;have hlen:=hok.len;have hm:=hok.moved hf;have HM:=Zh hm;have hin:∀ p∈l,(0<=p.1/\p.1<=64)/\0<=p.2/\p.2<=64:=fun p hp=>by
  obtain⟨i,j,rfl,h1,_,h3⟩:=hok.at_ p hp;simp only;omega
 have HIN:=Zh hin;have hll:l.length<=4096:=ω;go_enter Tryz.func47,Tryz.ntmps47
 go_wp2_with fail
 go_loopw [10,5] (fun ii vv wr=>∃ k:Nat,k<=l.length/\ii=.int .i64 k/\Zbj.Own 175 w.heap.size wr vv ((l.take k).map (shP f))/\Below w.heap.size w wr) (fun ii _ _=>l.length - (intOf ii).toNat)
 case atStart=>exact⟨0,Nat.zero_le _,rfl,Enc.Own.nil _ _ _,Below.refl _ _⟩
 case round=>
  obtain⟨k,hk,rfl,hv,hb⟩:=hrel;obtain⟨q,hq⟩:∃ q,(l.take k).map (shP f)=q:=⟨_,rfl⟩;have HQ:=Zh hq;rw [hq] at hv;have hql:q.length<=4096:=by rw [<- hq];simp;omega
  obtain⟨A3,n3,c3,rfl⟩:=Zav hv;have HV:=Zh hv;have HB:=Zh hb;have hzr:=hb.size;by_cases hlt:k<l.length
  ·have ex:=List.getElem?_eq_getElem hlt;obtain⟨x,hx⟩:∃ x,l[k]=x:=⟨_,rfl⟩;rw [hx] at ex;obtain⟨b,o,rfl,c0,c1⟩:=Zsd (HA.o.below HB.o) ex;have hxi:=HIN.o x (List.mem_of_getElem? ex);obtain⟨⟨x1,x2⟩,x3,x4⟩:=hxi;have hfi:(0:Int)<=(f:Int):=ω;have hfj:(f:Int)<=64:=ω;have hki:(k:Int)<(l.length:Int):=ω
   have HS:=Zh (show q++[((f:Int)+x.1,(f:Int)+x.2)]=(l.take (k+1)).map (shP f) by
    obtain⟨h1,h2⟩:=List.getElem?_eq_some_iff.1 ex
    rw [<- HQ.o,List.take_succ_eq_append_getElem h1,h2];simp [shP])
   have HP1:=Zh (Zad wr (.cells #[.int .i64 x.1,.int .i64 x.2] 175 (0,0)));have HPA:=Zh (Zni (wr.alloc (.cells #[.int .i64 x.1,.int .i64 x.2] 175 (0,0))) ((f:Int)+x.1,(f:Int)+x.2));have HP2:=Zh (Zau wr (.cells #[.int .i64 x.1,.int .i64 x.2] 175 (0,0)) (.cells #[.int .i64 ((f:Int)+x.1),.int .i64 ((f:Int)+x.2)] 175 (0,0)));have hz2:(wr.alloc (.cells #[.int .i64 x.1,.int .i64 x.2] 175 (0,0))).heap.size=wr.heap.size+1:=by simp
   rw [hz2] at HPA
   go_wp2_with (at_builtin;refine Enc.appW Zp6 _ rfl (.tmp 14) (.tmp 24) rfl [((f:Int)+x.1,(f:Int)+x.2)] w.heap.size q _ (wr.heap.size+1) 0 1 rfl rfl HPA.o (HV.o.below HP2.o) (by simp;omega) (by simp;omega) (by simp;omega) ?_;intro v' w3 hown3 hg3;have HO3:=Zh hown3;have HG3:=Zh hg3;clear hown3 hg3)
   go_roundw
   case rel=>exact⟨k+1,ω,by go_num,by rw [<- HS.o];exact HO3.o,HB.o.trans ((HP2.o.mono hzr).trans HG3.o.below)⟩
   case measure=>exact msr
  ·have hqe:q=l.map (shP f):=by rw [<- HQ.o,List.take_of_length_le ω]
   subst hqe;have hki:¬ (k:Int)<(l.length:Int):=ω
   go_wp2_with (go_at_call 78;refine (sortPr _ (l.map (shP f)) (Zf6 (l.map (shP f))) w.heap.size _ HV.o ω HM.o.1 HM.o.2.1 HM.o.2.2.1 HM.o.2.2.2.1).mono ?_;rintro e w4 ⟨rfl,hown4,hb4⟩;have HO4:=Zh hown4;have HB4:=Zh hb4;clear hown4 hb4)
   go_ret;exact⟨_,rfl,HO4.o,HB.o.trans HB4.o⟩
end
end
theorem Z4k {r r':Rn}{c:List Ins}{k n:Nat}{x:Ins}(hk:k<c.length)(hl:Zhp c k x<c.length)(h:brL r c k x=some (r',n)):n<=c.length:=by
 unfold brL at h;simp only [] at h
 split at h
 ·split at h
  ·cases h
  ·simp only [Option.some.injEq,Prod.mk.injEq] at h;omega
 ·simp only [Option.some.injEq,Prod.mk.injEq] at h;obtain⟨_,h2⟩:=h;cases hu:Zap (rgA r x.a).h (rgA r x.b).h <;> rw [hu] at h2 <;> simp at h2 <;> omega
theorem Zzl {C:Cx}{nr:Nat}{r:Rn}{c:List Ins}{k:Nat}{x:Ins}{p:Rn×Nat}(hk:c[k]?=some x)(hv:Zpw C nr c k x)(h:Zbn C r c k x=some p):p.2<=c.length:=by
 have hkl:=(List.getElem?_eq_some_iff.1 hk).1;unfold Zbn at h
 split at h
 ·obtain⟨a,_,rfl⟩:=Option.map_eq_some_iff.1 h;simp;omega
 split at h
 ·obtain⟨a,_,rfl⟩:=Option.map_eq_some_iff.1 h;simp;omega
 split at h
 ·simp only [Option.some.injEq] at h;subst h;simp;omega
 split at h
 ·simp only [Option.some.injEq] at h;subst h;simp;omega
 split at h
 ·simp only [Option.some.injEq] at h;subst h;simp;omega
 split at h
 ·simp only [Option.some.injEq] at h;subst h;simp;omega
 split at h
 ·obtain⟨a,_,rfl⟩:=Option.map_eq_some_iff.1 h;simp;omega
 split at h
 ·simp only [Option.some.injEq] at h;subst h;simp;omega
 split at h
 ·rename_i h11;obtain⟨r',n⟩:=p;exact Z4k hkl (hv.lab h11) h
 ·simp only [Option.some.injEq] at h;subst h;simp;omega
theorem Zqb {C:Cx}{nr:Nat}{c:List Ins}(hval:∀ k x,c[k]?=some x->Zpw C nr c k x):∀ (n k:Nat) (r r':Rn),c.length - k<=n->k<=c.length->Inv C nr k r->goL C c k r=some r'->Inv C nr c.length r':=by
 intro n
 induction n with
 | zero=>
  intro k r r' hn hk hI hg;rw [Zj2 ω] at hg;exact m_109
 | succ n ih=>
  intro k r r' hn hk hI hg;by_cases hkl:k<c.length
  ·have hx:=List.getElem?_eq_getElem hkl;cases hf:r.full with
   | true=>
    rw [Zje hf] at hg;exact m_109
   | false=>
    cases hs:Zbn C r c k c[k] with
    | none=>rw [Zjf hx hf hs] at hg;cases hg
    | some p=>
     rw [Zjg hx hf hs] at hg;have hgt:=Zjl hs;exact ih p.2 p.1 r' ω (Zzl hx (hval k _ hx) hs) (hI.step (hval k _ hx) hs) hg
  ·rw [Zj2 ω] at hg;exact m_109
theorem Zxp (k nr:Nat)(init:List Ini):(Z0c k nr init).length=nr:=by
 unfold Z0c;have key:∀ (l:List Ini) (L:List Rg),(l.foldl (Zkv k) L).length=L.length:=by
  intro l
  induction l with
  | nil=>intro L;rfl
  | cons x l ih=>intro L;rw [List.foldl_cons,ih];unfold Zkv;split <;> simp
 rw [key,List.length_replicate]
theorem Zxq {P:Rg->Prop}(k nr:Nat)(init:List Ini)(h0:P ⟨.num 0,0⟩)(h:∀ x∈init,x.th=(k:Int)->P (Zxe x)):∀ y∈Z0c k nr init,P y:=by
 unfold Z0c;have key:∀ (l:List Ini) (L:List Rg),(∀ x∈l,x.th=(k:Int)->P (Zxe x))->(∀ y∈L,P y)->∀ y∈l.foldl (Zkv k) L,P y:=by
  intro l
  induction l with
  | nil=>intro L _ hL;exact hL
  | cons x l ih=>
   intro L hl hL;rw [List.foldl_cons];refine ih _ (fun x hx=>hl x (List.mem_cons_of_mem _ hx)) (fun y hy=>?_);unfold Zkv at hy
   split at hy
   ·rename_i hth;rcases List.mem_or_eq_of_mem_set hy with h1 | rfl
    ·exact hL y h1
    ·exact hl x List.mem_cons_self hth
   ·exact hL y hy
 exact key init _ h (fun y hy=>by rw [List.eq_of_mem_replicate hy];exact h0)
theorem Z5c {T:Tst}(hE:Zbb T=0){C:Cx}(hC:C.locs=Zaq T)(hahead:C.ahead<=64)(k:Nat):Inv C (Zdn (isR T)) 0 (rn0 (isR T) T.init k):=by
 refine⟨Zxq _ _ _ ⟨show Zdl 0 by unfold Zdl;omega,Rds.zero _⟩ (fun x hx hth=>?_),Zxp _ _ _,Rds.zero _,by simpa [rn0] using hahead,Nat.le_refl _,⟨List.Pairwise.nil,(fun p hp=>by cases hp),Nat.zero_le _⟩,⟨List.Pairwise.nil,(fun p hp=>by cases hp),Nat.zero_le _⟩,⟨List.Pairwise.nil,(fun p hp=>by cases hp),Nat.zero_le _⟩,(fun p hp=>by cases hp)⟩;have hr:=(Zkc hE hx).reg ω;unfold Zxe
 split
 ·rename_i hv;exact⟨hr.2.2.1 hv,Rds.zero _⟩
 ·rename_i hv;exact⟨by show x.vl∈C.locs;rw [hC];exact hr.2.2.2 hv,Rds.zero _⟩
theorem Zrl:∀ (l m:List (Int×Int)),l.Nodup->(∀ x∈l,x∈m)->l.length<=m.length
 | [],_,_,_=>Nat.zero_le _
 | x :: l,m,hn,hs=>by
  have hx:=hs x List.mem_cons_self;have hn2:=List.nodup_cons.1 hn
  have h1:=Zrl l (m.erase x) hn2.2 (fun y hy=>by
   have hne:y≠x:=fun e=>hn2.1 (e ▸ hy)
   exact (List.mem_erase_of_ne hne).2 (hs y (List.mem_cons_of_mem _ hy)))
  have h2:=List.length_erase_of_mem hx;have h3:=List.length_pos_of_mem hx;simp only [List.length_cons];omega
theorem Zgm (evs:List Evt)(n f:Nat)(l:List (Int×Int))(h:Zfj evs n l)(hf:f+n<=64):(Zf6 (l.map (shP f))).length<=4096:=by
 obtain⟨_,hnd,hpw,hmem,_⟩:=h.moved hf;have hnd2:(Zf6 (l.map (shP f))).Nodup:=hpw.imp (fun {a b} hab e=>by subst e;unfold Zrm at hab;omega);have h1:=Zrl _ _ hnd2 (fun x hx=>(hmem x).1 hx);have h2:=h.len;rw [List.length_map] at h1;omega
theorem Ztu {a k t r:Int}{l:List UInt8}{v:Int}{n:Nat}(h:Zf2 a k t r l v n=true):∀ x∈atL k t r l,Zbd a x.1 x.2.1 x.2.2=true:=by
 intro x hx;unfold atL at hx
 split at hx
 ·rename_i h2;exact m_82
 ·simp at hx
theorem Zif {a:Int}:∀ f:Fr,okF a f->∀ x∈Za4 f,Zbd a x.1 x.2.1 x.2.2=true
 | .nil,_,x,hx=>by simp [Za4] at hx
 | .cons k t r l v kids rest,h,x,hx=>by
  simp only [Za4,List.mem_append] at hx;rcases hx with (hx | hx) | hx
  ·exact Ztu h.1 x hx
  ·exact Zif kids h.2.1 x hx
  ·exact Zif rest h.2.2 x hx
theorem Zwv {T:Tst}(hE:Zbb T=0){x:Th}(hx:x∈Za8 T):Zbd T.arch x.1 x.2.1 x.2.2=true:=by
 obtain⟨_,_,_,h1,h2,_⟩:=Zj0 (Za0 hE).2.2.2.2.2.1;unfold Za8 Zl9 at hx
 split at hx
 ·rcases List.mem_append.1 (Zr6 _ x hx) with h | h
  ·exact Ztu h1 x h
  ·exact Zif _ h2 x h
 ·cases hx
theorem Zww {T:Tst}(hE:Zbb T=0){x:Th}(hx:x∈Za8 T)(h1:x.1≠-1):0<=x.1/\0<=x.2.1/\x.2.1<Zdn (isR T):=by
 have h:=Zwv hE hx;unfold Zbd at h;rw [if_neg h1] at h;simp only [Bool.and_eq_true,decide_eq_true_eq] at h;have ha:=(Za0 hE).2.2.1;refine⟨h.1.1.1.1,h.1.1.2,?_⟩;have h2:=h.1.2;rcases Zho ha with ⟨e1,e2⟩ | ⟨e1,e2⟩
 ·rw [e2];unfold regs at h2;rw [if_pos e1] at h2;exact h2
 ·rw [e2];unfold regs at h2;rw [if_neg ω] at h2;exact h2
theorem Zwu {T:Tst}(hE:Zbb T=0){x:Th}(hx:x∈Za8 T)(h1:x.1=-1):x.2.2∈Zaq T:=by
 have h:=Zwv hE hx;unfold Zbd at h;rw [if_pos h1] at h;simp only [Bool.and_eq_true] at h;unfold Zaq;rw [Ze9];refine⟨?_,Zgt h.2⟩;unfold Zel;rw [List.mem_append,List.mem_append];exact Or.inr (Or.inr (List.mem_map.2 ⟨x,hx,rfl⟩))
structure Z09 (nt k:Nat) (a:Tr):Prop where
 evs:a.evs.length<=64
 bars:a.bars.length<=256*k
 addr:a.addr.length<=4096*k
 data:a.data.length<=4096*k
 hang:a.hang.length<=4096*k
 ends : a.ends.length = nt
theorem Z6x (T:Tst):Z09 (Za8 T).length 0 (tr0 (Za8 T)):=⟨by simp [tr0],by simp [tr0],by simp [tr0],by simp [tr0],by simp [tr0],by simp [tr0]⟩
theorem Z09.join {nt k nr m:Nat}{a:Tr}{C:Cx}{r:Rn}{es:List (Int×Int)}(h:Z09 nt k a)(hC:C.ahead=a.evs.length)(hI:Inv C nr m r)(hm:m<=256)(he:es.length=nt):Z09 nt (k+1) (Zi6 a r es):=by
 have h1:=hI.room;have h2:=hI.bars;have h3:=Zgm _ _ a.evs.length _ hI.addr ω;have h4:=Zgm _ _ a.evs.length _ hI.data ω;have h5:=Zgm _ _ a.evs.length _ hI.hang ω;have:=h.bars;have:=h.addr;have:=h.data;have:=h.hang;exact⟨by simp [Zi6];omega,by simp [Zi6];omega,by simp [Zi6];omega,by simp [Zi6];omega,by simp [Zi6];omega,he⟩
theorem Zl7 (risc:Bool)(locs:List Nm)(init:List Ini)(ths:List Th)(k:Nat)(c:List Ins)(cs:List (List Ins))(a:Tr):Zhe risc locs init ths k (c :: cs) a=match Zta risc locs init ths k c a with
  | .error e=>.error (e,k)
  | .ok a'=>Zhe risc locs init ths (k+1) cs a':=rfl
def Z9h (T:Tst):Except (Int×Nat) Tr->Except (Int×Nat) Tr
 | .error e=>.error e
 | .ok a=>.ok { a with ends:=Zso (Zaq T) 0 (Za8 T) a.ends }
theorem Zpq {T:Tst}(hE:Zbb T=0){X:Except (Int×Nat) Tr}(h:Zhe (isR T) (Zaq T) T.init (Za8 T) 0 T.code (tr0 (Za8 T))=X):Zcs T=Z9h T X:=by
 subst h;unfold Zcs;rw [if_neg (by simp [hE])];rfl
section
variable {risc:Bool} {locs:List Nm} {init:List Ini} {ths:List Th} {k f:Nat} {c:List Ins} {cs cs':List (List Ins)} {a a':Tr} {X:Except (Int×Nat) Tr} {e:Int} {r:Rn} {es:List (Int×Int)}
theorem Zey (h:Zhe risc locs init ths k cs a=X)(hd:cs=c :: cs')(he:Zta risc locs init ths k c a=.error e):X=.error (e,k):=by
 subst h hd;rw [Zl7,he]
theorem Zwz (h:Zhe risc locs init ths k cs a=X)(hd:cs=c :: cs')(he:Zta risc locs init ths k c a=.ok a'):Zhe risc locs init ths (k+1) cs' a'=X:=by
 subst h hd;rw [Zl7,he]
theorem Zpm (hf:a.evs.length=f)(h:goL ⟨k,risc,f,locs⟩ c 0 (rn0 risc init k)=none):Zta risc locs init ths k c a=.error 150:=by
 subst hf;unfold Zta Z4v;rw [h]
theorem Zpl (hf:a.evs.length=f)(h:goL ⟨k,risc,f,locs⟩ c 0 (rn0 risc init k)=some r)(hr:r.full=true):Zta risc locs init ths k c a=.error 2:=by
 subst hf;unfold Zta Z4v;rw [h];simp [hr]
theorem Zh5 (hf:a.evs.length=f)(h:goL ⟨k,risc,f,locs⟩ c 0 (rn0 risc init k)=some r)(hr:r.full=false)(he:Ze7 k f r 0 ths a.ends=none):Zta risc locs init ths k c a=.error 150:=by
 subst hf;unfold Zta Z4v;rw [h];simp [hr,he]
theorem Zwy (hf:a.evs.length=f)(h:goL ⟨k,risc,f,locs⟩ c 0 (rn0 risc init k)=some r)(hr:r.full=false)(he:Ze7 k f r 0 ths a.ends=some es):Zta risc locs init ths k c a=.ok (Zi6 a r es):=by
 subst hf;unfold Zta Z4v;rw [h];simp [hr,he]
end
theorem Z23 (f:Nat){n:Nat}{evs:List Evt}{l:List (Int×Int)}(h:Zfj evs n l):∀ p∈l.map (shP f),(f:Int)<=p.1:=fun p hp=>by
 obtain⟨q,hq,rfl⟩:=List.mem_map.1 hp;obtain⟨i,j,rfl,_⟩:=h.at_ q hq;show (f:Int)<=(f:Int)+(i:Int);omega
theorem Z24 {f:Nat}{evs:List Evt}{l:List (Int×Int)}(h:Zfj evs evs.length l):∀ p∈l.map (shP f),(f:Int)<=p.1/\p.1<(f:Int)+(evs.length:Int):=fun p hp=>by
 obtain⟨q,hq,rfl⟩:=List.mem_map.1 hp;obtain⟨i,j,rfl,_,hr,_⟩:=h.at_ q hq;have:=hr.lt;show (f:Int)<=(f:Int)+(i:Int)/\(f:Int)+(i:Int)<(f:Int)+(evs.length:Int);omega
structure Zn3 (k:Nat) (a' a:Tr):Prop where
 evs:a'.evs=a.evs
 bars:a'.bars=a.bars
 ends : a'.ends = a.ends
 addr:Zf6 a'.addr=a.addr
 data:Zf6 a'.data=a.data
 hang:Zf6 a'.hang=a.hang
 l1:∀ p∈a'.addr,0<=p.1/\p.1<(a.evs.length:Int)
 l2:∀ p∈a'.data,0<=p.1/\p.1<(a.evs.length:Int)
 l3:∀ p∈a'.hang,0<=p.1/\p.1<(a.evs.length:Int)
 n1:a'.addr.length<=4096*k
 n2:a'.data.length<=4096*k
 n3:a'.hang.length<=4096*k
theorem Z57 (ths:List Th):Zn3 0 (tr0 ths) (tr0 ths):=by
 refine⟨rfl,rfl,rfl,?_,?_,?_,?_,?_,?_,?_,?_,?_⟩ <;> simp [tr0,Ze5]
def Z2f (a:Tr)(r:Rn)(es:List (Int×Int)):Tr:=
 ⟨a.evs++r.evs,a.bars++r.bars,a.addr++r.addr.map (shP a.evs.length),a.data++r.data.map (shP a.evs.length),a.hang++r.hang.map (shP a.evs.length),es⟩
theorem Zn3.join {k m nr:Nat}{a' a:Tr}{r:Rn}{C:Cx}{es:List (Int×Int)}(h:Zn3 k a' a)(hC:C.ahead=a.evs.length)(hI:Inv C nr m r):Zn3 (k+1) (Z2f a' r es) (Zi6 a r es):=by
 refine⟨?_,?_,rfl,?_,?_,?_,?_,?_,?_,?_,?_,?_⟩
 ·show a'.evs++r.evs=a.evs++r.evs;rw [h.evs]
 ·show a'.bars++r.bars=a.bars++r.bars;rw [h.bars]
 ·show Zf6 (a'.addr++r.addr.map (shP a'.evs.length))=a.addr++Zf6 (r.addr.map (shP a.evs.length));rw [h.evs,Zmh (f:=a.evs.length) (fun p hp=>(h.l1 p hp).2) (Z23 _ hI.addr),h.addr]
 ·show Zf6 (a'.data++r.data.map (shP a'.evs.length))=a.data++Zf6 (r.data.map (shP a.evs.length));rw [h.evs,Zmh (f:=a.evs.length) (fun p hp=>(h.l2 p hp).2) (Z23 _ hI.data),h.data]
 ·show Zf6 (a'.hang++r.hang.map (shP a'.evs.length))=a.hang++Zf6 (r.hang.map (shP a.evs.length));rw [h.evs,Zmh (f:=a.evs.length) (fun p hp=>(h.l3 p hp).2) (Z23 _ hI.hang),h.hang]
 ·intro p hp;rcases List.mem_append.1 hp with h1 | h1
  ·have:=h.l1 p h1;exact m_98
  ·rw [h.evs] at h1;have:=Z24 hI.addr p h1;exact m_103
 ·intro p hp;rcases List.mem_append.1 hp with h1 | h1
  ·have:=h.l2 p h1;exact m_98
  ·rw [h.evs] at h1;have:=Z24 hI.data p h1;exact m_103
 ·intro p hp;rcases List.mem_append.1 hp with h1 | h1
  ·have:=h.l3 p h1;exact m_98
  ·rw [h.evs] at h1;have:=Z24 hI.hang p h1;exact m_103
 ·show (a'.addr++r.addr.map (shP a'.evs.length)).length<=_;have h1:=h.n1;have h2:=hI.addr.len;exact m_108
 ·show (a'.data++r.data.map (shP a'.evs.length)).length<=_;have h1:=h.n2;have h2:=hI.data.len;exact m_108
 ·show (a'.hang++r.hang.map (shP a'.evs.length)).length<=_;have h1:=h.n3;have h2:=hI.hang.len;exact m_108
end Go.Proofs.YtgjefdaaihgliaaGreatDoor
