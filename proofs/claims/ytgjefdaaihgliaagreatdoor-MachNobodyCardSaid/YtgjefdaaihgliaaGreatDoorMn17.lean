/- Layer 21: threads and machines in memory. -/
import Derived.Test.YtgjefdaaihgliaaGreatDoorMn16

namespace Go.Proofs.YtgjefdaaihgliaaGreatDoor
open Go.RowKit
abbrev Zun:Enc (Option Addr×Nat×Nat×Int):=⟨2,fun x=>[.slice x.1 x.2.1 x.2.2.1,.int .i64 x.2.2.2],fun _=>rfl,ω,fun _ u h=>by simp at h;rcases h with rfl | rfl <;> rfl⟩
theorem Zx7:Zun.Elem 65 36 32:=⟨Tryz.underlying36,.agg #[.slice none 0 0,.int .i64 0],κ,rfl⟩
theorem Zoi:∀ (l:List (Option Addr×Nat×Nat×Int)) (i:Nat) (x:Option Addr×Nat×Nat×Int),((Zun.flat l).set (i*2) (.slice x.1 x.2.1 x.2.2.1)).set (i*2+1) (.int .i64 x.2.2.2)=Zun.flat (l.set i x)
 | [],_,_=>rfl
 | _ :: _,0,_=>rfl
 | y :: l,i+1,x=>by
  have ih:=Zoi l i x;rw [List.set_cons_succ,Enc.flat_cons,Enc.flat_cons,<- ih,show (i+1)*2=i*2+1+1 by omega];rfl
theorem Zog:∀ (l:List Int) (i:Nat) (x:Int),(Zde.flat l).set i (.int .i64 x)=Zde.flat (l.set i x)
 | [],_,_=>rfl
 | _ :: _,0,_=>rfl
 | y :: l,i+1,x=>by
  have ih:=Zog l i x;rw [List.set_cons_succ,Enc.flat_cons,Enc.flat_cons,<- ih];rfl
structure Zdp (w:World) (B:Nat) (v:Value) (tr:List (Option Addr×Nat×Nat×Int)) (tds:List BTd):Prop where
 own:Zun.Own 65 B w v tr
 len:tr.length=tds.length
 td:∀ (k:Nat) (t:BTd),tds[k]?=some t->∃ b cap,tr[k]?=some (some ⟨b,0,none⟩,t.vs.length,cap,t.at_)/\Zb1 w B b cap t.vs
namespace Zdp
variable {w w' w1:World} {B:Nat} {v:Value} {tr:List (Option Addr×Nat×Nat×Int)} {tds:List BTd}
theorem below (h:Zdp w B v tr tds)(hb:Below w.heap.size w w'):Zdp w' B v tr tds:=⟨Zah h.own hb,h.len,fun k t hk=>by
 obtain⟨b,cap,h1,h2⟩:=h.td k t hk
 exact⟨b,cap,h1,h2.below hb⟩⟩
theorem chg (h:Zdp w B v tr tds){F:Nat->Prop}{l:List TypeId}(hF:TyF w F l)(hc:Chg F w w')(h1:65∉l)(h2:71∉l):Zdp w' B v tr tds:=⟨Zcd hF hc h.own h1,h.len,fun k t hk=>by
 obtain⟨b,cap,e1,e2⟩:=h.td k t hk
 exact⟨b,cap,e1,Zcd hF hc e2 h2⟩⟩
theorem low {B':Nat}(h:Zdp w B v tr tds)(hB:B'<=B):Zdp w B' v tr tds:=⟨Za3 h.own hB,h.len,fun k t hk=>by
 obtain⟨b,cap,e1,e2⟩:=h.td k t hk
 exact⟨b,cap,e1,Za3 e2 hB⟩⟩
theorem nil:Zdp w B (.slice none 0 0) [] []:=⟨Enc.Own.nil _ _ _,rfl,fun k t h=>by simp at h⟩
theorem get (h:Zdp w B v tr tds){k:Nat}{t:BTd}(hk:tds[k]?=some t):∃ pb cp b cap,v=.slice (some ⟨pb,0,none⟩) tds.length cp/\w.cell? ⟨pb,k*2,none⟩=some (.slice (some ⟨b,0,none⟩) t.vs.length cap)/\w.cell? ⟨pb,k*2+1,none⟩=some (.int .i64 t.at_)/\Zb1 w B b cap t.vs/\tr[k]?=some (some ⟨b,0,none⟩,t.vs.length,cap,t.at_):=by
 obtain⟨b,cap,h1,h2⟩:=h.td k t hk;obtain⟨pb,cp,e,hc⟩:=Zcx h.own h1;rw [h.len] at e;exact⟨pb,cp,b,cap,e,hc 0 _ rfl,hc 1 _ rfl,h2,h1⟩
theorem snoc (h:Zdp w B v tr tds){v':Value}{b cap:Nat}{t:BTd}(hg:Zbh w w1 B v v')(ho:Zun.Own 65 B w1 v' (tr++[(some ⟨b,0,none⟩,t.vs.length,cap,t.at_)]))(hr:Zb1 w B b cap t.vs):Zdp w1 B v' (tr++[(some ⟨b,0,none⟩,t.vs.length,cap,t.at_)]) (tds++[t]):=by
 have k:∀ {b cap:Nat} {vs:List (List UInt8×Int)},Zb1 w B b cap vs->Zb1 w1 B b cap vs:=fun hr=>Zcd (Zds h.own) (Zb6 hg) hr (by decide)
 refine⟨ho,by simp [h.len],fun j s hj=>?_⟩;by_cases e:j<tds.length
 ·rw [List.getElem?_append_left e] at hj;obtain⟨b',c',h1,h2⟩:=h.td j s hj;exact⟨b',c',by rw [List.getElem?_append_left (by rw [h.len];exact e)];exact h1,k h2⟩
 ·have hl:=(List.getElem?_eq_some_iff.1 hj).1;simp at hl;obtain rfl:j=tds.length:=ω;simp at hj;subst hj;exact⟨b,cap,by rw [List.getElem?_append_right (by rw [h.len];exact Nat.le_refl _),h.len];simp,k hr⟩
theorem put (h:Zdp w B v tr tds){pb cp n b cap k:Nat}{t t':BTd}(hv:v=.slice (some ⟨pb,0,none⟩) n cp)(hk:tds[k]?=some t)(hr:Zb1 w B b cap t'.vs) :
  ∃ tr',Zdp ((w.setCell ⟨pb,k*2,none⟩ (.slice (some ⟨b,0,none⟩) t'.vs.length cap)).setCell ⟨pb,k*2+1,none⟩ (.int .i64 t'.at_)) B v tr' (tds.set k t'):=by
 obtain⟨A,c2,e,_⟩:=Enc.Own.at_ h.own;subst hv;simp only [Value.slice.injEq] at e;obtain⟨_,rfl,rfl⟩:=e;obtain⟨cur,hcur,_⟩:=Zdi (b:=pb) h.own rfl;have hcur:Blk w pb 65 cur:=hcur;have hb1:Blk (w.setCell ⟨pb,k*2,none⟩ (.slice (some ⟨b,0,none⟩) t'.vs.length cap)) pb 65 _:=hcur.set_ _ _;refine⟨tr.set k (some ⟨b,0,none⟩,t'.vs.length,cap,t'.at_),?_,by simp [h.len],fun j s hj=>?_⟩
 ·have:=Zhv (Zhv h.own (k*2) (.slice (some ⟨b,0,none⟩) t'.vs.length cap)) (k*2+1) (.int .i64 t'.at_);unfold Enc.Own;rw [List.length_set,<- Zoi tr k];exact this
 ·have kk2:∀ {q cq:Nat} {vs:List (List UInt8×Int)},Zb1 w B q cq vs->Zb1 ((w.setCell ⟨pb,k*2,none⟩ (.slice (some ⟨b,0,none⟩) t'.vs.length cap)).setCell ⟨pb,k*2+1,none⟩ (.int .i64 t'.at_)) B q cq vs:=fun hr=>Zae (Zae hr hcur (by decide) _ _) hb1 (by decide) _ _
  by_cases e:j=k
  ·subst e;have hl:=(List.getElem?_eq_some_iff.1 hk).1;rw [List.getElem?_set_self hl] at hj;cases hj
   exact⟨b,cap,by rw [List.getElem?_set_self (by rw [h.len];exact hl)],kk2 hr⟩
  ·rw [List.getElem?_set_ne (Ne.symm e)] at hj;obtain⟨q,cq,h1,h2⟩:=h.td j s hj;exact⟨q,cq,by rw [List.getElem?_set_ne (Ne.symm e)];exact h1,kk2 h2⟩
end Zdp
structure MMv where
 cv:Value
 lv:Value
 tv:Value
 pv:Value
 mv:Value
 cr:List (Option Addr×Nat×Nat)
 tr:List (Option Addr×Nat×Nat×Int)
structure Zb3 (w:World) (B g:Nat) (m:BMc) (V:MMv):Prop where
 blk:Blk w g 39 #[.bool true,.int .i64 m.arch,V.cv,V.lv,V.tv,V.pv,V.mv]
 hg:B<=g
 code:Z2a.Own 66 B w V.cv V.cr
 rows:∀ (k:Nat) (c:List Ins),m.code[k]?=some c->∃ A cap,V.cr[k]?=some (A,c.length,cap)/\Zx9.Own 92 B w (.slice A c.length cap) c
 locs:Zc1.Own 9 B w V.lv m.locs
 ths:Zuo.Own 25 B w V.tv m.ths
 mem:Zde.Own 3 B w V.mv m.mem
 thr:Zdp w B V.pv V.tr m.tds
 crl:V.cr.length=m.code.length
namespace Zb3
variable {w w' w1:World} {B g:Nat} {m:BMc} {V:MMv}
theorem below (h:Zb3 w B g m V)(hb:Below w.heap.size w w'):Zb3 w' B g m V:=
 ⟨h.blk.go hb,h.hg,Zah h.code hb,fun k c hc=>by
  obtain⟨A,cap,h1,h2⟩:=h.rows k c hc
  exact⟨A,cap,h1,Zah h2 hb⟩,Zah h.locs hb,Zah h.ths hb,Zah h.mem hb,h.thr.below hb,h.crl⟩
theorem low {B':Nat}(h:Zb3 w B g m V)(hB:B'<=B):Zb3 w B' g m V:=
 ⟨h.blk,Nat.le_trans hB h.hg,Za3 h.code hB,fun k c hc=>by
  obtain⟨A,cap,h1,h2⟩:=h.rows k c hc
  exact⟨A,cap,h1,Za3 h2 hB⟩,Za3 h.locs hB,Za3 h.ths hB,Za3 h.mem hB,h.thr.low hB,h.crl⟩
theorem addCode (h:Zb3 w B g m V){cv':Value}{A:Option Addr}{cp:Nat}{c:List Ins}(hg:Zbh w w1 B V.cv cv')(ho:Z2a.Own 66 B w1 cv' (V.cr++[(A,c.length,cp)]))(hrow:Zx9.Own 92 B w (.slice A c.length cp) c) :
  Zb3 (w1.setCell ⟨g,2,none⟩ cv') B g { m with code:=m.code++[c] } { V with cv:=cv',cr:=V.cr++[(A,c.length,cp)] }:=by
 have hF:=Zds h.code;have hc:=Zb6 hg;have hb:=Zdg hF hc h.blk (by decide);have hF2:TyF w1 (fun x=>x=g) [39]:=fun x hx=>⟨_,_,hx ▸ hb,by simp⟩
 have hc2:Chg (fun x=>x=g) w1 (w1.setCell ⟨g,2,none⟩ cv'):=Chg.set (F:=fun x=>x=g) (p:=⟨g,2,none⟩) Chg.refl rfl _;have k:∀ {t:TypeId} {z n:Nat} {v:Value} {cs:List Value},w.ownsRow B t z v n cs->t∉[66]->t∉[39]->(w1.setCell ⟨g,2,none⟩ cv').ownsRow B t z v n cs:=fun h0 h1 h2=>Zcd hF2 hc2 (Zcd hF hc h0 h1) h2
 refine⟨hb.set_ 2 _,h.hg,Zcd hF2 hc2 ho (by decide),fun j c' hj=>?_,k h.locs (by decide) (by decide),k h.ths (by decide) (by decide),k h.mem (by decide) (by decide),(h.thr.chg hF hc (by decide) (by decide)).chg hF2 hc2 (by decide) (by decide),by simp [h.crl]⟩;by_cases e:j<m.code.length
 ·rw [List.getElem?_append_left e] at hj;obtain⟨A',cap,h1,h2⟩:=h.rows j c' hj;exact⟨A',cap,by rw [List.getElem?_append_left (by rw [h.crl];exact e)];exact h1,k h2 (by decide) (by decide)⟩
 ·have hl:=(List.getElem?_eq_some_iff.1 hj).1;simp at hl;obtain rfl:j=m.code.length:=ω;simp at hj;subst hj;exact⟨A,cp,by rw [List.getElem?_append_right (by rw [h.crl];exact Nat.le_refl _),h.crl];simp,k hrow (by decide) (by decide)⟩
theorem thread (h:Zb3 w B g m V){F:Nat->Prop}{pv':Value}{tr':List (Option Addr×Nat×Nat×Int)}{tds':List BTd}(hF:TyF w F [65,71])(hc:Chg F w w1)(ht:Zdp w1 B pv' tr' tds') :
  Zb3 (w1.setCell ⟨g,5,none⟩ pv') B g { m with tds:=tds' } { V with pv:=pv',tr:=tr' }:=by
 have hb:=Zdg hF hc h.blk (by decide);have hF2:TyF w1 (fun x=>x=g) [39]:=fun x hx=>⟨_,_,hx ▸ hb,by simp⟩
 have hc2:Chg (fun x=>x=g) w1 (w1.setCell ⟨g,5,none⟩ pv'):=Chg.set (F:=fun x=>x=g) (p:=⟨g,5,none⟩) Chg.refl rfl _;have k:∀ {t:TypeId} {z n:Nat} {v:Value} {cs:List Value},w.ownsRow B t z v n cs->t∉[65,71]->t∉[39]->(w1.setCell ⟨g,5,none⟩ pv').ownsRow B t z v n cs:=fun h0 h1 h2=>Zcd hF2 hc2 (Zcd hF hc h0 h1) h2
 exact⟨hb.set_ 5 _,h.hg,k h.code (by decide) (by decide),fun j c hj=>by
  obtain⟨A,cap,h1,h2⟩:=h.rows j c hj
  exact⟨A,cap,h1,k h2 (by decide) (by decide)⟩,k h.locs (by decide) (by decide),k h.ths (by decide) (by decide),k h.mem (by decide) (by decide),ht.chg hF2 hc2 (by decide) (by decide),h.crl⟩
theorem turn (h:Zb3 w B g m V){F:Nat->Prop}{tr':List (Option Addr×Nat×Nat×Int)}{tds':List BTd}(hF:TyF w F [65,71])(hc:Chg F w w1)(ht:Zdp w1 B V.pv tr' tds') :
  Zb3 w1 B g { m with tds:=tds' } { V with tr:=tr' }:=by
 have k:∀ {t:TypeId} {z n:Nat} {v:Value} {cs:List Value},w.ownsRow B t z v n cs->t∉[65,71]->w1.ownsRow B t z v n cs:=fun h0 h1=>Zcd hF hc h0 h1
 exact⟨Zdg hF hc h.blk (by decide),h.hg,k h.code (by decide),fun j c hj=>by
  obtain⟨A,cap,h1,h2⟩:=h.rows j c hj
  exact⟨A,cap,h1,k h2 (by decide)⟩,k h.locs (by decide),k h.ths (by decide),k h.mem (by decide),ht,h.crl⟩
theorem memory (h:Zb3 w B g m V){mb n cp:Nat}(hv:V.mv=.slice (some ⟨mb,0,none⟩) n cp)(i:Nat)(x:Int) :
  Zb3 (w.setCell ⟨mb,i,none⟩ (.int .i64 x)) B g { m with mem:=m.mem.set i x } V:=by
 have hF:TyF w (fun b=>V.mv.ownBlock=some b) [3]:=Zds h.mem;have hc:Chg (fun b=>V.mv.ownBlock=some b) w (w.setCell ⟨mb,i,none⟩ (.int .i64 x)):=Chg.set (p:=⟨mb,i,none⟩) Chg.refl (by rw [hv];rfl) _;have k:∀ {t:TypeId} {z n:Nat} {v:Value} {cs:List Value},w.ownsRow B t z v n cs->t∉[3]->(w.setCell ⟨mb,i,none⟩ (.int .i64 x)).ownsRow B t z v n cs:=fun h0 h1=>Zcd hF hc h0 h1
 refine⟨Zdg hF hc h.blk (by decide),h.hg,k h.code (by decide),fun j c hj=>?_,k h.locs (by decide),k h.ths (by decide),?_,h.thr.chg hF hc (by decide) (by decide),h.crl⟩
 ·obtain⟨A,cap,h1,h2⟩:=h.rows j c hj;exact⟨A,cap,h1,k h2 (by decide)⟩
 ·have hm:=h.mem;obtain⟨A,c2,e,_⟩:=Enc.Own.at_ hm;rw [e] at hv hm ⊢;simp only [Value.slice.injEq] at hv;obtain⟨rfl,rfl,rfl⟩:=hv;have:=Zhv hm i (.int .i64 x);unfold Enc.Own;rw [List.length_set,<- Zog m.mem i];exact this
theorem at_ (h:Zb3 w B g m V){k:Nat}{t:BTd}{c:List Ins}(hk:m.tds[k]?=some t)(hc:m.code[k]?=some c) :
  ∃ pb cp b cap qb cc A cr,w.cell? ⟨g,5,none⟩=some (.slice (some ⟨pb,0,none⟩) m.tds.length cp)/\w.cell? ⟨pb,k*2,none⟩=some (.slice (some ⟨b,0,none⟩) t.vs.length cap)/\w.cell? ⟨pb,k*2+1,none⟩=some (.int .i64 t.at_)/\Zb1 w B b cap t.vs/\
   w.cell? ⟨g,2,none⟩=some (.slice (some ⟨qb,0,none⟩) m.code.length cc)/\w.cell? ⟨qb,k,none⟩=some (.slice A c.length cr)/\Zx9.At w A c/\k<m.tds.length/\k<m.code.length/\V.pv=.slice (some ⟨pb,0,none⟩) m.tds.length cp:=by
 obtain⟨pb,cp,b,cap,e,h1,h2,h3,_⟩:=h.thr.get hk;obtain⟨A,cr,hcr,hrow⟩:=h.rows k c hc;obtain⟨A',c',er,hrat,_⟩:=Enc.Own.at_ hrow;simp only [Value.slice.injEq,true_and] at er;obtain⟨rfl,rfl⟩:=er;obtain⟨qb,cc,eq,hq⟩:=Zcx h.code hcr;refine⟨pb,cp,b,cap,qb,cc,A,cr,?_,h1,h2,h3,?_,?_,hrat,(List.getElem?_eq_some_iff.1 hk).1,(List.getElem?_eq_some_iff.1 hc).1,e⟩
 ·rw [<- e];exact h.blk.cl 5
 ·rw [<- h.crl,<- eq];exact h.blk.cl 2
 ·have:=hq 0 _ rfl;simpa using this
end Zb3
end Go.Proofs.YtgjefdaaihgliaaGreatDoor
