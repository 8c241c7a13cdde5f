/- Small lemmas that all texts of walks use. -/
import Derived.Test.YtgjefdaaihgliaaGreatDoorMn00

namespace Go.Proofs.YtgjefdaaihgliaaGreatDoor
open Go.RowKit
theorem Zh {p:Prop}(h:p):Hid p:=h
theorem Zaf {a b:Bool}(h:a=b):Ending.returned (.bool a)=.returned (.bool b):=by rw [h]
theorem Zak {k:IntKind}{a b:Int}(h:a=b):Ending.returned (.int k a)=.returned (.int k b):=by rw [h]
theorem Zl0 (l:List UInt8):(⟨l.toArray⟩:ByteArray).data.toList=l:=rfl
theorem Zjm (l:List UInt8):(⟨l.toArray⟩:ByteArray).toList=l:=ByteArray.toList_eq _
theorem Zfs (l:List UInt8):(⟨l.toArray⟩:ByteArray).size=l.length:=by simp [ByteArray.size]
theorem Zbq (w:World)(cs:Array Value)(t:TypeId)(fr:Nat×Nat)(k:Nat):(w.alloc (.cells cs t fr)).cell? ⟨w.heap.size,k,none⟩=cs[k]?:=by
 show (match (w.heap.push (.cells cs t fr))[w.heap.size]? with | some (.cells c _ _)=>if (none:Option Nat).isSome then none else c[k]? | _=>none)=_;simp only [Array.getElem?_push_size];rfl
theorem Z7m {W w1:World}(hb:Below W.heap.size W w1):(∀ b o,b<W.heap.size->w1.cell? ⟨b,o,none⟩=W.cell? ⟨b,o,none⟩)/\(∀ b o,b<W.heap.size->w1.frozen? ⟨b,o,none⟩=W.frozen? ⟨b,o,none⟩):=
 ⟨fun b o h=>hb.cell (p:=⟨b,o,none⟩) h,fun b o h=>hb.frozen (p:=⟨b,o,none⟩) h⟩
theorem Zac {B o:Nat}{v:Value}{x x':World}(h:x.cell? ⟨B,o,none⟩=some v)(hb:Below x.heap.size x x'):x'.cell? ⟨B,o,none⟩=some v:=by
 rw [hb.cell (World.block_lt_of_cell? x ⟨B,o,none⟩ h)];exact h
theorem Zab {W a b:World}(h:Below W.heap.size W a)(k:Below a.heap.size a b):Below W.heap.size W b:=h.trans (k.mono h.size)
theorem Zag {B:Nat}{a w:World}(h:Below B a w)(n:Nat):Below B a (w.drewN n):=⟨h.os,h.tape,h.output,h.size,h.block⟩
theorem Zaa {W a:World}(h:Below W.heap.size W a)(o:Obj):Below W.heap.size W (a.alloc o):=h.alloc h.size o
theorem Zdt {P:Program}{f:FuncId}{args:Array Value}{w:World}{n:Nat}{v:Value}
  (h:Calls P f args (w.drewN n) fun e w'=>e=.returned v/\w.drewN n=w'):Calls P f args (w.drewN n) fun e w''=>e=.returned v/\∃ m,w''=w.drewN m:=
 h.mono fun _ _ ⟨he,hm⟩=>⟨he,n,hm.symm⟩
theorem Zlq {a w:World}{row:Option Nat}(h:a.grownBy w row)(n:Nat):a.grownBy (w.drewN n) row:=⟨h.os,h.tape,h.output,h.size,h.block⟩
theorem Zvx {a w:World}{row:Option Nat}(h:a.grownBy w row):a.grownBy w.drew row:=⟨h.os,h.tape,h.output,h.size,h.block⟩
theorem Zsz {a w:World}{row:Option Nat}(h:a.grownBy w row)(o:Obj):a.grownBy (w.alloc o) row:=
 ⟨h.os,h.tape,h.output,Nat.le_trans h.size (by simp),fun i hi hne=>(Below.heap_alloc w o i (Nat.lt_of_lt_of_le hi h.size)).trans (h.block i hi hne)⟩
theorem Ziu {a w:World}{g:Nat}(h:a.grownBy w (some g)){p:Addr}(hp:p.block=g\/a.heap.size<=p.block)(u:Value):a.grownBy (w.setCell p u) (some g):=
 ⟨h.os,h.tape,h.output,by simpa [World.setCell] using h.size,fun i hi hne=>(Below.heap_setCell w p u i (by
  rintro rfl;rcases hp with hp | hp
  ·exact hne (by rw [hp])
  ·omega)).trans (h.block i hi hne)⟩
theorem Znh {a w:World}(h:Below a.heap.size a w)(row:Option Nat):a.grownBy w row:=⟨h.os,h.tape,h.output,h.size,fun i hi _=>h.block i hi⟩
theorem Zad (w:World)(o:Obj):Below w.heap.size w (w.alloc o):=(Below.refl _ _).alloc (Nat.le_refl _) o
theorem Zao {B o:Nat}{v:Value}{x:World}(h:x.cell? ⟨B,o,none⟩=some v)(ob:Obj):(x.alloc ob).cell? ⟨B,o,none⟩=some v:=Zac h (Zad x ob)
theorem Zc9 {B o:Nat}{v:Value}{x:World}(h:x.cell? ⟨B,o,none⟩=some v):x.drew.cell? ⟨B,o,none⟩=some v:=h
theorem Zbi {B o:Nat}{v:Value}{x:World}(h:x.cell? ⟨B,o,none⟩=some v){p:Addr}(hp:p.block≠B)(u:Value):(x.setCell p u).cell? ⟨B,o,none⟩=some v:=by
 rw [World.cell?_setCell_other x p ⟨B,o,none⟩ u (fun e=>hp (by rw [e]))];exact h
theorem Zer {B o n:Nat}{v:Value}{x x':World}(h:x.cell? ⟨B,o,none⟩=some v)(hb:Below n x x')(hB:B<n):x'.cell? ⟨B,o,none⟩=some v:=by
 rw [hb.cell (p:=⟨B,o,none⟩) hB];exact h
theorem Z42 (x:World)(cs:Array Value)(ty:TypeId)(o:Nat):(x.alloc (.cells cs ty (0,0))).frozen? ⟨x.heap.size,o,none⟩=false:=by simp [go_sem]
theorem Z41 {B o:Nat}{x x':World}(h:x.frozen? ⟨B,o,none⟩=false)(hB:B<x.heap.size)(hb:Below x.heap.size x x'):x'.frozen? ⟨B,o,none⟩=false:=by
 rw [hb.frozen (p:=⟨B,o,none⟩) hB];exact h
theorem Zgo {X:World}{a p:Addr}{u:Value}(h:(X.cell? a).isSome=true):((X.setCell p u).cell? a).isSome=true:=by
 obtain⟨v,hv⟩:=Option.isSome_iff_exists.1 h;obtain⟨v',hv'⟩:=cell?_setCell_some (p:=p) (x:=u) hv;rw [hv'];rfl
theorem Zh0 {X:World}{a:Addr}{u:Value}(h:(X.cell? a).isSome=true):(X.setCell a u).cell? a=some u:=World.cell?_setCell_same' X a u h
theorem Zc5 {X:World}{b o o':Nat}{u v:Value}(h:X.cell? ⟨b,o,none⟩=some v)(hne:o'≠o):(X.setCell ⟨b,o',none⟩ u).cell? ⟨b,o,none⟩=some v:=
 (World.cell?_setCell_other X ⟨b,o',none⟩ ⟨b,o,none⟩ u (fun e=>hne (by injection e))).trans h
theorem Zgy {P:Program}{id:Nat}{Q:Exit->Act->World->Prop}{a:Act}{w:World}{l:List Oper}(n:Nat)(hm:P.follows .mixedOrders=true)(hB:Region.lexTailB .any l.toArray n=true)
  (h:wpStill P l.toArray w.drew (fun a'=>wpList P l.toArray Q (l.drop n) a' w.drew) (l.take n) a):(Code.region id l.toArray true).wp P Q a w:=wp_region_still_tail n hm hB h
abbrev Zd1 (g:Nat)(w w':World):Prop:=w.grownBy w' (some g)
theorem Zd1.refl (g:Nat)(w:World):Zd1 g w w:=World.grownBy.refl w _
theorem Zd1.trans {g:Nat}{a b c:World}(h:Zd1 g a b)(k:Zd1 g b c):Zd1 g a c:=
 ⟨k.os.trans h.os,k.tape.trans h.tape,k.output.trans h.output,Nat.le_trans h.size k.size,fun i hi hne=>(k.block i (Nat.lt_of_lt_of_le hi h.size) hne).trans (h.block i hi hne)⟩
theorem Zd1.of_below {g:Nat}{a b:World}(h:Below a.heap.size a b):Zd1 g a b:=Znh h _
theorem Zd1.below {W a b:World}{g:Nat}(h:Below W.heap.size W a)(hg:W.heap.size<=g)(hb:Zd1 g a b):Below W.heap.size W b:=
 ⟨hb.os.trans h.os,hb.tape.trans h.tape,hb.output.trans h.output,Nat.le_trans h.size hb.size,fun i hi=>(hb.block i (Nat.lt_of_lt_of_le hi h.size) (fun e=>by injection e with e;omega)).trans (h.block i hi)⟩
theorem Zas {B:Nat}{a w:World}(h:Below B a.drew w):Below B a w:=⟨h.os,h.tape,h.output,h.size,h.block⟩
theorem Zd1.alloc {g:Nat}{a w:World}(h:Zd1 g a w)(o:Obj):Zd1 g a (w.alloc o):=Zsz h o
theorem Zd1.set {g:Nat}{a w:World}(h:Zd1 g a w)(o:Nat)(u:Value):Zd1 g a (w.setCell ⟨g,o,none⟩ u):=Ziu h (.inl rfl) u
theorem Zd1.back {g:Nat}{a b c:World}(h:Zd1 g a b)(k:Below b.heap.size b c):Zd1 g a c:=h.trans (Zd1.of_below k)
def Blk (w:World)(g:Nat)(t:TypeId)(cs:Array Value):Prop:=w.heap[g]?=some (.cells cs t (0,0))
section
variable {w w':World} {g:Nat} {t:TypeId} {cs:Array Value}
theorem Blk.lt (h:Blk w g t cs):g<w.heap.size:=by
 rcases Nat.lt_or_ge g w.heap.size with hlt | hge
 ·exact hlt
 ·unfold Blk at h;rw [Array.getElem?_eq_none hge] at h;cases h
theorem Blk.cell (h:Blk w g t cs)(i:Nat):w.cell? ⟨g,i,none⟩=cs[i]?:=cell_of_row w g i cs t (0,0) h
theorem Blk.cl {w:World}{b:Nat}{t:TypeId}{cs:Array Value}(h:Blk w b t cs)(i:Nat){v:Value}(hv:cs[i]?=some v:=by rfl):w.cell? ⟨b,i,none⟩=some v:=(h.cell i).trans hv
theorem Blk.cm {w:World}{b:Nat}{t:TypeId}{cs:Array Value}(h:Blk w b t cs)(i:Nat){v:Value}{l:List Value}(hv:cs.toList.drop i=v :: l:=by rfl):w.cell? ⟨b,i,none⟩=some v:=by
 rw [h.cell,<- Array.getElem?_toList,<- List.head?_drop,hv];rfl
theorem Blk.frozen (h:Blk w g t cs)(i:Nat):w.frozen? ⟨g,i,none⟩=false:=by
 unfold Blk at h;simp [World.frozen?,h]
theorem Blk.new (w:World)(t:TypeId)(cs:Array Value):Blk (w.alloc (.cells cs t (0,0))) w.heap.size t cs:=heap_alloc_new w _
theorem Blk.drew (h:Blk w g t cs):Blk w.drew g t cs:=h
theorem Blk.alloc (h:Blk w g t cs)(o:Obj):Blk (w.alloc o) g t cs:=(Below.heap_alloc w o g h.lt).trans h
theorem Blk.set_ (h:Blk w g t cs)(i:Nat)(u:Value):Blk (w.setCell ⟨g,i,none⟩ u) g t (cs.setIfInBounds i u):=by
 unfold Blk at h ⊢;simp [World.setCell,Array.getElem?_modify,h]
theorem Blk.far (h:Blk w g t cs){p:Addr}(hp:g≠p.block)(u:Value):Blk (w.setCell p u) g t cs:=(Below.heap_setCell w p u g hp).trans h
theorem Blk.below {B:Nat}(h:Blk w g t cs)(hb:Below B w w')(hg:g<B):Blk w' g t cs:=(hb.block g hg).trans h
theorem Blk.go (h:Blk w g t cs)(hb:Below w.heap.size w w'):Blk w' g t cs:=h.below hb h.lt
theorem Blk.only {q:Nat}(h:Blk w g t cs)(hb:Zd1 q w w')(hg:g≠q):Blk w' g t cs:=(hb.block g h.lt (fun e=>hg (by injection e))).trans h
end
theorem Zbe {w:World}{B:Nat}{t:TypeId}{z n:Nat}{v:Value}{cs:List Value}(h:w.ownsRow B t z v n cs):∃ A cap,v=.slice A n cap:=by
 rcases h.2 with ⟨rfl,rfl⟩ | ⟨g,cap,cur,rfl,_⟩
 ·exact⟨none,0,rfl⟩
 ·exact⟨_,_,rfl⟩
theorem Zb7 {w w':World}{B:Nat}{t:TypeId}{z n:Nat}{v:Value}{cs:List Value}(h:w.ownsRow B t z v n cs)(hk:∀ b,v.ownBlock=some b->w'.heap[b]?=w.heap[b]?):w'.ownsRow B t z v n cs:=by
 obtain⟨h1,h2⟩:=h;refine⟨h1,?_⟩;rcases h2 with h2 | ⟨g,cap,cur,rfl,h3,h4,h5⟩
 ·exact .inl h2
 ·exact .inr ⟨g,cap,cur,rfl,h3,(hk g rfl).trans h4,h5⟩
theorem Zah {w w':World}{B:Nat}{t:TypeId}{z n:Nat}{v:Value}{cs:List Value}(h:w.ownsRow B t z v n cs)(hb:Below w.heap.size w w'):w'.ownsRow B t z v n cs:=
 Zb7 h fun b e=>hb.block b (h.lt b e).2
structure Z3y (W w1:World) (B:Nat) (v:Value):Prop where
 below:Below B W w1
 keep:∀ i,i<W.heap.size->v.ownBlock≠some i->w1.heap[i]?=W.heap[i]?
theorem Z4e {P:Program}{ops:Array Oper}{rest:List Oper}{o:Oper}{a:Act}{Q:Exit->Act->World->Prop}(W V:World)
  (hg:o.guard=none) (s x:Operand) (T E:TypeId) (hop:o.op=Op.call { callee:=Callee.builtin Builtin.append,args:=#[s,x],argTypes:=#[T,T] })
  (z:Value) (size bytes:Nat) (h1:P.underlying T=some (.slice E)) (hinfo:(P.info? E).map (fun i=>(i.zero,i.size,i.bytes))=some (some z,size,bytes)) (h6:z.cells.size=size) (h7:0<size)
  (news:List Value) (hn:news.length=size) (hone:∀ u∈news,u.oneCell'=true) (B n:Nat) (xs:List Value) (v:Value) (hs:a.eval s=v) (hx:a.eval x=.slice (some ⟨W.heap.size,0,none⟩) 1 1)
  (hV:Below W.heap.size W V) (hcell:∀ j u,news[j]?=some u->V.cell? ⟨W.heap.size,j,none⟩=some u)
  (hown:W.ownsRow B E size v n xs) (b1:n+1<=1152921504606846976) (b2:(n+1)*bytes<=140737488355328) (hB:B<=W.heap.size)
  (hK:∀ v' w1,w1.ownsRow B E size v' (n+1) (xs++news)->Z3y W w1 B v->wpList P ops Q rest (a.put o.dst v') w1) :
  wpList P ops Q (o :: rest) a V:=by
 obtain⟨i0,hi,hz0,hz1,hz2⟩:=info_parts hinfo;have how2:=Zah hown hV;refine wpList_append_own _ hg s x T hop B E i0 z size bytes h1 hi hz0 hz1 hz2 h6 h7 v n xs hs how2 ⟨W.heap.size,0,none⟩ 1 1 news hx ω ?_ hone (by unfold maxLen;omega) b2 (Nat.le_trans hB hV.size) ?_
 ·intro j u hj;rw [show (⟨W.heap.size,0,none⟩:Addr).add j=⟨W.heap.size,j,none⟩ by simp [Addr.add];intro e;exact e.symm];exact hcell j u hj
 ·intro v' w1 hown' hgrow _;refine hK v' w1 hown' ⟨?_,fun i hi hne=>?_⟩
  ·exact (hV.mono hB).grown hgrow (Nat.le_trans hB hV.size) (fun j hj=>(hown.lt j hj).1)
  ·exact (hgrow.block i (Nat.lt_of_lt_of_le hi hV.size) (fun e=>hne e.symm)).trans (hV.block i hi)
theorem Zie {P:Program}{ops:Array Oper}{rest:List Oper}{o:Oper}{a:Act}{Q:Exit->Act->World->Prop}(W:World)
  (hg:o.guard=none) (s x:Operand) (T E:TypeId) (hop:o.op=Op.call { callee:=Callee.builtin Builtin.append,args:=#[s,x],argTypes:=#[T,T] })
  (z:Value) (size bytes:Nat) (h1:P.underlying T=some (.slice E)) (hinfo:(P.info? E).map (fun i=>(i.zero,i.size,i.bytes))=some (some z,size,bytes)) (h6:z.cells.size=size) (h7:0<size)
  (news:List Value) (hn:news.length=size) (hone:∀ u∈news,u.oneCell'=true) (B n:Nat) (xs:List Value) (v:Value) (hs:a.eval s=v) (hx:a.eval x=.slice (some ⟨W.heap.size,0,none⟩) 1 1)
  (hown:W.ownsRow B E size v n xs) (b1:n+1<=1152921504606846976) (b2:(n+1)*bytes<=140737488355328) (hB:B<=W.heap.size)
  (hK:∀ v' w1,w1.ownsRow B E size v' (n+1) (xs++news)->Z3y W w1 B v->wpList P ops Q rest (a.put o.dst v') w1) :
  wpList P ops Q (o :: rest) a (W.alloc (.cells news.toArray E (0,0))):=
 Z4e W _ hg s x T E hop z size bytes h1 hinfo h6 h7 news hn hone B n xs v hs hx (Zad _ _) (fun j u hj=>by rw [Zbq];simpa using hj) hown b1 b2 hB hK
theorem Zfv {w w1:World}{q:Nat}(h:Below w.heap.size w w1)(hq:w.heap.size<=q)(u0 u1 u2 u3 u4 u5 u6 u7 u8:Value):Below w.heap.size w (((((((((w1.setCell ⟨q,0,none⟩ u0).setCell ⟨q,1,none⟩ u1).setCell ⟨q,2,none⟩ u2).setCell ⟨q,3,none⟩ u3).setCell ⟨q,4,none⟩ u4).setCell ⟨q,5,none⟩ u5).setCell ⟨q,6,none⟩ u6).setCell ⟨q,7,none⟩ u7).setCell ⟨q,8,none⟩ u8):=(((((((((h.setCell (p:=⟨q,0,none⟩) hq u0).setCell (p:=⟨q,1,none⟩) hq u1).setCell (p:=⟨q,2,none⟩) hq u2).setCell (p:=⟨q,3,none⟩) hq u3).setCell (p:=⟨q,4,none⟩) hq u4).setCell (p:=⟨q,5,none⟩) hq u5).setCell (p:=⟨q,6,none⟩) hq u6).setCell (p:=⟨q,7,none⟩) hq u7).setCell (p:=⟨q,8,none⟩) hq u8)
theorem Z8w {w:World}{b:Nat}{t:TypeId}{v0 v1 v2 v3 v4 v5 v6 v7 v8:Value}(h:Blk w b t #[v0,v1,v2,v3,v4,v5,v6,v7,v8]):w.cell? ⟨b,0,none⟩=some v0/\w.cell? ⟨b,1,none⟩=some v1/\w.cell? ⟨b,2,none⟩=some v2/\w.cell? ⟨b,3,none⟩=some v3/\w.cell? ⟨b,4,none⟩=some v4/\w.cell? ⟨b,5,none⟩=some v5/\w.cell? ⟨b,6,none⟩=some v6/\w.cell? ⟨b,7,none⟩=some v7/\w.cell? ⟨b,8,none⟩=some v8:=⟨h.cell 0,h.cell 1,h.cell 2,h.cell 3,h.cell 4,h.cell 5,h.cell 6,h.cell 7,h.cell 8⟩
theorem msr {p:Prop}(h:p:=by simp [intOf];omega):p:=h
abbrev RB (w:World)(v:Value):Ending->World->Prop:=fun e w'=>e=.returned v/\Below w.heap.size w w'
theorem Blk.c2 {w:World}{b:Nat}{t:TypeId}{x0 x1:Value}{l:List Value}(h:Blk w b t (x0 :: x1 :: l).toArray):w.cell? ⟨b,0,none⟩=some x0/\w.cell? ⟨b,1,none⟩=some x1:=⟨h.cell 0,h.cell 1⟩
theorem Blk.c3 {w:World}{b:Nat}{t:TypeId}{x0 x1 x2:Value}{l:List Value}(h:Blk w b t (x0 :: x1 :: x2 :: l).toArray):w.cell? ⟨b,0,none⟩=some x0/\w.cell? ⟨b,1,none⟩=some x1/\w.cell? ⟨b,2,none⟩=some x2:=⟨h.cell 0,h.cell 1,h.cell 2⟩
theorem Blk.c4 {w:World}{b:Nat}{t:TypeId}{x0 x1 x2 x3:Value}{l:List Value}(h:Blk w b t (x0 :: x1 :: x2 :: x3 :: l).toArray):w.cell? ⟨b,0,none⟩=some x0/\w.cell? ⟨b,1,none⟩=some x1/\w.cell? ⟨b,2,none⟩=some x2/\w.cell? ⟨b,3,none⟩=some x3:=⟨h.cell 0,h.cell 1,h.cell 2,h.cell 3⟩
theorem Blk.c5 {w:World}{b:Nat}{t:TypeId}{x0 x1 x2 x3 x4:Value}{l:List Value}(h:Blk w b t (x0 :: x1 :: x2 :: x3 :: x4 :: l).toArray):w.cell? ⟨b,0,none⟩=some x0/\w.cell? ⟨b,1,none⟩=some x1/\w.cell? ⟨b,2,none⟩=some x2/\w.cell? ⟨b,3,none⟩=some x3/\w.cell? ⟨b,4,none⟩=some x4:=⟨h.cell 0,h.cell 1,h.cell 2,h.cell 3,h.cell 4⟩
theorem Blk.c6 {w:World}{b:Nat}{t:TypeId}{x0 x1 x2 x3 x4 x5:Value}{l:List Value}(h:Blk w b t (x0 :: x1 :: x2 :: x3 :: x4 :: x5 :: l).toArray):w.cell? ⟨b,0,none⟩=some x0/\w.cell? ⟨b,1,none⟩=some x1/\w.cell? ⟨b,2,none⟩=some x2/\w.cell? ⟨b,3,none⟩=some x3/\w.cell? ⟨b,4,none⟩=some x4/\w.cell? ⟨b,5,none⟩=some x5:=⟨h.cell 0,h.cell 1,h.cell 2,h.cell 3,h.cell 4,h.cell 5⟩
theorem Blk.c7 {w:World}{b:Nat}{t:TypeId}{x0 x1 x2 x3 x4 x5 x6:Value}{l:List Value}(h:Blk w b t (x0 :: x1 :: x2 :: x3 :: x4 :: x5 :: x6 :: l).toArray):w.cell? ⟨b,0,none⟩=some x0/\w.cell? ⟨b,1,none⟩=some x1/\w.cell? ⟨b,2,none⟩=some x2/\w.cell? ⟨b,3,none⟩=some x3/\w.cell? ⟨b,4,none⟩=some x4/\w.cell? ⟨b,5,none⟩=some x5/\w.cell? ⟨b,6,none⟩=some x6:=⟨h.cell 0,h.cell 1,h.cell 2,h.cell 3,h.cell 4,h.cell 5,h.cell 6⟩
theorem Blk.c8 {w:World}{b:Nat}{t:TypeId}{x0 x1 x2 x3 x4 x5 x6 x7:Value}{l:List Value}(h:Blk w b t (x0 :: x1 :: x2 :: x3 :: x4 :: x5 :: x6 :: x7 :: l).toArray):w.cell? ⟨b,0,none⟩=some x0/\w.cell? ⟨b,1,none⟩=some x1/\w.cell? ⟨b,2,none⟩=some x2/\w.cell? ⟨b,3,none⟩=some x3/\w.cell? ⟨b,4,none⟩=some x4/\w.cell? ⟨b,5,none⟩=some x5/\w.cell? ⟨b,6,none⟩=some x6/\w.cell? ⟨b,7,none⟩=some x7:=⟨h.cell 0,h.cell 1,h.cell 2,h.cell 3,h.cell 4,h.cell 5,h.cell 6,h.cell 7⟩
theorem Blk.c9 {w:World}{b:Nat}{t:TypeId}{x0 x1 x2 x3 x4 x5 x6 x7 x8:Value}{l:List Value}(h:Blk w b t (x0 :: x1 :: x2 :: x3 :: x4 :: x5 :: x6 :: x7 :: x8 :: l).toArray):w.cell? ⟨b,0,none⟩=some x0/\w.cell? ⟨b,1,none⟩=some x1/\w.cell? ⟨b,2,none⟩=some x2/\w.cell? ⟨b,3,none⟩=some x3/\w.cell? ⟨b,4,none⟩=some x4/\w.cell? ⟨b,5,none⟩=some x5/\w.cell? ⟨b,6,none⟩=some x6/\w.cell? ⟨b,7,none⟩=some x7/\w.cell? ⟨b,8,none⟩=some x8:=⟨h.cell 0,h.cell 1,h.cell 2,h.cell 3,h.cell 4,h.cell 5,h.cell 6,h.cell 7,h.cell 8⟩
theorem Blk.c10 {w:World}{b:Nat}{t:TypeId}{x0 x1 x2 x3 x4 x5 x6 x7 x8 x9:Value}{l:List Value}(h:Blk w b t (x0 :: x1 :: x2 :: x3 :: x4 :: x5 :: x6 :: x7 :: x8 :: x9 :: l).toArray):w.cell? ⟨b,0,none⟩=some x0/\w.cell? ⟨b,1,none⟩=some x1/\w.cell? ⟨b,2,none⟩=some x2/\w.cell? ⟨b,3,none⟩=some x3/\w.cell? ⟨b,4,none⟩=some x4/\w.cell? ⟨b,5,none⟩=some x5/\w.cell? ⟨b,6,none⟩=some x6/\w.cell? ⟨b,7,none⟩=some x7/\w.cell? ⟨b,8,none⟩=some x8/\w.cell? ⟨b,9,none⟩=some x9:=⟨h.cell 0,h.cell 1,h.cell 2,h.cell 3,h.cell 4,h.cell 5,h.cell 6,h.cell 7,h.cell 8,h.cell 9⟩
theorem Blk.c11 {w:World}{b:Nat}{t:TypeId}{x0 x1 x2 x3 x4 x5 x6 x7 x8 x9 x10:Value}{l:List Value}(h:Blk w b t (x0 :: x1 :: x2 :: x3 :: x4 :: x5 :: x6 :: x7 :: x8 :: x9 :: x10 :: l).toArray):w.cell? ⟨b,0,none⟩=some x0/\w.cell? ⟨b,1,none⟩=some x1/\w.cell? ⟨b,2,none⟩=some x2/\w.cell? ⟨b,3,none⟩=some x3/\w.cell? ⟨b,4,none⟩=some x4/\w.cell? ⟨b,5,none⟩=some x5/\w.cell? ⟨b,6,none⟩=some x6/\w.cell? ⟨b,7,none⟩=some x7/\w.cell? ⟨b,8,none⟩=some x8/\w.cell? ⟨b,9,none⟩=some x9/\w.cell? ⟨b,10,none⟩=some x10:=⟨h.cell 0,h.cell 1,h.cell 2,h.cell 3,h.cell 4,h.cell 5,h.cell 6,h.cell 7,h.cell 8,h.cell 9,h.cell 10⟩
theorem Blk.c12 {w:World}{b:Nat}{t:TypeId}{x0 x1 x2 x3 x4 x5 x6 x7 x8 x9 x10 x11:Value}{l:List Value}(h:Blk w b t (x0 :: x1 :: x2 :: x3 :: x4 :: x5 :: x6 :: x7 :: x8 :: x9 :: x10 :: x11 :: l).toArray):w.cell? ⟨b,0,none⟩=some x0/\w.cell? ⟨b,1,none⟩=some x1/\w.cell? ⟨b,2,none⟩=some x2/\w.cell? ⟨b,3,none⟩=some x3/\w.cell? ⟨b,4,none⟩=some x4/\w.cell? ⟨b,5,none⟩=some x5/\w.cell? ⟨b,6,none⟩=some x6/\w.cell? ⟨b,7,none⟩=some x7/\w.cell? ⟨b,8,none⟩=some x8/\w.cell? ⟨b,9,none⟩=some x9/\w.cell? ⟨b,10,none⟩=some x10/\w.cell? ⟨b,11,none⟩=some x11:=⟨h.cell 0,h.cell 1,h.cell 2,h.cell 3,h.cell 4,h.cell 5,h.cell 6,h.cell 7,h.cell 8,h.cell 9,h.cell 10,h.cell 11⟩
theorem Blk.k0 {w:World}{b:Nat}{t:TypeId}{x0:Value}{l:List Value}(h:Blk w b t (x0 :: l).toArray):w.cell? ⟨b,0,none⟩=some x0:=h.cell 0
theorem Blk.k1 {w:World}{b:Nat}{t:TypeId}{x0 x1:Value}{l:List Value}(h:Blk w b t (x0 :: x1 :: l).toArray):w.cell? ⟨b,1,none⟩=some x1:=h.cell 1
theorem Blk.k2 {w:World}{b:Nat}{t:TypeId}{x0 x1 x2:Value}{l:List Value}(h:Blk w b t (x0 :: x1 :: x2 :: l).toArray):w.cell? ⟨b,2,none⟩=some x2:=h.cell 2
theorem Blk.k3 {w:World}{b:Nat}{t:TypeId}{x0 x1 x2 x3:Value}{l:List Value}(h:Blk w b t (x0 :: x1 :: x2 :: x3 :: l).toArray):w.cell? ⟨b,3,none⟩=some x3:=h.cell 3
theorem Blk.k4 {w:World}{b:Nat}{t:TypeId}{x0 x1 x2 x3 x4:Value}{l:List Value}(h:Blk w b t (x0 :: x1 :: x2 :: x3 :: x4 :: l).toArray):w.cell? ⟨b,4,none⟩=some x4:=h.cell 4
theorem Blk.k5 {w:World}{b:Nat}{t:TypeId}{x0 x1 x2 x3 x4 x5:Value}{l:List Value}(h:Blk w b t (x0 :: x1 :: x2 :: x3 :: x4 :: x5 :: l).toArray):w.cell? ⟨b,5,none⟩=some x5:=h.cell 5
theorem Blk.k6 {w:World}{b:Nat}{t:TypeId}{x0 x1 x2 x3 x4 x5 x6:Value}{l:List Value}(h:Blk w b t (x0 :: x1 :: x2 :: x3 :: x4 :: x5 :: x6 :: l).toArray):w.cell? ⟨b,6,none⟩=some x6:=h.cell 6
theorem Blk.k7 {w:World}{b:Nat}{t:TypeId}{x0 x1 x2 x3 x4 x5 x6 x7:Value}{l:List Value}(h:Blk w b t (x0 :: x1 :: x2 :: x3 :: x4 :: x5 :: x6 :: x7 :: l).toArray):w.cell? ⟨b,7,none⟩=some x7:=h.cell 7
theorem Blk.k8 {w:World}{b:Nat}{t:TypeId}{x0 x1 x2 x3 x4 x5 x6 x7 x8:Value}{l:List Value}(h:Blk w b t (x0 :: x1 :: x2 :: x3 :: x4 :: x5 :: x6 :: x7 :: x8 :: l).toArray):w.cell? ⟨b,8,none⟩=some x8:=h.cell 8
theorem Blk.k9 {w:World}{b:Nat}{t:TypeId}{x0 x1 x2 x3 x4 x5 x6 x7 x8 x9:Value}{l:List Value}(h:Blk w b t (x0 :: x1 :: x2 :: x3 :: x4 :: x5 :: x6 :: x7 :: x8 :: x9 :: l).toArray):w.cell? ⟨b,9,none⟩=some x9:=h.cell 9
theorem Blk.k10 {w:World}{b:Nat}{t:TypeId}{x0 x1 x2 x3 x4 x5 x6 x7 x8 x9 x10:Value}{l:List Value}(h:Blk w b t (x0 :: x1 :: x2 :: x3 :: x4 :: x5 :: x6 :: x7 :: x8 :: x9 :: x10 :: l).toArray):w.cell? ⟨b,10,none⟩=some x10:=h.cell 10
theorem Blk.k11 {w:World}{b:Nat}{t:TypeId}{x0 x1 x2 x3 x4 x5 x6 x7 x8 x9 x10 x11:Value}{l:List Value}(h:Blk w b t (x0 :: x1 :: x2 :: x3 :: x4 :: x5 :: x6 :: x7 :: x8 :: x9 :: x10 :: x11 :: l).toArray):w.cell? ⟨b,11,none⟩=some x11:=h.cell 11
end Go.Proofs.YtgjefdaaihgliaaGreatDoor
