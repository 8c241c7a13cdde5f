/- Layer 11: nodes in memory, as a list; a row of the call's own is cut short. -/
import Derived.Test.YtgjefdaaihgliaaGreatDoorMn42
import Derived.Test.YtgjefdaaihgliaaGreatDoorMn45
import Derived.Test.YtgjefdaaihgliaaGreatDoorMn46

namespace Go.Proofs.YtgjefdaaihgliaaGreatDoor
open Go.RowKit
structure Nx where
 k:Int
 t:Int
 r:Int
 l:List UInt8
 v:Int
 A:Option Addr
 cap:Nat
 f:Fr
abbrev Z0g:Enc Nx:=⟨6,fun x=>[.int .i64 x.k,.int .i64 x.t,.int .i64 x.r,.string ⟨x.l.toArray⟩,.int .i64 x.v,.slice x.A x.f.len x.cap],fun _=>rfl,ω,fun _ u h=>by simp at h;rcases h with rfl | rfl | rfl | rfl | rfl | rfl <;> rfl⟩
theorem Z4y:Z0g.Elem 28 26 72:=⟨Tryz.underlying26,.agg #[.int .i64 0,.int .i64 0,.int .i64 0,.string ⟨#[]⟩,.int .i64 0,.slice none 0 0],κ,rfl⟩
def wtX (l:List Nx):Nat:=(l.map fun x=>1+x.f.all).sum
theorem Zmd (a b:List Nx):wtX (a++b)=wtX a+wtX b:=by simp [wtX]
theorem Zqv (l:List Nx):l.length<=wtX l:=by
 induction l with
 | nil=>exact Nat.le_refl _
 | cons x l ih=>unfold wtX at ih ⊢;simp only [List.length_cons,List.map_cons,List.sum_cons];omega
abbrev Z64 (w:World)(hi:Nat)(x:Nx):Prop:=Zd7 w hi (.slice x.A x.f.len x.cap) x.f
theorem Zxo {α:Type}{E:Enc α}{w:World}{b o:Nat}{x:α}{l:List α}(h:∀ j u,(E.enc x)[j]?=some u->w.cell? ⟨b,o+j,none⟩=some u)(hl:E.At w (some ⟨b,o+E.size,none⟩) l):E.At w (some ⟨b,o,none⟩) (x :: l):=by
 intro i y hy;refine⟨b,o,rfl,fun j u hj=>?_⟩;cases i with
 | zero=>
  simp at hy;subst hy;simpa using h j u hj
 | succ i=>
  simp at hy;obtain⟨b2,o2,e,hc⟩:=hl i y hy;simp only [Option.some.injEq,Addr.mk.injEq,and_true] at e;obtain⟨rfl,rfl⟩:=e;have:=hc j u hj
  rwa [show o+E.size+i*E.size+j=o+(i+1)*E.size+j by rw [Nat.succ_mul];omega] at this
theorem Z80 {w:World}{hi:Nat}:∀ (f:Fr) (b o:Nat),Zc3 w hi b o f->∃ l:List Nx,l.length=f.len/\Z0g.At w (some ⟨b,o,none⟩) l/\(∀ x∈l,Z64 w hi x)/\wtX l=f.all
 | .nil,b,o,_=>⟨[],rfl,Enc.At.nil _ _,fun x h=>by simp at h,rfl⟩
 | .cons k t r l v kids rest,b,o,⟨h0,h1,h2,h3,h4,_,⟨A,cap,h6,h7,h8,h9⟩,h10⟩=>by
  obtain⟨ls,e1,e2,e3,e4⟩:=Z80 rest b (o+6) h10;refine⟨⟨k,t,r,l,v,A,cap,kids⟩ :: ls,by simp [Fr.len,e1],Zxo (fun j u hj=>?_) e2,fun x hx=>?_,?_⟩
  ·match j,hj with
   | 0,hj=>cases hj;exact h0
   | 1,hj=>cases hj;exact h1
   | 2,hj=>cases hj;exact h2
   | 3,hj=>cases hj;exact h3
   | 4,hj=>cases hj;exact h4
   | 5,hj=>cases hj;exact h6
  ·rcases List.mem_cons.1 hx with rfl | hx
   ·exact⟨A,cap,rfl,h7,h8,h9⟩
   ·exact e3 x hx
  ·unfold wtX at e4 ⊢;simp only [List.map_cons,List.sum_cons,e4,Fr.all]
   try omega
theorem Zv5 {α:Type}{E:Enc α}{T:TypeId}{B b cap:Nat}{w:World}{l:List α}{x:α}{n:Nat}(h:E.Own T B w (.slice (some ⟨b,0,none⟩) n cap) (l++[x])):E.Own T B w (.slice (some ⟨b,0,none⟩) l.length cap) l:=by
 rcases h.2 with ⟨e,_⟩ | ⟨g,cap',cur,e,h1,h2,h3,h4,h5,h6⟩
 ·cases e
 ·simp only [Value.slice.injEq,Option.some.injEq,Addr.mk.injEq,and_true] at e;obtain⟨rfl,_,rfl⟩:=e;refine⟨E.flat_len l,.inr ⟨b,cap,cur,rfl,h1,h2,?_,h4,h5,?_⟩⟩
  ·simp at h3;omega
  ·have:=congrArg (List.take (l.length*E.size)) h6;rw [List.take_take,E.flat_append,List.take_append_of_le_length (by rw [E.flat_len];exact Nat.le_refl _)] at this;rw [show min (l.length*E.size) ((l++[x]).length*E.size)=l.length*E.size from Nat.min_eq_left (Nat.mul_le_mul_right _ (by simp))] at this;rw [this,<- E.flat_len,List.take_length]
theorem Zrn {w:World}{B:Nat}{t:TypeId}{z n m cap b:Nat}{cs:List Value}(h:w.ownsRow B t z (.slice (some ⟨b,0,none⟩) n cap) m cs):m<=cap:=by
 rcases h.2 with ⟨e,_⟩ | ⟨g,cap',cur,e,h1,h2,h3,_⟩
 ·cases e
 ·simp only [Value.slice.injEq,Option.some.injEq,Addr.mk.injEq,and_true] at e;obtain⟨_,_,rfl⟩:=e;exact h3
theorem Z7w {w:World}{hi cap:Nat}{A:Option Addr}{f:Fr}(h:Zd7 w hi (.slice A f.len cap) f):∃ ys:List Nx,ys.length=f.len/\Z0g.At w A ys/\(∀ x∈ys,Z64 w hi x)/\wtX ys=f.all:=by
 obtain⟨A',cap',e,_,_,h0⟩:=h;simp only [Value.slice.injEq,true_and] at e;obtain⟨rfl,rfl⟩:=e;by_cases hf:0<f.len
 ·obtain⟨b,o,rfl,_,hr⟩:=h0 hf;exact Z80 f b o hr
 ·cases f with
  | nil=>exact⟨[],rfl,Enc.At.nil _ _,fun x h=>by simp at h,rfl⟩
  | cons k t r l v kids rest=>exact absurd (Nat.succ_pos _) hf
theorem Enc.appY {α:Type}{E:Enc α}{T S:TypeId}{bytes:Nat}(hE:E.Elem T S bytes){ops:Array Oper}{rest:List Oper}{o:Oper}{a:Act}{Q:Exit->Act->World->Prop}(V:World)
  (hg:o.guard=none) (s x:Operand) (hop:o.op=Op.call { callee:=Callee.builtin Builtin.append,args:=#[s,x],argTypes:=#[S,S] })
  (ys:List α) (B:Nat) (l:List α) (v:Value) (A:Option Addr) (c:Nat) (hs:a.eval s=v) (hx:a.eval x=.slice A ys.length c)
  (hys:E.At V A ys) (hown:E.Own T B V v l) (b1:l.length+ys.length<=1152921504606846976) (b3:(l.length+ys.length)*bytes<=140737488355328) (hB:B<=V.heap.size)
  (hK:∀ v' w1,E.Own T B w1 v' (l++ys)->Zbh V w1 B v v'->wpList Tryz.prog ops Q rest (a.put o.dst v') w1) :
  wpList Tryz.prog ops Q (o :: rest) a V:=by
 obtain⟨z,hz,hzs⟩:=hE.info;obtain⟨i0,hi,hz0,hz1,hz2⟩:=Zbx hz;cases A with
 | none=>
  have hc:ys=[]:=by
   cases ys with
   | nil=>rfl
   | cons y r=>
    obtain⟨b,o,e,_⟩:=hys 0 y rfl;cases e
  subst hc;have hrun:(Builtin.append_ #[S,S] o.type #[v,.slice none 0 c]).run Tryz.prog V=.ok v V:=by
   rcases hown.2 with ⟨rfl,h0⟩ | ⟨g,cap,cur,rfl,_,_,hnc,_⟩
   ·simp [Builtin.append_,run_underlying hE.sl,Go.sizeOf,typeInfo,hi,Builtin.lenOf,Builtin.firstCells]
   ·simp [Builtin.append_,run_underlying hE.sl,Go.sizeOf,typeInfo,hi,Builtin.lenOf,Builtin.firstCells,hnc,storeCells]
  refine wpList_plain hg fun K hKK=>?_
  unfold Oper.wp execOp;simp only [hop,resolve,invoke,builtin,Sem.run_bind,Sem.run_pure,Result.andThen_ok,List.map_toArray,List.map_cons,List.map_nil,hs,hx,List.length_nil,hrun];exact hKK _ _ (hK v V (by rw [List.append_nil];exact hown) (Zbh.refl _ _ _))
 | some p=>
  obtain⟨v',w1,hr,hown',hgrow,hwh⟩:=Zls (P:=Tryz.prog) V B S o.type T i0 z E.size bytes hE.sl hi hz0 hz1 hz2 hzs E.pos v l.length (E.flat l) hown p ys.length c (E.flat ys) (E.flat_len ys) (fun j u hj=>by
   have h0:0<ys.length:=by
    refine Nat.pos_of_ne_zero fun e=>?_
    rw [List.length_eq_zero_iff.1 e] at hj;cases hj
   obtain⟨b,o,e,_⟩:=hys 0 ys[0] (List.getElem?_eq_getElem h0);cases e
   rw [Enc.addr_add]
   exact hys.cells j u hj) Zf9 (by unfold maxLen;omega) b3 hB
  refine wpList_plain hg fun K hKK=>?_
  unfold Oper.wp execOp;simp only [hop,resolve,invoke,builtin,Sem.run_bind,Sem.run_pure,Result.andThen_ok,List.map_toArray,List.map_cons,List.map_nil,hs,hx,hr];refine hKK _ _ (hK v' w1 ?_ ⟨?_,fun i hi hne=>?_,hwh⟩)
  ·show w1.ownsRow B T E.size v' (l++ys).length (E.flat (l++ys));rw [E.flat_append,List.length_append];exact hown'
  ·exact (Below.refl _ _).grown hgrow hB (fun j hj=>(hown.lt j hj).1)
  ·exact hgrow.block i hi (fun e=>hne e.symm)
section
def NdF (w:World)(k0 t0 r0:Int)(l0:List UInt8)(v0:Int)(A0:Option Addr)(cap0:Nat)(f0:Fr)(a b:Nat)(W3:World):Prop:=
 Below w.heap.size w W3/\Blk W3 a 28 #[.int .i64 k0,.int .i64 t0,.int .i64 r0,.string ⟨l0.toArray⟩,.int .i64 v0,.slice A0 f0.len cap0]/\Blk W3 b 28 #[.int .i64 k0,.int .i64 t0,.int .i64 r0,.string ⟨l0.toArray⟩,.int .i64 v0,.slice A0 f0.len cap0]/\a≠b/\w.heap.size<=a/\w.heap.size<=b
theorem Z62 {K:Act->World->Prop}{F:Nat->Nat->World->Prop}{A:Nat->Nat->Act}{G:Prop}(h1:(∀ la lb W3,F la lb W3->K (A la lb) W3)->G)(h2:∀ la lb W3,F la lb W3->K (A la lb) W3):G:=h1 h2
section
set_option maxHeartbeats 4000000
set_option maxRecDepth 100000
theorem Z27 (k0 t0 r0:Int)(l0:List UInt8)(v0:Int)(A0:Option Addr)(cap0:Nat)(f0:Fr)(w:World)(hx:Zd7 w w.heap.size (.slice A0 f0.len cap0) f0)(hall:1+f0.all<=1000000) :
  Calls Tryz.prog 34 #[.agg #[.int .i64 k0,.int .i64 t0,.int .i64 r0,.string ⟨l0.toArray⟩,.int .i64 v0,.slice A0 f0.len cap0],.agg #[.int .i64 k0,.int .i64 t0,.int .i64 r0,.string ⟨l0.toArray⟩,.int .i64 v0,.slice A0 f0.len cap0]] w fun e w'=>e=.returned (.bool true)/\Below w.heap.size w w':=by
 have HX:=Zh hx;clear hx;go_enter Tryz.func34,Tryz.ntmps34
 go_wp2_with fail
 rename_i K0 hK0;have HK0:=Zh hK0;clear hK0;obtain⟨W,hW⟩:∃ W,W=(w.alloc (.cells #[.int .i64 k0,.int .i64 t0,.int .i64 r0,.string ⟨l0.toArray⟩,.int .i64 v0,.slice A0 f0.len cap0] 28 (0,0))).alloc (.cells #[.int .i64 k0,.int .i64 t0,.int .i64 r0,.string ⟨l0.toArray⟩,.int .i64 v0,.slice A0 f0.len cap0] 28 (0,0)):=⟨_,rfl⟩;have hb0:Below w.heap.size w W:=hW ▸ Zau w _ _;have ha0:Blk W w.heap.size 28 #[.int .i64 k0,.int .i64 t0,.int .i64 r0,.string ⟨l0.toArray⟩,.int .i64 v0,.slice A0 f0.len cap0]:=hW ▸ (Blk.new w _ _).alloc _;have ha1:Blk W (w.heap.size+1) 28 #[.int .i64 k0,.int .i64 t0,.int .i64 r0,.string ⟨l0.toArray⟩,.int .i64 v0,.slice A0 f0.len cap0]:=hW ▸ Zfl w _ _ _;rw [<- hW];clear hW;have HB0:=Zh hb0;have hz0:=hb0.size;have HS:=Zh (show ∀ y,Below W.heap.size W y->Blk y w.heap.size 28 #[.int .i64 k0,.int .i64 t0,.int .i64 r0,.string ⟨l0.toArray⟩,.int .i64 v0,.slice A0 f0.len cap0]/\Blk y (w.heap.size+1) 28 #[.int .i64 k0,.int .i64 t0,.int .i64 r0,.string ⟨l0.toArray⟩,.int .i64 v0,.slice A0 f0.len cap0] from fun y hy=>⟨ha0.go hy,ha1.go hy⟩);clear hb0 ha0 ha1;apply Z62 (K:=K0) (F:=NdF w k0 t0 r0 l0 v0 A0 cap0 f0)
 ·intro HM;have HM:=Zh HM;refine wz (fun y:World=>Blk y w.heap.size 28 #[.int .i64 k0,.int .i64 t0,.int .i64 r0,.string ⟨l0.toArray⟩,.int .i64 v0,.slice A0 f0.len cap0]/\Blk y (w.heap.size+1) 28 #[.int .i64 k0,.int .i64 t0,.int .i64 r0,.string ⟨l0.toArray⟩,.int .i64 v0,.slice A0 f0.len cap0]) [0,1,2,3,4] (HS.o _ (Below.refl _ _).drew) (fun hHeld=>?_);refine wv 0 (.agg #[.int .i64 k0,.int .i64 t0,.int .i64 r0,.string ⟨l0.toArray⟩,.int .i64 v0,.slice A0 f0.len cap0]) rfl (fun x' hS=>Zay rfl rfl (run_loadVar_row x' w.heap.size _ _ #[.int .i64 k0,.int .i64 t0,.int .i64 r0,.string ⟨l0.toArray⟩,.int .i64 v0,.slice A0 f0.len cap0] (0,0) _ hS.1 Tryz.underlying28 rfl κ)) (by assumption) ?_;refine wv 2 (.agg #[.int .i64 k0,.int .i64 t0,.int .i64 r0,.string ⟨l0.toArray⟩,.int .i64 v0,.slice A0 f0.len cap0]) rfl (fun x' hS=>Zay rfl rfl (run_loadVar_row x' (w.heap.size+1) _ _ #[.int .i64 k0,.int .i64 t0,.int .i64 r0,.string ⟨l0.toArray⟩,.int .i64 v0,.slice A0 f0.len cap0] (0,0) _ hS.2 Tryz.underlying28 rfl κ)) (by assumption) ?_;clear hHeld;refine Zcq (i:=1) (j:=3) κ rfl rfl (fun K hK=>?_) (fun K hK=>?_)
  ·go_simp;refine hK.out _ _ (HS.o _ (by repeat (first | exact Below.refl _ _ | refine Below.drew ?_ | refine Zaa ?_ _))) ?_;clear hK K;refine pu ?_;refine Zcq (i:=3) (j:=4) κ rfl rfl (fun K hK=>?_) (fun K hK=>?_)
   ·go_simp;refine hK.out _ _ (HS.o _ (by repeat (first | exact Below.refl _ _ | refine Below.drew ?_ | refine Zaa ?_ _))) ?_;clear hK K;refine pu ?_;refine Zan (i:=4) κ rfl (fun K hK=>?_);go_simp;refine hK.out _ _ (HS.o _ (by repeat (first | exact Below.refl _ _ | refine Below.drew ?_ | refine Zaa ?_ _))) ?_;clear hK K;refine pu ?_;refine wl 5 ?_;refine Zb5 13 rfl rfl ?_;have hA:Blk ((W.alloc (.cells #[.int .i64 k0,.int .i64 t0,.int .i64 r0,.string ⟨l0.toArray⟩,.int .i64 v0,.slice A0 f0.len cap0] 28 (0,0))).alloc (.cells #[.int .i64 k0,.int .i64 t0,.int .i64 r0,.string ⟨l0.toArray⟩,.int .i64 v0,.slice A0 f0.len cap0] 28 (0,0))).drew (W.heap.size) 28 #[.int .i64 k0,.int .i64 t0,.int .i64 r0,.string ⟨l0.toArray⟩,.int .i64 v0,.slice A0 f0.len cap0]:=((Blk.new W _ _).alloc _).drew;have hB:Blk ((W.alloc (.cells #[.int .i64 k0,.int .i64 t0,.int .i64 r0,.string ⟨l0.toArray⟩,.int .i64 v0,.slice A0 f0.len cap0] 28 (0,0))).alloc (.cells #[.int .i64 k0,.int .i64 t0,.int .i64 r0,.string ⟨l0.toArray⟩,.int .i64 v0,.slice A0 f0.len cap0] 28 (0,0))).drew (W.heap.size+1) 28 #[.int .i64 k0,.int .i64 t0,.int .i64 r0,.string ⟨l0.toArray⟩,.int .i64 v0,.slice A0 f0.len cap0]:=(Zfl W _ _ _).drew
    have hW:Below w.heap.size w ((W.alloc (.cells #[.int .i64 k0,.int .i64 t0,.int .i64 r0,.string ⟨l0.toArray⟩,.int .i64 v0,.slice A0 f0.len cap0] 28 (0,0))).alloc (.cells #[.int .i64 k0,.int .i64 t0,.int .i64 r0,.string ⟨l0.toArray⟩,.int .i64 v0,.slice A0 f0.len cap0] 28 (0,0))).drew:=Zab HB0.o (by repeat (first | exact Below.refl _ _ | refine Below.drew ?_ | refine Zaa ?_ _));have hne:W.heap.size≠W.heap.size+1:=ω;have hla:w.heap.size<=W.heap.size:=ω;have hlb:w.heap.size<=W.heap.size+1:=ω;generalize ((W.alloc (.cells #[.int .i64 k0,.int .i64 t0,.int .i64 r0,.string ⟨l0.toArray⟩,.int .i64 v0,.slice A0 f0.len cap0] 28 (0,0))).alloc (.cells #[.int .i64 k0,.int .i64 t0,.int .i64 r0,.string ⟨l0.toArray⟩,.int .i64 v0,.slice A0 f0.len cap0] 28 (0,0))).drew=W3 at hA hB hW ⊢;generalize W.heap.size+1=p2 at hB hne hlb ⊢;generalize W.heap.size=p1 at hA hne hla ⊢;refine wpList_nil ?_;dsimp only [Exit.then];go_simp;exact HM.o p1 p2 W3 ⟨hW,hA,hB,hne,hla,hlb⟩
   ·go_simp;refine hK.out _ _ (HS.o _ (by repeat (first | exact Below.refl _ _ | refine Below.drew ?_ | refine Zaa ?_ _))) ?_;clear hK K;refine pu ?_;refine Zan (i:=3) κ rfl (fun K hK=>?_);go_simp;refine hK.out _ _ (HS.o _ (by repeat (first | exact Below.refl _ _ | refine Below.drew ?_ | refine Zaa ?_ _))) ?_;clear hK K;refine pu ?_;refine wl 5 ?_;refine Zb5 13 rfl rfl ?_;have hA:Blk ((W.alloc (.cells #[.int .i64 k0,.int .i64 t0,.int .i64 r0,.string ⟨l0.toArray⟩,.int .i64 v0,.slice A0 f0.len cap0] 28 (0,0))).alloc (.cells #[.int .i64 k0,.int .i64 t0,.int .i64 r0,.string ⟨l0.toArray⟩,.int .i64 v0,.slice A0 f0.len cap0] 28 (0,0))).drew (W.heap.size) 28 #[.int .i64 k0,.int .i64 t0,.int .i64 r0,.string ⟨l0.toArray⟩,.int .i64 v0,.slice A0 f0.len cap0]:=((Blk.new W _ _).alloc _).drew;have hB:Blk ((W.alloc (.cells #[.int .i64 k0,.int .i64 t0,.int .i64 r0,.string ⟨l0.toArray⟩,.int .i64 v0,.slice A0 f0.len cap0] 28 (0,0))).alloc (.cells #[.int .i64 k0,.int .i64 t0,.int .i64 r0,.string ⟨l0.toArray⟩,.int .i64 v0,.slice A0 f0.len cap0] 28 (0,0))).drew (W.heap.size+1) 28 #[.int .i64 k0,.int .i64 t0,.int .i64 r0,.string ⟨l0.toArray⟩,.int .i64 v0,.slice A0 f0.len cap0]:=(Zfl W _ _ _).drew
    have hW:Below w.heap.size w ((W.alloc (.cells #[.int .i64 k0,.int .i64 t0,.int .i64 r0,.string ⟨l0.toArray⟩,.int .i64 v0,.slice A0 f0.len cap0] 28 (0,0))).alloc (.cells #[.int .i64 k0,.int .i64 t0,.int .i64 r0,.string ⟨l0.toArray⟩,.int .i64 v0,.slice A0 f0.len cap0] 28 (0,0))).drew:=Zab HB0.o (by repeat (first | exact Below.refl _ _ | refine Below.drew ?_ | refine Zaa ?_ _));have hne:W.heap.size≠W.heap.size+1:=ω;have hla:w.heap.size<=W.heap.size:=ω;have hlb:w.heap.size<=W.heap.size+1:=ω;generalize ((W.alloc (.cells #[.int .i64 k0,.int .i64 t0,.int .i64 r0,.string ⟨l0.toArray⟩,.int .i64 v0,.slice A0 f0.len cap0] 28 (0,0))).alloc (.cells #[.int .i64 k0,.int .i64 t0,.int .i64 r0,.string ⟨l0.toArray⟩,.int .i64 v0,.slice A0 f0.len cap0] 28 (0,0))).drew=W3 at hA hB hW ⊢;generalize W.heap.size+1=p2 at hB hne hlb ⊢;generalize W.heap.size=p1 at hA hne hla ⊢;refine wpList_nil ?_;dsimp only [Exit.then];go_simp;exact HM.o p1 p2 W3 ⟨hW,hA,hB,hne,hla,hlb⟩
  ·go_simp;refine hK.out _ _ (HS.o _ (by repeat (first | exact Below.refl _ _ | refine Below.drew ?_ | refine Zaa ?_ _))) ?_;clear hK K;refine pu ?_;refine Zan (i:=1) κ rfl (fun K hK=>?_);go_simp;refine hK.out _ _ (HS.o _ (by repeat (first | exact Below.refl _ _ | refine Below.drew ?_ | refine Zaa ?_ _))) ?_;clear hK K;refine pu ?_;refine Zan (i:=4) κ rfl (fun K hK=>?_);go_simp;refine hK.out _ _ (HS.o _ (by repeat (first | exact Below.refl _ _ | refine Below.drew ?_ | refine Zaa ?_ _))) ?_;clear hK K;refine pu ?_;refine wl 5 ?_;refine Zb5 13 rfl rfl ?_;have hA:Blk ((W.alloc (.cells #[.int .i64 k0,.int .i64 t0,.int .i64 r0,.string ⟨l0.toArray⟩,.int .i64 v0,.slice A0 f0.len cap0] 28 (0,0))).alloc (.cells #[.int .i64 k0,.int .i64 t0,.int .i64 r0,.string ⟨l0.toArray⟩,.int .i64 v0,.slice A0 f0.len cap0] 28 (0,0))).drew (W.heap.size+1) 28 #[.int .i64 k0,.int .i64 t0,.int .i64 r0,.string ⟨l0.toArray⟩,.int .i64 v0,.slice A0 f0.len cap0]:=(Zfl W _ _ _).drew;have hB:Blk ((W.alloc (.cells #[.int .i64 k0,.int .i64 t0,.int .i64 r0,.string ⟨l0.toArray⟩,.int .i64 v0,.slice A0 f0.len cap0] 28 (0,0))).alloc (.cells #[.int .i64 k0,.int .i64 t0,.int .i64 r0,.string ⟨l0.toArray⟩,.int .i64 v0,.slice A0 f0.len cap0] 28 (0,0))).drew (W.heap.size) 28 #[.int .i64 k0,.int .i64 t0,.int .i64 r0,.string ⟨l0.toArray⟩,.int .i64 v0,.slice A0 f0.len cap0]:=((Blk.new W _ _).alloc _).drew
   have hW:Below w.heap.size w ((W.alloc (.cells #[.int .i64 k0,.int .i64 t0,.int .i64 r0,.string ⟨l0.toArray⟩,.int .i64 v0,.slice A0 f0.len cap0] 28 (0,0))).alloc (.cells #[.int .i64 k0,.int .i64 t0,.int .i64 r0,.string ⟨l0.toArray⟩,.int .i64 v0,.slice A0 f0.len cap0] 28 (0,0))).drew:=Zab HB0.o (by repeat (first | exact Below.refl _ _ | refine Below.drew ?_ | refine Zaa ?_ _));have hne:W.heap.size+1≠W.heap.size:=ω;have hla:w.heap.size<=W.heap.size+1:=ω;have hlb:w.heap.size<=W.heap.size:=ω;generalize ((W.alloc (.cells #[.int .i64 k0,.int .i64 t0,.int .i64 r0,.string ⟨l0.toArray⟩,.int .i64 v0,.slice A0 f0.len cap0] 28 (0,0))).alloc (.cells #[.int .i64 k0,.int .i64 t0,.int .i64 r0,.string ⟨l0.toArray⟩,.int .i64 v0,.slice A0 f0.len cap0] 28 (0,0))).drew=W3 at hA hB hW ⊢;generalize W.heap.size+1=p1 at hA hne hla ⊢;generalize W.heap.size=p2 at hB hne hlb ⊢;refine wpList_nil ?_;dsimp only [Exit.then];go_simp;exact HM.o p1 p2 W3 ⟨hW,hA,hB,hne,hla,hlb⟩
 ·intro a b W3 ⟨hb3,hA,hB,hne,ha,hb⟩;refine HK0.o _ _ ?_;have oneX:∀ (q:Nat),w.heap.size<=q->Blk W3 q 28 #[.int .i64 k0,.int .i64 t0,.int .i64 r0,.string ⟨l0.toArray⟩,.int .i64 v0,.slice A0 f0.len cap0]->Z0g.Own 28 w.heap.size W3 (.slice (some ⟨q,0,none⟩) 1 1) [⟨k0,t0,r0,l0,v0,A0,cap0,f0⟩]:=fun q hq hb=>Zgw (E:=Z0g) (l:=[⟨k0,t0,r0,l0,v0,A0,cap0,f0⟩]) ⟨q,rfl,hb,hq⟩ (by simp)
  have HXa:=Zh (oneX a ha hA);have HXb:=Zh (oneX b hb hB);have HW3:=Zh hb3;have HNe:=Zh hne;clear oneX hA hB hb3 ha hb hne
  go_wp2_with fail
  clear HB0 hz0 HS
  go_loopg [5,6] (1+f0.all) (fun n x y wr=>∃ (st:List Nx) (vx vy:Value),wtX st=n/\x=vx/\y=vy/\Z0g.Own 28 w.heap.size wr vx st/\Z0g.Own 28 w.heap.size wr vy st/\Zfz vx vy/\(∀ p∈st,Z64 w w.heap.size p)/\wtX st<=1000000/\Below w.heap.size w wr)
  case atStart=>exact⟨[⟨k0,t0,r0,l0,v0,A0,cap0,f0⟩],_,_,rfl,rfl,rfl,HXa.o,HXb.o,fun q h1 h2=>by simp only [Value.ownBlock,Option.some.injEq] at h1 h2;exact HNe.o (h1.trans h2.symm),fun p hp=>by simp only [List.mem_singleton] at hp;subst hp;exact HX.o,by unfold wtX;simpa using hall,HW3.o⟩
  case round=>
   obtain⟨st,vx,vy,hn,rfl,rfl,hoa,hob,hap,hok,hwt,hbw⟩:=hrel;have HW:=Zh hbw;rcases List.eq_nil_or_concat st with rfl | ⟨st',p,rfl⟩
   ·obtain⟨Ax,cx,rfl⟩:=Zbe hoa;obtain⟨Ay,cy,rfl⟩:=Zbe hob;clear hoa hob hbw;simp only [List.length_nil]
    go_wp2_with fail
    go_ret;exact⟨rfl,HW.o⟩
   ·rw [List.concat_eq_append] at *;have hlen:(st'++[p]).length=st'.length+1:=by simp
    have hwl:st'.length<=1000000:=by have:=Zqv (st'++[p]);rw [hlen] at this;omega
    have hpk:Zd7 w w.heap.size (.slice p.A p.f.len p.cap) p.f:=hok p (by simp);obtain⟨a,cx,rfl,hca⟩:=Zcx hoa (i:=st'.length) (x:=p) (by simp);obtain⟨b,cy,rfl,hcb⟩:=Zcx hob (i:=st'.length) (x:=p) (by simp);rw [hlen] at hoa hob ⊢;have hne:a≠b:=fun e=>hap a rfl (by rw [e];rfl)
    have hal:=Zd5 hoa (b:=a) rfl;have hbl:=Zd5 hob (b:=b) rfl;have hcx:st'.length+1<=cx:=by have:=Zrn hoa;rwa [hlen] at this
    have hcy:st'.length+1<=cy:=by have:=Zrn hob;rwa [hlen] at this
    have hx0:=Zv5 hoa;have hy0:=Zv5 hob;have HOa:=Zh hx0;have HOb:=Zh hy0;have HPk:=Zh hpk;have HOk:=Zh (fun q (hq:q∈st')=>hok q (List.mem_append_left _ hq));have hwp:wtX (st'++[p])=wtX st'+(1+p.f.all):=by rw [Zmd];simp [wtX]
    rw [hwp] at hn hwt;obtain⟨pk,pt,pr,pl,pv,pA,pcap,pf⟩:=p;have a0:=hca 0 _ rfl;have a1:=hca 1 _ rfl;have a2:=hca 2 _ rfl;have a3:=hca 3 _ rfl;have a4:=hca 4 _ rfl;have a5:=hca 5 _ rfl;have b0:=hcb 0 _ rfl;have b1:=hcb 1 _ rfl;have b2:=hcb 2 _ rfl;have b3:=hcb 3 _ rfl;have b4:=hcb 4 _ rfl;have b5:=hcb 5 _ rfl;simp only [Nat.add_zero,show Z0g.size=6 from rfl] at a0 a1 a2 a3 a4 a5 b0 b1 b2 b3 b4 b5;obtain⟨ys,hyl,hya,hyo,hyw⟩:=Z7w HPk.o;simp only at hyl hya hyw;have hbn:st'.length+ys.length<=1000000:=by
     have h1:=Zqv st';have h2:=Zqv ys;simp only at hwt;omega
    have HWt:=Zh (show wtX (st'++ys)<=1000000/\wtX (st'++ys)<gk by
     rw [Zmd,hyw];simp only at hwt hn
     omega)
    have HYo:=Zh (show ∀ q∈st'++ys,Z64 w w.heap.size q from fun q hq=>(List.mem_append.1 hq).elim (fun h=>HOk.o q h) (fun h=>hyo q h));have HYa:=Zh hya;have HYl:=Zh hyl;have HBn:=Zh hbn;have HNb:=Zh (And.intro hne (And.intro hal hbl));have hzw:=HW.o.size;clear hya hyo hyw hyl hbn hne hal hbl hap;obtain⟨L,hL⟩:∃ L,st'.length=L:=⟨_,rfl⟩;rw [hL] at HOa HOb hwl hcx hcy a0 a1 a2 a3 a4 a5 b0 b1 b2 b3 b4 b5 ⊢;have HLn:=Zh hL;have g1:((L+1:Nat):Int) - 1=(L:Int):=ω;have g2:(0:Int)<((L+1:Nat):Int):=ω;have g3:(0:Int)<=(L:Int):=ω;have g4:(L:Int)<((L+1:Nat):Int):=ω;have gca:(L:Int)<=(cx:Int):=ω;have gcb:(L:Int)<=(cy:Int):=ω;have g7:(L:Int)<(L:Int)+1:=ω;have g5:IntKind.i64.wrap (L:Int)=(L:Int):=by unfold IntKind.wrap;simp [IntKind.bits,IntKind.signed];omega
    have g6:wrap64 (L:Int)=(L:Int):=by unfold wrap64;omega
    clear hoa hob hx0 hy0 hca hcb hpk hok hlen hL hbw hwp
    go_wp2_with fail
    rename_i K1 hK1;have HK1:=Zh hK1;have HT:=Zh (show ∀ y,Below wr.heap.size wr y->y.cell? ⟨a,L*6,none⟩=some (.int .i64 pk)/\y.cell? ⟨a,L*6+1,none⟩=some (.int .i64 pt)/\y.cell? ⟨a,L*6+2,none⟩=some (.int .i64 pr)/\y.cell? ⟨a,L*6+3,none⟩=some (.string ⟨pl.toArray⟩)/\y.cell? ⟨a,L*6+4,none⟩=some (.int .i64 pv)/\y.cell? ⟨a,L*6+5,none⟩=some (.slice pA pf.len pcap)/\y.cell? ⟨b,L*6,none⟩=some (.int .i64 pk)/\y.cell? ⟨b,L*6+1,none⟩=some (.int .i64 pt)/\y.cell? ⟨b,L*6+2,none⟩=some (.int .i64 pr)/\y.cell? ⟨b,L*6+3,none⟩=some (.string ⟨pl.toArray⟩)/\y.cell? ⟨b,L*6+4,none⟩=some (.int .i64 pv)/\y.cell? ⟨b,L*6+5,none⟩=some (.slice pA pf.len pcap) from fun y hy=>⟨Zac a0 hy,Zac a1 hy,Zac a2 hy,Zac a3 hy,Zac a4 hy,Zac a5 hy,Zac b0 hy,Zac b1 hy,Zac b2 hy,Zac b3 hy,Zac b4 hy,Zac b5 hy⟩);clear hK1 a0 a1 a2 a3 a4 a5 b0 b1 b2 b3 b4 b5;apply Z62 (K:=K1) (F:=fun p1 p2 W3=>Below wr.heap.size wr W3/\Blk W3 p1 28 #[.int .i64 pk,.int .i64 pt,.int .i64 pr,.string ⟨pl.toArray⟩,.int .i64 pv,.slice pA pf.len pcap]/\Blk W3 p2 28 #[.int .i64 pk,.int .i64 pt,.int .i64 pr,.string ⟨pl.toArray⟩,.int .i64 pv,.slice pA pf.len pcap]/\p1≠p2/\wr.heap.size<=p2)
    ·intro HM;have HM:=Zh HM;refine wz (fun y:World=>y.cell? ⟨a,L*6,none⟩=some (.int .i64 pk)/\y.cell? ⟨a,L*6+1,none⟩=some (.int .i64 pt)/\y.cell? ⟨a,L*6+2,none⟩=some (.int .i64 pr)/\y.cell? ⟨a,L*6+3,none⟩=some (.string ⟨pl.toArray⟩)/\y.cell? ⟨a,L*6+4,none⟩=some (.int .i64 pv)/\y.cell? ⟨a,L*6+5,none⟩=some (.slice pA pf.len pcap)/\y.cell? ⟨b,L*6,none⟩=some (.int .i64 pk)/\y.cell? ⟨b,L*6+1,none⟩=some (.int .i64 pt)/\y.cell? ⟨b,L*6+2,none⟩=some (.int .i64 pr)/\y.cell? ⟨b,L*6+3,none⟩=some (.string ⟨pl.toArray⟩)/\y.cell? ⟨b,L*6+4,none⟩=some (.int .i64 pv)/\y.cell? ⟨b,L*6+5,none⟩=some (.slice pA pf.len pcap)) [3,7,8,9,10] (HT.o _ (Below.refl _ _).drew) (fun hHeld=>?_);refine wq 0 ?_;refine wq 1 ?_;refine wq 2 ?_;refine wq 4 ?_;refine wq 5 ?_;refine wq 6 ?_;refine wt 3 (by assumption) ?_;refine wt 7 (by assumption) ?_;clear hHeld;refine Zcq (i:=8) (j:=9) κ rfl rfl (fun K hK=>?_) (fun K hK=>?_)
     ·go_simp;refine hK.out _ _ (HT.o _ (by repeat (first | exact Below.refl _ _ | refine Below.drew ?_ | refine Zaa ?_ _))) ?_;clear hK K;refine pu ?_;refine Zan (i:=9) κ rfl (fun K hK=>?_);go_simp;refine hK.out _ _ (HT.o _ (by repeat (first | exact Below.refl _ _ | refine Below.drew ?_ | refine Zaa ?_ _))) ?_;clear hK K;refine pu ?_;have hA:Blk ((wr.alloc (.cells #[.int .i64 0,.int .i64 0,.int .i64 0,.string ⟨#[]⟩,.int .i64 0,.slice none 0 0] 28 (0,0))).alloc (.cells #[.int .i64 0,.int .i64 0,.int .i64 0,.string ⟨#[]⟩,.int .i64 0,.slice none 0 0] 28 (0,0))).drew (wr.heap.size) 28 #[.int .i64 0,.int .i64 0,.int .i64 0,.string ⟨#[]⟩,.int .i64 0,.slice none 0 0]:=((Blk.new wr _ _).alloc _).drew;have hB:Blk ((wr.alloc (.cells #[.int .i64 0,.int .i64 0,.int .i64 0,.string ⟨#[]⟩,.int .i64 0,.slice none 0 0] 28 (0,0))).alloc (.cells #[.int .i64 0,.int .i64 0,.int .i64 0,.string ⟨#[]⟩,.int .i64 0,.slice none 0 0] 28 (0,0))).drew (wr.heap.size+1) 28 #[.int .i64 0,.int .i64 0,.int .i64 0,.string ⟨#[]⟩,.int .i64 0,.slice none 0 0]:=(Zfl wr _ _ _).drew
      have hW:Below wr.heap.size wr ((wr.alloc (.cells #[.int .i64 0,.int .i64 0,.int .i64 0,.string ⟨#[]⟩,.int .i64 0,.slice none 0 0] 28 (0,0))).alloc (.cells #[.int .i64 0,.int .i64 0,.int .i64 0,.string ⟨#[]⟩,.int .i64 0,.slice none 0 0] 28 (0,0))).drew:=by repeat (first | exact Below.refl _ _ | refine Below.drew ?_ | refine Zaa ?_ _)
      have hne4:wr.heap.size≠wr.heap.size+1:=ω;have hge1:wr.heap.size<=wr.heap.size:=ω;have hge2:wr.heap.size<=wr.heap.size+1:=ω;generalize ((wr.alloc (.cells #[.int .i64 0,.int .i64 0,.int .i64 0,.string ⟨#[]⟩,.int .i64 0,.slice none 0 0] 28 (0,0))).alloc (.cells #[.int .i64 0,.int .i64 0,.int .i64 0,.string ⟨#[]⟩,.int .i64 0,.slice none 0 0] 28 (0,0))).drew=W5 at hA hB hW ⊢
      (generalize hp2:wr.heap.size+1=p2 at hB hne4 ⊢;have hge2:wr.heap.size<=p2:=ω;clear hp2);(generalize hp1:wr.heap.size=p1 at hA hne4 ⊢;have hge1:wr.heap.size<=p1:=ω;clear hp1)
      refine Zan (i:=10) κ rfl (fun K hK=>?_);rw [if_pos κ];refine wp_store_mid _ _ _ rfl p1 0 #[.int .i64 pk,.int .i64 pt,.int .i64 pr,.string ⟨pl.toArray⟩,.int .i64 pv,.slice pA pf.len pcap] rfl rfl (Zaw hA 6 (by simp)) κ κ ?_;have hW2:=Zam hW hge1 [.int .i64 pk,.int .i64 pt,.int .i64 pr,.string ⟨pl.toArray⟩,.int .i64 pv,.slice pA pf.len pcap] 0;have hA2:=hA.all [.int .i64 pk,.int .i64 pt,.int .i64 pr,.string ⟨pl.toArray⟩,.int .i64 pv,.slice pA pf.len pcap] rfl;have hB2:=Zal hB (Ne.symm hne4) [.int .i64 pk,.int .i64 pt,.int .i64 pr,.string ⟨pl.toArray⟩,.int .i64 pv,.slice pA pf.len pcap] 0;refine hK.out _ _ (HT.o _ hW2) ?_;clear hK K;refine pu ?_;refine wl 11 ?_;refine wpList_store_mid rfl _ _ _ rfl p2 0 #[.int .i64 pk,.int .i64 pt,.int .i64 pr,.string ⟨pl.toArray⟩,.int .i64 pv,.slice pA pf.len pcap] rfl rfl (Zaw hB2 6 (by simp)) κ κ ?_;have hW3:=Zam hW2 hge2 [.int .i64 pk,.int .i64 pt,.int .i64 pr,.string ⟨pl.toArray⟩,.int .i64 pv,.slice pA pf.len pcap] 0;have hB3:=hB2.all [.int .i64 pk,.int .i64 pt,.int .i64 pr,.string ⟨pl.toArray⟩,.int .i64 pv,.slice pA pf.len pcap] rfl;have hA3:=Zal hA2 hne4 [.int .i64 pk,.int .i64 pt,.int .i64 pr,.string ⟨pl.toArray⟩,.int .i64 pv,.slice pA pf.len pcap] 0
      generalize ((W5.setCells p1 0 [.int .i64 pk,.int .i64 pt,.int .i64 pr,.string ⟨pl.toArray⟩,.int .i64 pv,.slice pA pf.len pcap]).setCells p2 0 [.int .i64 pk,.int .i64 pt,.int .i64 pr,.string ⟨pl.toArray⟩,.int .i64 pv,.slice pA pf.len pcap])=W6 at hW3 hB3 hA3 ⊢;refine wpList_nil ?_;dsimp only [Exit.then];go_simp;exact HM.o p1 p2 W6 ⟨hW3,hA3,hB3,hne4,hge2⟩
     ·go_simp;refine hK.out _ _ (HT.o _ (by repeat (first | exact Below.refl _ _ | refine Below.drew ?_ | refine Zaa ?_ _))) ?_;clear hK K;refine pu ?_;refine Zan (i:=8) κ rfl (fun K hK=>?_);go_simp;refine hK.out _ _ (HT.o _ (by repeat (first | exact Below.refl _ _ | refine Below.drew ?_ | refine Zaa ?_ _))) ?_;clear hK K;refine pu ?_;have hA:Blk ((wr.alloc (.cells #[.int .i64 0,.int .i64 0,.int .i64 0,.string ⟨#[]⟩,.int .i64 0,.slice none 0 0] 28 (0,0))).alloc (.cells #[.int .i64 0,.int .i64 0,.int .i64 0,.string ⟨#[]⟩,.int .i64 0,.slice none 0 0] 28 (0,0))).drew (wr.heap.size+1) 28 #[.int .i64 0,.int .i64 0,.int .i64 0,.string ⟨#[]⟩,.int .i64 0,.slice none 0 0]:=(Zfl wr _ _ _).drew;have hB:Blk ((wr.alloc (.cells #[.int .i64 0,.int .i64 0,.int .i64 0,.string ⟨#[]⟩,.int .i64 0,.slice none 0 0] 28 (0,0))).alloc (.cells #[.int .i64 0,.int .i64 0,.int .i64 0,.string ⟨#[]⟩,.int .i64 0,.slice none 0 0] 28 (0,0))).drew (wr.heap.size) 28 #[.int .i64 0,.int .i64 0,.int .i64 0,.string ⟨#[]⟩,.int .i64 0,.slice none 0 0]:=((Blk.new wr _ _).alloc _).drew
      have hW:Below wr.heap.size wr ((wr.alloc (.cells #[.int .i64 0,.int .i64 0,.int .i64 0,.string ⟨#[]⟩,.int .i64 0,.slice none 0 0] 28 (0,0))).alloc (.cells #[.int .i64 0,.int .i64 0,.int .i64 0,.string ⟨#[]⟩,.int .i64 0,.slice none 0 0] 28 (0,0))).drew:=by repeat (first | exact Below.refl _ _ | refine Below.drew ?_ | refine Zaa ?_ _)
      have hne4:wr.heap.size+1≠wr.heap.size:=ω;have hge1:wr.heap.size<=wr.heap.size+1:=ω;have hge2:wr.heap.size<=wr.heap.size:=ω;generalize ((wr.alloc (.cells #[.int .i64 0,.int .i64 0,.int .i64 0,.string ⟨#[]⟩,.int .i64 0,.slice none 0 0] 28 (0,0))).alloc (.cells #[.int .i64 0,.int .i64 0,.int .i64 0,.string ⟨#[]⟩,.int .i64 0,.slice none 0 0] 28 (0,0))).drew=W5 at hA hB hW ⊢
      (generalize hp1:wr.heap.size+1=p1 at hA hne4 ⊢;have hge1:wr.heap.size<=p1:=ω;clear hp1);(generalize hp2:wr.heap.size=p2 at hB hne4 ⊢;have hge2:wr.heap.size<=p2:=ω;clear hp2)
      refine Zan (i:=10) κ rfl (fun K hK=>?_);rw [if_pos κ];refine wp_store_mid _ _ _ rfl p1 0 #[.int .i64 pk,.int .i64 pt,.int .i64 pr,.string ⟨pl.toArray⟩,.int .i64 pv,.slice pA pf.len pcap] rfl rfl (Zaw hA 6 (by simp)) κ κ ?_;have hW2:=Zam hW hge1 [.int .i64 pk,.int .i64 pt,.int .i64 pr,.string ⟨pl.toArray⟩,.int .i64 pv,.slice pA pf.len pcap] 0;have hA2:=hA.all [.int .i64 pk,.int .i64 pt,.int .i64 pr,.string ⟨pl.toArray⟩,.int .i64 pv,.slice pA pf.len pcap] rfl;have hB2:=Zal hB (Ne.symm hne4) [.int .i64 pk,.int .i64 pt,.int .i64 pr,.string ⟨pl.toArray⟩,.int .i64 pv,.slice pA pf.len pcap] 0;refine hK.out _ _ (HT.o _ hW2) ?_;clear hK K;refine pu ?_;refine wl 11 ?_;refine wpList_store_mid rfl _ _ _ rfl p2 0 #[.int .i64 pk,.int .i64 pt,.int .i64 pr,.string ⟨pl.toArray⟩,.int .i64 pv,.slice pA pf.len pcap] rfl rfl (Zaw hB2 6 (by simp)) κ κ ?_;have hW3:=Zam hW2 hge2 [.int .i64 pk,.int .i64 pt,.int .i64 pr,.string ⟨pl.toArray⟩,.int .i64 pv,.slice pA pf.len pcap] 0;have hB3:=hB2.all [.int .i64 pk,.int .i64 pt,.int .i64 pr,.string ⟨pl.toArray⟩,.int .i64 pv,.slice pA pf.len pcap] rfl;have hA3:=Zal hA2 hne4 [.int .i64 pk,.int .i64 pt,.int .i64 pr,.string ⟨pl.toArray⟩,.int .i64 pv,.slice pA pf.len pcap] 0
      generalize ((W5.setCells p1 0 [.int .i64 pk,.int .i64 pt,.int .i64 pr,.string ⟨pl.toArray⟩,.int .i64 pv,.slice pA pf.len pcap]).setCells p2 0 [.int .i64 pk,.int .i64 pt,.int .i64 pr,.string ⟨pl.toArray⟩,.int .i64 pv,.slice pA pf.len pcap])=W6 at hW3 hB3 hA3 ⊢;refine wpList_nil ?_;dsimp only [Exit.then];go_simp;exact HM.o p1 p2 W6 ⟨hW3,hA3,hB3,hne4,hge2⟩
    ·intro p1 p2 W3 ⟨hb3,hA,hB,hpn,hp2⟩;refine HK1.o _ _ ?_;have HbX:=Zh (show Below wr.heap.size wr W3.drew from hb3.drew);have HbW:=Zh (Zab HW.o HbX.o);have HB2:=Zh (show Blk W3.drew p2 28 #[.int .i64 pk,.int .i64 pt,.int .i64 pr,.string ⟨pl.toArray⟩,.int .i64 pv,.slice pA pf.len pcap] from hB);have HP2:=Zh hp2;have x0:=hA.cl 0;have x1:=hA.cl 1;have x2:=hA.cl 2;have x3:=hA.cl 3;have x4:=hA.cl 4;have x5:=hA.cl 5;have y0:=hB.cl 0;have y1:=hB.cl 1;have y2:=hB.cl 2;have y3:=hB.cl 3;have y4:=hB.cl 4;have y5:=hB.cl 5
     go_wp2_with fail
     refine wz (fun _:World=>True) [] trivial (fun hHeld=>?_);refine wq 0 ?_;refine wq 1 ?_;refine wq 2 ?_;refine wq 3 ?_;refine wq 4 ?_;refine wq 5 ?_;refine wl 6 ?_
     go_wp2_with (at_builtin;refine Hid.o ?_)
     refine Zh ?_;refine Enc.appY Z4y _ rfl (.tmp 62) (.tmp 64) rfl ys w.heap.size st' (.slice (some ⟨a,0,none⟩) L cx) pA pcap rfl (by rw [HYl.o];rfl) (HYa.o.below HbW.o) (Zah HOa.o HbX.o) (Nat.le_trans HBn.o (by decide)) (Nat.le_trans (Nat.mul_le_mul_right 72 HBn.o) (by decide)) HbW.o.size ?_;intro v1 w4 hown1 hg1;have HO1:=Zh hown1;have HG1:=Zh hg1
     have HOb4:=Zh (Zbc (Zah HOb.o HbX.o) (fun q h1 h2=>by
      simp only [Value.ownBlock,Option.some.injEq] at h1 h2
      exact HNb.o.1 (h2.trans h1.symm)) hg1)
     have HB4:=Zh (show Blk w4 p2 28 #[.int .i64 pk,.int .i64 pt,.int .i64 pr,.string ⟨pl.toArray⟩,.int .i64 pv,.slice pA pf.len pcap] from (hg1.keep p2 HB2.o.lt (fun e=>by
      simp only [Value.ownBlock,Option.some.injEq] at e
      exact Nat.lt_irrefl _ (Nat.lt_of_lt_of_le (e ▸ HNb.o.2.1) HP2.o))).trans HB2.o)
     have HbW4:=Zh (HbW.o.trans hg1.below);have y5:=HB4.o.cl 5;obtain⟨A1,n1,c1,rfl⟩:=Zav hown1;clear hown1 hg1 x0 x1 x2 x3 x4 x5 y0 y1 y2 y3 y4 hHeld
     go_wp2_with (at_builtin;refine Hid.o ?_)
     refine Zh ?_;refine Enc.appY Z4y _ rfl (.tmp 66) (.tmp 68) rfl ys w.heap.size st' (.slice (some ⟨b,0,none⟩) L cy) pA pcap rfl (by rw [HYl.o];rfl) (HYa.o.below HbW4.o) HOb4.o (Nat.le_trans HBn.o (by decide)) (Nat.le_trans (Nat.mul_le_mul_right 72 HBn.o) (by decide)) HbW4.o.size ?_;intro v2 w5 hown2 hg2;have HO2:=Zh hown2
     have HX5:=Zh (Zbc HO1.o (fun q h1 h2=>by
      simp only [Value.ownBlock,Option.some.injEq] at h2;subst h2;rcases HG1.o.which b h1 with h | h
      ·simp only [Value.ownBlock,Option.some.injEq] at h;exact HNb.o.1 h
      ·exact Nat.lt_irrefl _ (Nat.lt_of_lt_of_le (Nat.lt_of_lt_of_le HNb.o.2.2 HbX.o.size) h)) hg2)
     have HAp:=Zh (show Zfz (.slice A1 n1 c1) v2 from fun q h1 h2=>by
      have hq:=Zd5 HO1.o h1;rcases hg2.which q h2 with h | h
      ·simp only [Value.ownBlock,Option.some.injEq] at h;subst h;rcases HG1.o.which b h1 with h | h
       ·simp only [Value.ownBlock,Option.some.injEq] at h;exact HNb.o.1 h
       ·exact Nat.lt_irrefl _ (Nat.lt_of_lt_of_le (Nat.lt_of_lt_of_le HNb.o.2.2 HbX.o.size) h)
      ·exact Nat.lt_irrefl _ (Nat.lt_of_lt_of_le hq h))
     have HbW5:=Zh (HbW4.o.trans hg2.below);obtain⟨A2,n2,c2,rfl⟩:=Zav hown2;clear hown2 hg2 y5
     go_wp2_with fail
     go_roundg (wtX (st'++ys))
     case measure=>exact HWt.o.2
     case rel=>exact⟨st'++ys,_,_,rfl,rfl,rfl,HX5.o,HO2.o,HAp.o,HYo.o,HWt.o.1,HbW5.o⟩
end
end
section
set_option maxHeartbeats 4000000
set_option maxRecDepth 100000
theorem Z28 (T:Tst)(Ai Ac:Option Addr)(ci cc:Nat)(kv:Value)(w:World)(hT:Zcu w T Ai Ac kv)(hE:Zbb T=0) :
  Calls Tryz.prog 14 #[Zbu T (.slice Ai T.init.length ci) (.slice Ac T.code.length cc) kv,Zbu T (.slice Ai T.init.length ci) (.slice Ac T.code.length cc) kv] w fun e w'=>e=.returned (.bool true)/\Below w.heap.size w w':=by
 obtain⟨A0,q0,rfl⟩:∃ A c,kv=.slice A T.kids.len c:=by obtain⟨A,cap,e,_⟩:=hT.kids;exact⟨A,cap,e⟩
 simp only [Zbu];obtain⟨_,_,ha,hcod,_,hck,_⟩:=Za0 hE;have hall:1+T.kids.all<=1000000:=by have:=(Zj0 hck).2.2.2.2.2;rw [Zi8];omega
 have hks:=Zca hcod;have hil:=hT.ilen;have HT:=Zh (fun (W:World) (hW:Below w.heap.size w W)=>hT.below hW);have HC:=Zh (fun (W:World) (hW:Below w.heap.size w W)=>Z26 Ac cc T.code W hks.1 (fun k x hx=>(hks.2.2 k x hx).1) (hT.below hW).code);have HN:=Zh (fun (W:World) (hW:Below w.heap.size w W)=>Z27 T.k T.t T.r T.l T.v A0 q0 T.kids W (hT.below hW).kids hall);have HB0:=Zh (Zau w (.cells #[.int .i64 T.arch,.string ⟨T.name.toArray⟩,.string ⟨T.cycle.toArray⟩,.slice Ai T.init.length ci,.slice Ac T.code.length cc,.int .i64 T.q,.int .i64 T.k,.int .i64 T.t,.int .i64 T.r,.string ⟨T.l.toArray⟩,.int .i64 T.v,.slice A0 T.kids.len q0] 32 (0,0)) (.cells #[.int .i64 T.arch,.string ⟨T.name.toArray⟩,.string ⟨T.cycle.toArray⟩,.slice Ai T.init.length ci,.slice Ac T.code.length cc,.int .i64 T.q,.int .i64 T.k,.int .i64 T.t,.int .i64 T.r,.string ⟨T.l.toArray⟩,.int .i64 T.v,.slice A0 T.kids.len q0] 32 (0,0)))
 have h1:=(Blk.new w 32 #[.int .i64 T.arch,.string ⟨T.name.toArray⟩,.string ⟨T.cycle.toArray⟩,.slice Ai T.init.length ci,.slice Ac T.code.length cc,.int .i64 T.q,.int .i64 T.k,.int .i64 T.t,.int .i64 T.r,.string ⟨T.l.toArray⟩,.int .i64 T.v,.slice A0 T.kids.len q0]).alloc (.cells #[.int .i64 T.arch,.string ⟨T.name.toArray⟩,.string ⟨T.cycle.toArray⟩,.slice Ai T.init.length ci,.slice Ac T.code.length cc,.int .i64 T.q,.int .i64 T.k,.int .i64 T.t,.int .i64 T.r,.string ⟨T.l.toArray⟩,.int .i64 T.v,.slice A0 T.kids.len q0] 32 (0,0));have h2:=Zfl w (.cells #[.int .i64 T.arch,.string ⟨T.name.toArray⟩,.string ⟨T.cycle.toArray⟩,.slice Ai T.init.length ci,.slice Ac T.code.length cc,.int .i64 T.q,.int .i64 T.k,.int .i64 T.t,.int .i64 T.r,.string ⟨T.l.toArray⟩,.int .i64 T.v,.slice A0 T.kids.len q0] 32 (0,0)) 32 #[.int .i64 T.arch,.string ⟨T.name.toArray⟩,.string ⟨T.cycle.toArray⟩,.slice Ai T.init.length ci,.slice Ac T.code.length cc,.int .i64 T.q,.int .i64 T.k,.int .i64 T.t,.int .i64 T.r,.string ⟨T.l.toArray⟩,.int .i64 T.v,.slice A0 T.kids.len q0];have HK1:=Zh h1;have HK2:=Zh h2;clear hT ha hcod hck hall hks hE h1 h2;go_enter Tryz.func14,Tryz.ntmps14
 go_wp2_with ((go_at_call 33;refine (HC.o _ HB0.o).mono ?_);rintro e w2 ⟨rfl,hb2⟩;refine Hid.o ?_)
 refine Zh ?_;have HB:=Zh (Zab HB0.o hb2);have HK1:=Zh (HK1.o.go hb2);have HK2:=Zh (HK2.o.go hb2);have c5:=HK1.o.cl 5;have d5:=HK2.o.cl 5;clear hb2 HB0
 go_wp2_with fail
 clear c5 d5;go_loopw [5] (fun v wr=>∃ i:Nat,i<=T.init.length/\v=.int .i64 i/\Below w.heap.size w wr/\Blk wr w.heap.size 32 #[.int .i64 T.arch,.string ⟨T.name.toArray⟩,.string ⟨T.cycle.toArray⟩,.slice Ai T.init.length ci,.slice Ac T.code.length cc,.int .i64 T.q,.int .i64 T.k,.int .i64 T.t,.int .i64 T.r,.string ⟨T.l.toArray⟩,.int .i64 T.v,.slice A0 T.kids.len q0]/\Blk wr (w.heap.size+1) 32 #[.int .i64 T.arch,.string ⟨T.name.toArray⟩,.string ⟨T.cycle.toArray⟩,.slice Ai T.init.length ci,.slice Ac T.code.length cc,.int .i64 T.q,.int .i64 T.k,.int .i64 T.t,.int .i64 T.r,.string ⟨T.l.toArray⟩,.int .i64 T.v,.slice A0 T.kids.len q0]) (fun v _=>T.init.length - (intOf v).toNat)
 case atStart=>exact⟨0,Nat.zero_le _,rfl,HB.o,HK1.o,HK2.o⟩
 case round=>
  obtain⟨i,hi,rfl,hb,hk1,hk2⟩:=hrel;have HB:=Zh hb;have HK1:=Zh hk1;have HK2:=Zh hk2;have c3:=hk1.cl 3;have d3:=hk2.cl 3;have c5:=hk1.cl 5;have d5:=hk2.cl 5;have c6:=hk1.cl 6;have d6:=hk2.cl 6;have c7:=hk1.cl 7;have d7:=hk2.cl 7;have c8:=hk1.cl 8;have d8:=hk2.cl 8;have c9:=hk1.cl 9;have d9:=hk2.cl 9;have c10:=hk1.cl 10;have d10:=hk2.cl 10;have c11:=hk1.cl 11;have d11:=hk2.cl 11;clear hb hk1 hk2;have hii:(0:Int)<=(i:Int):=ω;by_cases hlt:i<T.init.length
  ·have hij:(i:Int)<(T.init.length:Int):=ω;obtain⟨x,hx⟩:∃ x,T.init[i]?=some x:=⟨_,List.getElem?_eq_getElem hlt⟩;obtain⟨b,o,rfl,i0,i1,i2,i3,i4,i5,i6,_⟩:=(HT.o _ HB.o).init i x hx;clear hx
   go_wp2_with fail
   go_quiet (fail)
   go_wp2_with fail
   go_roundw
   case rel=>exact⟨i+1,ω,by go_num,Zag HB.o _,HK1.o,HK2.o⟩
   case measure=>simp [intOf];omega
  ·have hil:i=T.init.length:=ω;subst hil
   go_wp2_with ((go_at_call 34;refine (HN.o _ HB.o).mono ?_);rintro e w3 ⟨rfl,hb3⟩;have HB3:=Zh (Zab HB.o hb3);clear hb3;refine Hid.o ?_)
   refine Zh ?_
   go_wp2_with fail
   go_ret;exact⟨rfl,HB3.o⟩
end
section
set_option maxHeartbeats 4000000
set_option maxRecDepth 100000
theorem isM {w:World}{B B2 g:Nat}{T:Tst}{m:BMc}{V:MMv}{U:RmV}(hP:Zb3 w B g m V)(hR:Zz6 w B2 T m U)(hs:SOM m)(hz:∀ t∈m.tds,∀ v∈t.vs,v.1≠[]->v.2=0)(hn2:m.tds.length<=256)(hcl:m.code.length=m.tds.length)(hml:m.mem.length<=1000000) :
  Calls Tryz.prog 13 #[.pointer (some ⟨g,0,none⟩),rmV T U] w fun e w'=>e=.returned (.bool true)/\Below w.heap.size w w':=by
 obtain⟨cs,hcs⟩:∃ cs,cs=rmC T U:=⟨_,rfl⟩;obtain⟨Am,cm,emv,hmt,_⟩:=Enc.Own.at_ hR.mem;have hr:rmV T U=.agg cs:=by rw [hcs];rfl
 have hc14:cs[14]?=some (.slice Am m.mem.length cm):=by rw [hcs,<- emv];rfl
 have hsz:cs.size=16:=by rw [hcs];rfl
 have HP:=Zh (fun (W:World) (hW:Below w.heap.size w W)=>hP.below hW);have HR:=Zh (fun (W:World) (hW:Below w.heap.size w W)=>hR.below hW);have HMt:=Zh (fun (W:World) (hW:Below w.heap.size w W)=>hmt.below hW);have H1:=Zh (fun (W:World) (hW:Below w.heap.size w W)=>Z69 (hP.below hW) hn2 hcl);have H2:=Zh (fun (W:World) (hW:Below w.heap.size w W)=>by have:=Z5p (hR.below hW) hn2 hcl;rw [hr] at this;exact this);have H3:=Zh (fun (W:World) (hW:Below w.heap.size w W)=>mmP (hP.below hW) hml);have H4:=Zh (fun (W:World) (hW:Below w.heap.size w W)=>stP (hP.below hW) hs);have H5:=Zh (fun (W:World) (hW:Below w.heap.size w W)=>by have:=Z6g (hR.below hW) hs hz;rw [hr] at this;exact this);have hl1:(Zj9 m).length<=1000000:=Nat.le_trans (Zgs m m.tds.length) ω;have hl2:(Zdj m).length<=1000000:=by have:=hs.len;unfold Zdj;rw [List.length_map];omega
 rw [hr];have HCZ:=Zh hsz;have HC14:=Zh hc14;have HBx:=Zh (Zad w (.cells cs 54 (0,0)));have HXx:=Zh (Blk.new w 54 cs);clear hP hR hs hz hcs emv hmt hr hc14 hsz;go_enter Tryz.func13,Tryz.ntmps13
 go_wp2_with fail
 generalize w.alloc _=W at *;have HB:=Zh HBx.o.drew;have HX:=Zh HXx.o.drew;clear HBx HXx;refine wz (fun y:World=>y.cell? ⟨w.heap.size,14,none⟩=some (.slice Am m.mem.length cm)/\Blk y w.heap.size 54 cs) [1,2,7,9,14,15] ⟨by rw [HX.o.cell,HC14.o],HX.o⟩ (fun hHeld=>?_);refine wq 0 ?_;refine wv 2 (.agg cs) rfl (fun x' hS=>Zay rfl rfl (run_loadVar_row x' w.heap.size _ _ cs (0,0) _ hS.2 Tryz.underlying54 rfl (by rw [HCZ.o];kernel_rfl))) (by assumption) ?_;clear hHeld;refine Zan (i:=1) κ rfl (fun K hK=>?_);go_simp;refine (H1.o _ HB.o).mono ?_;rintro e w1 ⟨v1,rfl,ho1,hb1⟩;obtain⟨A1,c1,rfl,ha1,_⟩:=Enc.Own.at_ ho1;have hbx:=HX.o.go hb1;refine hK.out _ _ ⟨by rw [hbx.cell,HC14.o],hbx⟩ ?_;have HB:=Zh (Zab HB.o hb1);have HX:=Zh hbx;clear hK K hbx;refine pu ?_;refine Zan (i:=3) κ rfl (fun K hK=>?_);go_simp;refine (H2.o _ HB.o).mono ?_;rintro e w3 ⟨v3,rfl,ho3,hb3⟩;obtain⟨A3,c3,rfl,ha3,_⟩:=Enc.Own.at_ ho3;have HE:=Zh (Zzi A1 A3 c1 c3 (Zj9 m) w3 hl1 (ha1.below hb3) ha3);have hbx:=HX.o.go hb3;refine hK.out _ _ ⟨by rw [hbx.cell,HC14.o],hbx⟩ ?_;have HB:=Zh (Zab HB.o hb3);have HX:=Zh hbx;clear hK K hbx;refine pu ?_;refine Zan (i:=4) κ rfl (fun K hK=>?_);go_simp;refine (HE.o).mono ?_;rintro e w4 ⟨rfl,hb4⟩;have hbx:=HX.o.go hb4;refine hK.out _ _ ⟨by rw [hbx.cell,HC14.o],hbx⟩ ?_;have HB:=Zh (Zab HB.o hb4);have HX:=Zh hbx;clear hK K hbx;refine pu ?_;clear HE ho1 ho3 ha1 ha3 hb1 hb3 hb4;refine wq 5 ?_;refine wq 6 ?_
 refine wq 8 ?_;have hHeld:w4.cell? ⟨w.heap.size,14,none⟩=some (.slice Am m.mem.length cm)/\Blk w4 w.heap.size 54 cs:=⟨by rw [HX.o.cell,HC14.o],HX.o⟩;refine wt 9 (by assumption) ?_;clear hHeld;refine Zan (i:=7) κ rfl (fun K hK=>?_);go_simp;refine (H3.o _ HB.o).mono ?_;rintro e w7 ⟨v7,rfl,ho7,hb7⟩;obtain⟨A7,c7,rfl,ha7,_⟩:=Enc.Own.at_ ho7;have HE:=Zh (Zwn A7 Am c7 cm m.mem w7 hml ha7 (HMt.o _ (Zab HB.o hb7)));have hbx:=HX.o.go hb7;refine hK.out _ _ ⟨by rw [hbx.cell,HC14.o],hbx⟩ ?_;have HB:=Zh (Zab HB.o hb7);have HX:=Zh hbx;clear hK K hbx;refine pu ?_;refine Zan (i:=10) κ rfl (fun K hK=>?_);go_simp;refine (HE.o).mono ?_;rintro e w8 ⟨rfl,hb8⟩;have hbx:=HX.o.go hb8;refine hK.out _ _ ⟨by rw [hbx.cell,HC14.o],hbx⟩ ?_;have HB:=Zh (Zab HB.o hb8);have HX:=Zh hbx;clear hK K hbx;refine pu ?_;clear HE ho7 ha7 hb7 hb8;refine wq 11 ?_;refine wq 12 ?_;refine wq 13 ?_;have hHeld:w8.cell? ⟨w.heap.size,14,none⟩=some (.slice Am m.mem.length cm)/\Blk w8 w.heap.size 54 cs:=⟨by rw [HX.o.cell,HC14.o],HX.o⟩;refine wv 15 (.agg cs) rfl (fun x' hS=>Zay rfl rfl (run_loadVar_row x' w.heap.size _ _ cs (0,0) _ hS.2 Tryz.underlying54 rfl (by rw [HCZ.o];kernel_rfl))) (by assumption) ?_;clear hHeld;refine Zan (i:=14) κ rfl (fun K hK=>?_);go_simp;refine (H4.o _ HB.o).mono ?_;rintro e w9 ⟨v9,rfl,ho9,hb9⟩;obtain⟨A9,c9,rfl,ha9,_⟩:=Enc.Own.at_ ho9;have hbx:=HX.o.go hb9
 refine hK.out _ _ ⟨by rw [hbx.cell,HC14.o],hbx⟩ ?_;have HB:=Zh (Zab HB.o hb9);have HX:=Zh hbx;clear hK K hbx;refine pu ?_;refine Zan (i:=16) κ rfl (fun K hK=>?_);go_simp;refine (H5.o _ HB.o).mono ?_;rintro e w5 ⟨v5,rfl,ho5,hb5⟩;obtain⟨A5,c5,rfl,ha5,_⟩:=Enc.Own.at_ ho5;have HE:=Zh (Zwn A9 A5 c9 c5 (Zdj m) w5 hl2 (ha9.below hb5) ha5);have hbx:=HX.o.go hb5;refine hK.out _ _ ⟨by rw [hbx.cell,HC14.o],hbx⟩ ?_;have HB:=Zh (Zab HB.o hb5);have HX:=Zh hbx;clear hK K hbx;refine pu ?_;refine Zan (i:=17) κ rfl (fun K hK=>?_);go_simp;refine (HE.o).mono ?_;rintro e w6 ⟨rfl,hb6⟩;have hbx:=HX.o.go hb6;refine hK.out _ _ ⟨by rw [hbx.cell,HC14.o],hbx⟩ ?_;have HB:=Zh (Zab HB.o hb6);have HX:=Zh hbx;clear hK K hbx;refine pu ?_;refine wl 18 ?_
 go_wp2_with fail
 go_ret;exact⟨rfl,HB.o⟩
end
end Go.Proofs.YtgjefdaaihgliaaGreatDoor
