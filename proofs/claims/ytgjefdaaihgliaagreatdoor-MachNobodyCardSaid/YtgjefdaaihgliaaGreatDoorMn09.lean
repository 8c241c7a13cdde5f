/- Lists of ints in blocks of the call's own; make. -/
import Derived.Test.YtgjefdaaihgliaaGreatDoorMn06

namespace Go.Proofs.YtgjefdaaihgliaaGreatDoor
open Go.RowKit
abbrev Zbs (l:List Int):Array Value:=(l.map (Value.int .i64)).toArray
theorem Zn9 {l:List Int}{i:Nat}{v:Int}(h:l[i]?=some v):(Zbs l)[i]?=some (.int .i64 v):=by simp [Zbs,h]
theorem Zlg (l:List Int)(i:Nat)(v:Int):(Zbs l).setIfInBounds i (.int .i64 v)=Zbs (l.set i v):=by
 simp [Zbs,List.map_set]
theorem Zyx (v:Value)(n:Nat):madeCells #[v] n=(List.replicate n v).toArray:=by
 unfold madeCells;apply Array.ext
 ·simp
 ·intro i h1 h2;simp [Nat.mod_one]
theorem Zvf (n:Nat):madeCells #[.int .i64 0] n=Zbs (List.replicate n 0):=by
 rw [Zyx];simp [Zbs]
theorem Zbx {o:Option TypeInfo}{z:Option Value}{a b:Nat}(h:o.map (fun i=>(i.zero,i.size,i.bytes))=some (z,a,b)):∃ i,o=some i/\i.zero=z/\i.size=a/\i.bytes=b:=by
 cases o with
 | none=>cases h
 | some i=>simp at h;exact⟨i,rfl,h.1,h.2.1,h.2.2⟩
theorem Zyh:(Tryz.prog.info? 3).map (fun i=>(i.zero,i.size,i.bytes))=some (some (.int .i64 0),1,8):=by kernel_rfl
theorem Znc (n:Nat)(hn:n<=1000000)(w:World):(Instr.makeSlice 37 (.int .i64 (n:Int)) (.int .i64 (n:Int))).run Tryz.prog w=.ok (.slice (some ⟨w.heap.size,0,none⟩) n n) (w.alloc (.cells (Zbs (List.replicate n 0)) 3 (0,0))):=by
 obtain⟨i0,hi,hz0,hz1,hz2⟩:=Zbx Zyh;have h:=run_make (P:=Tryz.prog) w 37 3 i0 _ Tryz.underlying37 hi hz0 .i64 .i64 (n:Int) (n:Int) ω (Int.le_refl _) (by rw [hz2];omega) ω;rw [h,hz1];simp only [Int.toNat_natCast,Nat.mul_one];rw [show (Value.int .i64 0).cells=#[Value.int .i64 0] from rfl,Zvf]
def Zgz (w:World)(b:Nat)(o:Obj):Prop:=w.heap[b]?=some o
section
variable {w w':World} {b:Nat} {o:Obj}
theorem Zgz.lt (h:Zgz w b o):b<w.heap.size:=(Array.getElem?_eq_some_iff.1 h).1
theorem Zgz.new (w:World)(o:Obj):Zgz (w.alloc o) w.heap.size o:=heap_alloc_new w _
theorem Zgz.alloc (h:Zgz w b o)(x:Obj):Zgz (w.alloc x) b o:=(Below.heap_alloc w x b h.lt).trans h
theorem Zgz.far (h:Zgz w b o){p:Addr}(hp:b≠p.block)(u:Value):Zgz (w.setCell p u) b o:=(Below.heap_setCell w p u b hp).trans h
theorem Zgz.go (h:Zgz w b o)(hb:Below w.heap.size w w'):Zgz w' b o:=(hb.block b h.lt).trans h
end
structure Enc (α:Type) where
 size:Nat
 enc:α->List Value
 len:∀ x,(enc x).length=size
 pos:0<size
 one:∀ x,∀ u∈enc x,u.oneCell'=true
namespace Enc
variable {α:Type} (E:Enc α)
def flat (l:List α):List Value:=(l.map E.enc).flatten
theorem flat_cons (x:α)(l:List α):E.flat (x :: l)=E.enc x++E.flat l:=rfl
theorem flat_append (a b:List α):E.flat (a++b)=E.flat a++E.flat b:=by simp [flat]
theorem Zyg (x:α):E.flat [x]=E.enc x:=by simp [flat]
theorem flat_snoc (l:List α)(x:α):E.flat (l++[x])=E.flat l++E.enc x:=by rw [flat_append,Zyg]
theorem flat_len (l:List α):(E.flat l).length=l.length*E.size:=by
 induction l with
 | nil=>simp [flat]
 | cons x l ih=>rw [flat_cons,List.length_append,ih,E.len,List.length_cons,Nat.succ_mul];omega
theorem flat_at:∀ {l:List α} {i:Nat} {x:α} (_:l[i]?=some x) {j:Nat} (_:j<E.size),(E.flat l)[i*E.size+j]?=(E.enc x)[j]?
 | [],i,x,h,j,hj=>by simp at h
 | y :: l,0,x,h,j,hj=>by
  simp at h;subst h;rw [flat_cons,Nat.zero_mul,Nat.zero_add,List.getElem?_append_left (by rw [E.len];exact hj)]
 | y :: l,i+1,x,h,j,hj=>by
  simp only [List.getElem?_cons_succ] at h;have ih:=flat_at h hj;rw [flat_cons,List.getElem?_append_right (by rw [E.len,Nat.succ_mul];omega),E.len,<- ih]
  congr 1
  rw [Nat.succ_mul];omega
def At (w:World)(A:Option Addr)(l:List α):Prop:=∀ i x,l[i]?=some x->∃ b o,A=some ⟨b,o,none⟩/\∀ j u,(E.enc x)[j]?=some u->w.cell? ⟨b,o+i*E.size+j,none⟩=some u
variable {E}
theorem At.below {w w':World}{A:Option Addr}{l:List α}(h:E.At w A l)(hb:Below w.heap.size w w'):E.At w' A l:=fun i x hx=>by
 obtain⟨b,o,e,hc⟩:=h i x hx;exact⟨b,o,e,fun j u hj=>Zac (hc j u hj) hb⟩
theorem At.nil (w:World)(A:Option Addr):E.At w A []:=fun i x h=>by simp at h
theorem At.drop {w:World}{b o:Nat}{l:List α}(h:E.At w (some ⟨b,o,none⟩) l)(k:Nat):E.At w (some ⟨b,o+k*E.size,none⟩) (l.drop k):=by
 intro i x hx;rw [List.getElem?_drop] at hx;obtain⟨b',o',e,hc⟩:=h _ x hx;cases e
 refine⟨b,o+k*E.size,rfl,fun j u hj=>?_⟩;have:=hc j u hj
 rwa [show o+(k+i)*E.size=o+k*E.size+i*E.size by rw [Nat.add_mul];omega] at this
abbrev Own (E:Enc α)(T:TypeId)(B:Nat)(w:World)(v:Value)(l:List α):Prop:=w.ownsRow B T E.size v l.length (E.flat l)
theorem Own.at_ {T:TypeId}{B:Nat}{w:World}{v:Value}{l:List α}(h:E.Own T B w v l):∃ A cap,v=.slice A l.length cap/\E.At w A l/\(∀ p,A=some p->B<=p.block)/\l.length<=cap:=by
 obtain⟨A,cap,rfl⟩:=Zbe h;rcases h.2 with ⟨e,h0⟩ | ⟨g,cap',cur,e,h1,h2,h3,h4,h5,h6⟩
 ·simp only [Value.slice.injEq] at e;obtain⟨rfl,e2,rfl⟩:=e;refine⟨none,0,rfl,?_,(fun p hp=>by cases hp),ω⟩;have:l=[]:=List.length_eq_zero_iff.1 h0;subst this;exact At.nil _ _
 ·simp only [Value.slice.injEq,true_and] at e;obtain⟨rfl,rfl⟩:=e;refine⟨_,cap,rfl,fun i x hx=>?_,(fun p hp=>by cases hp;exact h1),h3⟩;refine⟨g,0,rfl,fun j u hj=>?_⟩;have hjs:j<E.size:=by have:=(List.getElem?_eq_some_iff.1 hj).1;rwa [E.len] at this
  have hi:=(List.getElem?_eq_some_iff.1 hx).1;have hlt:i*E.size+j<l.length*E.size:=by
   have:(i+1)*E.size<=l.length*E.size:=Nat.mul_le_mul_right _ hi;rw [Nat.succ_mul] at this;omega
  rw [Nat.zero_add,h.cellAt _ hlt,E.flat_at hx hjs];exact hj
structure Elem (E:Enc α) (T S:TypeId) (bytes:Nat):Prop where
 sl:Tryz.prog.underlying S=some (.slice T)
 info:∃ z:Value,(Tryz.prog.info? T).map (fun i=>(i.zero,i.size,i.bytes))=some (some z,E.size,bytes)/\z.cells.size=E.size
theorem app {T S:TypeId}{bytes:Nat}(hE:E.Elem T S bytes){ops:Array Oper}{rest:List Oper}{o:Oper}{a:Act}{Q:Exit->Act->World->Prop}(W:World)
  (hg:o.guard=none) (s x:Operand) (hop:o.op=Op.call { callee:=Callee.builtin Builtin.append,args:=#[s,x],argTypes:=#[S,S] })
  (y:α) (B:Nat) (l:List α) (v:Value) (hs:a.eval s=v) (hx:a.eval x=.slice (some ⟨W.heap.size,0,none⟩) 1 1)
  (hown:E.Own T B W v l) (b1:l.length+1<=1152921504606846976) (b2:(l.length+1)*bytes<=140737488355328) (hB:B<=W.heap.size)
  (hK:∀ v' w1,E.Own T B w1 v' (l++[y])->Z3y W w1 B v->wpList Tryz.prog ops Q rest (a.put o.dst v') w1) :
  wpList Tryz.prog ops Q (o :: rest) a (W.alloc (.cells (E.enc y).toArray T (0,0))):=by
 obtain⟨z,hz,hzs⟩:=hE.info;refine Zie W hg s x S T hop z E.size bytes hE.sl hz hzs E.pos (E.enc y) (E.len y) (E.one y) B l.length (E.flat l) v hs hx hown b1 b2 hB (fun v' w1 h1 h2=>hK v' w1 ?_ h2);show w1.ownsRow B T E.size v' (l++[y]).length (E.flat (l++[y]));rw [E.flat_snoc,List.length_append];exact h1
theorem Own.nil (T:TypeId)(B:Nat)(w:World):E.Own T B w (.slice none 0 0) []:=World.ownsRow_nil _ _ _ _
theorem Own.below {T:TypeId}{B:Nat}{w w':World}{v:Value}{l:List α}(h:E.Own T B w v l)(hb:Below w.heap.size w w'):E.Own T B w' v l:=Zah h hb
theorem Own.shp {T:TypeId}{B:Nat}{w:World}{v:Value}{l:List α}(h:E.Own T B w v l):∃ A cap,v=.slice A l.length cap:=Zbe h
end Enc
abbrev Zde:Enc Int:=⟨1,fun n=>[.int .i64 n],fun _=>rfl,ω,fun _ u h=>by simp at h;subst h;rfl⟩
abbrev Zc1:Enc (List UInt8):=⟨1,fun s=>[.string ⟨s.toArray⟩],fun _=>rfl,ω,fun _ u h=>by simp at h;subst h;rfl⟩
theorem Zmm:Zde.Elem 3 37 8:=⟨Tryz.underlying37,.int .i64 0,κ,rfl⟩
theorem Zod:Zc1.Elem 9 34 16:=⟨Tryz.underlying34,.string ⟨#[]⟩,κ,rfl⟩
theorem Zmv:∀ a b:List UInt8,Op.bytesLess a b=decide (Lib.compareBytes a b<0)
 | [],[]=>by simp [Op.bytesLess,Lib.compareBytes]
 | [],_ :: _=>by simp [Op.bytesLess,Lib.compareBytes]
 | _ :: _,[]=>by simp [Op.bytesLess,Lib.compareBytes]
 | x :: a,y :: b=>by
  rw [Bool.eq_iff_iff,decide_eq_true_iff,Zmj];unfold Op.bytesLess;rw [Zmv a b];simp [UInt8.lt_iff_toNat_lt,<- UInt8.toNat_inj]
def Zh9 (x y:Th):Bool:=
 if decide (x.1=-1) != decide (y.1=-1) then decide (y.1=-1)
 else if x.1≠y.1 then decide (x.1<y.1) else if x.2.1≠y.2.1 then decide (x.2.1<y.2.1) else decide (Lib.compareBytes x.2.2 y.2.2<0)
def Zkh (x:Th):List Th->List Th
 | []=>[x]
 | y :: r=>if Zh9 x y then x :: y :: r else y :: Zkh x r
def Zou (x:Th)(l:List Th):List Th:=if x∈l then l else Zkh x l
def Zkt (L acc:List Th):List Th:=L.foldl (fun a x=>Zou x a) acc
def Zky (x:Th)(l:List Th):List Th:=if l.any (Zh9 x) then Zkh x l else l
theorem Zwe {x:Th}:∀ {l:List Th},l.any (Zh9 x)=false->Zkh x l=l++[x]
 | [],_=>rfl
 | y :: r,h=>by
  simp only [List.any_cons,Bool.or_eq_false_iff] at h;simp [Zkh,h.1,Zwe h.2]
theorem Zpe {x y:Th}:∀ {l:List Th},l.any (Zh9 x)=true->Zkh x (l++[y])=Zkh x l++[y]
 | [],h=>by simp at h
 | z :: r,h=>by
  by_cases hz:Zh9 x z=true
  ·simp [Zkh,hz]
  ·simp only [List.any_cons,Bool.or_eq_true] at h;have:=Zpe (y:=y) (h.resolve_left hz);simp [Zkh,hz,this]
theorem Zwd {x y:Th}:∀ {l:List Th},l.any (Zh9 x)=false->Zh9 x y=true->Zkh x (l++[y])=l++[x,y]
 | [],_,h=>by simp [Zkh,h]
 | z :: r,h,k=>by
  simp only [List.any_cons,Bool.or_eq_false_iff] at h;simp [Zkh,h.1,Zwd h.2 k]
theorem Zs1 {x y:Th}{l:List Th}(h:l.any (Zh9 x)=true):Zky x (l++[y])=Zky x l++[y]:=by
 unfold Zky;rw [if_pos (by simp [h]),if_pos h,Zpe h]
theorem Zs2 {x y:Th}{l:List Th}(h:l.any (Zh9 x)=false)(k:Zh9 x y=true):Zky x (l++[y])=Zky x l++[x]++[y]:=by
 unfold Zky;rw [if_pos (by simp [k]),if_neg (by simp [h]),Zwd h k];simp
theorem Zs3 {x y:Th}{l:List Th}(h:l.any (Zh9 x)=false)(k:Zh9 x y=false):Zky x (l++[y])=Zky x l++[y]:=by
 unfold Zky;rw [if_neg (by simp [h,k]),if_neg (by simp [h])]
theorem Zwb {x:Th}{l:List Th}(h:l.any (Zh9 x)=true):Zkh x l=Zky x l:=by unfold Zky;rw [if_pos h]
theorem Zwc {x:Th}{l:List Th}(h:l.any (Zh9 x)=false):Zkh x l=Zky x l++[x]:=by unfold Zky;rw [if_neg (by simp [h]),Zwe h]
theorem Znk (x:Th):∀ l,(Zkh x l).length=l.length+1
 | []=>rfl
 | y :: r=>by unfold Zkh;split <;> simp [Znk x r]
theorem Zze (x:Th)(l:List Th):(Zky x l).length<=l.length+1:=by unfold Zky;split <;> simp [Znk]
theorem Zyn (x:Th)(l:List Th):(Zou x l).length<=l.length+1:=by unfold Zou;split <;> simp [Znk]
theorem Zra:∀ (L acc:List Th),(Zkt L acc).length<=acc.length+L.length
 | [],_=>by simp [Zkt]
 | x :: L,acc=>by
  have h1:=Zra L (Zou x acc);have h2:=Zyn x acc;simp only [Zkt,List.foldl_cons,List.length_cons] at h1 ⊢;omega
theorem Zqa (L M acc:List Th):Zkt (L++M) acc=Zkt M (Zkt L acc):=by simp [Zkt,List.foldl_append]
def Zpv (w:World)(A:Option Addr)(T:List Th):Prop:=∀ i x,T[i]?=some x->∃ b o,A=some ⟨b,o,none⟩/\w.cell? ⟨b,o+i*3,none⟩=some (.int .i64 x.1)/\w.cell? ⟨b,o+i*3+1,none⟩=some (.int .i64 x.2.1)/\w.cell? ⟨b,o+i*3+2,none⟩=some (.string ⟨x.2.2.toArray⟩)
theorem Zpv.below {w w':World}{A:Option Addr}{T:List Th}(h:Zpv w A T)(hb:Below w.heap.size w w'):Zpv w' A T:=fun i x hx=>by
 obtain⟨b,o,e,c0,c1,c2⟩:=h i x hx;exact⟨b,o,e,Zac c0 hb,Zac c1 hb,Zac c2 hb⟩
theorem Zpv.nil (w:World)(A:Option Addr):Zpv w A []:=fun i x h=>by simp at h
def Z07 (N:Nat)(A:Option Addr):Prop:=∀ p,A=some p->N<=p.block
def Zto (N:Nat)(w:World)(A:Option Addr)(cap:Nat)(T:List Th):Prop:=Zpv w A T/\Z07 N A/\w.ownsRow N 25 3 (.slice A T.length cap) T.length (Za1 T)
theorem Zto.below {N:Nat}{w w':World}{A:Option Addr}{cap:Nat}{T:List Th}(h:Zto N w A cap T)(hb:Below w.heap.size w w'):Zto N w' A cap T:=⟨h.1.below hb,h.2.1,Zah h.2.2 hb⟩
theorem Zto.nil (N:Nat)(w:World):Zto N w none 0 []:=⟨Zpv.nil _ _,(fun _ e=>by cases e),World.ownsRow_nil _ _ _ _⟩
def Zlb (N:Nat)(T:List Th)(w:World)(e:Ending)(w':World):Prop:=∃ A cap,e=.returned (.slice A T.length cap)/\Zto N w' A cap T/\Below w.heap.size w w'
theorem Zkl:∀ (L:List Th) (i:Nat) (x:Th),L[i]?=some x->(Za1 L)[i*3]?=some (.int .i64 x.1)/\(Za1 L)[i*3+1]?=some (.int .i64 x.2.1)/\(Za1 L)[i*3+2]?=some (.string ⟨x.2.2.toArray⟩)
 | [],_,_,h=>by simp at h
 | y :: r,0,x,h=>by
  simp only [List.getElem?_cons_zero,Option.some.injEq] at h;subst h;exact⟨rfl,rfl,rfl⟩
 | y :: r,i+1,x,h=>by
  obtain⟨a,b,c⟩:=Zkl r i x (by simpa using h);have e:(i+1)*3=i*3+1+1+1:=ω;rw [e];exact⟨by simpa [Za1,Zf0] using a,by simpa [Za1,Zf0] using b,by simpa [Za1,Zf0] using c⟩
theorem Zet {w:World}{B:Nat}{v:Value}{T:List Th}(h:w.ownsRow B 25 3 v T.length (Za1 T)):∃ A cap,v=.slice A T.length cap/\Zpv w A T:=by
 obtain⟨A,cap,rfl⟩:=Zbe h;refine⟨A,cap,rfl,fun i x hx=>?_⟩;have hi:=(List.getElem?_eq_some_iff.1 hx).1;obtain⟨a,b,c⟩:=Zkl T i x hx;rcases h.2 with ⟨e,h0⟩ | ⟨g,cap',cur,e,_⟩
 ·omega
 simp only [Value.slice.injEq,true_and] at e;obtain⟨rfl,rfl⟩:=e;have hl:=Zfu T;refine⟨g,0,rfl,?_,?_,?_⟩
 ·rw [Nat.zero_add,h.cellAt _ ω];exact a
 ·rw [Nat.zero_add,h.cellAt _ ω];exact b
 ·rw [Nat.zero_add,h.cellAt _ ω];exact c
section
variable {w:World}
set_option maxHeartbeats 2000000 in
set_option maxRecDepth 100000 in
theorem Z8v (t r:Int)(l:List UInt8)(t' r':Int)(l':List UInt8)(w:World) :
  Calls Tryz.prog 135 #[Zek t r l,Zek t' r' l'] w (RB w (.bool (Zh9 (t,r,l) (t',r',l')))):=by
 have HR:=Zh (show Zh9 (t,r,l) (t',r',l')=if decide (t=-1) != decide (t'=-1) then decide (t'=-1) else if t≠t' then decide (t<t') else if r≠r' then decide (r<r') else Op.bytesLess l l' by rw [Zmv];rfl);by_cases h1:t=-1
 ·by_cases h2:t'=-1
  ·subst h1 h2;by_cases h4:r=r'
   ·subst h4;have H:=Zh (show Zh9 (-1,r,l) (-1,r,l')=Op.bytesLess l l' by rw [HR.o];simp);exact m_59
   ·have H:=Zh (show Zh9 (-1,r,l) (-1,r',l')=decide (r<r') by rw [HR.o];simp [h4]);have h5:(r != r')=true:=by simpa using h4
    exact m_59
  ·subst h1;have H:=Zh (show Zh9 (-1,r,l) (t',r',l')=false by rw [HR.o];simp [h2]);have h5:(t' == -1)=false:=by simpa using h2
   exact m_59
 ·have h3:(t == -1)=false:=by simpa using h1
  by_cases h2:t'=-1
  ·subst h2;have H:=Zh (show Zh9 (t,r,l) (-1,r',l')=true by rw [HR.o];simp [h1]);exact m_59
  ·have h5:(t' == -1)=false:=by simpa using h2
   by_cases h6:t=t'
   ·subst h6;by_cases h4:r=r'
    ·subst h4;have H:=Zh (show Zh9 (t,r,l) (t,r,l')=Op.bytesLess l l' by rw [HR.o];simp);exact m_59
    ·have H:=Zh (show Zh9 (t,r,l) (t,r',l')=decide (r<r') by rw [HR.o];simp [h4]);have h7:(r != r')=true:=by simpa using h4
     exact m_59
   ·have H:=Zh (show Zh9 (t,r,l) (t',r',l')=decide (t<t') by rw [HR.o];simp [h1,h2,h6]);have h7:(t != t')=true:=by simpa using h6
    exact m_59
end
section
variable {P:Program} {ops:Array Oper} {Q:Exit->Act->World->Prop} {md:Region.Mode} {S:World->Prop} {E:List Nat}
def Zbo (P:Program)(md:Region.Mode)(ops:Array Oper)(Q:Exit->Act->World->Prop)(S:World->Prop)(E:List Nat):Nat->Array Bool->Act->World->Prop
 | 0,listed,a,w=>Region.ready md ops listed=[]/\Q .normal a w
 | fuel+1,listed,a,w=>(Region.ready md ops listed=[]->Q .normal a w)/\
  ∀ i∈Region.ready md ops listed,wpOp P ops Q i (fun a' w'=>(E.contains i=true->S w')/\Zbo P md ops Q S E fuel (listed.setIfInBounds i true) a' w') a w
theorem Zmc:∀ (fuel:Nat) (listed:Array Bool) (a:Act) (w:World),Zbo P md ops Q S E fuel listed a w->wpAny P md ops Q fuel listed a w
 | 0,_,_,_,h=>h
 | fuel+1,_,_,_,h=>⟨h.1,fun i hi=>wpOp_mono (fun a' w' h'=>Zmc fuel _ a' w' h'.2) (h.2 i hi)⟩
def Zma (md:Region.Mode)(ops:Array Oper):Nat->Nat->Nat->Bool
 | 0,_,_=>false
 | f+1,j,i=>match ops[j]? with
  | some oj=>oj.after.any fun e=>Region.binds md e&&(e.on == i||Zma md ops f e.on i)
  | none=>false
def Zla (md:Region.Mode)(ops:Array Oper)(listed:Array Bool):Prop:=∀ (j:Nat) (oj:Oper),ops[j]?=some oj->listed.getD j false=true->∀ e∈oj.after,Region.binds md e=true->listed.getD e.on false=true
def Zuc (md:Region.Mode)(ops:Array Oper)(listed:Array Bool):Bool:=(List.range ops.size).all fun j=>!listed.getD j false||(match ops[j]? with
 | some oj=>oj.after.all fun e=>!Region.binds md e||listed.getD e.on false
 | none=>true)
theorem Zud {listed:Array Bool}(h:Zuc md ops listed=true):Zla md ops listed:=fun j oj hoj hl e he hb=>by
 have hjs:j<ops.size:=(Array.getElem?_eq_some_iff.1 hoj).1;have h1:=List.all_eq_true.1 h j (List.mem_range.2 hjs);rw [hl,hoj] at h1;simp only [Bool.not_true,Bool.false_or] at h1;have h2:=Array.all_eq_true'.1 h1 e he;rw [hb] at h2;simpa using h2
theorem Zla.set {listed:Array Bool}{i:Nat}(h:Zla md ops listed)(hi:i∈Region.ready md ops listed):Zla md ops (listed.setIfInBounds i true):=fun j oj hoj hl e he hb=>by
 obtain⟨_,oi,hoi,hall⟩:=mem_ready.1 hi;by_cases hij:i=j
 ·subst hij;rw [hoi] at hoj;cases hoj
  exact getD_set_true (hall e he hb)
 ·rw [getD_set_ne false hij] at hl;exact getD_set_true (h j oj hoj hl e he hb)
theorem Ziy {listed:Array Bool}(h:Zla md ops listed){i:Nat}:∀ (f j:Nat) (oj:Oper),ops[j]?=some oj->(∀ e∈oj.after,Region.binds md e=true->listed.getD e.on false=true)->Zma md ops f j i=true->listed.getD i false=true
 | 0,_,_,_,_,hw=>by cases hw
 | f+1,j,oj,hoj,hall,hw=>by
  unfold Zma at hw;rw [hoj] at hw;simp only [] at hw;obtain⟨e,he,hb⟩:=Array.any_eq_true'.1 hw;simp only [Bool.and_eq_true,Bool.or_eq_true,beq_iff_eq] at hb;have hl:=hall e he hb.1;rcases hb.2 with h1 | h1
  ·rw [<- h1];exact hl
  ·cases hok:ops[e.on]? with
   | none=>
    cases f with
    | zero=>cases h1
    | succ f=>unfold Zma at h1;rw [hok] at h1;cases h1
   | some ok=>exact Ziy h f e.on ok hok (fun e2 he2 hb2=>h e.on ok hok hl e2 he2 hb2) h1
def Zld (md:Region.Mode)(ops:Array Oper)(E:List Nat)(listed:Array Bool)(i:Nat):Bool:=Zuc md ops listed&&(List.range ops.size).all fun j=>j == i||listed.getD j true||Zma md ops ops.size j i||E.contains j
def Z03 (md:Region.Mode)(ops:Array Oper)(E:List Nat)(listed:Array Bool)(i:Nat):Prop:=Zla md ops listed/\∀ j,j<ops.size->j=i\/listed.getD j true=true\/Zma md ops ops.size j i=true\/E.contains j=true
theorem Zxm {listed:Array Bool}{i:Nat}(h:Zld md ops E listed i=true):Z03 md ops E listed i:=by
 unfold Zld at h;rw [Bool.and_eq_true] at h;refine⟨Zud h.1,fun j hj=>?_⟩;have:=List.all_eq_true.1 h.2 j (List.mem_range.2 hj);simp only [Bool.or_eq_true,beq_iff_eq] at this;rcases this with ((h | h) | h) | h
 ·exact Or.inl h
 ·exact Or.inr (Or.inl h)
 ·exact Or.inr (Or.inr (Or.inl h))
 ·exact Or.inr (Or.inr (Or.inr h))
theorem Ziz {i:Nat}{oi:Oper}{v:Value}{S':World->Prop}(hi:ops[i]?=some oi)(hsel:∀ (j:Nat) (o:Oper) cs b,ops[j]?=some o->o.op≠.select cs b)
  (hQ:∀ c a w,Q (.panic c) (a.put oi.dst v) w->Q (.panic c) a w) :
  ∀ (fuel:Nat) (listed:Array Bool) (a:Act) (w:World),((E.contains i=false/\∀ w,S' w)\/(Z03 md ops E listed i/\∀ w,S w->S' w))->
   (∀ j oj,ops[j]?=some oj->j≠i->listed.getD j true=false->(∀ e∈oj.after,Region.binds md e=true->e.on≠i)->oi.apart ops oj=true)->
   i∈Region.ready md ops listed->YieldsIf P ops S' oi v a->(E.contains i=true->S w)->S' w->
   Zbo P md ops Q S E fuel (listed.setIfInBounds i true) (a.put oi.dst v) w->Zbo P md ops Q S E (fuel+1) listed a w:=by
 intro fuel
 induction fuel with
 | zero=>
  intro listed a w _ _ hr hy hS hS' H;refine⟨fun h=>(by rw [h] at hr;cases hr),fun j hj=>?_⟩;by_cases hji:j=i
  ·subst hji;exact hy.wpOp hi hS' ⟨hS,H⟩
  ·have:=ready_mono hj hji;rw [H.1] at this;cases this
 | succ fuel ih=>
  intro listed a w hcase hfree hr hy hS hS' H;refine⟨fun h=>(by rw [h] at hr;cases hr),fun j hj=>?_⟩;by_cases hji:j=i
  ·subst hji;exact hy.wpOp hi hS' ⟨hS,H⟩
  ·have h1:=H.2 j (ready_mono hj hji);obtain⟨hjun,oj,hoj,hall⟩:=mem_ready.1 hj;have hnot:∀ e∈oj.after,Region.binds md e=true->e.on≠i:=fun e he hb heq=>by
    have h1:=hall e he hb;rw [heq,getD_both (mem_ready.1 hr).1] at h1;cases h1
   have h2:=wpOp_putIf hoj (hfree j oj hoj hji hjun hnot) (fun cs b=>hsel i oi cs b hi) (fun cs b=>hsel j oj cs b hoj) hQ hy h1;have hfree':∀ k ok,ops[k]?=some ok->k≠i->(listed.setIfInBounds j true).getD k true=false->
     (∀ e∈ok.after,Region.binds md e=true->e.on≠i)->oi.apart ops ok=true:=fun k ok hk hki hun hno=>by
    refine hfree k ok hk hki ?_ hno;by_cases hjk:j=k
    ·subst hjk;exact hjun
    ·rw [getD_set_ne true hjk] at hun;exact hun
   have hswap:∀ (a':Act) (w':World),Zbo P md ops Q S E fuel ((listed.setIfInBounds i true).setIfInBounds j true) a' w'->Zbo P md ops Q S E fuel ((listed.setIfInBounds j true).setIfInBounds i true) a' w':=fun a' w' h=>by
    rw [Array.setIfInBounds_comm _ _ hji];exact h
   rcases hcase with ⟨hE,hall'⟩ | ⟨hah,hSS⟩
   ·exact wpOp_mono (fun a' w' h3=>⟨h3.2.1,ih (listed.setIfInBounds j true) a' w' (Or.inl ⟨hE,hall'⟩) hfree' (ready_mono hr (Ne.symm hji)) h3.1 (fun e=>by rw [hE] at e;cases e) (hall' w') (hswap _ _ h3.2.2)⟩) h2
   ·have hjE:E.contains j=true:=by
     have hjs:j<ops.size:=(Array.getElem?_eq_some_iff.1 hoj).1;rcases hah.2 j hjs with h | h | h | h
     ·exact absurd h hji
     ·rw [hjun] at h;cases h
     ·have:=Ziy hah.1 _ j oj hoj hall h;rw [getD_both (mem_ready.1 hr).1] at this;cases this
     ·exact h
    have hah':Z03 md ops E (listed.setIfInBounds j true) i:=by
     refine⟨hah.1.set hj,fun k hk=>?_⟩;by_cases hjk:j=k
     ·subst hjk;exact Or.inr (Or.inr (Or.inr hjE))
     ·rw [getD_set_ne true hjk];exact hah.2 k hk
    exact wpOp_mono (fun a' w' h3=>⟨h3.2.1,ih (listed.setIfInBounds j true) a' w' (Or.inr ⟨hah',hSS⟩) hfree' (ready_mono hr (Ne.symm hji)) h3.1 (fun _=>h3.2.1 hjE) (hSS _ (h3.2.1 hjE)) (hswap _ _ h3.2.2)⟩) h2
theorem Zzy {i:Nat}{oi:Oper}{v:Value}{fuel:Nat}{listed:Array Bool}{a:Act}{w:World}(hi:ops[i]?=some oi)(hE:E.contains i=false)
  (hs:Region.noSelect ops=true) (hf:Region.free md ops listed i=true) (hr:(Region.ready md ops listed).contains i=true)
  (hQ:∀ c a w,Q (.panic c) (a.put oi.dst v) w->Q (.panic c) a w) (hy:YieldsIf P ops (fun _=>True) oi v a)
  (h:Zbo P md ops Q S E fuel (listed.setIfInBounds i true) (a.put oi.dst v) w):Zbo P md ops Q S E (fuel+1) listed a w:=
 Ziz hi (Region.noSelect_spec hs) hQ fuel listed a w (Or.inl ⟨hE,fun _=>trivial⟩) (Region.free_spec hi hf) (by simpa using hr) hy (fun e=>by rw [hE] at e;cases e) trivial h
theorem Zz0 {i:Nat}{oi:Oper}{v:Value}{fuel:Nat}{listed:Array Bool}{a:Act}{w:World}(hi:ops[i]?=some oi)(hE:Zld md ops E listed i=true)
  (hs:Region.noSelect ops=true) (hf:Region.free md ops listed i=true) (hr:(Region.ready md ops listed).contains i=true)
  (hQ:∀ c a w,Q (.panic c) (a.put oi.dst v) w->Q (.panic c) a w) (hy:YieldsIf P ops S oi v a) (hS:S w)
  (h:Zbo P md ops Q S E fuel (listed.setIfInBounds i true) (a.put oi.dst v) w):Zbo P md ops Q S E (fuel+1) listed a w:=
 Ziz hi (Region.noSelect_spec hs) hQ fuel listed a w (Or.inr ⟨Zxm hE,fun _ h=>h⟩) (Region.free_spec hi hf) (by simpa using hr) hy (fun _=>hS) hS h
theorem Zan {i:Nat}{o:Oper}{fuel:Nat}{listed:Array Bool}{a:Act}{w:World}(hr:Region.ready md ops listed=[i])(ho:ops[i]?=some o)
  (h:∀ K':Act->World->Prop,Shut (∀ a w,S w->Zbo P md ops Q S E fuel (listed.setIfInBounds i true) a w->K' a w)->if Region.wanted o (yielded ops a.tmps)=true then Oper.wp P o a w K' Q else K' (a.put o.dst undef) w) :
  Zbo P md ops Q S E (fuel+1) listed a w:=by
 refine⟨fun h0=>(by rw [hr] at h0;cases h0),fun j hj=>?_⟩;rw [hr,List.mem_singleton] at hj;subst hj;exact wpOp_step ho (fun K' hK=>h K' (fun a w hS hW=>hK a w ⟨fun _=>hS,hW⟩))
theorem Zcq {i j:Nat}{o p:Oper}{fuel:Nat}{listed:Array Bool}{a:Act}{w:World}(hr:Region.ready md ops listed=[i,j])(ho:ops[i]?=some o)(hp:ops[j]?=some p)
  (h:∀ K':Act->World->Prop,Shut (∀ a w,S w->Zbo P md ops Q S E fuel (listed.setIfInBounds i true) a w->K' a w)->if Region.wanted o (yielded ops a.tmps)=true then Oper.wp P o a w K' Q else K' (a.put o.dst undef) w)
  (h2:∀ K':Act->World->Prop,Shut (∀ a w,S w->Zbo P md ops Q S E fuel (listed.setIfInBounds j true) a w->K' a w)->if Region.wanted p (yielded ops a.tmps)=true then Oper.wp P p a w K' Q else K' (a.put p.dst undef) w) :
  Zbo P md ops Q S E (fuel+1) listed a w:=by
 refine⟨fun h0=>(by rw [hr] at h0;cases h0),fun k hk=>?_⟩;rw [hr] at hk;rcases List.mem_cons.1 hk with rfl | hk
 ·exact wpOp_step ho (fun K' hK=>h K' (fun a w hS hW=>hK a w ⟨fun _=>hS,hW⟩))
 ·rw [List.mem_singleton] at hk;subst hk;exact wpOp_step hp (fun K' hK=>h2 K' (fun a w hS hW=>hK a w ⟨fun _=>hS,hW⟩))
def Z37 (md:Region.Mode)(ops:Array Oper)(E:List Nat):Nat->Nat->Array Bool->Bool
 | 0,_,listed=>(Region.ready md ops listed).isEmpty
 | g+1,k,listed=>decide (Region.ready md ops listed=[k])&&!E.contains k&&Z37 md ops E g (k+1) (listed.setIfInBounds k true)
theorem Zw7:∀ (l:List Oper) (k:Nat) (listed:Array Bool) (a:Act) (w:World),(∀ j,l[j]?=ops[k+j]?)->
  Z37 md ops E l.length k listed=true->wpList P ops Q l a w->Zbo P md ops Q S E l.length listed a w
 | [],_,_,_,_,_,hB,h=>⟨by simpa [Z37] using hB,h⟩
 | o :: l,k,listed,a,w,hl,hB,h=>by
  have h0:ops[k]?=some o:=by simpa using (hl 0).symm
  simp only [List.length_cons,Z37,Bool.and_eq_true,decide_eq_true_eq,Bool.not_eq_true'] at hB;refine⟨fun h1=>(by rw [hB.1.1] at h1;cases h1),fun i hi=>?_⟩;rw [hB.1.1] at hi;have hik:i=k:=by simpa using hi
  subst hik;have hw:wpOp P ops Q i (wpList P ops Q l) a w:=by unfold wpOp;simp only [h0];exact h
  exact wpOp_mono (fun a' w' h'=>⟨fun he=>(by rw [hB.1.2] at he;cases he),Zw7 l (i+1) _ a' w' (fun j=>by have:=hl (j+1);simpa [Nat.add_assoc,Nat.add_comm 1 j] using this) hB.2 h'⟩) hw
end
theorem Blk.sets {w:World}{p:Nat}{t:TypeId}:∀ (vs:List Value) (k:Nat) (cs:Array Value),Blk w p t cs->Blk (w.setCells p k vs) p t (vs.foldl (fun (s:Array Value×Nat) v=>(s.1.setIfInBounds s.2 v,s.2+1)) (cs,k)).1
 | [],_,_,h=>h
 | v :: r,k,_cs,h=>Blk.sets r (k+1) _ (h.set_ k v)
theorem Zal {w:World}{g p:Nat}{t:TypeId}{cs:Array Value}(h:Blk w g t cs)(hne:g≠p):∀ (vs:List Value) (k:Nat),Blk (w.setCells p k vs) g t cs:=by
 intro vs
 induction vs generalizing w with
 | nil=>intro _;exact h
 | cons v r ih=>intro k;exact ih (h.far hne v) (k+1)
theorem Zam {W w:World}{B p:Nat}(h:Below B W w)(hp:B<=p):∀ (vs:List Value) (k:Nat),Below B W (w.setCells p k vs):=by
 intro vs
 induction vs generalizing w with
 | nil=>intro _;exact h
 | cons v r ih=>intro k;exact ih (h.setCell (p:=⟨p,k,none⟩) hp v) (k+1)
theorem Blk.sets5 {w:World}{p:Nat}{t:TypeId}{cs:Array Value}(h:Blk w p t cs)(hs:cs.size=5)(a b c d e:Value):Blk (w.setCells p 0 [a,b,c,d,e]) p t #[a,b,c,d,e]:=by
 have hc:([a,b,c,d,e].foldl (fun (s:Array Value×Nat) v=>(s.1.setIfInBounds s.2 v,s.2+1)) (cs,0)).1=#[a,b,c,d,e]:=by
  obtain⟨l⟩:=cs;have hl:l.length=5:=hs;obtain⟨x0,l,rfl⟩:=List.exists_cons_of_length_eq_add_one hl;obtain⟨x1,l,rfl⟩:=List.exists_cons_of_length_eq_add_one (Nat.succ.inj hl);obtain⟨x2,l,rfl⟩:=List.exists_cons_of_length_eq_add_one (Nat.succ.inj (Nat.succ.inj hl));obtain⟨x3,l,rfl⟩:=List.exists_cons_of_length_eq_add_one (Nat.succ.inj (Nat.succ.inj (Nat.succ.inj hl)));obtain⟨x4,l,rfl⟩:=List.exists_cons_of_length_eq_add_one (Nat.succ.inj (Nat.succ.inj (Nat.succ.inj (Nat.succ.inj hl))));have h0:l=[]:=List.eq_nil_of_length_eq_zero (Nat.succ.inj (Nat.succ.inj (Nat.succ.inj (Nat.succ.inj (Nat.succ.inj hl)))));subst h0;simp
 rw [<- hc];exact Blk.sets [a,b,c,d,e] 0 cs h
theorem Zaw {w:World}{p:Nat}{t:TypeId}{cs:Array Value}(h:Blk w p t cs)(n:Nat)(hn:n<=cs.size):w.there p 0 n:=fun j hj=>by
 refine⟨?_,h.frozen _⟩;rw [h.cell,Option.isSome_iff_exists];exact⟨_,Array.getElem?_eq_getElem ω⟩
theorem Zw8 {P:Program}{id:Nat}{Q:Exit->Act->World->Prop}{a:Act}{w:World}{l:List Oper}(S:World->Prop)(E:List Nat)(hm:P.follows .mixedOrders=true)(hS:S w.drew)
  (h:S w.drew->Zbo P .any l.toArray Q S E l.length (Array.replicate l.toArray.size false) a w.drew):(Code.region id l.toArray true).wp P Q a w:=
 wp_region_any hm (Zmc _ _ _ _ (by simpa using h hS))
theorem Zzz {P:Program}{md:Region.Mode}{Q:Exit->Act->World->Prop}{S:World->Prop}{E:List Nat}{a:Act}{w:World}{l:List Oper}{listed:Array Bool}{f:Nat}(n:Nat)(hf:l.length - n=f)(hB:Z37 md l.toArray E f n listed=true)
  (h:wpList P l.toArray Q (l.drop n) a w):Zbo P md l.toArray Q S E f listed a w:=by
 have hd:(l.drop n).length=f:=by simp [hf]
 have:=Zw7 (md:=md) (S:=S) (E:=E) (l.drop n) n listed a w (fun j=>by simp [List.getElem?_drop]) (by rw [hd];exact hB) h
 rwa [hd] at this
section
variable {P:Program} {ops:Array Oper} {Q:Exit->Act->World->Prop} {md:Region.Mode} {S:World->Prop} {E:List Nat}
theorem wpP (i:Nat){oi:Oper}{v:Value}{fuel:Nat}{listed:Array Bool}{a:Act}{w:World}(hi:ops[i]?=some oi)
  (hc:(!E.contains i&&Region.noSelect ops&&Region.free md ops listed i&&(Region.ready md ops listed).contains i&&Region.wanted oi (yielded ops a.tmps))=true)
  (hy:∀ x',(execOp a.eval oi).run P x'=.ok (.value v) x') (h:Zbo P md ops Q S E fuel (listed.setIfInBounds i true) (a.put oi.dst v) w)
  (hQ:∀ c a w,Q (.panic c) (a.put oi.dst v) w->Q (.panic c) a w:=by exact fun _ _ _ h=>h):Zbo P md ops Q S E (fuel+1) listed a w:=by
 simp only [Bool.and_eq_true,Bool.not_eq_true'] at hc;exact Zzy hi hc.1.1.1.1 hc.1.1.1.2 hc.1.1.2 hc.1.2 hQ (Or.inl ⟨hc.2,fun x' _=>hy x'⟩) h
theorem wpT (i:Nat){oi:Oper}{v:Value}{fuel:Nat}{listed:Array Bool}{a:Act}{w:World}(hi:ops[i]?=some oi)
  (hc:(Zld md ops E listed i&&Region.noSelect ops&&Region.free md ops listed i&&(Region.ready md ops listed).contains i&&Region.wanted oi (yielded ops a.tmps))=true)
  (hy:∀ x',S x'->(execOp a.eval oi).run P x'=.ok (.value v) x') (hS:S w) (h:Zbo P md ops Q S E fuel (listed.setIfInBounds i true) (a.put oi.dst v) w)
  (hQ:∀ c a w,Q (.panic c) (a.put oi.dst v) w->Q (.panic c) a w:=by exact fun _ _ _ h=>h):Zbo P md ops Q S E (fuel+1) listed a w:=by
 simp only [Bool.and_eq_true] at hc;exact Zz0 hi hc.1.1.1.1 hc.1.1.1.2 hc.1.1.2 hc.1.2 hQ (Or.inl ⟨hc.2,hy⟩) hS h
end
section
universe u
variable {α:Type u}
theorem pa1 {xs:List α}{i:Nat}(h:i<xs.toArray.size):xs.toArray[i]=xs[i]'(by simpa using h):=List.getElem_toArray h
theorem pa2 (a:α)(bs:List α)(i:Nat)(h:i+1<(a :: bs).length):(a :: bs)[i+1]=bs[i]'(Nat.lt_of_succ_lt_succ h):=rfl
theorem pa3 (a:α)(bs:List α)(h:0<(a :: bs).length):(a :: bs)[0]=a:=rfl
theorem pa4 (l:List α)(i:Nat)(a:α):l.toArray.setIfInBounds i a=(l.set i a).toArray:=List.setIfInBounds_toArray ..
theorem pa5 (x:α)(xs:List α)(a:α):(x :: xs).set 0 a=a :: xs:=rfl
theorem pa6 (x:α)(xs:List α)(n:Nat)(a:α):(x :: xs).set (n+1) a=x :: xs.set n a:=rfl
end
section
variable {P:Program} {ops:Array Oper} {Q:Exit->Act->World->Prop} {md:Region.Mode} {S:World->Prop} {E:List Nat}
theorem wq (i:Nat){oi:Oper}{v:Value}{fuel:Nat}{listed:Array Bool}{a a2:Act}{w:World}(h:Zbo P md ops Q S E fuel (listed.setIfInBounds i true) a2 w)(hi:ops[i]?=some oi:=by rfl)
  (hc:(!E.contains i&&Region.noSelect ops&&Region.free md ops listed i&&(Region.ready md ops listed).contains i&&Region.wanted oi (yielded ops a.tmps))=true:=by kernel_rfl)
  (hy:∀ x',(execOp a.eval oi).run P x'=.ok (.value v) x':=by (intro x';go_simp;try with_reducible rfl))
  (hp:a.put oi.dst v=a2:=by ((try simp only [pa1,pa2,pa3,Act.put,pa4,pa5,pa6]);rfl))
  (hQ:∀ c a w,Q (.panic c) (a.put oi.dst v) w->Q (.panic c) a w:=by exact fun _ _ _ h=>h):Zbo P md ops Q S E (fuel+1) listed a w:=by
 subst hp;exact wpP i hi hc hy h hQ
theorem wt (i:Nat){oi:Oper}{v:Value}{fuel:Nat}{listed:Array Bool}{a a2:Act}{w:World}(hS:S w)(h:Zbo P md ops Q S E fuel (listed.setIfInBounds i true) a2 w)(hi:ops[i]?=some oi:=by rfl)
  (hc:(Zld md ops E listed i&&Region.noSelect ops&&Region.free md ops listed i&&(Region.ready md ops listed).contains i&&Region.wanted oi (yielded ops a.tmps))=true:=by kernel_rfl)
  (hy:∀ x',S x'->(execOp a.eval oi).run P x'=.ok (.value v) x':=by (intro x' hSx;(try dsimp only at hSx);go_simp;try with_reducible rfl))
  (hp:a.put oi.dst v=a2:=by ((try simp only [pa1,pa2,pa3,Act.put,pa4,pa5,pa6]);rfl))
  (hQ:∀ c a w,Q (.panic c) (a.put oi.dst v) w->Q (.panic c) a w:=by exact fun _ _ _ h=>h):Zbo P md ops Q S E (fuel+1) listed a w:=by
 subst hp;exact wpT i hi hc hy hS h hQ
theorem pu {fuel:Nat}{listed:Array Bool}{a a2:Act}{w:World}(h:Zbo P md ops Q S E fuel listed a2 w)(hp:a=a2:=by ((try simp only [pa1,pa2,pa3,Act.put,pa4,pa5,pa6]);rfl)):Zbo P md ops Q S E fuel listed a w:=by
 subst hp;exact h
theorem wv (i:Nat){oi:Oper}(v:Value){fuel:Nat}{listed:Array Bool}{a a2:Act}{w:World}(hi:ops[i]?=some oi)(hy:∀ x',S x'->(execOp a.eval oi).run P x'=.ok (.value v) x')(hS:S w)(h:Zbo P md ops Q S E fuel (listed.setIfInBounds i true) a2 w)
  (hc:(Zld md ops E listed i&&Region.noSelect ops&&Region.free md ops listed i&&(Region.ready md ops listed).contains i&&Region.wanted oi (yielded ops a.tmps))=true:=by kernel_rfl)
  (hp:a.put oi.dst v=a2:=by ((try simp only [pa1,pa2,pa3,Act.put,pa4,pa5,pa6]);rfl))
  (hQ:∀ c a w,Q (.panic c) (a.put oi.dst v) w->Q (.panic c) a w:=by exact fun _ _ _ h=>h):Zbo P md ops Q S E (fuel+1) listed a w:=by
 subst hp;exact wpT i hi hc hy hS h hQ
theorem wz {P:Program}{id:Nat}{Q:Exit->Act->World->Prop}{a:Act}{w:World}{l:List Oper}{n:Nat}(S:World->Prop)(E:List Nat)(hS:S w.drew)
  (h:S w.drew->Zbo P .any l.toArray Q S E n (Array.replicate l.toArray.size false) a w.drew) (hm:P.follows .mixedOrders=true:=by kernel_rfl)
  (hn:l.length=n:=by ((simp only [List.length_cons,List.length_nil,Nat.zero_add,Nat.reduceAdd]);try rfl)):(Code.region id l.toArray true).wp P Q a w:=by
 subst hn;exact Zw8 S E hm hS h
theorem wl {P:Program}{md:Region.Mode}{Q:Exit->Act->World->Prop}{S:World->Prop}{E:List Nat}{a:Act}{w:World}{l l2:List Oper}{listed:Array Bool}{f:Nat}(n:Nat)(h:wpList P l.toArray Q l2 a w)
  (hf:l.length - n=f:=by rfl) (hB:Z37 md l.toArray E f n listed=true:=by kernel_rfl) (hd:l.drop n=l2:=by ((simp only [List.drop_succ_cons,List.drop_zero]);try rfl)):Zbo P md l.toArray Q S E f listed a w:=by
 subst hd;exact Zzz n hf hB h
end
end Go.Proofs.YtgjefdaaihgliaaGreatDoor
namespace Go.Proofs.YtgjefdaaihgliaaGreatDoor
open Go.RowKit
open Go.Maps
theorem Zh3 {P:Program}{id:Nat}{Q:Exit->Act->World->Prop}{a:Act}{w:World}{l:List Oper}(hm:P.follows .mixedOrders=true)(hB:Region.lexB .any l.toArray=true)
  (h:wpStill P l.toArray w.drew (fun a'=>Q .normal a' w.drew) l a):(Code.region id l.toArray true).wp P Q a w:=wp_region_still_lit hm hB h
end Go.Proofs.YtgjefdaaihgliaaGreatDoor
namespace Go.Proofs.YtgjefdaaihgliaaGreatDoor
open Go.RowKit
theorem Zh4 (x:Th):∀ u∈Zf0 x,u.oneCell'=true:=by intro u hu;simp [Zf0] at hu;rcases hu with rfl | rfl | rfl <;> rfl
theorem Zzr {L:List Th}{j:Nat}{x y:Th}(h:L[j]?=some y)(hne:y≠x)(hx:x∉L.take j):x∉L.take (j+1):=by
 rw [List.take_add_one,h];simp only [Option.toList_some,List.mem_append,List.mem_singleton,not_or];exact⟨hx,fun e=>hne e.symm⟩
theorem Zts {L:List Th}{j:Nat}{y:Th}(h:L[j]?=some y)(p:Th->Bool):(L.take (j+1)).any p=((L.take j).any p||p y):=by
 rw [List.take_add_one,h];simp
theorem Z3q {L:List Th}{j:Nat}{y:Th}(h:L[j]?=some y):L.take (j+1)=L.take j++[y]:=by rw [List.take_add_one,h];rfl
theorem Ze2 {B n:Nat}{a w:World}(h:Below B (a.drewN n) w):Below B a w:=⟨h.os,h.tape,h.output,h.size,h.block⟩
theorem Zjx {w0 w1 w2:World}{B n b o:Nat}{u v:Value}{xs:List Value}{ty:TypeId}{z:Nat}(hk:∀ b,b<w1.heap.size->v.ownBlock≠some b->w2.heap[b]?=w1.heap[b]?)(hB:b<B)(ho:w0.ownsRow B ty z v n xs)(hc:w1.cell? ⟨b,o,none⟩=some u):w2.cell? ⟨b,o,none⟩=some u:=by
 have hlt:=World.block_lt_of_cell? w1 _ hc;have:=hk b hlt fun e=>by have:=(ho.lt _ e).1;omega
 rw [<- hc];unfold World.cell?;simp only [this]
theorem Zlb.mk {N:Nat}{T:List Th}{w w':World}{B:Nat}{v:Value}(hN:N<=B)(h:w'.ownsRow B 25 3 v T.length (Za1 T))(hb:Below w.heap.size w w'):Zlb N T w (.returned v) w':=by
 obtain⟨A,cap,rfl,ht⟩:=Zet h;have ho:w'.ownsRow N 25 3 (.slice A T.length cap) T.length (Za1 T):=by
  refine⟨h.1,?_⟩;rcases h.2 with e | ⟨g,cap,cur,e,h1,h2⟩
  ·exact Or.inl e
  ·exact Or.inr ⟨g,cap,cur,e,Nat.le_trans hN h1,h2⟩
 exact⟨A,cap,rfl,⟨ht,(fun p hp=>by
  subst hp;rcases h.2 with ⟨e,_⟩ | ⟨g,cap',cur,e,h1,_⟩
  ·cases e
  ·simp only [Value.slice.injEq,Option.some.injEq] at e
   rw [e.1];exact Nat.le_trans hN h1),ho⟩,hb⟩
section
variable {w:World} {t r v:Int} {l:List UInt8}
set_option maxHeartbeats 4000000 in
set_option maxRecDepth 100000 in
theorem Z7u (N:Nat)(hN:N<=w.heap.size)(Ak:Option Addr)(nk ck:Nat)(A:Option Addr)(cap:Nat)(L:List Th)(hlen:L.length<=1000000)(hA:Zpv w A L)(hNA:Z07 N A)(hOA:w.ownsRow N 25 3 (.slice A L.length cap) L.length (Za1 L)) :
  Calls Tryz.prog 88 #[Zgf 2 t r l v (.slice Ak nk ck),.slice A L.length cap] w (Zlb N (Zou (t,r,l) L) w):=by
 have HA:=Zh hA;have HNA:=Zh hNA;have HOA:=Zh hOA;clear hNA hOA;have HBN:=Zh (Blk.new w 28 #[.int .i64 2,.int .i64 t,.int .i64 r,.string ⟨l.toArray⟩,.int .i64 v,.slice Ak nk ck]);have hb1:=Zad w (.cells #[.int .i64 2,.int .i64 t,.int .i64 r,.string ⟨l.toArray⟩,.int .i64 v,.slice Ak nk ck] 28 (0,0));have hsz1:(w.alloc (.cells #[.int .i64 2,.int .i64 t,.int .i64 r,.string ⟨l.toArray⟩,.int .i64 v,.slice Ak nk ck] 28 (0,0))).heap.size=w.heap.size+1:=by simp
 obtain⟨W0,hW0⟩:∃ W0,w.alloc (.cells #[.int .i64 2,.int .i64 t,.int .i64 r,.string ⟨l.toArray⟩,.int .i64 v,.slice Ak nk ck] 28 (0,0))=W0:=⟨_,rfl⟩;rw [hW0] at hb1 hsz1;have HB1:=Zh hb1;have HW0:=Zh hW0;clear hA hb1 hW0;go_enter Tryz.func88,Tryz.ntmps88
 go_wp2_with fail
 go_loopw [5,6,7] (fun v5 p i wr=>∃ (j:Nat) (pb:Bool),j<=L.length/\i=.int .i64 j/\p=.bool pb/\(L.take j).any (Zh9 (t,r,l))=pb/\wr.ownsRow (w.heap.size+1) 25 3 v5 (Zky (t,r,l) (L.take j)).length (Za1 (Zky (t,r,l) (L.take j)))/\(t,r,l)∉L.take j/\Below (w.heap.size+1) W0 wr) (fun _ _ i _=>L.length - (intOf i).toNat)
 case atStart=>exact⟨0,false,Nat.zero_le _,rfl,rfl,by simp,by simp [Zky,Za1];exact World.ownsRow_nil _ _ _ _,by simp,by rw [HW0.o];exact Below.refl _ _⟩
 case round=>
  obtain⟨j,pb,hj,rfl,rfl,hpb,hown,hno,hbr⟩:=hrel;obtain⟨Av,cv,rfl⟩:=Zbe hown;have HBR:=Zh hbr;have HPB:=Zh hpb;have HOW:=Zh hown;have HNO:=Zh hno;have hzr:=hbr.size;have hol:=Zze (t,r,l) (L.take j);have htl:(L.take j).length<=j:=List.length_take_le _ _;have HBT:=Zh (show Below w.heap.size w wr from HB1.o.trans (hbr.mono ω));have hBk:=(HW0.o ▸ HBN.o:Blk W0 w.heap.size 28 #[.int .i64 2,.int .i64 t,.int .i64 r,.string ⟨l.toArray⟩,.int .i64 v,.slice Ak nk ck]).below hbr ω;obtain⟨-,b1,b2,b3⟩:=hBk.c4;have HBK:=Zh hBk;clear hbr hpb hown hno hBk;by_cases hlt:j<L.length
  ·have ex:=List.getElem?_eq_getElem hlt;obtain⟨y,hy⟩:∃ y,L[j]=y:=⟨_,rfl⟩;rw [hy] at ex;obtain⟨g,o,rfl,y0,y1,y2⟩:=HA.o _ _ ex;have hgB:g<w.heap.size+1:=Nat.lt_succ_of_lt (World.block_lt_of_cell? w _ y0);have z0:=Zac y0 HBT.o;have z1:=Zac y1 HBT.o;have z2:=Zac y2 HBT.o;have HEX:=Zh ex;have hjl:(j:Int)<(L.length:Int):=ω;have hgd:=fun (w:World) (op:BinOp) (x y:Operand) (xs ys:Array Value)=>run_eqGuard_agg (P:=Tryz.prog) w op 25 x y xs ys Zj3
   clear ex hy y0 y1 y2;by_cases hxy:y=(t,r,l)
   ·subst hxy;have heq:∀ w,(binOp .eql 25 (Zek t r l) (Zek t r l)).run Tryz.prog w=.ok (.bool true) w:=fun w=>by rw [Zhn (t,r,l) (t,r,l),decide_eq_true rfl]
    have HR:=Zh (show Zou (t,r,l) L=L by unfold Zou;rw [if_pos (List.mem_of_getElem? HEX.o)])
    go_wp2_with fail
    go_quiet (fail)
    go_wp2_with fail
    go_ret;exact⟨_,_,by rw [HR.o];rfl,by rw [HR.o];exact⟨HA.o.below (Zag HBT.o _),HNA.o,Zah HOA.o (Zag HBT.o _)⟩,Zag HBT.o _⟩
   ·have heq:∀ w,(binOp .eql 25 (Zek y.1 y.2.1 y.2.2) (Zek t r l)).run Tryz.prog w=.ok (.bool false) w:=fun w=>by rw [Zhn y (t,r,l),decide_eq_false hxy]
    have HN2:=Zh (Zzr HEX.o hxy HNO.o);have HT:=Zh (Z3q HEX.o);have HAN:=Zh (Zts HEX.o (Zh9 (t,r,l)));clear hxy
    go_wp2_with fail
    go_quiet (fail)
    go_wp2_with fail
    cases pb with
    | true=>
     have HP:=Zh (Zs1 (y:=y) HPB.o)
     go_quiet (fail)
     go_wp2_with (at_builtin;refine Zie _ rfl _ _ 35 25 rfl _ 3 32 Tryz.underlying35 Zeh rfl (by decide) (Zf0 y) rfl (Zh4 y) (w.heap.size+1) _ _ _ rfl rfl (Zah HOW.o (Zag (Below.refl _ _) _)) ω ω (by first | omega | (simp;omega)) ?_)
     intro v' w1 hown1 hg1;obtain⟨Av1,cv1,rfl⟩:=Zbe hown1;have HO1:=Zh hown1;have HG1:=Zh hg1;clear hown1 hg1
     go_wp2_with fail
     go_roundw
     case rel=>exact⟨j+1,true,ω,by go_num,rfl,by rw [HAN.o,HPB.o];rfl,by rw [HT.o,HP.o,List.length_append,Zcy];exact HO1.o,HN2.o,HBR.o.trans (Ze2 HG1.o.below)⟩
     case measure=>exact msr
    | false=>
     have d1:=Zc9 b1;have d2:=Zc9 b2;have d3:=Zc9 b3;have e0:=Zc9 z0;have e1:=Zc9 z1;have e2:=Zc9 z2;obtain⟨bb,hbb⟩:∃ bb,Zh9 (t,r,l) (y.1,y.2.1,y.2.2)=bb:=⟨_,rfl⟩;have HBB:=Zh hbb;clear hbb;cases bb with
     | true=>
      have HP:=Zh (Zs2 (y:=y) HPB.o HBB.o);refine Zgy 9 κ κ ?_;simp only [List.take_succ_cons,List.take_zero,List.drop_succ_cons,List.drop_zero]
      repeat still_step
      refine wpStill_nil ?_
      go_wp2_with (first
       | (go_at_call 135;refine (Z8v t r l y.1 y.2.1 y.2.2 _).mono ?_;rw [HBB.o];rintro e w1 ⟨rfl,hbx⟩;have HX:=Zh (show Below wr.heap.size wr w1 from Ze2 (Zas hbx));have hzx:wr.heap.size<=w1.heap.size:=hbx.size;clear hbx;have f1:=Zac b1 HX.o;have f2:=Zac b2 HX.o;have f3:=Zac b3 HX.o;have k0:=Zac z0 HX.o;have k1:=Zac z1 HX.o;have k2:=Zac z2 HX.o)
       | (at_builtin;refine Zie _ rfl _ _ 35 25 rfl _ 3 32 Tryz.underlying35 Zeh rfl (by decide) (Zf0 (t,r,l)) rfl (Zh4 (t,r,l)) (w.heap.size+1) _ _ _ rfl rfl (Zah HOW.o HX.o) ω ω (by first | omega | (simp;omega)) ?_;intro v' w2 hown1 hg1;obtain⟨Av1,cv1,rfl⟩:=Zbe hown1;have HO1:=Zh hown1;have HG1:=Zh hg1;have hz2:=hg1.below.size;have HNB:=Zh (fun (b:Nat) (hb:b<w1.heap.size) (hne:(Value.slice Av (Zky (t,r,l) (L.take j)).length cv).ownBlock≠some b)=>hg1.keep b hb hne);clear hown1 hg1;have m0:=Zjx HNB.o hgB HOW.o k0;have m1:=Zjx HNB.o hgB HOW.o k1;have m2:=Zjx HNB.o hgB HOW.o k2)
       | (at_builtin;refine Zie _ rfl _ _ 35 25 rfl _ 3 32 Tryz.underlying35 Zeh rfl (by decide) (Zf0 y) rfl (Zh4 y) (w.heap.size+1) _ _ _ rfl rfl HO1.o ω ω (by first | omega | (simp;omega)) ?_;intro v' w3 hown2 hg2;obtain⟨Av2,cv2,rfl⟩:=Zbe hown2;have HO2:=Zh hown2;have HG2:=Zh hg2;clear hown2 hg2))
      go_roundw
      case rel=>exact⟨j+1,true,ω,by go_num,rfl,by rw [HAN.o,HPB.o];exact HBB.o,by rw [HT.o,HP.o,List.length_append,List.length_append,Zcy,Zcy];exact HO2.o,HN2.o,HBR.o.trans (((HX.o.mono ω).trans HG1.o.below).trans HG2.o.below)⟩
      case measure=>exact msr
     | false=>
      have HP:=Zh (Zs3 (y:=y) HPB.o HBB.o);refine Zgy 9 κ κ ?_;simp only [List.take_succ_cons,List.take_zero,List.drop_succ_cons,List.drop_zero]
      repeat still_step
      refine wpStill_nil ?_
      go_wp2_with (first
       | (go_at_call 135;refine (Z8v t r l y.1 y.2.1 y.2.2 _).mono ?_;rw [HBB.o];rintro e w1 ⟨rfl,hbx⟩;have HX:=Zh (show Below wr.heap.size wr w1 from Ze2 (Zas hbx));have hzx:wr.heap.size<=w1.heap.size:=hbx.size;clear hbx;have f1:=Zac b1 HX.o;have f2:=Zac b2 HX.o;have f3:=Zac b3 HX.o;have k0:=Zac z0 HX.o;have k1:=Zac z1 HX.o;have k2:=Zac z2 HX.o)
       | (at_builtin;refine Zie _ rfl _ _ 35 25 rfl _ 3 32 Tryz.underlying35 Zeh rfl (by decide) (Zf0 y) rfl (Zh4 y) (w.heap.size+1) _ _ _ rfl rfl (Zah HOW.o HX.o) ω ω (by first | omega | (simp;omega)) ?_;intro v' w2 hown1 hg1;obtain⟨Av1,cv1,rfl⟩:=Zbe hown1;have HO1:=Zh hown1;have HG1:=Zh hg1;clear hown1 hg1))
      go_roundw
      case rel=>exact⟨j+1,false,ω,by go_num,rfl,by rw [HAN.o,HPB.o];exact HBB.o,by rw [HT.o,HP.o,List.length_append,Zcy];exact HO1.o,HN2.o,HBR.o.trans ((HX.o.mono ω).trans HG1.o.below)⟩
      case measure=>exact msr
  ·have hje:j=L.length:=ω;subst hje;have htk:L.take L.length=L:=List.take_length;have HTK:=Zh htk;clear htk;have HNX:=Zh (show (t,r,l)∉L by have:=HNO.o;rwa [HTK.o] at this);have HIN:=Zh (show Zou (t,r,l) L=Zkh (t,r,l) L by unfold Zou;rw [if_neg HNX.o]);cases pb with
   | true=>
    have HP:=Zh (show Zou (t,r,l) L=Zky (t,r,l) (L.take L.length) by rw [HIN.o,HTK.o];exact Zwb (by have:=HPB.o;rwa [HTK.o] at this))
    go_wp2_with fail
    go_ret;rw [HP.o];exact Zlb.mk ω HOW.o HBT.o
   | false=>
    have HP:=Zh (show Zou (t,r,l) L=Zky (t,r,l) (L.take L.length)++[(t,r,l)] by rw [HIN.o,HTK.o];exact Zwc (by have:=HPB.o;rwa [HTK.o] at this))
    go_wp2_with (at_builtin;refine Zie _ rfl _ _ 35 25 rfl _ 3 32 Tryz.underlying35 Zeh rfl (by decide) (Zf0 (t,r,l)) rfl (Zh4 (t,r,l)) (w.heap.size+1) _ _ _ rfl rfl HOW.o ω ω (by first | omega | (simp;omega)) ?_;intro v' w2 hown1 hg1;obtain⟨Av1,cv1,rfl⟩:=Zbe hown1;have HO1:=Zh hown1;have HG1:=Zh hg1;clear hown1 hg1)
    go_ret;rw [HP.o];refine Zlb.mk (B:=w.heap.size+1) ω ?_ (HB1.o.trans ((HBR.o.trans HG1.o.below).mono ω));rw [List.length_append,Zcy];have hf:=HO1.o;rw [HTK.o] at hf ⊢;exact hf
end
def Zxg (k t r:Int)(l:List UInt8)(v:Int)(kids:Fr):Prop:=
 ∀ (w:World) (hi:Nat) (kv:Value) (A:Option Addr) (cap:Nat) (L:List Th) (N:Nat),N<=w.heap.size->hi<=w.heap.size->Zd7 w hi kv kids->Zto N w A cap L->L.length+1+kids.all<=1000000->
  Calls Tryz.prog 88 #[Zgf k t r l v kv,.slice A L.length cap] w (Zlb N (Zkt (atL k t r l++Za4 kids) L) w)
def Z04:Fr->Prop
 | .nil=>True
 | .cons k t r l v kids rest=>Zxg k t r l v kids/\Z04 rest
theorem Z04.at_:∀ (f:Fr) (j:Nat) {k t r:Int} {l:List UInt8} {v:Int} {kids rest:Fr},Z04 f->f.drop j=.cons k t r l v kids rest->Zxg k t r l v kids
 | .nil,0,_,_,_,_,_,_,_,_,h=>by cases h
 | .nil,_+1,_,_,_,_,_,_,_,_,h=>by cases h
 | .cons _ _ _ _ _ _ _,0,_,_,_,_,_,_,_,h,e=>by cases e;exact h.1
 | .cons _ _ _ _ _ _ rest,j+1,_,_,_,_,_,_,_,h,e=>Z04.at_ rest j h.2 e
section
variable {k t r v:Int} {l:List UInt8} {kids:Fr}
set_option maxHeartbeats 2000000 in
set_option maxRecDepth 100000 in
theorem Zln (hk:Z04 kids)(hat:k=2->kids=.nil):Zxg k t r l v kids:=by
 intro w hi kv A0 cap0 L N hN hhi hs hths hlen;by_cases h2:k=2
 ·obtain rfl:=hat h2;subst h2;obtain⟨A,cap,rfl,s1,s2,s3⟩:=hs;have hL:L.length<=1000000:=ω;have:=Z7u (t:=t) (r:=r) (l:=l) (v:=v) N hN A 0 cap A0 cap0 L hL hths.1 hths.2.1 hths.2.2;exact this
 obtain⟨A,cap,rfl,s1,s2,s3⟩:=hs;have S3:=Zh s3;have HK:=Zh hk;have HTS:=Zh hths;have hb0:=Zad w (.cells #[.int .i64 k,.int .i64 t,.int .i64 r,.string ⟨l.toArray⟩,.int .i64 v,.slice A kids.len cap] 28 (0,0));have HB0:=Zh hb0;have HBN:=Zh (Blk.new w 28 #[.int .i64 k,.int .i64 t,.int .i64 r,.string ⟨l.toArray⟩,.int .i64 v,.slice A kids.len cap]);have HT0:=Zh (hths.below hb0);have HAT:=Zh (show atL k t r l++Za4 kids=Za4 kids by simp [atL,h2]);have hne:(k == 2)=false:=by simpa using h2
 go_enter Tryz.func88,Tryz.ntmps88
 go_wp2_with fail
 go_loopw [1,8] (fun v1 i wr=>∃ (j:Nat) (A1:Option Addr) (c1:Nat) (M:List Th),j<=kids.len/\i=.int .i64 j/\v1=.slice A1 M.length c1/\Zto N wr A1 c1 M/\Zkt (Za4 (kids.drop j)) M=Zkt (Za4 kids) L/\M.length+(kids.drop j).all<=L.length+kids.all/\Below w.heap.size w wr/\Below (w.heap.size+1) (w.alloc (.cells #[.int .i64 k,.int .i64 t,.int .i64 r,.string ⟨l.toArray⟩,.int .i64 v,.slice A kids.len cap] 28 (0,0))) wr) (fun _ i _=>kids.len - (intOf i).toNat)
 case atStart=>exact⟨0,A0,cap0,L,Nat.zero_le _,rfl,rfl,HT0.o,by rw [show kids.drop 0=kids by cases kids <;> rfl],by rw [show kids.drop 0=kids by cases kids <;> rfl];exact Nat.le_refl _,HB0.o,Below.refl _ _⟩
 case round=>
  obtain⟨j,A1,c1,M,hj,rfl,rfl,hths,hM,hML,hbr,hbr2⟩:=hrel;have HTH:=Zh hths;have HMM:=Zh hM;have HBR:=Zh hbr;have HBR2:=Zh hbr2;have hzr:=hbr2.size;simp only [World.size_alloc] at hzr;have hBk:=HBN.o.below hbr2 ω;have b5:=hBk.cell 5;by_cases hlt:j<kids.len
  ·obtain⟨b,o,rfl,hb,hrow⟩:=S3.out ω;obtain⟨k',t',r',l',v',kids',rest',hdr⟩:=kids.drop_lt j hlt;have hrow':=Zc3.keep (w':=wr) (fun b o hb=>HBR.o.cell (p:=⟨b,o,none⟩) (show b<w.heap.size by omega)) kids b o hb hrow;have hat:=Zc3.at_ kids b o j hrow';rw [hdr] at hat;obtain⟨kv',q0,q1,q2,q3,q4,q5,hl',hsl'⟩:=hat.head;obtain⟨A',cap',rfl,hsl''⟩:=hsl';have HSL:=Zh (⟨A',cap',rfl,hsl''⟩:Zd7 wr hi (.slice A' kids'.len cap') kids');have HC:=Zh (Z04.at_ kids j HK.o hdr);have HNX:=Zh (kids.drop_next j hdr);have hall:(kids.drop j).all=1+kids'.all+rest'.all:=by rw [hdr];rfl
   have hatl:(atL k' t' r' l').length<=1:=by unfold atL;split <;> simp
   have haf:=Zda kids';have HST:=Zh (show Zkt (Za4 (kids.drop j)) M=Zkt (Za4 rest') (Zkt (atL k' t' r' l'++Za4 kids') M) by rw [hdr];simp only [Za4,Zqa]);have hgl:=Zra (atL k' t' r' l'++Za4 kids') M;simp only [List.length_append] at hgl;obtain⟨M',hM'⟩:∃ M',Zkt (atL k' t' r' l'++Za4 kids') M=M':=⟨_,rfl⟩;rw [hM'] at hgl HST;have HM':=Zh hM';have hml:M.length+1+kids'.all<=1000000:=ω;have hml2:M'.length+rest'.all<=L.length+kids.all:=ω
   go_wp2_with (go_at_call 88;refine (HC.o _ hi _ _ _ M N ω ω HSL.o HTH.o hml).mono ?_;rw [HM'.o];rintro e w2 ⟨A2,c2,rfl,ht2,hb2⟩)
   go_roundw
   case rel=>exact⟨j+1,A2,c2,M',ω,by go_num,rfl,ht2,by rw [HNX.o,<- HMM.o,HST.o],by rw [HNX.o];exact hml2,HBR.o.trans (hb2.mono ω),HBR2.o.trans (hb2.mono ω)⟩
   case measure=>exact msr
  ·have hjk:j=kids.len:=ω;have HE:=Zh (show Zkt (atL k t r l++Za4 kids) L=M by rw [HAT.o,<- HMM.o,Fr.drop_ge kids j ω];rfl)
   go_wp2_with fail
   go_ret;rw [HE.o];exact⟨A1,c1,rfl,HTH.o,HBR.o⟩
def Zye:Fr->Prop
 | .nil=>True
 | .cons k _ _ _ _ kids rest=>(k=2->kids=.nil)/\Zye kids/\Zye rest
theorem Z7j:∀ f,Zye f->Z04 f
 | .nil,_=>trivial
 | .cons _ _ _ _ _ kids rest,h=>⟨Zln (Z7j kids h.2.1) h.1,Z7j rest h.2.2⟩
theorem Zrp {a k t r v:Int}{l:List UInt8}{kids:Fr}(h:Zf2 a k t r l v kids.len=true):k=2->kids=.nil:=by
 intro h2;unfold Zf2 at h;rw [if_pos h2] at h;simp only [Bool.and_eq_true,decide_eq_true_eq] at h;have:kids.len=0:=by first | exact h.2 | (simpa using h.2)
 cases kids with
 | nil=>rfl
 | cons _ _ _ _ _ _ _=>simp [Fr.len] at this
theorem Zqi {a:Int}:∀ f,okF a f->Zye f
 | .nil,_=>trivial
 | .cons _ _ _ _ _ kids rest,h=>⟨Zrp h.1,Zqi kids h.2.1,Zqi rest h.2.2⟩
theorem Zvu {a:Int}(h:Zf2 a k t r l v kids.len=true)(hk:okF a kids):Zxg k t r l v kids:=Zln (Z7j kids (Zqi kids hk)) (Zrp h)
end
end Go.Proofs.YtgjefdaaihgliaaGreatDoor
