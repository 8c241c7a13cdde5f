/- Lists of ints in blocks of the call's own; make. -/
import Derived.Test.YtdfmcfppoohckaaGreatDoorTm06

namespace Go.Proofs.YtdfmcfppoohckaaGreatDoor
open Go.RowKit
abbrev Zbo (l:List Int):Array Value:=(l.map (Value.int .i64)).toArray
theorem Zoj {l:List Int}{i:Nat}{v:Int}(h:l[i]?=some v):(Zbo l)[i]?=some (.int .i64 v):=by simp [Zbo,h]
theorem Zll (l:List Int)(i:Nat)(v:Int):(Zbo l).setIfInBounds i (.int .i64 v)=Zbo (l.set i v):=by
 simp [Zbo,List.map_set]
theorem Zsa (v:Value)(n:Nat):madeCells #[v] n=(List.replicate n v).toArray:=by
 unfold madeCells;apply Array.ext
 ·simp
 ·intro i h1 h2;simp [Nat.mod_one]
theorem Zvz (n:Nat):madeCells #[.int .i64 0] n=Zbo (List.replicate n 0):=by
 rw [Zsa];simp [Zbo]
theorem Zda {o:Option TypeInfo}{z:Option Value}{a b:Nat}(h:o.map (fun i=>(i.zero,i.size,i.bytes))=some (z,a,b)):∃ i,o=some i/\i.zero=z/\i.size=a/\i.bytes=b:=by
 cases o with
 | none=>cases h
 | some i=>simp at h;exact⟨i,rfl,h.1,h.2.1,h.2.2⟩
theorem Zy6:(Tryz.prog.info? 3).map (fun i=>(i.zero,i.size,i.bytes))=some (some (.int .i64 0),1,8):=by kernel_rfl
theorem Znj (n:Nat)(hn:n<=1000000)(w:World):(Instr.makeSlice 34 (.int .i64 (n:Int)) (.int .i64 (n:Int))).run Tryz.prog w=.ok (.slice (some ⟨w.heap.size,0,none⟩) n n) (w.alloc (.cells (Zbo (List.replicate n 0)) 3 (0,0))):=by
 obtain⟨i0,hi,hz0,hz1,hz2⟩:=Zda Zy6;have h:=run_make (P:=Tryz.prog) w 34 3 i0 _ Tryz.underlying34 hi hz0 .i64 .i64 (n:Int) (n:Int) ω (Int.le_refl _) (by rw [hz2];omega) ω;rw [h,hz1];simp only [Int.toNat_natCast,Nat.mul_one];rw [show (Value.int .i64 0).cells=#[Value.int .i64 0] from rfl,Zvz]
def Zgz (w:World)(b:Nat)(o:Obj):Prop:=w.heap[b]?=some o
section
variable {w w':World} {b:Nat} {o:Obj}
theorem Zgz.lt (h:Zgz w b o):b<w.heap.size:=(Array.getElem?_eq_some_iff.1 h).1
theorem Zgz.new (w:World)(o:Obj):Zgz (w.alloc o) w.heap.size o:=heap_alloc_new w _
theorem Zgz.alloc (h:Zgz w b o)(x:Obj):Zgz (w.alloc x) b o:=(Below.heap_alloc w x b h.lt).trans h
theorem Zgz.far (h:Zgz w b o){p:Addr}(hp:b≠p.block)(u:Value):Zgz (w.setCell p u) b o:=(Below.heap_setCell w p u b hp).trans h
theorem Zgz.go (h:Zgz w b o)(hb:Below w.heap.size w w'):Zgz w' b o:=(hb.block b h.lt).trans h
end
structure Enc (α:Type) where
 size:Nat
 enc:α->List Value
 len:∀ x,(enc x).length=size
 pos:0<size
 one:∀ x,∀ u∈enc x,u.oneCell'=true
namespace Enc
variable {α:Type} (E:Enc α)
def flat (l:List α):List Value:=(l.map E.enc).flatten
theorem flat_cons (x:α)(l:List α):E.flat (x :: l)=E.enc x++E.flat l:=rfl
theorem flat_append (a b:List α):E.flat (a++b)=E.flat a++E.flat b:=by simp [flat]
theorem Zy5 (x:α):E.flat [x]=E.enc x:=by simp [flat]
theorem flat_snoc (l:List α)(x:α):E.flat (l++[x])=E.flat l++E.enc x:=by rw [flat_append,Zy5]
theorem flat_len (l:List α):(E.flat l).length=l.length*E.size:=by
 induction l with
 | nil=>simp [flat]
 | cons x l ih=>rw [flat_cons,List.length_append,ih,E.len,List.length_cons,Nat.succ_mul];omega
theorem flat_at:∀ {l:List α} {i:Nat} {x:α} (_:l[i]?=some x) {j:Nat} (_:j<E.size),(E.flat l)[i*E.size+j]?=(E.enc x)[j]?
 | [],i,x,h,j,hj=>by simp at h
 | y :: l,0,x,h,j,hj=>by
  simp at h;subst h;rw [flat_cons,Nat.zero_mul,Nat.zero_add,List.getElem?_append_left (by rw [E.len];exact hj)]
 | y :: l,i+1,x,h,j,hj=>by
  simp only [List.getElem?_cons_succ] at h;have ih:=flat_at h hj;rw [flat_cons,List.getElem?_append_right (by rw [E.len,Nat.succ_mul];omega),E.len,<- ih]
  congr 1
  rw [Nat.succ_mul];omega
def At (w:World)(A:Option Addr)(l:List α):Prop:=∀ i x,l[i]?=some x->∃ b o,A=some ⟨b,o,none⟩/\∀ j u,(E.enc x)[j]?=some u->w.cell? ⟨b,o+i*E.size+j,none⟩=some u
variable {E}
theorem At.below {w w':World}{A:Option Addr}{l:List α}(h:E.At w A l)(hb:Below w.heap.size w w'):E.At w' A l:=fun i x hx=>by
 obtain⟨b,o,e,hc⟩:=h i x hx;exact⟨b,o,e,fun j u hj=>Zac (hc j u hj) hb⟩
theorem At.nil (w:World)(A:Option Addr):E.At w A []:=fun i x h=>by simp at h
theorem At.drop {w:World}{b o:Nat}{l:List α}(h:E.At w (some ⟨b,o,none⟩) l)(k:Nat):E.At w (some ⟨b,o+k*E.size,none⟩) (l.drop k):=by
 intro i x hx;rw [List.getElem?_drop] at hx;obtain⟨b',o',e,hc⟩:=h _ x hx;cases e
 refine⟨b,o+k*E.size,rfl,fun j u hj=>?_⟩;have:=hc j u hj
 rwa [show o+(k+i)*E.size=o+k*E.size+i*E.size by rw [Nat.add_mul];omega] at this
abbrev Own (E:Enc α)(T:TypeId)(B:Nat)(w:World)(v:Value)(l:List α):Prop:=w.ownsRow B T E.size v l.length (E.flat l)
theorem Own.at_ {T:TypeId}{B:Nat}{w:World}{v:Value}{l:List α}(h:E.Own T B w v l):∃ A cap,v=.slice A l.length cap/\E.At w A l/\(∀ p,A=some p->B<=p.block)/\l.length<=cap:=by
 obtain⟨A,cap,rfl⟩:=Zbx h;rcases h.2 with ⟨e,h0⟩ | ⟨g,cap',cur,e,h1,h2,h3,h4,h5,h6⟩
 ·simp only [Value.slice.injEq] at e;obtain⟨rfl,e2,rfl⟩:=e;refine⟨none,0,rfl,?_,(fun p hp=>by cases hp),ω⟩;have:l=[]:=List.length_eq_zero_iff.1 h0;subst this;exact At.nil _ _
 ·simp only [Value.slice.injEq,true_and] at e;obtain⟨rfl,rfl⟩:=e;refine⟨_,cap,rfl,fun i x hx=>?_,(fun p hp=>by cases hp;exact h1),h3⟩;refine⟨g,0,rfl,fun j u hj=>?_⟩;have hjs:j<E.size:=by have:=(List.getElem?_eq_some_iff.1 hj).1;rwa [E.len] at this
  have hi:=(List.getElem?_eq_some_iff.1 hx).1;have hlt:i*E.size+j<l.length*E.size:=by
   have:(i+1)*E.size<=l.length*E.size:=Nat.mul_le_mul_right _ hi;rw [Nat.succ_mul] at this;omega
  rw [Nat.zero_add,h.cellAt _ hlt,E.flat_at hx hjs];exact hj
structure Elem (E:Enc α) (T S:TypeId) (bytes:Nat):Prop where
 sl:Tryz.prog.underlying S=some (.slice T)
 info:∃ z:Value,(Tryz.prog.info? T).map (fun i=>(i.zero,i.size,i.bytes))=some (some z,E.size,bytes)/\z.cells.size=E.size
theorem app {T S:TypeId}{bytes:Nat}(hE:E.Elem T S bytes){ops:Array Oper}{rest:List Oper}{o:Oper}{a:Act}{Q:Exit->Act->World->Prop}(W:World)
  (hg:o.guard=none) (s x:Operand) (hop:o.op=Op.call { callee:=Callee.builtin Builtin.append,args:=#[s,x],argTypes:=#[S,S] })
  (y:α) (B:Nat) (l:List α) (v:Value) (hs:a.eval s=v) (hx:a.eval x=.slice (some ⟨W.heap.size,0,none⟩) 1 1)
  (hown:E.Own T B W v l) (b1:l.length+1<=1152921504606846976) (b2:(l.length+1)*bytes<=140737488355328) (hB:B<=W.heap.size)
  (hK:∀ v' w1,E.Own T B w1 v' (l++[y])->Z4c W w1 B v->wpList Tryz.prog ops Q rest (a.put o.dst v') w1) :
  wpList Tryz.prog ops Q (o :: rest) a (W.alloc (.cells (E.enc y).toArray T (0,0))):=by
 obtain⟨z,hz,hzs⟩:=hE.info;refine Ziq W hg s x S T hop z E.size bytes hE.sl hz hzs E.pos (E.enc y) (E.len y) (E.one y) B l.length (E.flat l) v hs hx hown b1 b2 hB (fun v' w1 h1 h2=>hK v' w1 ?_ h2);show w1.ownsRow B T E.size v' (l++[y]).length (E.flat (l++[y]));rw [E.flat_snoc,List.length_append];exact h1
theorem Own.nil (T:TypeId)(B:Nat)(w:World):E.Own T B w (.slice none 0 0) []:=World.ownsRow_nil _ _ _ _
theorem Own.below {T:TypeId}{B:Nat}{w w':World}{v:Value}{l:List α}(h:E.Own T B w v l)(hb:Below w.heap.size w w'):E.Own T B w' v l:=Zav h hb
theorem Own.shp {T:TypeId}{B:Nat}{w:World}{v:Value}{l:List α}(h:E.Own T B w v l):∃ A cap,v=.slice A l.length cap:=Zbx h
end Enc
abbrev Zfd:Enc Int:=⟨1,fun n=>[.int .i64 n],fun _=>rfl,ω,fun _ u h=>by simp at h;subst h;rfl⟩
abbrev Zcy:Enc (List UInt8):=⟨1,fun s=>[.string ⟨s.toArray⟩],fun _=>rfl,ω,fun _ u h=>by simp at h;subst h;rfl⟩
theorem Zyw:Zfd.Elem 3 34 8:=⟨Tryz.underlying34,.int .i64 0,κ,rfl⟩
theorem Zop:Zcy.Elem 9 33 16:=⟨Tryz.underlying33,.string ⟨#[]⟩,κ,rfl⟩
theorem Zm3:∀ a b:List UInt8,Op.bytesLess a b=decide (Lib.compareBytes a b<0)
 | [],[]=>by simp [Op.bytesLess,Lib.compareBytes]
 | [],_ :: _=>by simp [Op.bytesLess,Lib.compareBytes]
 | _ :: _,[]=>by simp [Op.bytesLess,Lib.compareBytes]
 | x :: a,y :: b=>by
  rw [Bool.eq_iff_iff,decide_eq_true_iff,Zml];unfold Op.bytesLess;rw [Zm3 a b];simp [UInt8.lt_iff_toNat_lt,<- UInt8.toNat_inj]
def Zim (x y:Th):Bool:=
 if decide (x.1=-1) != decide (y.1=-1) then decide (y.1=-1)
 else if x.1≠y.1 then decide (x.1<y.1) else if x.2.1≠y.2.1 then decide (x.2.1<y.2.1) else decide (Lib.compareBytes x.2.2 y.2.2<0)
def Zkm (x:Th):List Th->List Th
 | []=>[x]
 | y :: r=>if Zim x y then x :: y :: r else y :: Zkm x r
def Zo6 (x:Th)(l:List Th):List Th:=if x∈l then l else Zkm x l
def Zkz (L acc:List Th):List Th:=L.foldl (fun a x=>Zo6 x a) acc
def Zk3 (x:Th)(l:List Th):List Th:=if l.any (Zim x) then Zkm x l else l
theorem Zwv {x:Th}:∀ {l:List Th},l.any (Zim x)=false->Zkm x l=l++[x]
 | [],_=>rfl
 | y :: r,h=>by
  simp only [List.any_cons,Bool.or_eq_false_iff] at h;simp [Zkm,h.1,Zwv h.2]
theorem Zpo {x y:Th}:∀ {l:List Th},l.any (Zim x)=true->Zkm x (l++[y])=Zkm x l++[y]
 | [],h=>by simp at h
 | z :: r,h=>by
  by_cases hz:Zim x z=true
  ·simp [Zkm,hz]
  ·simp only [List.any_cons,Bool.or_eq_true] at h;have:=Zpo (y:=y) (h.resolve_left hz);simp [Zkm,hz,this]
theorem Zwu {x y:Th}:∀ {l:List Th},l.any (Zim x)=false->Zim x y=true->Zkm x (l++[y])=l++[x,y]
 | [],_,h=>by simp [Zkm,h]
 | z :: r,h,k=>by
  simp only [List.any_cons,Bool.or_eq_false_iff] at h;simp [Zkm,h.1,Zwu h.2 k]
theorem Zto {x y:Th}{l:List Th}(h:l.any (Zim x)=true):Zk3 x (l++[y])=Zk3 x l++[y]:=by
 unfold Zk3;rw [if_pos (by simp [h]),if_pos h,Zpo h]
theorem Ztp {x y:Th}{l:List Th}(h:l.any (Zim x)=false)(k:Zim x y=true):Zk3 x (l++[y])=Zk3 x l++[x]++[y]:=by
 unfold Zk3;rw [if_pos (by simp [k]),if_neg (by simp [h]),Zwu h k];simp
theorem Ztq {x y:Th}{l:List Th}(h:l.any (Zim x)=false)(k:Zim x y=false):Zk3 x (l++[y])=Zk3 x l++[y]:=by
 unfold Zk3;rw [if_neg (by simp [h,k]),if_neg (by simp [h])]
theorem Zws {x:Th}{l:List Th}(h:l.any (Zim x)=true):Zkm x l=Zk3 x l:=by unfold Zk3;rw [if_pos h]
theorem Zwt {x:Th}{l:List Th}(h:l.any (Zim x)=false):Zkm x l=Zk3 x l++[x]:=by unfold Zk3;rw [if_neg (by simp [h]),Zwv h]
theorem Znp (x:Th):∀ l,(Zkm x l).length=l.length+1
 | []=>rfl
 | y :: r=>by unfold Zkm;split <;> simp [Znp x r]
theorem Zz1 (x:Th)(l:List Th):(Zk3 x l).length<=l.length+1:=by unfold Zk3;split <;> simp [Znp]
theorem Zzc (x:Th)(l:List Th):(Zo6 x l).length<=l.length+1:=by unfold Zo6;split <;> simp [Znp]
theorem Zrw:∀ (L acc:List Th),(Zkz L acc).length<=acc.length+L.length
 | [],_=>by simp [Zkz]
 | x :: L,acc=>by
  have h1:=Zrw L (Zo6 x acc);have h2:=Zzc x acc;simp only [Zkz,List.foldl_cons,List.length_cons] at h1 ⊢;omega
theorem Zqp (L M acc:List Th):Zkz (L++M) acc=Zkz M (Zkz L acc):=by simp [Zkz,List.foldl_append]
def Zqa (w:World)(A:Option Addr)(T:List Th):Prop:=∀ i x,T[i]?=some x->∃ b o,A=some ⟨b,o,none⟩/\w.cell? ⟨b,o+i*3,none⟩=some (.int .i64 x.1)/\w.cell? ⟨b,o+i*3+1,none⟩=some (.int .i64 x.2.1)/\w.cell? ⟨b,o+i*3+2,none⟩=some (.string ⟨x.2.2.toArray⟩)
theorem Zqa.below {w w':World}{A:Option Addr}{T:List Th}(h:Zqa w A T)(hb:Below w.heap.size w w'):Zqa w' A T:=fun i x hx=>by
 obtain⟨b,o,e,c0,c1,c2⟩:=h i x hx;exact⟨b,o,e,Zac c0 hb,Zac c1 hb,Zac c2 hb⟩
theorem Zqa.nil (w:World)(A:Option Addr):Zqa w A []:=fun i x h=>by simp at h
def Z7n (N:Nat)(A:Option Addr):Prop:=∀ p,A=some p->N<=p.block
def Zt9 (N:Nat)(w:World)(A:Option Addr)(cap:Nat)(T:List Th):Prop:=Zqa w A T/\Z7n N A/\w.ownsRow N 25 3 (.slice A T.length cap) T.length (Zay T)
theorem Zt9.below {N:Nat}{w w':World}{A:Option Addr}{cap:Nat}{T:List Th}(h:Zt9 N w A cap T)(hb:Below w.heap.size w w'):Zt9 N w' A cap T:=⟨h.1.below hb,h.2.1,Zav h.2.2 hb⟩
theorem Zt9.nil (N:Nat)(w:World):Zt9 N w none 0 []:=⟨Zqa.nil _ _,(fun _ e=>by cases e),World.ownsRow_nil _ _ _ _⟩
def Zlg (N:Nat)(T:List Th)(w:World)(e:Ending)(w':World):Prop:=∃ A cap,e=.returned (.slice A T.length cap)/\Zt9 N w' A cap T/\Below w.heap.size w w'
theorem Zks:∀ (L:List Th) (i:Nat) (x:Th),L[i]?=some x->(Zay L)[i*3]?=some (.int .i64 x.1)/\(Zay L)[i*3+1]?=some (.int .i64 x.2.1)/\(Zay L)[i*3+2]?=some (.string ⟨x.2.2.toArray⟩)
 | [],_,_,h=>by simp at h
 | y :: r,0,x,h=>by
  simp only [List.getElem?_cons_zero,Option.some.injEq] at h;subst h;exact⟨rfl,rfl,rfl⟩
 | y :: r,i+1,x,h=>by
  obtain⟨a,b,c⟩:=Zks r i x (by simpa using h);have e:(i+1)*3=i*3+1+1+1:=ω;rw [e];exact⟨by simpa [Zay,Zf3] using a,by simpa [Zay,Zf3] using b,by simpa [Zay,Zf3] using c⟩
theorem Zey {w:World}{B:Nat}{v:Value}{T:List Th}(h:w.ownsRow B 25 3 v T.length (Zay T)):∃ A cap,v=.slice A T.length cap/\Zqa w A T:=by
 obtain⟨A,cap,rfl⟩:=Zbx h;refine⟨A,cap,rfl,fun i x hx=>?_⟩;have hi:=(List.getElem?_eq_some_iff.1 hx).1;obtain⟨a,b,c⟩:=Zks T i x hx;rcases h.2 with ⟨e,h0⟩ | ⟨g,cap',cur,e,_⟩
 ·omega
 simp only [Value.slice.injEq,true_and] at e;obtain⟨rfl,rfl⟩:=e;have hl:=Zfu T;refine⟨g,0,rfl,?_,?_,?_⟩
 ·rw [Nat.zero_add,h.cellAt _ ω];exact a
 ·rw [Nat.zero_add,h.cellAt _ ω];exact b
 ·rw [Nat.zero_add,h.cellAt _ ω];exact c
section
variable {w:World}
set_option maxHeartbeats 2000000 in
set_option maxRecDepth 100000 in
theorem Z7p (t r:Int)(l:List UInt8)(t' r':Int)(l':List UInt8)(w:World) :
  Calls Tryz.prog 120 #[Zek t r l,Zek t' r' l'] w (RB w (.bool (Zim (t,r,l) (t',r',l')))):=by
 have HR:=Zh (show Zim (t,r,l) (t',r',l')=if decide (t=-1) != decide (t'=-1) then decide (t'=-1) else if t≠t' then decide (t<t') else if r≠r' then decide (r<r') else Op.bytesLess l l' by rw [Zm3];rfl);by_cases h1:t=-1
 ·by_cases h2:t'=-1
  ·subst h1 h2;by_cases h4:r=r'
   ·subst h4;have H:=Zh (show Zim (-1,r,l) (-1,r,l')=Op.bytesLess l l' by rw [HR.o];simp);exact m_91
   ·have H:=Zh (show Zim (-1,r,l) (-1,r',l')=decide (r<r') by rw [HR.o];simp [h4]);have h5:(r != r')=true:=by simpa using h4
    exact m_91
  ·subst h1;have H:=Zh (show Zim (-1,r,l) (t',r',l')=false by rw [HR.o];simp [h2]);have h5:(t' == -1)=false:=by simpa using h2
   exact m_91
 ·have h3:(t == -1)=false:=by simpa using h1
  by_cases h2:t'=-1
  ·subst h2;have H:=Zh (show Zim (t,r,l) (-1,r',l')=true by rw [HR.o];simp [h1]);exact m_91
  ·have h5:(t' == -1)=false:=by simpa using h2
   by_cases h6:t=t'
   ·subst h6;by_cases h4:r=r'
    ·subst h4;have H:=Zh (show Zim (t,r,l) (t,r,l')=Op.bytesLess l l' by rw [HR.o];simp);exact m_91
    ·have H:=Zh (show Zim (t,r,l) (t,r',l')=decide (r<r') by rw [HR.o];simp [h4]);have h7:(r != r')=true:=by simpa using h4
     exact m_91
   ·have H:=Zh (show Zim (t,r,l) (t',r',l')=decide (t<t') by rw [HR.o];simp [h1,h2,h6]);have h7:(t != t')=true:=by simpa using h6
    exact m_91
end
section
variable {P:Program} {ops:Array Oper} {Q:Exit->Act->World->Prop} {md:Region.Mode} {S:World->Prop} {E:List Nat}
def Zbv (P:Program)(md:Region.Mode)(ops:Array Oper)(Q:Exit->Act->World->Prop)(S:World->Prop)(E:List Nat):Nat->Array Bool->Act->World->Prop
 | 0,listed,a,w=>Region.ready md ops listed=[]/\Q .normal a w
 | fuel+1,listed,a,w=>(Region.ready md ops listed=[]->Q .normal a w)/\
  ∀ i∈Region.ready md ops listed,wpOp P ops Q i (fun a' w'=>(E.contains i=true->S w')/\Zbv P md ops Q S E fuel (listed.setIfInBounds i true) a' w') a w
theorem Zmb:∀ (fuel:Nat) (listed:Array Bool) (a:Act) (w:World),Zbv P md ops Q S E fuel listed a w->wpAny P md ops Q fuel listed a w
 | 0,_,_,_,h=>h
 | fuel+1,_,_,_,h=>⟨h.1,fun i hi=>wpOp_mono (fun a' w' h'=>Zmb fuel _ a' w' h'.2) (h.2 i hi)⟩
def Zl9 (md:Region.Mode)(ops:Array Oper):Nat->Nat->Nat->Bool
 | 0,_,_=>false
 | f+1,j,i=>match ops[j]? with
  | some oj=>oj.after.any fun e=>Region.binds md e&&(e.on == i||Zl9 md ops f e.on i)
  | none=>false
def Zlf (md:Region.Mode)(ops:Array Oper)(listed:Array Bool):Prop:=∀ (j:Nat) (oj:Oper),ops[j]?=some oj->listed.getD j false=true->∀ e∈oj.after,Region.binds md e=true->listed.getD e.on false=true
def Zuv (md:Region.Mode)(ops:Array Oper)(listed:Array Bool):Bool:=(List.range ops.size).all fun j=>!listed.getD j false||(match ops[j]? with
 | some oj=>oj.after.all fun e=>!Region.binds md e||listed.getD e.on false
 | none=>true)
theorem Zuw {listed:Array Bool}(h:Zuv md ops listed=true):Zlf md ops listed:=fun j oj hoj hl e he hb=>by
 have hjs:j<ops.size:=(Array.getElem?_eq_some_iff.1 hoj).1;have h1:=List.all_eq_true.1 h j (List.mem_range.2 hjs);rw [hl,hoj] at h1;simp only [Bool.not_true,Bool.false_or] at h1;have h2:=Array.all_eq_true'.1 h1 e he;rw [hb] at h2;simpa using h2
theorem Zlf.set {listed:Array Bool}{i:Nat}(h:Zlf md ops listed)(hi:i∈Region.ready md ops listed):Zlf md ops (listed.setIfInBounds i true):=fun j oj hoj hl e he hb=>by
 obtain⟨_,oi,hoi,hall⟩:=mem_ready.1 hi;by_cases hij:i=j
 ·subst hij;rw [hoi] at hoj;cases hoj
  exact getD_set_true (hall e he hb)
 ·rw [getD_set_ne false hij] at hl;exact getD_set_true (h j oj hoj hl e he hb)
theorem Zji {listed:Array Bool}(h:Zlf md ops listed){i:Nat}:∀ (f j:Nat) (oj:Oper),ops[j]?=some oj->(∀ e∈oj.after,Region.binds md e=true->listed.getD e.on false=true)->Zl9 md ops f j i=true->listed.getD i false=true
 | 0,_,_,_,_,hw=>by cases hw
 | f+1,j,oj,hoj,hall,hw=>by
  unfold Zl9 at hw;rw [hoj] at hw;simp only [] at hw;obtain⟨e,he,hb⟩:=Array.any_eq_true'.1 hw;simp only [Bool.and_eq_true,Bool.or_eq_true,beq_iff_eq] at hb;have hl:=hall e he hb.1;rcases hb.2 with h1 | h1
  ·rw [<- h1];exact hl
  ·cases hok:ops[e.on]? with
   | none=>
    cases f with
    | zero=>cases h1
    | succ f=>unfold Zl9 at h1;rw [hok] at h1;cases h1
   | some ok=>exact Zji h f e.on ok hok (fun e2 he2 hb2=>h e.on ok hok hl e2 he2 hb2) h1
def Zli (md:Region.Mode)(ops:Array Oper)(E:List Nat)(listed:Array Bool)(i:Nat):Bool:=Zuv md ops listed&&(List.range ops.size).all fun j=>j == i||listed.getD j true||Zl9 md ops ops.size j i||E.contains j
def Z1k (md:Region.Mode)(ops:Array Oper)(E:List Nat)(listed:Array Bool)(i:Nat):Prop:=Zlf md ops listed/\∀ j,j<ops.size->j=i\/listed.getD j true=true\/Zl9 md ops ops.size j i=true\/E.contains j=true
theorem Zxy {listed:Array Bool}{i:Nat}(h:Zli md ops E listed i=true):Z1k md ops E listed i:=by
 unfold Zli at h;rw [Bool.and_eq_true] at h;refine⟨Zuw h.1,fun j hj=>?_⟩;have:=List.all_eq_true.1 h.2 j (List.mem_range.2 hj);simp only [Bool.or_eq_true,beq_iff_eq] at this;rcases this with ((h | h) | h) | h
 ·exact Or.inl h
 ·exact Or.inr (Or.inl h)
 ·exact Or.inr (Or.inr (Or.inl h))
 ·exact Or.inr (Or.inr (Or.inr h))
theorem Zjj {i:Nat}{oi:Oper}{v:Value}{S':World->Prop}(hi:ops[i]?=some oi)(hsel:∀ (j:Nat) (o:Oper) cs b,ops[j]?=some o->o.op≠.select cs b)
  (hQ:∀ c a w,Q (.panic c) (a.put oi.dst v) w->Q (.panic c) a w) :
  ∀ (fuel:Nat) (listed:Array Bool) (a:Act) (w:World),((E.contains i=false/\∀ w,S' w)\/(Z1k md ops E listed i/\∀ w,S w->S' w))->
   (∀ j oj,ops[j]?=some oj->j≠i->listed.getD j true=false->(∀ e∈oj.after,Region.binds md e=true->e.on≠i)->oi.apart ops oj=true)->
   i∈Region.ready md ops listed->YieldsIf P ops S' oi v a->(E.contains i=true->S w)->S' w->
   Zbv P md ops Q S E fuel (listed.setIfInBounds i true) (a.put oi.dst v) w->Zbv P md ops Q S E (fuel+1) listed a w:=by
 intro fuel
 induction fuel with
 | zero=>
  intro listed a w _ _ hr hy hS hS' H;refine⟨fun h=>(by rw [h] at hr;cases hr),fun j hj=>?_⟩;by_cases hji:j=i
  ·subst hji;exact hy.wpOp hi hS' ⟨hS,H⟩
  ·have:=ready_mono hj hji;rw [H.1] at this;cases this
 | succ fuel ih=>
  intro listed a w hcase hfree hr hy hS hS' H;refine⟨fun h=>(by rw [h] at hr;cases hr),fun j hj=>?_⟩;by_cases hji:j=i
  ·subst hji;exact hy.wpOp hi hS' ⟨hS,H⟩
  ·have h1:=H.2 j (ready_mono hj hji);obtain⟨hjun,oj,hoj,hall⟩:=mem_ready.1 hj;have hnot:∀ e∈oj.after,Region.binds md e=true->e.on≠i:=fun e he hb heq=>by
    have h1:=hall e he hb;rw [heq,getD_both (mem_ready.1 hr).1] at h1;cases h1
   have h2:=wpOp_putIf hoj (hfree j oj hoj hji hjun hnot) (fun cs b=>hsel i oi cs b hi) (fun cs b=>hsel j oj cs b hoj) hQ hy h1;have hfree':∀ k ok,ops[k]?=some ok->k≠i->(listed.setIfInBounds j true).getD k true=false->
     (∀ e∈ok.after,Region.binds md e=true->e.on≠i)->oi.apart ops ok=true:=fun k ok hk hki hun hno=>by
    refine hfree k ok hk hki ?_ hno;by_cases hjk:j=k
    ·subst hjk;exact hjun
    ·rw [getD_set_ne true hjk] at hun;exact hun
   have hswap:∀ (a':Act) (w':World),Zbv P md ops Q S E fuel ((listed.setIfInBounds i true).setIfInBounds j true) a' w'->Zbv P md ops Q S E fuel ((listed.setIfInBounds j true).setIfInBounds i true) a' w':=fun a' w' h=>by
    rw [Array.setIfInBounds_comm _ _ hji];exact h
   rcases hcase with ⟨hE,hall'⟩ | ⟨hah,hSS⟩
   ·exact wpOp_mono (fun a' w' h3=>⟨h3.2.1,ih (listed.setIfInBounds j true) a' w' (Or.inl ⟨hE,hall'⟩) hfree' (ready_mono hr (Ne.symm hji)) h3.1 (fun e=>by rw [hE] at e;cases e) (hall' w') (hswap _ _ h3.2.2)⟩) h2
   ·have hjE:E.contains j=true:=by
     have hjs:j<ops.size:=(Array.getElem?_eq_some_iff.1 hoj).1;rcases hah.2 j hjs with h | h | h | h
     ·exact absurd h hji
     ·rw [hjun] at h;cases h
     ·have:=Zji hah.1 _ j oj hoj hall h;rw [getD_both (mem_ready.1 hr).1] at this;cases this
     ·exact h
    have hah':Z1k md ops E (listed.setIfInBounds j true) i:=by
     refine⟨hah.1.set hj,fun k hk=>?_⟩;by_cases hjk:j=k
     ·subst hjk;exact Or.inr (Or.inr (Or.inr hjE))
     ·rw [getD_set_ne true hjk];exact hah.2 k hk
    exact wpOp_mono (fun a' w' h3=>⟨h3.2.1,ih (listed.setIfInBounds j true) a' w' (Or.inr ⟨hah',hSS⟩) hfree' (ready_mono hr (Ne.symm hji)) h3.1 (fun _=>h3.2.1 hjE) (hSS _ (h3.2.1 hjE)) (hswap _ _ h3.2.2)⟩) h2
theorem Zsz {i:Nat}{oi:Oper}{v:Value}{fuel:Nat}{listed:Array Bool}{a:Act}{w:World}(hi:ops[i]?=some oi)(hE:E.contains i=false)
  (hs:Region.noSelect ops=true) (hf:Region.free md ops listed i=true) (hr:(Region.ready md ops listed).contains i=true)
  (hQ:∀ c a w,Q (.panic c) (a.put oi.dst v) w->Q (.panic c) a w) (hy:YieldsIf P ops (fun _=>True) oi v a)
  (h:Zbv P md ops Q S E fuel (listed.setIfInBounds i true) (a.put oi.dst v) w):Zbv P md ops Q S E (fuel+1) listed a w:=
 Zjj hi (Region.noSelect_spec hs) hQ fuel listed a w (Or.inl ⟨hE,fun _=>trivial⟩) (Region.free_spec hi hf) (by simpa using hr) hy (fun e=>by rw [hE] at e;cases e) trivial h
theorem Z0n {i:Nat}{oi:Oper}{v:Value}{fuel:Nat}{listed:Array Bool}{a:Act}{w:World}(hi:ops[i]?=some oi)(hE:Zli md ops E listed i=true)
  (hs:Region.noSelect ops=true) (hf:Region.free md ops listed i=true) (hr:(Region.ready md ops listed).contains i=true)
  (hQ:∀ c a w,Q (.panic c) (a.put oi.dst v) w->Q (.panic c) a w) (hy:YieldsIf P ops S oi v a) (hS:S w)
  (h:Zbv P md ops Q S E fuel (listed.setIfInBounds i true) (a.put oi.dst v) w):Zbv P md ops Q S E (fuel+1) listed a w:=
 Zjj hi (Region.noSelect_spec hs) hQ fuel listed a w (Or.inr ⟨Zxy hE,fun _ h=>h⟩) (Region.free_spec hi hf) (by simpa using hr) hy (fun _=>hS) hS h
theorem Zar {i:Nat}{o:Oper}{fuel:Nat}{listed:Array Bool}{a:Act}{w:World}(hr:Region.ready md ops listed=[i])(ho:ops[i]?=some o)
  (h:∀ K':Act->World->Prop,Shut (∀ a w,S w->Zbv P md ops Q S E fuel (listed.setIfInBounds i true) a w->K' a w)->if Region.wanted o (yielded ops a.tmps)=true then Oper.wp P o a w K' Q else K' (a.put o.dst undef) w) :
  Zbv P md ops Q S E (fuel+1) listed a w:=by
 refine⟨fun h0=>(by rw [hr] at h0;cases h0),fun j hj=>?_⟩;rw [hr,List.mem_singleton] at hj;subst hj;exact wpOp_step ho (fun K' hK=>h K' (fun a w hS hW=>hK a w ⟨fun _=>hS,hW⟩))
theorem Zd5 {i j:Nat}{o p:Oper}{fuel:Nat}{listed:Array Bool}{a:Act}{w:World}(hr:Region.ready md ops listed=[i,j])(ho:ops[i]?=some o)(hp:ops[j]?=some p)
  (h:∀ K':Act->World->Prop,Shut (∀ a w,S w->Zbv P md ops Q S E fuel (listed.setIfInBounds i true) a w->K' a w)->if Region.wanted o (yielded ops a.tmps)=true then Oper.wp P o a w K' Q else K' (a.put o.dst undef) w)
  (h2:∀ K':Act->World->Prop,Shut (∀ a w,S w->Zbv P md ops Q S E fuel (listed.setIfInBounds j true) a w->K' a w)->if Region.wanted p (yielded ops a.tmps)=true then Oper.wp P p a w K' Q else K' (a.put p.dst undef) w) :
  Zbv P md ops Q S E (fuel+1) listed a w:=by
 refine⟨fun h0=>(by rw [hr] at h0;cases h0),fun k hk=>?_⟩;rw [hr] at hk;rcases List.mem_cons.1 hk with rfl | hk
 ·exact wpOp_step ho (fun K' hK=>h K' (fun a w hS hW=>hK a w ⟨fun _=>hS,hW⟩))
 ·rw [List.mem_singleton] at hk;subst hk;exact wpOp_step hp (fun K' hK=>h2 K' (fun a w hS hW=>hK a w ⟨fun _=>hS,hW⟩))
def Z4b (md:Region.Mode)(ops:Array Oper)(E:List Nat):Nat->Nat->Array Bool->Bool
 | 0,_,listed=>(Region.ready md ops listed).isEmpty
 | g+1,k,listed=>decide (Region.ready md ops listed=[k])&&!E.contains k&&Z4b md ops E g (k+1) (listed.setIfInBounds k true)
theorem Zxk:∀ (l:List Oper) (k:Nat) (listed:Array Bool) (a:Act) (w:World),(∀ j,l[j]?=ops[k+j]?)->
  Z4b md ops E l.length k listed=true->wpList P ops Q l a w->Zbv P md ops Q S E l.length listed a w
 | [],_,_,_,_,_,hB,h=>⟨by simpa [Z4b] using hB,h⟩
 | o :: l,k,listed,a,w,hl,hB,h=>by
  have h0:ops[k]?=some o:=by simpa using (hl 0).symm
  simp only [List.length_cons,Z4b,Bool.and_eq_true,decide_eq_true_eq,Bool.not_eq_true'] at hB;refine⟨fun h1=>(by rw [hB.1.1] at h1;cases h1),fun i hi=>?_⟩;rw [hB.1.1] at hi;have hik:i=k:=by simpa using hi
  subst hik;have hw:wpOp P ops Q i (wpList P ops Q l) a w:=by unfold wpOp;simp only [h0];exact h
  exact wpOp_mono (fun a' w' h'=>⟨fun he=>(by rw [hB.1.2] at he;cases he),Zxk l (i+1) _ a' w' (fun j=>by have:=hl (j+1);simpa [Nat.add_assoc,Nat.add_comm 1 j] using this) hB.2 h'⟩) hw
end
theorem Blk.sets {w:World}{p:Nat}{t:TypeId}:∀ (vs:List Value) (k:Nat) (cs:Array Value),Blk w p t cs->Blk (w.setCells p k vs) p t (vs.foldl (fun (s:Array Value×Nat) v=>(s.1.setIfInBounds s.2 v,s.2+1)) (cs,k)).1
 | [],_,_,h=>h
 | v :: r,k,_cs,h=>Blk.sets r (k+1) _ (h.set_ k v)
theorem Zbc {w:World}{g p:Nat}{t:TypeId}{cs:Array Value}(h:Blk w g t cs)(hne:g≠p):∀ (vs:List Value) (k:Nat),Blk (w.setCells p k vs) g t cs:=by
 intro vs
 induction vs generalizing w with
 | nil=>intro _;exact h
 | cons v r ih=>intro k;exact ih (h.far hne v) (k+1)
theorem Zau {W w:World}{B p:Nat}(h:Below B W w)(hp:B<=p):∀ (vs:List Value) (k:Nat),Below B W (w.setCells p k vs):=by
 intro vs
 induction vs generalizing w with
 | nil=>intro _;exact h
 | cons v r ih=>intro k;exact ih (h.setCell (p:=⟨p,k,none⟩) hp v) (k+1)
theorem Blk.sets5 {w:World}{p:Nat}{t:TypeId}{cs:Array Value}(h:Blk w p t cs)(hs:cs.size=5)(a b c d e:Value):Blk (w.setCells p 0 [a,b,c,d,e]) p t #[a,b,c,d,e]:=by
 have hc:([a,b,c,d,e].foldl (fun (s:Array Value×Nat) v=>(s.1.setIfInBounds s.2 v,s.2+1)) (cs,0)).1=#[a,b,c,d,e]:=by
  obtain⟨l⟩:=cs;have hl:l.length=5:=hs;obtain⟨x0,l,rfl⟩:=List.exists_cons_of_length_eq_add_one hl;obtain⟨x1,l,rfl⟩:=List.exists_cons_of_length_eq_add_one (Nat.succ.inj hl);obtain⟨x2,l,rfl⟩:=List.exists_cons_of_length_eq_add_one (Nat.succ.inj (Nat.succ.inj hl));obtain⟨x3,l,rfl⟩:=List.exists_cons_of_length_eq_add_one (Nat.succ.inj (Nat.succ.inj (Nat.succ.inj hl)));obtain⟨x4,l,rfl⟩:=List.exists_cons_of_length_eq_add_one (Nat.succ.inj (Nat.succ.inj (Nat.succ.inj (Nat.succ.inj hl))));have h0:l=[]:=List.eq_nil_of_length_eq_zero (Nat.succ.inj (Nat.succ.inj (Nat.succ.inj (Nat.succ.inj (Nat.succ.inj hl)))));subst h0;simp
 rw [<- hc];exact Blk.sets [a,b,c,d,e] 0 cs h
theorem Zbi {w:World}{p:Nat}{t:TypeId}{cs:Array Value}(h:Blk w p t cs)(n:Nat)(hn:n<=cs.size):w.there p 0 n:=fun j hj=>by
 refine⟨?_,h.frozen _⟩;rw [h.cell,Option.isSome_iff_exists];exact⟨_,Array.getElem?_eq_getElem ω⟩
theorem Zxl {P:Program}{id:Nat}{Q:Exit->Act->World->Prop}{a:Act}{w:World}{l:List Oper}(S:World->Prop)(E:List Nat)(hm:P.follows .mixedOrders=true)(hS:S w.drew)
  (h:S w.drew->Zbv P .any l.toArray Q S E l.length (Array.replicate l.toArray.size false) a w.drew):(Code.region id l.toArray true).wp P Q a w:=
 wp_region_any hm (Zmb _ _ _ _ (by simpa using h hS))
theorem Z0m {P:Program}{md:Region.Mode}{Q:Exit->Act->World->Prop}{S:World->Prop}{E:List Nat}{a:Act}{w:World}{l:List Oper}{listed:Array Bool}{f:Nat}(n:Nat)(hf:l.length - n=f)(hB:Z4b md l.toArray E f n listed=true)
  (h:wpList P l.toArray Q (l.drop n) a w):Zbv P md l.toArray Q S E f listed a w:=by
 have hd:(l.drop n).length=f:=by simp [hf]
 have:=Zxk (md:=md) (S:=S) (E:=E) (l.drop n) n listed a w (fun j=>by simp [List.getElem?_drop]) (by rw [hd];exact hB) h
 rwa [hd] at this
section
variable {P:Program} {ops:Array Oper} {Q:Exit->Act->World->Prop} {md:Region.Mode} {S:World->Prop} {E:List Nat}
theorem wpP (i:Nat){oi:Oper}{v:Value}{fuel:Nat}{listed:Array Bool}{a:Act}{w:World}(hi:ops[i]?=some oi)
  (hc:(!E.contains i&&Region.noSelect ops&&Region.free md ops listed i&&(Region.ready md ops listed).contains i&&Region.wanted oi (yielded ops a.tmps))=true)
  (hy:∀ x',(execOp a.eval oi).run P x'=.ok (.value v) x') (h:Zbv P md ops Q S E fuel (listed.setIfInBounds i true) (a.put oi.dst v) w)
  (hQ:∀ c a w,Q (.panic c) (a.put oi.dst v) w->Q (.panic c) a w:=by exact fun _ _ _ h=>h):Zbv P md ops Q S E (fuel+1) listed a w:=by
 simp only [Bool.and_eq_true,Bool.not_eq_true'] at hc;exact Zsz hi hc.1.1.1.1 hc.1.1.1.2 hc.1.1.2 hc.1.2 hQ (Or.inl ⟨hc.2,fun x' _=>hy x'⟩) h
theorem wpT (i:Nat){oi:Oper}{v:Value}{fuel:Nat}{listed:Array Bool}{a:Act}{w:World}(hi:ops[i]?=some oi)
  (hc:(Zli md ops E listed i&&Region.noSelect ops&&Region.free md ops listed i&&(Region.ready md ops listed).contains i&&Region.wanted oi (yielded ops a.tmps))=true)
  (hy:∀ x',S x'->(execOp a.eval oi).run P x'=.ok (.value v) x') (hS:S w) (h:Zbv P md ops Q S E fuel (listed.setIfInBounds i true) (a.put oi.dst v) w)
  (hQ:∀ c a w,Q (.panic c) (a.put oi.dst v) w->Q (.panic c) a w:=by exact fun _ _ _ h=>h):Zbv P md ops Q S E (fuel+1) listed a w:=by
 simp only [Bool.and_eq_true] at hc;exact Z0n hi hc.1.1.1.1 hc.1.1.1.2 hc.1.1.2 hc.1.2 hQ (Or.inl ⟨hc.2,hy⟩) hS h
theorem wpS (i:Nat){oi:Oper}{fuel:Nat}{listed:Array Bool}{a:Act}{w:World}(hi:ops[i]?=some oi)
  (hc:(!E.contains i&&Region.noSelect ops&&Region.free md ops listed i&&(Region.ready md ops listed).contains i&&!Region.wanted oi (yielded ops a.tmps))=true)
  (h:Zbv P md ops Q S E fuel (listed.setIfInBounds i true) (a.put oi.dst undef) w)
  (hQ:∀ c a w,Q (.panic c) (a.put oi.dst undef) w->Q (.panic c) a w:=by exact fun _ _ _ h=>h):Zbv P md ops Q S E (fuel+1) listed a w:=by
 simp only [Bool.and_eq_true,Bool.not_eq_true'] at hc;exact Zsz hi hc.1.1.1.1 hc.1.1.1.2 hc.1.1.2 hc.1.2 hQ (Or.inr ⟨hc.2,rfl⟩) h
end
section
universe u
variable {α:Type u}
theorem pa1 {xs:List α}{i:Nat}(h:i<xs.toArray.size):xs.toArray[i]=xs[i]'(by simpa using h):=List.getElem_toArray h
theorem pa2 (a:α)(bs:List α)(i:Nat)(h:i+1<(a :: bs).length):(a :: bs)[i+1]=bs[i]'(Nat.lt_of_succ_lt_succ h):=rfl
theorem pa3 (a:α)(bs:List α)(h:0<(a :: bs).length):(a :: bs)[0]=a:=rfl
theorem pa4 (l:List α)(i:Nat)(a:α):l.toArray.setIfInBounds i a=(l.set i a).toArray:=List.setIfInBounds_toArray ..
theorem pa5 (x:α)(xs:List α)(a:α):(x :: xs).set 0 a=a :: xs:=rfl
theorem pa6 (x:α)(xs:List α)(n:Nat)(a:α):(x :: xs).set (n+1) a=x :: xs.set n a:=rfl
end
section
variable {P:Program} {ops:Array Oper} {Q:Exit->Act->World->Prop} {md:Region.Mode} {S:World->Prop} {E:List Nat}
theorem wq (i:Nat){oi:Oper}{v:Value}{fuel:Nat}{listed:Array Bool}{a a2:Act}{w:World}(h:Zbv P md ops Q S E fuel (listed.setIfInBounds i true) a2 w)(hi:ops[i]?=some oi:=by rfl)
  (hc:(!E.contains i&&Region.noSelect ops&&Region.free md ops listed i&&(Region.ready md ops listed).contains i&&Region.wanted oi (yielded ops a.tmps))=true:=by kernel_rfl)
  (hy:∀ x',(execOp a.eval oi).run P x'=.ok (.value v) x':=by (intro x';go_simp;try with_reducible rfl))
  (hp:a.put oi.dst v=a2:=by ((try simp only [pa1,pa2,pa3,Act.put,pa4,pa5,pa6]);rfl))
  (hQ:∀ c a w,Q (.panic c) (a.put oi.dst v) w->Q (.panic c) a w:=by exact fun _ _ _ h=>h):Zbv P md ops Q S E (fuel+1) listed a w:=by
 subst hp;exact wpP i hi hc hy h hQ
theorem wt (i:Nat){oi:Oper}{v:Value}{fuel:Nat}{listed:Array Bool}{a a2:Act}{w:World}(hS:S w)(h:Zbv P md ops Q S E fuel (listed.setIfInBounds i true) a2 w)(hi:ops[i]?=some oi:=by rfl)
  (hc:(Zli md ops E listed i&&Region.noSelect ops&&Region.free md ops listed i&&(Region.ready md ops listed).contains i&&Region.wanted oi (yielded ops a.tmps))=true:=by kernel_rfl)
  (hy:∀ x',S x'->(execOp a.eval oi).run P x'=.ok (.value v) x':=by (intro x' hSx;(try dsimp only at hSx);go_simp;try with_reducible rfl))
  (hp:a.put oi.dst v=a2:=by ((try simp only [pa1,pa2,pa3,Act.put,pa4,pa5,pa6]);rfl))
  (hQ:∀ c a w,Q (.panic c) (a.put oi.dst v) w->Q (.panic c) a w:=by exact fun _ _ _ h=>h):Zbv P md ops Q S E (fuel+1) listed a w:=by
 subst hp;exact wpT i hi hc hy hS h hQ
theorem ws (i:Nat){oi:Oper}{fuel:Nat}{listed:Array Bool}{a a2:Act}{w:World}(h:Zbv P md ops Q S E fuel (listed.setIfInBounds i true) a2 w)(hi:ops[i]?=some oi:=by rfl)
  (hc:(!E.contains i&&Region.noSelect ops&&Region.free md ops listed i&&(Region.ready md ops listed).contains i&&!Region.wanted oi (yielded ops a.tmps))=true:=by kernel_rfl)
  (hp:a.put oi.dst undef=a2:=by ((try simp only [pa1,pa2,pa3,Act.put,pa4,pa5,pa6]);rfl))
  (hQ:∀ c a w,Q (.panic c) (a.put oi.dst undef) w->Q (.panic c) a w:=by exact fun _ _ _ h=>h):Zbv P md ops Q S E (fuel+1) listed a w:=by
 subst hp;exact wpS i hi hc h hQ
theorem pu {fuel:Nat}{listed:Array Bool}{a a2:Act}{w:World}(h:Zbv P md ops Q S E fuel listed a2 w)(hp:a=a2:=by ((try simp only [pa1,pa2,pa3,Act.put,pa4,pa5,pa6]);rfl)):Zbv P md ops Q S E fuel listed a w:=by
 subst hp;exact h
theorem wv (i:Nat){oi:Oper}(v:Value){fuel:Nat}{listed:Array Bool}{a a2:Act}{w:World}(hi:ops[i]?=some oi)(hy:∀ x',S x'->(execOp a.eval oi).run P x'=.ok (.value v) x')(hS:S w)(h:Zbv P md ops Q S E fuel (listed.setIfInBounds i true) a2 w)
  (hc:(Zli md ops E listed i&&Region.noSelect ops&&Region.free md ops listed i&&(Region.ready md ops listed).contains i&&Region.wanted oi (yielded ops a.tmps))=true:=by kernel_rfl)
  (hp:a.put oi.dst v=a2:=by ((try simp only [pa1,pa2,pa3,Act.put,pa4,pa5,pa6]);rfl))
  (hQ:∀ c a w,Q (.panic c) (a.put oi.dst v) w->Q (.panic c) a w:=by exact fun _ _ _ h=>h):Zbv P md ops Q S E (fuel+1) listed a w:=by
 subst hp;exact wpT i hi hc hy hS h hQ
theorem wz {P:Program}{id:Nat}{Q:Exit->Act->World->Prop}{a:Act}{w:World}{l:List Oper}{n:Nat}(S:World->Prop)(E:List Nat)(hS:S w.drew)
  (h:S w.drew->Zbv P .any l.toArray Q S E n (Array.replicate l.toArray.size false) a w.drew) (hm:P.follows .mixedOrders=true:=by kernel_rfl)
  (hn:l.length=n:=by ((simp only [List.length_cons,List.length_nil,Nat.zero_add,Nat.reduceAdd]);try rfl)):(Code.region id l.toArray true).wp P Q a w:=by
 subst hn;exact Zxl S E hm hS h
theorem wl {P:Program}{md:Region.Mode}{Q:Exit->Act->World->Prop}{S:World->Prop}{E:List Nat}{a:Act}{w:World}{l l2:List Oper}{listed:Array Bool}{f:Nat}(n:Nat)(h:wpList P l.toArray Q l2 a w)
  (hf:l.length - n=f:=by rfl) (hB:Z4b md l.toArray E f n listed=true:=by kernel_rfl) (hd:l.drop n=l2:=by ((simp only [List.drop_succ_cons,List.drop_zero]);try rfl)):Zbv P md l.toArray Q S E f listed a w:=by
 subst hd;exact Z0m n hf hB h
end
end Go.Proofs.YtdfmcfppoohckaaGreatDoor
namespace Go.Proofs.YtdfmcfppoohckaaGreatDoor
open Go.RowKit
open Go.Maps
theorem Zk2:laidOutB Tryz.prog=true:=by kernel_rfl
theorem Zwz:(25:TypeId)<Tryz.prog.types.size:=of_decide_eq_true κ
theorem Zt0:(match Tryz.prog.underlying 25 with | some (.array _ _) | some (.struct _)=>true | _=>false)=true:=by rw [Tryz.underlying25]
set_option maxHeartbeats 2000000 in
set_option maxRecDepth 100000 in
theorem Zdl:Keyed Tryz.prog 25:=Keyed.of_law (deep_law_laid Zk2 (m:=2) ω Zwz κ Zt0)
theorem Zmz:Tryz.prog.keyType 25=true:=by kernel_rfl
theorem Zkc:Tryz.prog.cellsOf 25=3:=by kernel_rfl
theorem Zc0 (w:World):(zeroValue 3).run Tryz.prog w=.ok (.int .i64 0) w:=by kernel_rfl
theorem Zoz {a b c:Value}:(Value.agg #[a,b,c]).formed Tryz.prog 25=true:=by simp [Value.formed,Tryz.underlying25,Zkc]
theorem Zui:Tryz.prog.cellsOf 3=1:=by kernel_rfl
theorem Zok:Tryz.prog.cellsOf 9=1:=by kernel_rfl
theorem Ztj (d:Nat)(t r:Int)(l:List UInt8)(h1:(Lit.int .i64 t).wf=true)(h2:(Lit.int .i64 r).wf=true)(hl:l.length<=9223372036854775807) :
  Tryz.prog.keyLits (d+2) 25 [.int .i64 t,.int .i64 r,.string ⟨l.toArray⟩]=some [.int .i64 t,.int .i64 r,.string l]:=by
 have hs:(⟨l.toArray⟩:ByteArray).size<=maxLen:=by rw [Zia];unfold maxLen;omega
 simp [Program.keyLits,Tryz.underlying25,Tryz.underlying3,Tryz.underlying9,Zkc,Zui,Zok,h1,h2,hs]
theorem Zvq (t r:Int)(l:List UInt8)(h1:(Lit.int .i64 t).wf=true)(h2:(Lit.int .i64 r).wf=true)(hl:l.length<=9223372036854775807) :
  keyOf Tryz.prog 25 (Zek t r l)=some (.string (keyBytes [.int .i64 t,.int .i64 r,.string l])):=by
 have h:∀ d,Tryz.prog.keyLits (d+2) 25 [.int .i64 t,.int .i64 r,.string ⟨l.toArray⟩]=_:=fun d=>Ztj d t r l h1 h2 hl
 have hc:(Zek t r l).cells.toList=[.int .i64 t,.int .i64 r,.string ⟨l.toArray⟩]:=rfl;unfold keyOf;simp only [Tryz.underlying25,Zmz,Zoz];simp [hc,h]
def klT (x:Th):Lit:=.string (keyBytes [.int .i64 x.1,.int .i64 x.2.1,.string x.2.2])
end Go.Proofs.YtdfmcfppoohckaaGreatDoor
namespace Go.Proofs.YtdfmcfppoohckaaGreatDoor
open Go.RowKit
open Go.Maps
theorem Zh9 {P:Program}{id:Nat}{Q:Exit->Act->World->Prop}{a:Act}{w:World}{l:List Oper}(hm:P.follows .mixedOrders=true)(hB:Region.lexB .any l.toArray=true)
  (h:wpStill P l.toArray w.drew (fun a'=>Q .normal a' w.drew) l a):(Code.region id l.toArray true).wp P Q a w:=wp_region_still_lit hm hB h
end Go.Proofs.YtdfmcfppoohckaaGreatDoor
