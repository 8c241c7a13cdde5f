/- Layer 8: the program's Things at any condition. Layer 8: the reference's list of things is -/
import Derived.Test.YtdfmcfppoohckaaGreatDoorTm10

namespace Go.Proofs.YtdfmcfppoohckaaGreatDoor
open Go.RowKit
open Go.Lib (compactUpTo keeps)
theorem Zmg:∀ f:Fr,f.all=f.size
 | .nil=>rfl
 | .cons _ _ _ _ _ kids rest=>by simp only [Fr.all,Fr.size,Zmg kids,Zmg rest];omega
theorem Z0s {k t r:Int}{l:List UInt8}{v:Int}{n:Nat}(h:Zf4 2 k t r l v n=true):∀ x∈atL k t r l,Zfn x:=by
 intro x hx;unfold atL at hx
 split at hx
 ·rename_i h2;exact m_122
 ·simp at hx
theorem Zj4:∀ f:Fr,okF 2 f->∀ x∈Za1 f,Zfn x
 | .nil,_,x,hx=>by simp [Za1] at hx
 | .cons k t r l v kids rest,h,x,hx=>by
  simp only [Za1,List.mem_append] at hx;rcases hx with (hx | hx) | hx
  ·exact Z0s h.1 x hx
  ·exact Zj4 kids h.2.1 x hx
  ·exact Zj4 rest h.2.2 x hx
theorem Zqi {q k t r:Int}{l:List UInt8}{v:Int}{kids:Fr}(h:Zbe 2 q k t r l v kids=0):Zf4 2 k t r l v kids.len=true/\okF 2 kids/\1+kids.all<=1000000/\(∀ x∈atL k t r l++Za1 kids,Zfn x)/\(atL k t r l++Za1 kids).length<=1024:=by
 obtain⟨_,_,_,h1,h2,h3⟩:=Zol h;have ha:=Zmg kids;have hn:=Zdb kids;have h4:(atL k t r l).length<=1:=by unfold atL;split <;> simp
 refine⟨h1,h2,ω,fun x hx=>?_,by simp;omega⟩;rcases List.mem_append.1 hx with hx | hx
 ·exact Z0s h1 x hx
 ·exact Zj4 kids h2 x hx
theorem Zkd {α:Type}[Inhabited α][DecidableEq α](d:Array α):∀ m,m<=d.size->∀ x∈Lib.compactUpTo d m,x∈d.toList:=by
 intro m
 induction m with
 | zero=>intro _ x hx;simp [Lib.compactUpTo] at hx
 | succ m ih=>
  intro hm x hx;rw [Lib.compactUpTo_succ] at hx;rcases List.mem_append.1 hx with hx | hx
  ·exact ih ω x hx
  ·split at hx
   ·simp only [List.mem_singleton] at hx;subst hx;rw [getElem!_pos d m ω];simp
   ·simp at hx
theorem Ziu {α:Type}[Inhabited α][DecidableEq α](d:Array α):∀ m,(Lib.compactUpTo d m).length<=m:=by
 intro m
 induction m with
 | zero=>simp [Lib.compactUpTo]
 | succ m ih=>
  rw [Lib.compactUpTo_succ,List.length_append]
  split <;> simp <;> omega
theorem Zss (L:List Th):(Zpz L).length<=L.length:=by
 have:=Ziu (Zft L).toArray (Zft L).toArray.size;simpa [Zpz,Zkr] using this
theorem Zsw (L:List Th):∀ x∈Zpz L,x∈L:=fun x hx=>(Zgw L).mem_iff.1 (by simpa using Zkd (Zft L).toArray _ (Nat.le_refl _) x hx)
def Zk4 (q k t r:Int)(l:List UInt8)(v:Int)(kids:Fr):List Th:=if Zbe 2 q k t r l v kids=0 then Zpz (atL k t r l++Za1 kids) else []
def Z70 (T:List Th)(E:Int)(w:World)(e:Ending)(w':World):Prop:=∃ u,e=.returned (.tuple #[u,.int .i64 E])/\Zs3 w w' u T/\Below w.heap.size w w'
theorem Zs3.old {w0 w w':World}{v:Value}{T:List Th}(h:Zs3 w w' v T)(hw:w0.heap.size<=w.heap.size):Zs3 w0 w' v T:=by
 obtain⟨h1,h2⟩:=h;refine⟨h1,?_⟩;rcases h2 with h2 | ⟨g,cap,cur,rfl,h3,h4,h5⟩
 ·exact .inl h2
 ·exact .inr ⟨g,cap,cur,rfl,ω,h4,h5⟩
section
variable {w:World} {q k t r v:Int} {l:List UInt8} {kids:Fr}
set_option maxHeartbeats 2000000 in
set_option maxRecDepth 100000 in
theorem Z7v (hi:Nat)(kv:Value)(hhi:hi<=w.heap.size)(hs:Zec w hi kv kids)(hl:l.length<=9223372036854775807) :
  Calls Tryz.prog 14 #[Zyt q k t r l v kv] w (Z70 (Zk4 q k t r l v kids) (Zbe 2 q k t r l v kids) w):=by
 obtain⟨A,cap,rfl,s'⟩:=hs;have hs2:Zec w hi (.slice A kids.len cap) kids:=⟨A,cap,rfl,s'⟩;have hb1:=Zad w (.cells #[.int .i64 q,.int .i64 k,.int .i64 t,.int .i64 r,.string ⟨l.toArray⟩,.int .i64 v,.slice A kids.len cap] 30 (0,0));have hs3:=hs2.below hhi hb1;have HS:=Zh hs3;have HSU:=Zh (hs3.up (show hi<=(w.alloc (.cells #[.int .i64 q,.int .i64 k,.int .i64 t,.int .i64 r,.string ⟨l.toArray⟩,.int .i64 v,.slice A kids.len cap] 30 (0,0))).heap.size by simp;omega));have HB1:=Zh hb1;have HBN:=Zh (Blk.new w 30 #[.int .i64 q,.int .i64 k,.int .i64 t,.int .i64 r,.string ⟨l.toArray⟩,.int .i64 v,.slice A kids.len cap]);by_cases hck:Zbe 2 q k t r l v kids=0
 ·obtain⟨ho,hk,hall,hv,hnl⟩:=Zqi hck;have HCK:=Zh hck;have HTP:=Zh (fun (w2:World) (h1:hi<=w2.heap.size) (h2:Zec w2 hi (.slice A kids.len cap) kids)=>Z3y (w:=w2) (v:=v) hi _ h1 h2 hl hall hv);rw [show Zk4 q k t r l v kids=Zpz (atL k t r l++Za1 kids) by unfold Zk4;rw [if_pos hck],hck];obtain⟨L,hL⟩:∃ L,atL k t r l++Za1 kids=L:=⟨_,rfl⟩;rw [hL] at hnl HTP ⊢;have hul:=Zss L;go_enter Tryz.func14,Tryz.ntmps14
  go_wp2_with (first
   | (go_at_call 48;refine (Zul 2 q k t r l v _ kids _ hl HSU.o).mono ?_;rw [HCK.o];rintro e w2 ⟨rfl,hb2⟩;have hB:=HBN.o.go hb2;have c1:=hB.cell 1;have c2:=hB.cell 2;have c3:=hB.cell 3;have c4:=hB.cell 4;have c5:=hB.cell 5;have c6:=hB.cell 6;have HB2:=Zh hb2;have hz2:=hb2.size;simp at hz2;have HS2:=Zh (HS.o.below (by simp;omega) hb2);clear hB hb2)
   | (go_at_call 55;refine (HTP.o _ ω HS2.o).mono ?_;rintro e w3 ⟨g,cg,rfl,hg,ht,hb3⟩;have HT:=Zh ht;have HG:=Zh hg;have HB3:=Zh hb3;have hz3:=hb3.size;clear ht hb3 hg)
   | (go_at_call 54;refine (Z4s g cg (Zpz L) ω HG.o HT.o).mono ?_;rintro e w4 ⟨v4,rfl,ho4,hb4⟩))
  go_ret2
  exact⟨v4,rfl,ho4.old ω,((HB1.o.trans (HB2.o.mono (by simp))).trans (HB3.o.mono ω)).trans (hb4.mono ω)⟩
 ·obtain⟨E,hE⟩:∃ E,Zbe 2 q k t r l v kids=E:=⟨_,rfl⟩;rw [show Zk4 q k t r l v kids=[] by unfold Zk4;rw [if_neg hck],hE];rw [hE] at hck;have HCK:=Zh hE;have e1:(E != 0)=true:=by simpa using hck
  go_enter Tryz.func14,Tryz.ntmps14
  go_wp2_with (go_at_call 48;refine (Zul 2 q k t r l v _ kids _ hl HSU.o).mono ?_;rw [HCK.o];rintro e w2 ⟨rfl,hb2⟩)
  go_ret2
  exact⟨_,rfl,World.ownsRow_nil _ _ _ _,HB1.o.trans (hb2.mono (by simp))⟩
end
theorem Zlj {x y:Th}(hx:Zfn x)(hy:Zfn y):Zim x y=decide (Zbu x y<0):=by
 have px:=Zfk ⟨x,hx⟩;have py:=Zfk ⟨y,hy⟩;simp only at px py;unfold Zim Zbu;have e0:=Zjs ([]:List UInt8);by_cases h1:x.1=-1 <;> by_cases h2:y.1=-1
 ·have e1:x.1=y.1:=ω;have e2:x.2.1=y.2.1:=ω;simp [h1,h2,e2]
 ·simp [h1,h2]
 ·simp [h1,h2]
 ·by_cases h3:x.1=y.1
  ·by_cases h4:x.2.1=y.2.1
   ·have e3:x.2.2=[]:=by rcases px with p | p;exact absurd p.1 h1;exact p.2.2.2.2
    have e4:y.2.2=[]:=by rcases py with p | p;exact absurd p.1 h2;exact p.2.2.2.2
    simp [h2,h3,h4,e3,e4,e0]
   ·simp [h2,h3,h4];omega
  ·simp [h1,h2,h3];omega
theorem Zso {x:Th}(hx:Zfn x):¬ Zbu x x<0:=by
 have:=Zgb.irrefl ⟨x,hx⟩;simpa [ltT] using this
theorem Zsq {x y z:Th}(hx:Zfn x)(hy:Zfn y)(hz:Zfn z)(h:Zbu x y<0)(k:Zbu y z<0):Zbu x z<0:=by
 have:=Zgb.trans ⟨x,hx⟩ ⟨y,hy⟩ ⟨z,hz⟩ (by simpa [ltT] using h) (by simpa [ltT] using k);simpa [ltT] using this
theorem Zw5 {x y z:Th}(hx:Zfn x)(hy:Zfn y)(hz:Zfn z)(h:¬ Zbu x y<0)(k:¬ Zbu y z<0):¬ Zbu x z<0:=by
 have:=Zgb.ntrans ⟨x,hx⟩ ⟨y,hy⟩ ⟨z,hz⟩ (by simpa [ltT] using h) (by simpa [ltT] using k);simpa [ltT] using this
theorem Zsp {x y:Th}(hx:Zfn x)(hy:Zfn y)(h:¬ Zbu x y<0)(k:¬ Zbu y x<0):x=y:=by
 have:=Zpb ⟨x,hx⟩ ⟨y,hy⟩ (by simpa [ltT] using h) (by simpa [ltT] using k);exact congrArg Subtype.val this
theorem Z3k {x y:Th}(hx:Zfn x)(hy:Zfn y)(h:Zbu x y<0):¬ Zbu y x<0:=fun k=>Zso hx (Zsq hx hy hx h k)
theorem Znq (x:Th):∀ (l:List Th) (z:Th),z∈Zkm x l↔z=x\/z∈l
 | [],z=>by simp [Zkm]
 | y :: r,z=>by
  unfold Zkm
  split
  ·simp
  ·simp only [List.mem_cons,Znq x r]
   constructor
   ·rintro (h | h | h)
    ·exact .inr (.inl h)
    ·exact .inl h
    ·exact .inr (.inr h)
   ·rintro (h | h | h)
    ·exact .inr (.inl h)
    ·exact .inl h
    ·exact .inr (.inr h)
theorem Zr2 (x:Th)(l:List Th)(z:Th):z∈Zo6 x l↔z=x\/z∈l:=by
 unfold Zo6
 split
 ·rename_i h
  constructor
  ·exact .inr
  ·rintro (rfl | k)
   ·exact h
   ·exact k
 ·exact Znq x l z
theorem Zmu:∀ (L acc:List Th) (z:Th),z∈Zkz L acc↔z∈acc\/z∈L
 | [],acc,z=>by simp [Zkz]
 | x :: L,acc,z=>by
  have:=Zmu L (Zo6 x acc) z;simp only [Zkz,List.foldl_cons] at this ⊢;rw [this,Zr2,List.mem_cons]
  constructor
  ·rintro ((h | h) | h)
   ·exact .inr (.inl h)
   ·exact .inl h
   ·exact .inr (.inr h)
  ·rintro (h | h | h)
   ·exact .inl (.inr h)
   ·exact .inl (.inl h)
   ·exact .inr h
def Str (T:List Th):Prop:=T.Pairwise fun x y=>Zbu x y<0
theorem Zsg {x:Th}(hx:Zfn x):∀ {l:List Th},(∀ y∈l,Zfn y)->x∉l->Str l->Str (Zkm x l)
 | [],_,_,_=>by simp [Zkm,Str]
 | y :: r,hv,hn,hs=>by
  have hy:=hv y (by simp);have hsr:=List.pairwise_cons.1 hs;unfold Zkm
  split
  ·rename_i hb;rw [Zlj hx hy,decide_eq_true_iff] at hb;refine List.pairwise_cons.2 ⟨fun z hz=>?_,hs⟩;rcases List.mem_cons.1 hz with rfl | hz
   ·exact hb
   ·exact Zsq hx hy (hv z (by simp [hz])) hb (hsr.1 z hz)
  ·rename_i hb;rw [Zlj hx hy,decide_eq_true_iff] at hb;refine List.pairwise_cons.2 ⟨fun z hz=>?_,Zsg hx (fun z hz=>hv z (by simp [hz])) (fun h=>hn (by simp [h])) hsr.2⟩;rcases (Znq x r z).1 hz with rfl | hz
   ·exact Decidable.byContradiction fun h=>hn (by simp [Zsp hx hy hb h])
   ·exact hsr.1 z hz
theorem Zzd {x:Th}(hx:Zfn x){l:List Th}(hv:∀ y∈l,Zfn y)(hs:Str l):Str (Zo6 x l):=by
 unfold Zo6
 split
 ·exact hs
 ·rename_i h;exact Zsg hx hv h hs
theorem Zrx:∀ (L acc:List Th),(∀ x∈L,Zfn x)->(∀ x∈acc,Zfn x)->Str acc->Str (Zkz L acc)
 | [],_,_,_,h=>h
 | x :: L,acc,hL,ha,hs=>by
  have hx:=hL x (by simp);exact Zrx L (Zo6 x acc) (fun y hy=>hL y (by simp [hy])) (fun y hy=>by
   rcases (Zr2 x acc y).1 hy with rfl | hy
   ·exact hx
   ·exact ha y hy) (Zzd hx ha hs)
theorem Zl6:∀ {a b:List Th},(∀ x∈a,Zfn x)->Str a->Str b->(∀ x,x∈a↔x∈b)->a=b
 | [],[],_,_,_,_=>rfl
 | [],y :: b,_,_,_,h=>absurd ((h y).2 (by simp)) (by simp)
 | x :: a,[],_,_,_,h=>absurd ((h x).1 (by simp)) (by simp)
 | x :: a,y :: b,hv,ha,hb,h=>by
  have ha':=List.pairwise_cons.1 ha;have hb':=List.pairwise_cons.1 hb;have hxv:=hv x (by simp);have hyv:=hv y ((h y).2 (by simp));have hxy:x=y:=by
   rcases List.mem_cons.1 ((h x).1 (by simp)) with e | e
   ·exact e
   rcases List.mem_cons.1 ((h y).2 (by simp)) with e' | e'
   ·exact e'.symm
   exact absurd (ha'.1 y e') (Z3k hyv hxv (hb'.1 x e))
  subst hxy
  congr 1
  refine Zl6 (fun z hz=>hv z (by simp [hz])) ha'.2 hb'.2 fun z=>?_
  constructor
  ·intro hz;rcases List.mem_cons.1 ((h z).1 (by simp [hz])) with e | e
   ·subst e;exact absurd (ha'.1 _ hz) (Zso hxv)
   ·exact e
  ·intro hz;rcases List.mem_cons.1 ((h z).2 (by simp [hz])) with e | e
   ·subst e;exact absurd (hb'.1 _ hz) (Zso hxv)
   ·exact e
theorem Ztv {L:List Th}(hv:∀ x∈L,Zfn x):(Zft L).Pairwise fun x y=>¬ Zbu y x<0:=by
 rw [<- Zsy L hv,List.pairwise_map];have:=List.pairwise_mergeSort (le:=fun x y:VTh=>!ltT y x) (fun a b c h k=>by
  simp only [Bool.not_eq_true'] at h k ⊢;exact Zgb.ntrans c b a k h) (fun a b=>by
  cases h:ltT b a with
  | false=>simp
  | true=>
   cases k:ltT a b with
   | false=>simp
   | true=>have:=Zgb.irrefl a;rw [Zgb.trans a b a k h] at this;cases this) (toV L hv)
 refine this.imp fun {x y} h=>?_
 simpa [ltT,Z0k] using h
theorem Zsv {L:List Th}(hv:∀ x∈L,Zfn x):Str (Zpz L):=by
 have hp:=Ztv hv;have hvs:∀ x∈Zft L,Zfn x:=fun x hx=>hv x ((Zgw L).mem_iff.1 hx)
 obtain⟨S,hS⟩:∃ S,Zft L=S:=⟨_,rfl⟩;unfold Zpz;rw [hS] at hp hvs ⊢;rw [List.pairwise_iff_getElem] at hp;have hget:∀ i,(h:i<S.length)->S.toArray[i]! = S[i]:=fun i h=>by rw [getElem!_pos S.toArray i (by simpa using h)];simp
 unfold compactUpTo Str;rw [List.pairwise_map];have hr:((List.range S.toArray.size).filter (keeps S.toArray)).Pairwise (·<·):=List.Pairwise.filter _ List.pairwise_lt_range;refine List.Pairwise.imp_of_mem (fun {i j} hi hj hij=>?_) hr;simp only [List.mem_filter,List.mem_range,List.size_toArray] at hi hj;have hk:=hj.2;unfold keeps at hk;rw [decide_eq_true_iff] at hk;have hk':=hk.resolve_left ω;rw [hget i hi.1,hget j hj.1];rw [hget j hj.1,hget (j - 1) ω] at hk';have vi:=hvs S[i] (List.getElem_mem hi.1);have vj:=hvs S[j] (List.getElem_mem hj.1);have vm:=hvs S[j - 1] (List.getElem_mem ω);have h1:¬ Zbu S[j] S[j - 1]<0:=hp (j - 1) j ω hj.1 ω;have h2:¬ Zbu S[j - 1] S[i]<0:=by
  by_cases e:i=j - 1
  ·subst e;exact Zso vm
  ·exact hp i (j - 1) hi.1 ω ω
 refine Decidable.byContradiction fun h3=>?_
 have h4:¬ Zbu S[j - 1] S[j]<0:=Zw5 vm vi vj h2 h3;exact hk' (Zsp vj vm h1 h4)
theorem Zqg (d:Array Th):∀ m,m<=d.size->∀ i,i<m->d[i]!∈compactUpTo d m:=by
 intro m
 induction m with
 | zero=>intro _ i hi;omega
 | succ m ih=>
  exact m_59
theorem Zst (L:List Th)(x:Th):x∈Zpz L↔x∈L:=by
 refine⟨Zsw L x,fun h=>?_⟩;obtain⟨i,hi,rfl⟩:=List.mem_iff_getElem.1 ((Zgw L).mem_iff.2 h);have:=Zqg (Zft L).toArray (Zft L).toArray.size (Nat.le_refl _) i (by simpa using hi);rw [getElem!_pos (Zft L).toArray i (by simpa using hi)] at this;simpa [Zpz] using this
theorem Zo0 {L:List Th}(hv:∀ x∈L,Zfn x):Zkz L []=Zpz L:=by
 refine Zl6 (fun x hx=>?_) (Zrx L [] hv (fun _ h=>by simp at h) List.Pairwise.nil) (Zsv hv) fun x=>?_
 ·rcases (Zmu L [] x).1 hx with h | h
  ·simp at h
  ·exact hv x h
 ·rw [Zmu,Zst];simp
end Go.Proofs.YtdfmcfppoohckaaGreatDoor
namespace Go.Proofs.YtdfmcfppoohckaaGreatDoor
open Go.RowKit
open Go.Lib (compactUpTo keeps)
abbrev Nm:=List UInt8
def ltN (a b:Nm):Bool:=decide (Lib.compareBytes a b<0)
theorem Zc8 (a b:Nm):Op.bytesLess a b=ltN a b:=Zm3 a b
theorem Z49 (a b:Nm):decide (a<b)=ltN a b:=by rw [<- Zc8,bytesLess_eq]
theorem Zga (a:Nm):ltN a a=false:=by simp [ltN,Zjs]
theorem Zpa {a b c:Nm}(h:ltN a b=true)(k:ltN b c=true):ltN a c=true:=by
 simp only [ltN,decide_eq_true_eq] at *;exact Zit a b c h k
theorem Zlq {a b c:Nm}(h:ltN a b=false)(k:ltN b c=false):ltN a c=false:=by
 simp only [ltN,decide_eq_false_iff_not] at *;exact Zg5 a b c h k
theorem Z09 {a b:Nm}(h:ltN a b=false)(k:ltN b a=false):a=b:=by
 simp only [ltN,decide_eq_false_iff_not] at *;exact Zqe a b h k
theorem Zjw {a b:Nm}(h:ltN a b=true):ltN b a=false:=by
 cases k:ltN b a with
 | false=>rfl
 | true=>have:=Zpa h k;rw [Zga] at this;cases this
theorem Z2z (a:Nm):ltN a []=false:=by
 cases a <;> simp [ltN,Lib.compareBytes]
def Zj0 (l:List Nm):Prop:=l.Pairwise fun x y=>ltN x y=true
theorem Zhb:∀ {a b:List Nm},Zj0 a->Zj0 b->(∀ x,x∈a↔x∈b)->a=b
 | [],[],_,_,_=>rfl
 | [],y :: b,_,_,h=>absurd ((h y).2 (by simp)) (by simp)
 | x :: a,[],_,_,h=>absurd ((h x).1 (by simp)) (by simp)
 | x :: a,y :: b,ha,hb,h=>by
  have ha':=List.pairwise_cons.1 ha;have hb':=List.pairwise_cons.1 hb;have hxy:x=y:=by
   rcases List.mem_cons.1 ((h x).1 (by simp)) with e | e
   ·exact e
   rcases List.mem_cons.1 ((h y).2 (by simp)) with e' | e'
   ·exact e'.symm
   have h1:=Zjw (ha'.1 y e');rw [hb'.1 x e] at h1;cases h1
  subst hxy
  congr 1
  refine Zhb ha'.2 hb'.2 fun z=>?_
  constructor
  ·intro hz;rcases List.mem_cons.1 ((h z).1 (by simp [hz])) with e | e
   ·subst e;have:=ha'.1 _ hz;rw [Zga] at this;cases this
   ·exact e
  ·intro hz;rcases List.mem_cons.1 ((h z).2 (by simp [hz])) with e | e
   ·subst e;have:=hb'.1 _ hz;rw [Zga] at this;cases this
   ·exact e
def Zfj (L:List Nm):List Nm:=L.mergeSort fun x y=>decide (x<=y)
theorem Zds (L:List Nm):(Zfj L).Perm L:=List.mergeSort_perm _ _
theorem leN (x y:Nm):decide (x<=y)=!ltN y x:=by
 rw [<- Z49,Bool.eq_iff_iff];simp
theorem Ztu (L:List Nm):(Zfj L).Pairwise fun x y=>ltN y x=false:=by
 have:=List.pairwise_mergeSort (le:=fun x y:Nm=>decide (x<=y)) (fun a b c h k=>by
  rw [leN] at *;simp only [Bool.not_eq_true'] at *;exact Zlq k h) (fun a b=>by
  rw [leN,leN];cases h:ltN b a with
  | false=>simp
  | true=>simp [Zjw h]) L
 refine this.imp fun {x y} h=>?_
 rw [leN] at h;simpa using h
theorem Zom (d:Array Nm):∀ m,m<=d.size->∀ i,i<m->d[i]!∈compactUpTo d m:=by
 intro m
 induction m with
 | zero=>intro _ i hi;omega
 | succ m ih=>
  exact m_59
def Zk5 (L:List Nm):List Nm:=Lib.compact (Zfj L)
theorem Zp3 (L:List Nm):Zj0 (Zk5 L):=by
 have hp:=Ztu L;unfold Zk5;obtain⟨S,hS⟩:∃ S,Zfj L=S:=⟨_,rfl⟩;rw [hS] at hp ⊢;rw [List.pairwise_iff_getElem] at hp;have hget:∀ i,(h:i<S.length)->S.toArray[i]! = S[i]:=fun i h=>by rw [getElem!_pos S.toArray i (by simpa using h)];simp
 unfold Lib.compact compactUpTo Zj0;rw [List.pairwise_map];have hr:((List.range S.length).filter (keeps S.toArray)).Pairwise (·<·):=List.Pairwise.filter _ List.pairwise_lt_range;refine List.Pairwise.imp_of_mem (fun {i j} hi hj hij=>?_) hr;simp only [List.mem_filter,List.mem_range] at hi hj;have hk:=hj.2;unfold keeps at hk;rw [decide_eq_true_iff] at hk;have hk':=hk.resolve_left ω;rw [hget i hi.1,hget j hj.1];rw [hget j hj.1,hget (j - 1) ω] at hk';have h1:ltN S[j] S[j - 1]=false:=hp (j - 1) j ω hj.1 ω;have h2:ltN S[j - 1] S[i]=false:=by
  by_cases e:i=j - 1
  ·subst e;exact Zga _
  ·exact hp i (j - 1) hi.1 ω ω
 refine Decidable.byContradiction fun h3=>?_
 have h4:ltN S[j - 1] S[j]=false:=Zlq h2 (by simpa using h3);exact hk' (Z09 h1 h4)
theorem Zxi (L:List Nm)(x:Nm):x∈Zk5 L↔x∈L:=by
 unfold Zk5 Lib.compact;refine⟨fun h=>(Zds L).mem_iff.1 (by simpa using Zkd _ _ (by simp) x h),fun h=>?_⟩;obtain⟨i,hi,rfl⟩:=List.mem_iff_getElem.1 ((Zds L).mem_iff.2 h);have:=Zom (Zfj L).toArray (Zfj L).length (by simp) i hi
 rwa [getElem!_pos (Zfj L).toArray i (by simpa using hi)] at this
theorem Zxh (L:List Nm):(Zk5 L).length<=L.length:=by
 have:=Ziu (Zfj L).toArray (Zfj L).length;unfold Zk5 Lib.compact;have hl:=(Zds L).length_eq;omega
def Zqd (L:List Nm):List Nm:=match L with
 | [] :: r=>r
 | l=>l
def Zdp (L:List Nm):List Nm:=Zqd (Zk5 L)
theorem Zuu {L:List Nm}(h:Zj0 L):Zj0 (Zqd L):=by
 unfold Zqd
 split
 ·exact (List.pairwise_cons.1 h).2
 ·exact h
theorem Zut {L:List Nm}(h:Zj0 L)(x:Nm):x∈Zqd L↔x∈L/\x≠[]:=by
 unfold Zqd
 split
 ·rename_i r;have hh:=List.pairwise_cons.1 h
  constructor
  ·intro hx;refine⟨by simp [hx],fun e=>?_⟩;subst e;have:=hh.1 _ hx;rw [Zga] at this;cases this
  ·rintro⟨hx,hne⟩;rcases List.mem_cons.1 hx with e | e
   ·exact absurd e hne
   ·exact e
 ·rename_i hne;refine⟨fun hx=>⟨hx,fun e=>?_⟩,fun hx=>hx.1⟩;subst e;cases L with
  | nil=>simp at hx
  | cons y r=>
   have hh:=List.pairwise_cons.1 h;rcases List.mem_cons.1 hx with e | e
   ·subst e;exact hne r rfl
   ·have:=hh.1 _ e;rw [Z2z] at this;cases this
theorem Zf9 (L:List Nm):Zj0 (Zdp L):=Zuu (Zp3 L)
theorem Zfe (L:List Nm)(x:Nm):x∈Zdp L↔x∈L/\x≠[]:=by
 unfold Zdp;rw [Zut (Zp3 L),Zxi]
def Zo5 (s:Nm):List Nm->List Nm
 | []=>[s]
 | y :: r=>if ltN s y then s :: y :: r else y :: Zo5 s r
def Zk1 (l:List Nm)(s:Nm):List Nm:=if s=[]\/s∈l then l else Zo5 s l
theorem Zmx (s:Nm):∀ (l:List Nm) (x:Nm),x∈Zo5 s l↔x=s\/x∈l
 | [],x=>by simp [Zo5]
 | y :: r,x=>by
  unfold Zo5
  split
  ·simp
  ·simp only [List.mem_cons,Zmx s r]
   constructor <;> (intro h;rcases h with h | h | h <;> simp [h])
theorem Zr1 (s:Nm):∀ {l:List Nm},s∉l->Zj0 l->Zj0 (Zo5 s l)
 | [],_,_=>by simp [Zo5,Zj0]
 | y :: r,hn,h=>by
  have hh:=List.pairwise_cons.1 h;unfold Zo5
  split
  ·rename_i hs;refine List.pairwise_cons.2 ⟨fun z hz=>?_,h⟩;rcases List.mem_cons.1 hz with e | e
   ·subst e;exact hs
   ·exact Zpa hs (hh.1 z e)
  ·rename_i hs;have hs':ltN s y=false:=by simpa using hs
   have hys:ltN y s=true:=by
    cases k:ltN y s with
    | true=>rfl
    | false=>exact absurd (Z09 hs' k) (fun e=>hn (by simp [e]))
   refine List.pairwise_cons.2 ⟨fun z hz=>?_,Zr1 s (fun e=>hn (by simp [e])) hh.2⟩;rcases (Zmx s r z).1 hz with e | e
   ·subst e;exact hys
   ·exact hh.1 z e
theorem Zza (l:List Nm)(s x:Nm):x∈Zk1 l s↔(x=s/\s≠[])\/x∈l:=by
 unfold Zk1
 split
 ·rename_i h;refine⟨Or.inr,fun hx=>?_⟩;rcases hx with ⟨rfl,hne⟩ | hx
  ·rcases h with h | h
   ·exact absurd h hne
   ·exact h
  ·exact hx
 ·rename_i h;rw [Zmx];have:s≠[]:=fun e=>h (Or.inl e)
  simp [this]
theorem Zzb {l:List Nm}(h:Zj0 l)(s:Nm):Zj0 (Zk1 l s):=by
 unfold Zk1
 split
 ·exact h
 ·rename_i hn;exact Zr1 s (fun e=>hn (Or.inr e)) h
theorem Zoy:∀ (L:List Nm) {l:List Nm},Zj0 l->Zj0 (L.foldl Zk1 l)
 | [],_,h=>h
 | s :: L,_,h=>Zoy L (Zzb h s)
theorem Zox:∀ (L l:List Nm) (x:Nm),x∈L.foldl Zk1 l↔(x∈L/\x≠[])\/x∈l
 | [],l,x=>by simp
 | s :: L,l,x=>by
  rw [List.foldl_cons,Zox L,Zza]
  constructor
  ·rintro (⟨h1,h2⟩ | ⟨rfl,h2⟩ | h)
   ·exact Or.inl ⟨by simp [h1],h2⟩
   ·exact Or.inl ⟨by simp,h2⟩
   ·exact Or.inr h
  ·rintro (⟨h1,h2⟩ | h)
   ·rcases List.mem_cons.1 h1 with e | e
    ·subst e;exact Or.inr (Or.inl ⟨rfl,h2⟩)
    ·exact Or.inl ⟨e,h2⟩
   ·exact Or.inr (Or.inr h)
theorem Ztf (L:List Nm):L.foldl Zk1 []=Zdp L:=
 Zhb (Zoy L List.Pairwise.nil) (Zf9 L) fun x=>by rw [Zox,Zfe];simp
def Zel (T:Tst):List Nm:=(T.init.flatMap fun x=>[x.loc,x.vl])++((T.code.flatMap fun c=>c.map fun x=>x.loc)++(Zk4 T.q T.k T.t T.r T.l T.v T.kids).map fun x=>x.2.2)
end Go.Proofs.YtdfmcfppoohckaaGreatDoor
namespace Go.Proofs
open Go.Shelf
def Tryz.sortPr_ren:Go.Shelf.Ren:=⟨fun | 6=>62 | 15=>114 | 14=>113 | 28=>157 | 29=>158 | 20=>149 | 21=>150 | 22=>151 | 23=>152 | 24=>153 | 25=>154 | 26=>155 | 27=>156 | 46=>191 | 47=>192 | 48=>193 | 49=>194 | 50=>195 | 57=>217 | n=>n,fun | 22=>37 | 24=>129 | 25=>131 | 3=>3 | 39=>105 | 0=>0 | 53=>206 | 55=>70 | 4=>4 | 46=>200 | 45=>199 | 50=>63 | 5=>5 | 9=>9 | 66=>225 | 70=>229 | 76=>242 | 77=>243 | n=>n,fun | n=>n⟩
theorem Tryz.sortPr:Go.Proofs.SlLaysF0.n6 Tryz.prog Tryz.sortPr_ren:={
 mixed:=by kernel_rfl
 f6:=⟨Tryz.f62.name,by decide,Tryz.func62.trans (congrArg some (by kernel_rfl))⟩
 f14:=⟨Tryz.f113.name,by decide,Tryz.func113.trans (congrArg some (by kernel_rfl))⟩
 f15:=Tryz.func114.trans (congrArg some (by kernel_rfl))
 f20:=⟨Tryz.f149.name,by decide,Tryz.func149.trans (congrArg some (by kernel_rfl))⟩
 f21:=⟨Tryz.f150.name,by decide,Tryz.func150.trans (congrArg some (by kernel_rfl))⟩
 f22:=⟨Tryz.f151.name,by decide,Tryz.func151.trans (congrArg some (by kernel_rfl))⟩
 f23:=⟨Tryz.f152.name,by decide,Tryz.func152.trans (congrArg some (by kernel_rfl))⟩
 f24:=⟨Tryz.f153.name,by decide,Tryz.func153.trans (congrArg some (by kernel_rfl))⟩
 f25:=⟨Tryz.f154.name,by decide,Tryz.func154.trans (congrArg some (by kernel_rfl))⟩
 f26:=⟨Tryz.f155.name,by decide,Tryz.func155.trans (congrArg some (by kernel_rfl))⟩
 f27:=⟨Tryz.f156.name,by decide,Tryz.func156.trans (congrArg some (by kernel_rfl))⟩
 f28:=Tryz.func157.trans (congrArg some (by kernel_rfl))
 f29:=Tryz.func158.trans (congrArg some (by kernel_rfl))
 f46:=⟨Tryz.f191.name,by decide,Tryz.func191.trans (congrArg some (by kernel_rfl))⟩
 f47:=Tryz.func192.trans (congrArg some (by kernel_rfl))
 f48:=Tryz.func193.trans (congrArg some (by kernel_rfl))
 f49:=⟨Tryz.f194.name,by decide,Tryz.func194.trans (congrArg some (by kernel_rfl))⟩
 f50:=⟨Tryz.f195.name,by decide,Tryz.func195.trans (congrArg some (by kernel_rfl))⟩
 f57:=⟨Tryz.f217.name,by decide,Tryz.func217.trans (congrArg some (by kernel_rfl))⟩
 t0:=Tryz.underlying0
 a0:=Tryz.isAgg0
 z0:=Tryz.sizeOf0
 v0:=Tryz.zeroValue0
 t3:=Tryz.underlying3
 a3:=Tryz.isAgg3
 z3:=Tryz.sizeOf3
 v3:=Tryz.zeroValue3
 t4:=Tryz.underlying4
 a4:=Tryz.isAgg4
 z4:=Tryz.sizeOf4
 v4:=Tryz.zeroValue4
 t5:=Tryz.underlying5
 a5:=Tryz.isAgg5
 z5:=Tryz.sizeOf5
 v5:=Tryz.zeroValue5
 t9:=Tryz.underlying9
 a9:=Tryz.isAgg9
 z9:=Tryz.sizeOf9
 v9:=Tryz.zeroValue9
 t22:=Tryz.underlying37
 a22:=Tryz.isAgg37
 z22:=Tryz.sizeOf37
 v22:=Tryz.zeroValue37
 t25:=Tryz.underlying131
 a25:=Tryz.isAgg131
 z25:=Tryz.sizeOf131
 v25:=Tryz.zeroValue131
 t39:=Tryz.underlying105
 a39:=Tryz.isAgg105
 z39:=Tryz.sizeOf105
 v39:=Tryz.zeroValue105
 t45:=Tryz.underlying199
 a45:=Tryz.isAgg199
 z45:=Tryz.sizeOf199
 v45:=Tryz.zeroValue199
 t46:=Tryz.underlying200
 a46:=Tryz.isAgg200
 z46:=Tryz.sizeOf200
 v46:=Tryz.zeroValue200
 t50:=Tryz.underlying63
 a50:=Tryz.isAgg63
 z50:=Tryz.sizeOf63
 v50:=Tryz.zeroValue63
 t53:=Tryz.underlying206
 a53:=Tryz.isAgg206
 z53:=Tryz.sizeOf206
 v53:=Tryz.zeroValue206
 t55:=Tryz.underlying70
 a55:=Tryz.isAgg70
 z55:=Tryz.sizeOf70
 v55:=Tryz.zeroValue70
 t66:=Tryz.underlying225
 a66:=Tryz.isAgg225
 z66:=Tryz.sizeOf225
 v66:=Tryz.zeroValue225
 t70:=Tryz.underlying229
 a70:=Tryz.isAgg229
 z70:=Tryz.sizeOf229
 v70:=Tryz.zeroValue229
 t76:=Tryz.underlying242
 a76:=Tryz.isAgg242
 z76:=Tryz.sizeOf242
 v76:=Tryz.zeroValue242
 t77:=Tryz.underlying243
 a77:=Tryz.isAgg243
 z77:=Tryz.sizeOf243
 v77:=Tryz.zeroValue243 }
def Tryz.searchS_ren:Go.Shelf.Ren:=⟨fun | 26=>13 | 33=>52 | 34=>53 | 38=>101 | n=>n,fun | 24=>33 | 9=>9 | 3=>3 | 4=>4 | 40=>105 | 0=>0 | n=>n,fun | n=>n⟩
theorem Tryz.searchS:Go.Proofs.Lays2.n26 Tryz.prog Tryz.searchS_ren:={
 mixed:=by kernel_rfl
 f26:=Tryz.func13.trans (congrArg some (by kernel_rfl))
 f33:=Tryz.func52.trans (congrArg some (by kernel_rfl))
 f34:=Tryz.func53.trans (congrArg some (by kernel_rfl))
 f38:=Tryz.func101.trans (congrArg some (by kernel_rfl))
 t0:=Tryz.underlying0
 a0:=Tryz.isAgg0
 z0:=Tryz.sizeOf0
 v0:=Tryz.zeroValue0
 t3:=Tryz.underlying3
 a3:=Tryz.isAgg3
 z3:=Tryz.sizeOf3
 v3:=Tryz.zeroValue3
 t4:=Tryz.underlying4
 a4:=Tryz.isAgg4
 z4:=Tryz.sizeOf4
 v4:=Tryz.zeroValue4
 t9:=Tryz.underlying9
 a9:=Tryz.isAgg9
 z9:=Tryz.sizeOf9
 v9:=Tryz.zeroValue9
 t24:=Tryz.underlying33
 a24:=Tryz.isAgg33
 z24:=Tryz.sizeOf33
 v24:=Tryz.zeroValue33
 t40:=Tryz.underlying105
 a40:=Tryz.isAgg105
 z40:=Tryz.sizeOf105
 v40:=Tryz.zeroValue105 }
end Go.Proofs
namespace Go.Proofs.YtdfmcfppoohckaaGreatDoor
open Go.RowKit
theorem Zif (x:Th):∀ u∈Zf3 x,u.oneCell'=true:=by intro u hu;simp [Zf3] at hu;rcases hu with rfl | rfl | rfl <;> rfl
theorem Z0e {L:List Th}{j:Nat}{x y:Th}(h:L[j]?=some y)(hne:y≠x)(hx:x∉L.take j):x∉L.take (j+1):=by
 rw [List.take_add_one,h];simp only [Option.toList_some,List.mem_append,List.mem_singleton,not_or];exact⟨hx,fun e=>hne e.symm⟩
theorem Zuc {L:List Th}{j:Nat}{y:Th}(h:L[j]?=some y)(p:Th->Bool):(L.take (j+1)).any p=((L.take j).any p||p y):=by
 rw [List.take_add_one,h];simp
theorem Z3w {L:List Th}{j:Nat}{y:Th}(h:L[j]?=some y):L.take (j+1)=L.take j++[y]:=by rw [List.take_add_one,h];rfl
theorem Ze6 {B n:Nat}{a w:World}(h:Below B (a.drewN n) w):Below B a w:=⟨h.os,h.tape,h.output,h.size,h.block⟩
theorem Zka {w0 w1 w2:World}{B n b o:Nat}{u v:Value}{xs:List Value}{ty:TypeId}{z:Nat}(hk:∀ b,b<w1.heap.size->v.ownBlock≠some b->w2.heap[b]?=w1.heap[b]?)(hB:b<B)(ho:w0.ownsRow B ty z v n xs)(hc:w1.cell? ⟨b,o,none⟩=some u):w2.cell? ⟨b,o,none⟩=some u:=by
 have hlt:=World.block_lt_of_cell? w1 _ hc;have:=hk b hlt fun e=>by have:=(ho.lt _ e).1;omega
 rw [<- hc];unfold World.cell?;simp only [this]
theorem Zlg.mk {N:Nat}{T:List Th}{w w':World}{B:Nat}{v:Value}(hN:N<=B)(h:w'.ownsRow B 25 3 v T.length (Zay T))(hb:Below w.heap.size w w'):Zlg N T w (.returned v) w':=by
 obtain⟨A,cap,rfl,ht⟩:=Zey h;have ho:w'.ownsRow N 25 3 (.slice A T.length cap) T.length (Zay T):=by
  refine⟨h.1,?_⟩;rcases h.2 with e | ⟨g,cap,cur,e,h1,h2⟩
  ·exact Or.inl e
  ·exact Or.inr ⟨g,cap,cur,e,Nat.le_trans hN h1,h2⟩
 exact⟨A,cap,rfl,⟨ht,(fun p hp=>by
  subst hp;rcases h.2 with ⟨e,_⟩ | ⟨g,cap',cur,e,h1,_⟩
  ·cases e
  ·simp only [Value.slice.injEq,Option.some.injEq] at e;rw [e.1];exact Nat.le_trans hN h1),ho⟩,hb⟩
section
variable {w:World} {t r v:Int} {l:List UInt8}
set_option maxHeartbeats 4000000 in
set_option maxRecDepth 100000 in
theorem Z60 (N:Nat)(hN:N<=w.heap.size)(Ak:Option Addr)(nk ck:Nat)(A:Option Addr)(cap:Nat)(L:List Th)(hlen:L.length<=1000000)(hA:Zqa w A L)(hNA:Z7n N A)(hOA:w.ownsRow N 25 3 (.slice A L.length cap) L.length (Zay L)) :
  Calls Tryz.prog 72 #[Zge 2 t r l v (.slice Ak nk ck),.slice A L.length cap] w (Zlg N (Zo6 (t,r,l) L) w):=by
 have HA:=Zh hA;have HNA:=Zh hNA;have HOA:=Zh hOA;clear hNA hOA;have HBN:=Zh (Blk.new w 28 #[.int .i64 2,.int .i64 t,.int .i64 r,.string ⟨l.toArray⟩,.int .i64 v,.slice Ak nk ck]);have hb1:=Zad w (.cells #[.int .i64 2,.int .i64 t,.int .i64 r,.string ⟨l.toArray⟩,.int .i64 v,.slice Ak nk ck] 28 (0,0));have hsz1:(w.alloc (.cells #[.int .i64 2,.int .i64 t,.int .i64 r,.string ⟨l.toArray⟩,.int .i64 v,.slice Ak nk ck] 28 (0,0))).heap.size=w.heap.size+1:=by simp
 obtain⟨W0,hW0⟩:∃ W0,w.alloc (.cells #[.int .i64 2,.int .i64 t,.int .i64 r,.string ⟨l.toArray⟩,.int .i64 v,.slice Ak nk ck] 28 (0,0))=W0:=⟨_,rfl⟩;rw [hW0] at hb1 hsz1;have HB1:=Zh hb1;have HW0:=Zh hW0;clear hA hb1 hW0;go_enter Tryz.func72,Tryz.ntmps72
 go_wp2_with fail
 go_loopw [5,6,7] (fun v5 p i wr=>∃ (j:Nat) (pb:Bool),j<=L.length/\i=.int .i64 j/\p=.bool pb/\(L.take j).any (Zim (t,r,l))=pb/\wr.ownsRow (w.heap.size+1) 25 3 v5 (Zk3 (t,r,l) (L.take j)).length (Zay (Zk3 (t,r,l) (L.take j)))/\(t,r,l)∉L.take j/\Below (w.heap.size+1) W0 wr) (fun _ _ i _=>L.length - (intOf i).toNat)
 case atStart=>exact⟨0,false,Nat.zero_le _,rfl,rfl,by simp,by simp [Zk3,Zay];exact World.ownsRow_nil _ _ _ _,by simp,by rw [HW0.o];exact Below.refl _ _⟩
 case round=>
  obtain⟨j,pb,hj,rfl,rfl,hpb,hown,hno,hbr⟩:=hrel;obtain⟨Av,cv,rfl⟩:=Zbx hown;have HBR:=Zh hbr;have HPB:=Zh hpb;have HOW:=Zh hown;have HNO:=Zh hno;have hzr:=hbr.size;have hol:=Zz1 (t,r,l) (L.take j);have htl:(L.take j).length<=j:=List.length_take_le _ _;have HBT:=Zh (show Below w.heap.size w wr from HB1.o.trans (hbr.mono ω));have hBk:=(HW0.o ▸ HBN.o:Blk W0 w.heap.size 28 #[.int .i64 2,.int .i64 t,.int .i64 r,.string ⟨l.toArray⟩,.int .i64 v,.slice Ak nk ck]).below hbr ω;obtain⟨-,b1,b2,b3⟩:=hBk.c4;have HBK:=Zh hBk;clear hbr hpb hown hno hBk;by_cases hlt:j<L.length
  ·have ex:=List.getElem?_eq_getElem hlt;obtain⟨y,hy⟩:∃ y,L[j]=y:=⟨_,rfl⟩;rw [hy] at ex;obtain⟨g,o,rfl,y0,y1,y2⟩:=HA.o _ _ ex;have hgB:g<w.heap.size+1:=Nat.lt_succ_of_lt (World.block_lt_of_cell? w _ y0);have z0:=Zac y0 HBT.o;have z1:=Zac y1 HBT.o;have z2:=Zac y2 HBT.o;have HEX:=Zh ex;have hjl:(j:Int)<(L.length:Int):=ω;have hgd:=fun (w:World) (op:BinOp) (x y:Operand) (xs ys:Array Value)=>run_eqGuard_agg (P:=Tryz.prog) w op 25 x y xs ys Zkf
   clear ex hy y0 y1 y2;by_cases hxy:y=(t,r,l)
   ·subst hxy;have heq:∀ w,(binOp .eql 25 (Zek t r l) (Zek t r l)).run Tryz.prog w=.ok (.bool true) w:=fun w=>by rw [Zhq (t,r,l) (t,r,l),decide_eq_true rfl]
    have HR:=Zh (show Zo6 (t,r,l) L=L by unfold Zo6;rw [if_pos (List.mem_of_getElem? HEX.o)])
    go_wp2_with fail
    go_quiet (fail)
    go_wp2_with fail
    go_ret;exact⟨_,_,by rw [HR.o];rfl,by rw [HR.o];exact⟨HA.o.below (Zam HBT.o _),HNA.o,Zav HOA.o (Zam HBT.o _)⟩,Zam HBT.o _⟩
   ·have heq:∀ w,(binOp .eql 25 (Zek y.1 y.2.1 y.2.2) (Zek t r l)).run Tryz.prog w=.ok (.bool false) w:=fun w=>by rw [Zhq y (t,r,l),decide_eq_false hxy]
    have HN2:=Zh (Z0e HEX.o hxy HNO.o);have HT:=Zh (Z3w HEX.o);have HAN:=Zh (Zuc HEX.o (Zim (t,r,l)));clear hxy
    go_wp2_with fail
    go_quiet (fail)
    go_wp2_with fail
    cases pb with
    | true=>
     have HP:=Zh (Zto (y:=y) HPB.o)
     go_quiet (fail)
     go_wp2_with (at_builtin;refine Ziq _ rfl _ _ 38 25 rfl _ 3 32 Tryz.underlying38 Zeh rfl (by decide) (Zf3 y) rfl (Zif y) (w.heap.size+1) _ _ _ rfl rfl (Zav HOW.o (Zam (Below.refl _ _) _)) ω ω (by first | omega | (simp;omega)) ?_)
     intro v' w1 hown1 hg1;obtain⟨Av1,cv1,rfl⟩:=Zbx hown1;have HO1:=Zh hown1;have HG1:=Zh hg1;clear hown1 hg1
     go_wp2_with fail
     go_roundw
     case rel=>exact⟨j+1,true,ω,by go_num,rfl,by rw [HAN.o,HPB.o];rfl,by rw [HT.o,HP.o,List.length_append,Zcu];exact HO1.o,HN2.o,HBR.o.trans (Ze6 HG1.o.below)⟩
     case measure=>exact msr
    | false=>
     have d1:=Zc9 b1;have d2:=Zc9 b2;have d3:=Zc9 b3;have e0:=Zc9 z0;have e1:=Zc9 z1;have e2:=Zc9 z2;obtain⟨bb,hbb⟩:∃ bb,Zim (t,r,l) (y.1,y.2.1,y.2.2)=bb:=⟨_,rfl⟩;have HBB:=Zh hbb;clear hbb;cases bb with
     | true=>
      have HP:=Zh (Ztp (y:=y) HPB.o HBB.o);refine Zef 9 κ κ ?_;simp only [List.take_succ_cons,List.take_zero,List.drop_succ_cons,List.drop_zero]
      repeat still_step
      refine wpStill_nil ?_
      go_wp2_with (first
       | (go_at_call 120;refine (Z7p t r l y.1 y.2.1 y.2.2 _).mono ?_;rw [HBB.o];rintro e w1 ⟨rfl,hbx⟩;have HX:=Zh (show Below wr.heap.size wr w1 from Ze6 (Zag hbx));have hzx:wr.heap.size<=w1.heap.size:=hbx.size;clear hbx;have f1:=Zac b1 HX.o;have f2:=Zac b2 HX.o;have f3:=Zac b3 HX.o;have k0:=Zac z0 HX.o;have k1:=Zac z1 HX.o;have k2:=Zac z2 HX.o)
       | (at_builtin;refine Ziq _ rfl _ _ 38 25 rfl _ 3 32 Tryz.underlying38 Zeh rfl (by decide) (Zf3 (t,r,l)) rfl (Zif (t,r,l)) (w.heap.size+1) _ _ _ rfl rfl (Zav HOW.o HX.o) ω ω (by first | omega | (simp;omega)) ?_;intro v' w2 hown1 hg1;obtain⟨Av1,cv1,rfl⟩:=Zbx hown1;have HO1:=Zh hown1;have HG1:=Zh hg1;have hz2:=hg1.below.size;have HNB:=Zh (fun (b:Nat) (hb:b<w1.heap.size) (hne:(Value.slice Av (Zk3 (t,r,l) (L.take j)).length cv).ownBlock≠some b)=>hg1.keep b hb hne);clear hown1 hg1;have m0:=Zka HNB.o hgB HOW.o k0;have m1:=Zka HNB.o hgB HOW.o k1;have m2:=Zka HNB.o hgB HOW.o k2)
       | (at_builtin;refine Ziq _ rfl _ _ 38 25 rfl _ 3 32 Tryz.underlying38 Zeh rfl (by decide) (Zf3 y) rfl (Zif y) (w.heap.size+1) _ _ _ rfl rfl HO1.o ω ω (by first | omega | (simp;omega)) ?_;intro v' w3 hown2 hg2;obtain⟨Av2,cv2,rfl⟩:=Zbx hown2;have HO2:=Zh hown2;have HG2:=Zh hg2;clear hown2 hg2))
      go_roundw
      case rel=>exact⟨j+1,true,ω,by go_num,rfl,by rw [HAN.o,HPB.o];exact HBB.o,by rw [HT.o,HP.o,List.length_append,List.length_append,Zcu,Zcu];exact HO2.o,HN2.o,HBR.o.trans (((HX.o.mono ω).trans HG1.o.below).trans HG2.o.below)⟩
      case measure=>exact msr
     | false=>
      have HP:=Zh (Ztq (y:=y) HPB.o HBB.o);refine Zef 9 κ κ ?_;simp only [List.take_succ_cons,List.take_zero,List.drop_succ_cons,List.drop_zero]
      repeat still_step
      refine wpStill_nil ?_
      go_wp2_with (first
       | (go_at_call 120;refine (Z7p t r l y.1 y.2.1 y.2.2 _).mono ?_;rw [HBB.o];rintro e w1 ⟨rfl,hbx⟩;have HX:=Zh (show Below wr.heap.size wr w1 from Ze6 (Zag hbx));have hzx:wr.heap.size<=w1.heap.size:=hbx.size;clear hbx;have f1:=Zac b1 HX.o;have f2:=Zac b2 HX.o;have f3:=Zac b3 HX.o;have k0:=Zac z0 HX.o;have k1:=Zac z1 HX.o;have k2:=Zac z2 HX.o)
       | (at_builtin;refine Ziq _ rfl _ _ 38 25 rfl _ 3 32 Tryz.underlying38 Zeh rfl (by decide) (Zf3 y) rfl (Zif y) (w.heap.size+1) _ _ _ rfl rfl (Zav HOW.o HX.o) ω ω (by first | omega | (simp;omega)) ?_;intro v' w2 hown1 hg1;obtain⟨Av1,cv1,rfl⟩:=Zbx hown1;have HO1:=Zh hown1;have HG1:=Zh hg1;clear hown1 hg1))
      go_roundw
      case rel=>exact⟨j+1,false,ω,by go_num,rfl,by rw [HAN.o,HPB.o];exact HBB.o,by rw [HT.o,HP.o,List.length_append,Zcu];exact HO1.o,HN2.o,HBR.o.trans ((HX.o.mono ω).trans HG1.o.below)⟩
      case measure=>exact msr
  ·have hje:j=L.length:=ω;subst hje;have htk:L.take L.length=L:=List.take_length;have HTK:=Zh htk;clear htk;have HNX:=Zh (show (t,r,l)∉L by have:=HNO.o;rwa [HTK.o] at this);have HIN:=Zh (show Zo6 (t,r,l) L=Zkm (t,r,l) L by unfold Zo6;rw [if_neg HNX.o]);cases pb with
   | true=>
    have HP:=Zh (show Zo6 (t,r,l) L=Zk3 (t,r,l) (L.take L.length) by rw [HIN.o,HTK.o];exact Zws (by have:=HPB.o;rwa [HTK.o] at this))
    go_wp2_with fail
    go_ret;rw [HP.o];exact Zlg.mk ω HOW.o HBT.o
   | false=>
    have HP:=Zh (show Zo6 (t,r,l) L=Zk3 (t,r,l) (L.take L.length)++[(t,r,l)] by rw [HIN.o,HTK.o];exact Zwt (by have:=HPB.o;rwa [HTK.o] at this))
    go_wp2_with (at_builtin;refine Ziq _ rfl _ _ 38 25 rfl _ 3 32 Tryz.underlying38 Zeh rfl (by decide) (Zf3 (t,r,l)) rfl (Zif (t,r,l)) (w.heap.size+1) _ _ _ rfl rfl HOW.o ω ω (by first | omega | (simp;omega)) ?_;intro v' w2 hown1 hg1;obtain⟨Av1,cv1,rfl⟩:=Zbx hown1;have HO1:=Zh hown1;have HG1:=Zh hg1;clear hown1 hg1)
    go_ret;rw [HP.o];refine Zlg.mk (B:=w.heap.size+1) ω ?_ (HB1.o.trans ((HBR.o.trans HG1.o.below).mono ω));rw [List.length_append,Zcu];have hf:=HO1.o;rw [HTK.o] at hf ⊢;exact hf
end
def Zxt (k t r:Int)(l:List UInt8)(v:Int)(kids:Fr):Prop:=
 ∀ (w:World) (hi:Nat) (kv:Value) (A:Option Addr) (cap:Nat) (L:List Th) (N:Nat),N<=w.heap.size->hi<=w.heap.size->Zec w hi kv kids->Zt9 N w A cap L->L.length+1+kids.all<=1000000->
  Calls Tryz.prog 72 #[Zge k t r l v kv,.slice A L.length cap] w (Zlg N (Zkz (atL k t r l++Za1 kids) L) w)
def Z1l:Fr->Prop
 | .nil=>True
 | .cons k t r l v kids rest=>Zxt k t r l v kids/\Z1l rest
theorem Z1l.at_:∀ (f:Fr) (j:Nat) {k t r:Int} {l:List UInt8} {v:Int} {kids rest:Fr},Z1l f->f.drop j=.cons k t r l v kids rest->Zxt k t r l v kids
 | .nil,0,_,_,_,_,_,_,_,_,h=>by cases h
 | .nil,_+1,_,_,_,_,_,_,_,_,h=>by cases h
 | .cons _ _ _ _ _ _ _,0,_,_,_,_,_,_,_,h,e=>by cases e;exact h.1
 | .cons _ _ _ _ _ _ rest,j+1,_,_,_,_,_,_,_,h,e=>Z1l.at_ rest j h.2 e
section
variable {k t r v:Int} {l:List UInt8} {kids:Fr}
set_option maxHeartbeats 2000000 in
set_option maxRecDepth 100000 in
theorem Zlt (hk:Z1l kids)(hat:k=2->kids=.nil):Zxt k t r l v kids:=by
 intro w hi kv A0 cap0 L N hN hhi hs hths hlen;by_cases h2:k=2
 ·obtain rfl:=hat h2;subst h2;obtain⟨A,cap,rfl,s1,s2,s3⟩:=hs;have hL:L.length<=1000000:=ω;have:=Z60 (t:=t) (r:=r) (l:=l) (v:=v) N hN A 0 cap A0 cap0 L hL hths.1 hths.2.1 hths.2.2;exact this
 obtain⟨A,cap,rfl,s1,s2,s3⟩:=hs;have S3:=Zh s3;have HK:=Zh hk;have HTS:=Zh hths;have hb0:=Zad w (.cells #[.int .i64 k,.int .i64 t,.int .i64 r,.string ⟨l.toArray⟩,.int .i64 v,.slice A kids.len cap] 28 (0,0));have HB0:=Zh hb0;have HBN:=Zh (Blk.new w 28 #[.int .i64 k,.int .i64 t,.int .i64 r,.string ⟨l.toArray⟩,.int .i64 v,.slice A kids.len cap]);have HT0:=Zh (hths.below hb0);have HAT:=Zh (show atL k t r l++Za1 kids=Za1 kids by simp [atL,h2]);have hne:(k == 2)=false:=by simpa using h2
 go_enter Tryz.func72,Tryz.ntmps72
 go_wp2_with fail
 go_loopw [1,8] (fun v1 i wr=>∃ (j:Nat) (A1:Option Addr) (c1:Nat) (M:List Th),j<=kids.len/\i=.int .i64 j/\v1=.slice A1 M.length c1/\Zt9 N wr A1 c1 M/\Zkz (Za1 (kids.drop j)) M=Zkz (Za1 kids) L/\M.length+(kids.drop j).all<=L.length+kids.all/\Below w.heap.size w wr/\Below (w.heap.size+1) (w.alloc (.cells #[.int .i64 k,.int .i64 t,.int .i64 r,.string ⟨l.toArray⟩,.int .i64 v,.slice A kids.len cap] 28 (0,0))) wr) (fun _ i _=>kids.len - (intOf i).toNat)
 case atStart=>exact⟨0,A0,cap0,L,Nat.zero_le _,rfl,rfl,HT0.o,by rw [show kids.drop 0=kids by cases kids <;> rfl],by rw [show kids.drop 0=kids by cases kids <;> rfl];exact Nat.le_refl _,HB0.o,Below.refl _ _⟩
 case round=>
  obtain⟨j,A1,c1,M,hj,rfl,rfl,hths,hM,hML,hbr,hbr2⟩:=hrel;have HTH:=Zh hths;have HMM:=Zh hM;have HBR:=Zh hbr;have HBR2:=Zh hbr2;have hzr:=hbr2.size;simp only [World.size_alloc] at hzr;have hBk:=HBN.o.below hbr2 ω;have b5:=hBk.cell 5;by_cases hlt:j<kids.len
  ·obtain⟨b,o,rfl,hb,hrow⟩:=S3.o ω;obtain⟨k',t',r',l',v',kids',rest',hdr⟩:=kids.drop_lt j hlt;have hrow':=Zc4.keep (w':=wr) (fun b o hb=>HBR.o.cell (p:=⟨b,o,none⟩) (show b<w.heap.size by omega)) kids b o hb hrow;have hat:=Zc4.at_ kids b o j hrow';rw [hdr] at hat;obtain⟨kv',q0,q1,q2,q3,q4,q5,hl',hsl'⟩:=hat.head;obtain⟨A',cap',rfl,hsl''⟩:=hsl';have HSL:=Zh (⟨A',cap',rfl,hsl''⟩:Zec wr hi (.slice A' kids'.len cap') kids');have HC:=Zh (Z1l.at_ kids j HK.o hdr);have HNX:=Zh (kids.drop_next j hdr);have hall:(kids.drop j).all=1+kids'.all+rest'.all:=by rw [hdr];rfl
   have hatl:(atL k' t' r' l').length<=1:=by unfold atL;split <;> simp
   have haf:=Zdb kids';have HST:=Zh (show Zkz (Za1 (kids.drop j)) M=Zkz (Za1 rest') (Zkz (atL k' t' r' l'++Za1 kids') M) by rw [hdr];simp only [Za1,Zqp]);have hgl:=Zrw (atL k' t' r' l'++Za1 kids') M;simp only [List.length_append] at hgl;obtain⟨M',hM'⟩:∃ M',Zkz (atL k' t' r' l'++Za1 kids') M=M':=⟨_,rfl⟩;rw [hM'] at hgl HST;have HM':=Zh hM';have hml:M.length+1+kids'.all<=1000000:=ω;have hml2:M'.length+rest'.all<=L.length+kids.all:=ω
   go_wp2_with (go_at_call 72;refine (HC.o _ hi _ _ _ M N ω ω HSL.o HTH.o hml).mono ?_;rw [HM'.o];rintro e w2 ⟨A2,c2,rfl,ht2,hb2⟩)
   go_roundw
   case rel=>exact⟨j+1,A2,c2,M',ω,by go_num,rfl,ht2,by rw [HNX.o,<- HMM.o,HST.o],by rw [HNX.o];exact hml2,HBR.o.trans (hb2.mono ω),HBR2.o.trans (hb2.mono ω)⟩
   case measure=>exact msr
  ·have hjk:j=kids.len:=ω;have HE:=Zh (show Zkz (atL k t r l++Za1 kids) L=M by rw [HAT.o,<- HMM.o,Fr.drop_ge kids j ω];rfl)
   go_wp2_with fail
   go_ret;rw [HE.o];exact⟨A1,c1,rfl,HTH.o,HBR.o⟩
def Zy3:Fr->Prop
 | .nil=>True
 | .cons k _ _ _ _ kids rest=>(k=2->kids=.nil)/\Zy3 kids/\Zy3 rest
theorem Z6r:∀ f,Zy3 f->Z1l f
 | .nil,_=>trivial
 | .cons _ _ _ _ _ kids rest,h=>⟨Zlt (Z6r kids h.2.1) h.1,Z6r rest h.2.2⟩
theorem Zse {a k t r v:Int}{l:List UInt8}{kids:Fr}(h:Zf4 a k t r l v kids.len=true):k=2->kids=.nil:=by
 intro h2;unfold Zf4 at h;rw [if_pos h2] at h;simp only [Bool.and_eq_true,decide_eq_true_eq] at h;have:kids.len=0:=by first | exact h.2 | (simpa using h.2)
 cases kids with
 | nil=>rfl
 | cons _ _ _ _ _ _ _=>simp [Fr.len] at this
theorem Zqx {a:Int}:∀ f,okF a f->Zy3 f
 | .nil,_=>trivial
 | .cons _ _ _ _ _ kids rest,h=>⟨Zse h.1,Zqx kids h.2.1,Zqx rest h.2.2⟩
theorem Zwc {a:Int}(h:Zf4 a k t r l v kids.len=true)(hk:okF a kids):Zxt k t r l v kids:=Zlt (Z6r kids (Zqx kids hk)) (Zse h)
end
end Go.Proofs.YtdfmcfppoohckaaGreatDoor
