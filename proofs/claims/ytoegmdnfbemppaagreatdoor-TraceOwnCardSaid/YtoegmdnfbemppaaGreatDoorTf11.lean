/- Layer 8: the program's Things at any condition. Layer 8: the reference's list of things is -/
import Derived.Test.YtoegmdnfbemppaaGreatDoorTf10

namespace Go.Proofs.YtoegmdnfbemppaaGreatDoor
open Go.RowKit
open Go.Lib (compactUpTo keeps)
theorem Zmt:∀ f:Fr,f.all=f.size
 | .nil=>rfl
 | .cons _ _ _ _ _ kids rest=>by simp only [Fr.all,Fr.size,Zmt kids,Zmt rest];omega
theorem Z0a {k t r:Int}{l:List UInt8}{v:Int}{n:Nat}(h:Zfw 2 k t r l v n=true):∀ x∈atL k t r l,Zfs x:=by
 intro x hx
 unfold atL at hx
 split at hx
 ·rename_i h2
  exact m_125
 ·simp at hx
theorem Zkj:∀ f:Fr,okF 2 f->∀ x∈Za2 f,Zfs x
 | .nil,_,x,hx=>by simp [Za2] at hx
 | .cons k t r l v kids rest,h,x,hx=>by
  simp only [Za2,List.mem_append] at hx
  rcases hx with (hx | hx) | hx
  ·exact Z0a h.1 x hx
  ·exact Zkj kids h.2.1 x hx
  ·exact Zkj rest h.2.2 x hx
theorem Zqi {q k t r:Int}{l:List UInt8}{v:Int}{kids:Fr}(h:Zbd 2 q k t r l v kids=0):Zfw 2 k t r l v kids.len=true/\okF 2 kids/\1+kids.all<=1000000/\(∀ x∈atL k t r l++Za2 kids,Zfs x)/\(atL k t r l++Za2 kids).length<=1024:=by
 obtain⟨_,_,_,h1,h2,h3⟩:=Zo8 h
 have ha:=Zmt kids
 have hn:=Zc7 kids
 have h4:(atL k t r l).length<=1:=by unfold atL;split <;> simp
 refine⟨h1,h2,by omega,fun x hx=>?_,by simp;omega⟩
 rcases List.mem_append.1 hx with hx | hx
 ·exact Z0a h1 x hx
 ·exact Zkj kids h2 x hx
theorem Zjx {α:Type}[Inhabited α][DecidableEq α](d:Array α):∀ m,m<=d.size->∀ x∈Lib.compactUpTo d m,x∈d.toList:=by
 intro m
 induction m with
 | zero=>intro _ x hx;simp [Lib.compactUpTo] at hx
 | succ m ih=>
  intro hm x hx
  rw [Lib.compactUpTo_succ] at hx
  rcases List.mem_append.1 hx with hx | hx
  ·exact ih (by omega) x hx
  ·split at hx
   ·simp only [List.mem_singleton] at hx
    subst hx
    rw [getElem!_pos d m (by omega)]
    simp
   ·simp at hx
theorem Zif {α:Type}[Inhabited α][DecidableEq α](d:Array α):∀ m,(Lib.compactUpTo d m).length<=m:=by
 intro m
 induction m with
 | zero=>simp [Lib.compactUpTo]
 | succ m ih=>
  rw [Lib.compactUpTo_succ,List.length_append]
  split <;> simp <;> omega
theorem Zq9 (L:List Th):(Zo7 L).length<=L.length:=by
 have:=Zif (Zfd L).toArray (Zfd L).toArray.size
 simpa [Zo7,Zkk] using this
theorem Zqt (L:List Th):∀ x∈Zo7 L,x∈L:=fun x hx=>(Zgk L).mem_iff.1 (by simpa using Zjx (Zfd L).toArray _ (Nat.le_refl _) x hx)
def Zlt (q k t r:Int)(l:List UInt8)(v:Int)(kids:Fr):List Th:=if Zbd 2 q k t r l v kids=0 then Zo7 (atL k t r l++Za2 kids) else []
def Z66 (T:List Th)(E:Int)(w:World)(e:Ending)(w':World):Prop:=∃ u,e=.returned (.tuple #[u,.int .i64 E])/\Zsp w w' u T/\Below w.heap.size w w'
theorem Zsp.old {w0 w w':World}{v:Value}{T:List Th}(h:Zsp w w' v T)(hw:w0.heap.size<=w.heap.size):Zsp w0 w' v T:=by
 obtain⟨h1,h2⟩:=h
 refine⟨h1,?_⟩
 rcases h2 with h2 | ⟨g,cap,cur,rfl,h3,h4,h5⟩
 ·exact .inl h2
 ·exact .inr ⟨g,cap,cur,rfl,by omega,h4,h5⟩
section
variable {w:World} {q k t r v:Int} {l:List UInt8} {kids:Fr}
set_option maxHeartbeats 2000000 in
set_option maxRecDepth 100000 in
theorem Z6r (hi:Nat)(kv:Value)(hhi:hi<=w.heap.size)(hs:Zd7 w hi kv kids)(hl:l.length<=9223372036854775807) :
  Calls Tryz.prog 31 #[Zzf q k t r l v kv] w (Z66 (Zlt q k t r l v kids) (Zbd 2 q k t r l v kids) w):=by
 obtain⟨A,cap,rfl,s'⟩:=hs
 have hs2:Zd7 w hi (.slice A kids.len cap) kids:=⟨A,cap,rfl,s'⟩
 have hb1:=Zad w (.cells #[.int .i64 q,.int .i64 k,.int .i64 t,.int .i64 r,.string ⟨l.toArray⟩,.int .i64 v,.slice A kids.len cap] 30 (0,0))
 have hs3:=hs2.below hhi hb1
 have HS:=Zh hs3
 have HSU:=Zh (hs3.up (show hi<=(w.alloc (.cells #[.int .i64 q,.int .i64 k,.int .i64 t,.int .i64 r,.string ⟨l.toArray⟩,.int .i64 v,.slice A kids.len cap] 30 (0,0))).heap.size by simp;omega))
 have HB1:=Zh hb1
 have HBN:=Zh (Blk.new w 30 #[.int .i64 q,.int .i64 k,.int .i64 t,.int .i64 r,.string ⟨l.toArray⟩,.int .i64 v,.slice A kids.len cap])
 by_cases hck:Zbd 2 q k t r l v kids=0
 ·obtain⟨ho,hk,hall,hv,hnl⟩:=Zqi hck
  have HCK:=Zh hck
  have HTP:=Zh (fun (w2:World) (h1:hi<=w2.heap.size) (h2:Zd7 w2 hi (.slice A kids.len cap) kids)=>Z16 (w:=w2) (v:=v) hi _ h1 h2 hl hall hv)
  rw [show Zlt q k t r l v kids=Zo7 (atL k t r l++Za2 kids) by unfold Zlt;rw [if_pos hck],hck]
  obtain⟨L,hL⟩:∃ L,atL k t r l++Za2 kids=L:=⟨_,rfl⟩
  rw [hL] at hnl HTP ⊢
  have hul:=Zq9 L
  clear s' hs2 hs3 hb1 hv hck hL ho hk hall
  go_enter Tryz.func31,Tryz.ntmps31
  go_wp2_with (first
   | (go_at_call 83;refine (Zwn 2 q k t r l v _ kids _ hl HSU.out).mono ?_;rw [HCK.out];rintro e w2 ⟨rfl,hb2⟩;have hB:=HBN.out.go hb2;have c1:=hB.cell 1;have c2:=hB.cell 2;have c3:=hB.cell 3;have c4:=hB.cell 4;have c5:=hB.cell 5;have c6:=hB.cell 6;have HB2:=Zh hb2;have hz2:=hb2.size;simp at hz2;have HS2:=Zh (HS.out.below (by simp;omega) hb2);clear hB hb2)
   | (go_at_call 90;refine (HTP.out _ (by omega) HS2.out).mono ?_;rintro e w3 ⟨g,cg,rfl,hg,ht,hb3⟩;have HT:=Zh ht;have HG:=Zh hg;have HB3:=Zh hb3;have hz3:=hb3.size;clear ht hb3 hg)
   | (go_at_call 89;refine (Z3x g cg (Zo7 L) (by omega) HG.out HT.out).mono ?_;rintro e w4 ⟨v4,rfl,ho4,hb4⟩))
  go_ret2
  exact⟨v4,rfl,ho4.old (by omega),((HB1.out.trans (HB2.out.mono (by simp))).trans (HB3.out.mono (by omega))).trans (hb4.mono (by omega))⟩
 ·obtain⟨E,hE⟩:∃ E,Zbd 2 q k t r l v kids=E:=⟨_,rfl⟩
  rw [show Zlt q k t r l v kids=[] by unfold Zlt;rw [if_neg hck],hE]
  rw [hE] at hck
  have HCK:=Zh hE
  have e1:(E != 0)=true:=by simpa using hck
  clear s' hs2 hs3 hb1 hck hE
  go_enter Tryz.func31,Tryz.ntmps31
  go_wp2_with (go_at_call 83;refine (Zwn 2 q k t r l v _ kids _ hl HSU.out).mono ?_;rw [HCK.out];rintro e w2 ⟨rfl,hb2⟩)
  go_ret2
  exact⟨_,rfl,World.ownsRow_nil _ _ _ _,HB1.out.trans (hb2.mono (by simp))⟩
end
theorem Zl4 {x y:Th}(hx:Zfs x)(hy:Zfs y):Zh9 x y=decide (Zbv x y<0):=by
 have px:=Ze6 ⟨x,hx⟩
 have py:=Ze6 ⟨y,hy⟩
 simp only at px py
 unfold Zh9 Zbv
 have e0:=Zjj ([]:List UInt8)
 by_cases h1:x.1=-1 <;> by_cases h2:y.1=-1
 ·have e1:x.1=y.1:=by omega
  have e2:x.2.1=y.2.1:=by omega
  simp [h1,h2,e2]
 ·simp [h1,h2]
 ·simp [h1,h2]
 ·by_cases h3:x.1=y.1
  ·by_cases h4:x.2.1=y.2.1
   ·have e3:x.2.2=[]:=by rcases px with p | p;exact absurd p.1 h1;exact p.2.2.2.2
    have e4:y.2.2=[]:=by rcases py with p | p;exact absurd p.1 h2;exact p.2.2.2.2
    simp [h2,h3,h4,e3,e4,e0]
   ·simp [h2,h3,h4];omega
  ·simp [h1,h2,h3];omega
theorem Zq3 {x:Th}(hx:Zfs x):¬ Zbv x x<0:=by
 have:=Zf7.irrefl ⟨x,hx⟩
 simpa [ltT] using this
theorem Zrv {x y z:Th}(hx:Zfs x)(hy:Zfs y)(hz:Zfs z)(h:Zbv x y<0)(k:Zbv y z<0):Zbv x z<0:=by
 have:=Zf7.trans ⟨x,hx⟩ ⟨y,hy⟩ ⟨z,hz⟩ (by simpa [ltT] using h) (by simpa [ltT] using k)
 simpa [ltT] using this
theorem Zv3 {x y z:Th}(hx:Zfs x)(hy:Zfs y)(hz:Zfs z)(h:¬ Zbv x y<0)(k:¬ Zbv y z<0):¬ Zbv x z<0:=by
 have:=Zf7.ntrans ⟨x,hx⟩ ⟨y,hy⟩ ⟨z,hz⟩ (by simpa [ltT] using h) (by simpa [ltT] using k)
 simpa [ltT] using this
theorem Zqu {x y:Th}(hx:Zfs x)(hy:Zfs y)(h:¬ Zbv x y<0)(k:¬ Zbv y x<0):x=y:=by
 have:=Znt ⟨x,hx⟩ ⟨y,hy⟩ (by simpa [ltT] using h) (by simpa [ltT] using k)
 exact congrArg Subtype.val this
theorem Z05 {x y:Th}(hx:Zfs x)(hy:Zfs y)(h:Zbv x y<0):¬ Zbv y x<0:=fun k=>Zq3 hx (Zrv hx hy hx h k)
theorem Zmh (x:Th):∀ (l:List Th) (z:Th),z∈Zj2 x l↔z=x\/z∈l
 | [],z=>by simp [Zj2]
 | y :: r,z=>by
  unfold Zj2
  split
  ·simp
  ·simp only [List.mem_cons,Zmh x r]
   constructor
   ·rintro (h | h | h)
    ·exact .inr (.inl h)
    ·exact .inl h
    ·exact .inr (.inr h)
   ·rintro (h | h | h)
    ·exact .inr (.inl h)
    ·exact .inl h
    ·exact .inr (.inr h)
theorem Zru (x:Th)(l:List Th)(z:Th):z∈Zny x l↔z=x\/z∈l:=by
 unfold Zny
 split
 ·rename_i h
  constructor
  ·exact .inr
  ·rintro (rfl | k)
   ·exact h
   ·exact k
 ·exact Zmh x l z
theorem Zmw:∀ (L acc:List Th) (z:Th),z∈Zko L acc↔z∈acc\/z∈L
 | [],acc,z=>by simp [Zko]
 | x :: L,acc,z=>by
  have:=Zmw L (Zny x acc) z
  simp only [Zko,List.foldl_cons] at this ⊢
  rw [this,Zru,List.mem_cons]
  constructor
  ·rintro ((h | h) | h)
   ·exact .inr (.inl h)
   ·exact .inl h
   ·exact .inr (.inr h)
  ·rintro (h | h | h)
   ·exact .inl (.inr h)
   ·exact .inl (.inl h)
   ·exact .inr h
def Str (T:List Th):Prop:=T.Pairwise fun x y=>Zbv x y<0
theorem Zqq {x:Th}(hx:Zfs x):∀ {l:List Th},(∀ y∈l,Zfs y)->x∉l->Str l->Str (Zj2 x l)
 | [],_,_,_=>by simp [Zj2,Str]
 | y :: r,hv,hn,hs=>by
  have hy:=hv y (by simp)
  have hsr:=List.pairwise_cons.1 hs
  unfold Zj2
  split
  ·rename_i hb
   rw [Zl4 hx hy,decide_eq_true_iff] at hb
   refine List.pairwise_cons.2 ⟨fun z hz=>?_,hs⟩
   rcases List.mem_cons.1 hz with rfl | hz
   ·exact hb
   ·exact Zrv hx hy (hv z (by simp [hz])) hb (hsr.1 z hz)
  ·rename_i hb
   rw [Zl4 hx hy,decide_eq_true_iff] at hb
   refine List.pairwise_cons.2 ⟨fun z hz=>?_,Zqq hx (fun z hz=>hv z (by simp [hz])) (fun h=>hn (by simp [h])) hsr.2⟩
   rcases (Zmh x r z).1 hz with rfl | hz
   ·exact Decidable.byContradiction fun h=>hn (by simp [Zqu hx hy hb h])
   ·exact hsr.1 z hz
theorem Zyk {x:Th}(hx:Zfs x){l:List Th}(hv:∀ y∈l,Zfs y)(hs:Str l):Str (Zny x l):=by
 unfold Zny
 split
 ·exact hs
 ·rename_i h
  exact Zqq hx hv h hs
theorem Zq5:∀ (L acc:List Th),(∀ x∈L,Zfs x)->(∀ x∈acc,Zfs x)->Str acc->Str (Zko L acc)
 | [],_,_,_,h=>h
 | x :: L,acc,hL,ha,hs=>by
  have hx:=hL x (by simp)
  exact Zq5 L (Zny x acc) (fun y hy=>hL y (by simp [hy])) (fun y hy=>by
   rcases (Zru x acc y).1 hy with rfl | hy
   ·exact hx
   ·exact ha y hy) (Zyk hx ha hs)
theorem Zk7:∀ {a b:List Th},(∀ x∈a,Zfs x)->Str a->Str b->(∀ x,x∈a↔x∈b)->a=b
 | [],[],_,_,_,_=>rfl
 | [],y :: b,_,_,_,h=>absurd ((h y).2 (by simp)) (by simp)
 | x :: a,[],_,_,_,h=>absurd ((h x).1 (by simp)) (by simp)
 | x :: a,y :: b,hv,ha,hb,h=>by
  have ha':=List.pairwise_cons.1 ha
  have hb':=List.pairwise_cons.1 hb
  have hxv:=hv x (by simp)
  have hyv:=hv y ((h y).2 (by simp))
  have hxy:x=y:=by
   rcases List.mem_cons.1 ((h x).1 (by simp)) with e | e
   ·exact e
   rcases List.mem_cons.1 ((h y).2 (by simp)) with e' | e'
   ·exact e'.symm
   exact absurd (ha'.1 y e') (Z05 hyv hxv (hb'.1 x e))
  subst hxy
  congr 1
  refine Zk7 (fun z hz=>hv z (by simp [hz])) ha'.2 hb'.2 fun z=>?_
  constructor
  ·intro hz
   rcases List.mem_cons.1 ((h z).1 (by simp [hz])) with e | e
   ·subst e;exact absurd (ha'.1 _ hz) (Zq3 hxv)
   ·exact e
  ·intro hz
   rcases List.mem_cons.1 ((h z).2 (by simp [hz])) with e | e
   ·subst e;exact absurd (hb'.1 _ hz) (Zq3 hxv)
   ·exact e
theorem Zs3 {L:List Th}(hv:∀ x∈L,Zfs x):(Zfd L).Pairwise fun x y=>¬ Zbv y x<0:=by
 rw [<- Zq1 L hv,List.pairwise_map]
 have:=List.pairwise_mergeSort (le:=fun x y:VTh=>!ltT y x) (fun a b c h k=>by
  simp only [Bool.not_eq_true'] at h k ⊢
  exact Zf7.ntrans c b a k h) (fun a b=>by
  cases h:ltT b a with
  | false=>simp
  | true=>
   cases k:ltT a b with
   | false=>simp
   | true=>have:=Zf7.irrefl a;rw [Zf7.trans a b a k h] at this;cases this) (toV L hv)
 refine this.imp fun {x y} h=>?_
 simpa [ltT,Zw2] using h
theorem Zzo {L:List Th}(hv:∀ x∈L,Zfs x):Str (Zo7 L):=by
 have hp:=Zs3 hv
 have hvs:∀ x∈Zfd L,Zfs x:=fun x hx=>hv x ((Zgk L).mem_iff.1 hx)
 obtain⟨S,hS⟩:∃ S,Zfd L=S:=⟨_,rfl⟩
 unfold Zo7
 rw [hS] at hp hvs ⊢
 rw [List.pairwise_iff_getElem] at hp
 have hget:∀ i,(h:i<S.length)->S.toArray[i]! =S[i]:=fun i h=>by rw [getElem!_pos S.toArray i (by simpa using h)];simp
 unfold compactUpTo Str
 rw [List.pairwise_map]
 have hr:((List.range S.toArray.size).filter (keeps S.toArray)).Pairwise (·<·):=List.Pairwise.filter _ List.pairwise_lt_range
 refine List.Pairwise.imp_of_mem (fun {i j} hi hj hij=>?_) hr
 simp only [List.mem_filter,List.mem_range,List.size_toArray] at hi hj
 have hk:=hj.2
 unfold keeps at hk
 rw [decide_eq_true_iff] at hk
 have hk':=hk.resolve_left (by omega)
 rw [hget i hi.1,hget j hj.1]
 rw [hget j hj.1,hget (j - 1) (by omega)] at hk'
 have vi:=hvs S[i] (List.getElem_mem hi.1)
 have vj:=hvs S[j] (List.getElem_mem hj.1)
 have vm:=hvs S[j - 1] (List.getElem_mem (by omega))
 have h1:¬ Zbv S[j] S[j - 1]<0:=hp (j - 1) j (by omega) hj.1 (by omega)
 have h2:¬ Zbv S[j - 1] S[i]<0:=by
  by_cases e:i=j - 1
  ·subst e;exact Zq3 vm
  ·exact hp i (j - 1) hi.1 (by omega) (by omega)
 refine Decidable.byContradiction fun h3=>?_
 have h4:¬ Zbv S[j - 1] S[j]<0:=Zv3 vm vi vj h2 h3
 exact hk' (Zqu vj vm h1 h4)
theorem Zp1 (d:Array Th):∀ m,m<=d.size->∀ i,i<m->d[i]!∈compactUpTo d m:=by
 intro m
 induction m with
 | zero=>intro _ i hi;omega
 | succ m ih=>
  exact m_59
theorem Zxx (L:List Th)(x:Th):x∈Zo7 L↔x∈L:=by
 refine⟨Zqt L x,fun h=>?_⟩
 obtain⟨i,hi,rfl⟩:=List.mem_iff_getElem.1 ((Zgk L).mem_iff.2 h)
 have:=Zp1 (Zfd L).toArray (Zfd L).toArray.size (Nat.le_refl _) i (by simpa using hi)
 rw [getElem!_pos (Zfd L).toArray i (by simpa using hi)] at this
 simpa [Zo7] using this
theorem Zpk {L:List Th}(hv:∀ x∈L,Zfs x):Zko L []=Zo7 L:=by
 refine Zk7 (fun x hx=>?_) (Zq5 L [] hv (fun _ h=>by simp at h) List.Pairwise.nil) (Zzo hv) fun x=>?_
 ·rcases (Zmw L [] x).1 hx with h | h
  ·simp at h
  ·exact hv x h
 ·rw [Zmw,Zxx];simp
end Go.Proofs.YtoegmdnfbemppaaGreatDoor
namespace Go.Proofs.YtoegmdnfbemppaaGreatDoor
open Go.RowKit
open Go.Lib (compactUpTo keeps)
abbrev Nm:=List UInt8
def ltN (a b:Nm):Bool:=decide (Lib.compareBytes a b<0)
theorem Zgh (a b:Nm):Op.bytesLess a b=ltN a b:=Zm3 a b
theorem Z4f (a b:Nm):decide (a<b)=ltN a b:=by rw [<- Zgh,bytesLess_eq]
theorem Zg1 (a:Nm):ltN a a=false:=by simp [ltN,Zjj]
theorem Zoc {a b c:Nm}(h:ltN a b=true)(k:ltN b c=true):ltN a c=true:=by
 simp only [ltN,decide_eq_true_eq] at *
 exact Zio a b c h k
theorem Zlm {a b c:Nm}(h:ltN a b=false)(k:ltN b c=false):ltN a c=false:=by
 simp only [ltN,decide_eq_false_iff_not] at *
 exact Zgz a b c h k
theorem Zz1 {a b:Nm}(h:ltN a b=false)(k:ltN b a=false):a=b:=by
 simp only [ltN,decide_eq_false_iff_not] at *
 exact Zpx a b h k
theorem Zni {a b:Nm}(h:ltN a b=true):ltN b a=false:=by
 cases k:ltN b a with
 | false=>rfl
 | true=>have:=Zoc h k;rw [Zg1] at this;cases this
theorem Z2w (a:Nm):ltN a []=false:=by
 cases a <;> simp [ltN,Lib.compareBytes]
def Zj1 (l:List Nm):Prop:=l.Pairwise fun x y=>ltN x y=true
theorem Zg2:∀ {a b:List Nm},Zj1 a->Zj1 b->(∀ x,x∈a↔x∈b)->a=b
 | [],[],_,_,_=>rfl
 | [],y :: b,_,_,h=>absurd ((h y).2 (by simp)) (by simp)
 | x :: a,[],_,_,h=>absurd ((h x).1 (by simp)) (by simp)
 | x :: a,y :: b,ha,hb,h=>by
  have ha':=List.pairwise_cons.1 ha
  have hb':=List.pairwise_cons.1 hb
  have hxy:x=y:=by
   rcases List.mem_cons.1 ((h x).1 (by simp)) with e | e
   ·exact e
   rcases List.mem_cons.1 ((h y).2 (by simp)) with e' | e'
   ·exact e'.symm
   have h1:=Zni (ha'.1 y e')
   rw [hb'.1 x e] at h1;cases h1
  subst hxy
  congr 1
  refine Zg2 ha'.2 hb'.2 fun z=>?_
  constructor
  ·intro hz
   rcases List.mem_cons.1 ((h z).1 (by simp [hz])) with e | e
   ·subst e;have:=ha'.1 _ hz;rw [Zg1] at this;cases this
   ·exact e
  ·intro hz
   rcases List.mem_cons.1 ((h z).2 (by simp [hz])) with e | e
   ·subst e;have:=hb'.1 _ hz;rw [Zg1] at this;cases this
   ·exact e
def Ze5 (L:List Nm):List Nm:=L.mergeSort fun x y=>decide (x<=y)
theorem Zdm (L:List Nm):(Ze5 L).Perm L:=List.mergeSort_perm _ _
theorem leN (x y:Nm):decide (x<=y)=!ltN y x:=by
 rw [<- Z4f,Bool.eq_iff_iff]
 simp
theorem Zsg (L:List Nm):(Ze5 L).Pairwise fun x y=>ltN y x=false:=by
 have:=List.pairwise_mergeSort (le:=fun x y:Nm=>decide (x<=y)) (fun a b c h k=>by
  rw [leN] at *
  simp only [Bool.not_eq_true'] at *
  exact Zlm k h) (fun a b=>by
  rw [leN,leN]
  cases h:ltN b a with
  | false=>simp
  | true=>simp [Zni h]) L
 refine this.imp fun {x y} h=>?_
 rw [leN] at h
 simpa using h
theorem Zn1 (d:Array Nm):∀ m,m<=d.size->∀ i,i<m->d[i]!∈compactUpTo d m:=by
 intro m
 induction m with
 | zero=>intro _ i hi;omega
 | succ m ih=>
  exact m_59
def Zkz (L:List Nm):List Nm:=Lib.compact (Ze5 L)
theorem Zpf (L:List Nm):Zj1 (Zkz L):=by
 have hp:=Zsg L
 unfold Zkz
 obtain⟨S,hS⟩:∃ S,Ze5 L=S:=⟨_,rfl⟩
 rw [hS] at hp ⊢
 rw [List.pairwise_iff_getElem] at hp
 have hget:∀ i,(h:i<S.length)->S.toArray[i]! =S[i]:=fun i h=>by rw [getElem!_pos S.toArray i (by simpa using h)];simp
 unfold Lib.compact compactUpTo Zj1
 rw [List.pairwise_map]
 have hr:((List.range S.length).filter (keeps S.toArray)).Pairwise (·<·):=List.Pairwise.filter _ List.pairwise_lt_range
 refine List.Pairwise.imp_of_mem (fun {i j} hi hj hij=>?_) hr
 simp only [List.mem_filter,List.mem_range] at hi hj
 have hk:=hj.2
 unfold keeps at hk
 rw [decide_eq_true_iff] at hk
 have hk':=hk.resolve_left (by omega)
 rw [hget i hi.1,hget j hj.1]
 rw [hget j hj.1,hget (j - 1) (by omega)] at hk'
 have h1:ltN S[j] S[j - 1]=false:=hp (j - 1) j (by omega) hj.1 (by omega)
 have h2:ltN S[j - 1] S[i]=false:=by
  by_cases e:i=j - 1
  ·subst e;exact Zg1 _
  ·exact hp i (j - 1) hi.1 (by omega) (by omega)
 refine Decidable.byContradiction fun h3=>?_
 have h4:ltN S[j - 1] S[j]=false:=Zlm h2 (by simpa using h3)
 exact hk' (Zz1 h1 h4)
theorem Zt3 (L:List Nm)(x:Nm):x∈Zkz L↔x∈L:=by
 unfold Zkz Lib.compact
 refine⟨fun h=>(Zdm L).mem_iff.1 (by simpa using Zjx _ _ (by simp) x h),fun h=>?_⟩
 obtain⟨i,hi,rfl⟩:=List.mem_iff_getElem.1 ((Zdm L).mem_iff.2 h)
 have:=Zn1 (Ze5 L).toArray (Ze5 L).length (by simp) i hi
 rwa [getElem!_pos (Ze5 L).toArray i (by simpa using hi)] at this
theorem Zt2 (L:List Nm):(Zkz L).length<=L.length:=by
 have:=Zif (Ze5 L).toArray (Ze5 L).length
 unfold Zkz Lib.compact
 have hl:=(Zdm L).length_eq
 omega
def Zqk (L:List Nm):List Nm:=match L with
 | [] :: r=>r
 | l=>l
def Zdl (L:List Nm):List Nm:=Zqk (Zkz L)
theorem Zvo {L:List Nm}(h:Zj1 L):Zj1 (Zqk L):=by
 unfold Zqk
 split
 ·exact (List.pairwise_cons.1 h).2
 ·exact h
theorem Zuj {L:List Nm}(h:Zj1 L)(x:Nm):x∈Zqk L↔x∈L/\x≠[]:=by
 unfold Zqk
 split
 ·rename_i r
  have hh:=List.pairwise_cons.1 h
  constructor
  ·intro hx
   refine⟨by simp [hx],fun e=>?_⟩
   subst e
   have:=hh.1 _ hx;rw [Zg1] at this;cases this
  ·rintro⟨hx,hne⟩
   rcases List.mem_cons.1 hx with e | e
   ·exact absurd e hne
   ·exact e
 ·rename_i hne
  refine⟨fun hx=>⟨hx,fun e=>?_⟩,fun hx=>hx.1⟩
  subst e
  cases L with
  | nil=>simp at hx
  | cons y r=>
   have hh:=List.pairwise_cons.1 h
   rcases List.mem_cons.1 hx with e | e
   ·subst e;exact hne r rfl
   ·have:=hh.1 _ e;rw [Z2w] at this;cases this
theorem Zhg (L:List Nm):Zj1 (Zdl L):=Zvo (Zpf L)
theorem Zgc (L:List Nm)(x:Nm):x∈Zdl L↔x∈L/\x≠[]:=by
 unfold Zdl
 rw [Zuj (Zpf L),Zt3]
def Zos (s:Nm):List Nm->List Nm
 | []=>[s]
 | y :: r=>if ltN s y then s :: y :: r else y :: Zos s r
def Zkt (l:List Nm)(s:Nm):List Nm:=if s=[]\/s∈l then l else Zos s l
theorem Znm (s:Nm):∀ (l:List Nm) (x:Nm),x∈Zos s l↔x=s\/x∈l
 | [],x=>by simp [Zos]
 | y :: r,x=>by
  unfold Zos
  split
  ·simp
  ·simp only [List.mem_cons,Znm s r]
   constructor <;> (intro h;rcases h with h | h | h <;> simp [h])
theorem Zrf (s:Nm):∀ {l:List Nm},s∉l->Zj1 l->Zj1 (Zos s l)
 | [],_,_=>by simp [Zos,Zj1]
 | y :: r,hn,h=>by
  have hh:=List.pairwise_cons.1 h
  unfold Zos
  split
  ·rename_i hs
   refine List.pairwise_cons.2 ⟨fun z hz=>?_,h⟩
   rcases List.mem_cons.1 hz with e | e
   ·subst e;exact hs
   ·exact Zoc hs (hh.1 z e)
  ·rename_i hs
   have hs':ltN s y=false:=by simpa using hs
   have hys:ltN y s=true:=by
    cases k:ltN y s with
    | true=>rfl
    | false=>exact absurd (Zz1 hs' k) (fun e=>hn (by simp [e]))
   refine List.pairwise_cons.2 ⟨fun z hz=>?_,Zrf s (fun e=>hn (by simp [e])) hh.2⟩
   rcases (Znm s r z).1 hz with e | e
   ·subst e;exact hys
   ·exact hh.1 z e
theorem Zxi (l:List Nm)(s x:Nm):x∈Zkt l s↔(x=s/\s≠[])\/x∈l:=by
 unfold Zkt
 split
 ·rename_i h
  refine⟨Or.inr,fun hx=>?_⟩
  rcases hx with ⟨rfl,hne⟩ | hx
  ·rcases h with h | h
   ·exact absurd h hne
   ·exact h
  ·exact hx
 ·rename_i h
  rw [Znm]
  have:s≠[]:=fun e=>h (Or.inl e)
  simp [this]
theorem Zxf {l:List Nm}(h:Zj1 l)(s:Nm):Zj1 (Zkt l s):=by
 unfold Zkt
 split
 ·exact h
 ·rename_i hn
  exact Zrf s (fun e=>hn (Or.inr e)) h
theorem Zow:∀ (L:List Nm) {l:List Nm},Zj1 l->Zj1 (L.foldl Zkt l)
 | [],_,h=>h
 | s :: L,_,h=>Zow L (Zxf h s)
theorem Zo4:∀ (L l:List Nm) (x:Nm),x∈L.foldl Zkt l↔(x∈L/\x≠[])\/x∈l
 | [],l,x=>by simp
 | s :: L,l,x=>by
  rw [List.foldl_cons,Zo4 L,Zxi]
  constructor
  ·rintro (⟨h1,h2⟩ | ⟨rfl,h2⟩ | h)
   ·exact Or.inl ⟨by simp [h1],h2⟩
   ·exact Or.inl ⟨by simp,h2⟩
   ·exact Or.inr h
  ·rintro (⟨h1,h2⟩ | h)
   ·rcases List.mem_cons.1 h1 with e | e
    ·subst e;exact Or.inr (Or.inl ⟨rfl,h2⟩)
    ·exact Or.inl ⟨e,h2⟩
   ·exact Or.inr (Or.inr h)
theorem Zsc (L:List Nm):L.foldl Zkt []=Zdl L:=
 Zg2 (Zow L List.Pairwise.nil) (Zhg L) fun x=>by rw [Zo4,Zgc];simp
def Zel (T:Tst):List Nm:=(T.init.flatMap fun x=>[x.loc,x.vl])++((T.code.flatMap fun c=>c.map fun x=>x.loc)++(Zlt T.q T.k T.t T.r T.l T.v T.kids).map fun x=>x.2.2)
end Go.Proofs.YtoegmdnfbemppaaGreatDoor
namespace Go.Proofs
open Go.Shelf
def Tryz.sortPr_ren:Go.Shelf.Ren:=⟨fun | 6=>97 | 15=>165 | 14=>164 | 28=>240 | 29=>241 | 20=>232 | 21=>233 | 22=>234 | 23=>235 | 24=>236 | 25=>237 | 26=>238 | 27=>239 | 46=>291 | 47=>292 | 48=>293 | 49=>294 | 50=>295 | 57=>323 | n=>n,fun | 22=>37 | 24=>52 | 25=>173 | 3=>3 | 39=>155 | 0=>0 | 53=>302 | 55=>110 | 4=>4 | 46=>296 | 45=>295 | 50=>103 | 5=>5 | 9=>9 | 66=>330 | 70=>334 | 76=>353 | 77=>354 | n=>n,fun | n=>n⟩
theorem Tryz.sortPr:Go.Proofs.SlLaysF0.n6 Tryz.prog Tryz.sortPr_ren:={
 mixed:=by kernel_rfl
 f6:=⟨Tryz.f97.name,by decide,Tryz.func97.trans (congrArg some (by kernel_rfl))⟩
 f14:=⟨Tryz.f164.name,by decide,Tryz.func164.trans (congrArg some (by kernel_rfl))⟩
 f15:=Tryz.func165.trans (congrArg some (by kernel_rfl))
 f20:=⟨Tryz.f232.name,by decide,Tryz.func232.trans (congrArg some (by kernel_rfl))⟩
 f21:=⟨Tryz.f233.name,by decide,Tryz.func233.trans (congrArg some (by kernel_rfl))⟩
 f22:=⟨Tryz.f234.name,by decide,Tryz.func234.trans (congrArg some (by kernel_rfl))⟩
 f23:=⟨Tryz.f235.name,by decide,Tryz.func235.trans (congrArg some (by kernel_rfl))⟩
 f24:=⟨Tryz.f236.name,by decide,Tryz.func236.trans (congrArg some (by kernel_rfl))⟩
 f25:=⟨Tryz.f237.name,by decide,Tryz.func237.trans (congrArg some (by kernel_rfl))⟩
 f26:=⟨Tryz.f238.name,by decide,Tryz.func238.trans (congrArg some (by kernel_rfl))⟩
 f27:=⟨Tryz.f239.name,by decide,Tryz.func239.trans (congrArg some (by kernel_rfl))⟩
 f28:=Tryz.func240.trans (congrArg some (by kernel_rfl))
 f29:=Tryz.func241.trans (congrArg some (by kernel_rfl))
 f46:=⟨Tryz.f291.name,by decide,Tryz.func291.trans (congrArg some (by kernel_rfl))⟩
 f47:=Tryz.func292.trans (congrArg some (by kernel_rfl))
 f48:=Tryz.func293.trans (congrArg some (by kernel_rfl))
 f49:=⟨Tryz.f294.name,by decide,Tryz.func294.trans (congrArg some (by kernel_rfl))⟩
 f50:=⟨Tryz.f295.name,by decide,Tryz.func295.trans (congrArg some (by kernel_rfl))⟩
 f57:=⟨Tryz.f323.name,by decide,Tryz.func323.trans (congrArg some (by kernel_rfl))⟩
 t0:=Tryz.underlying0
 a0:=Tryz.isAgg0
 z0:=Tryz.sizeOf0
 v0:=Tryz.zeroValue0
 t3:=Tryz.underlying3
 a3:=Tryz.isAgg3
 z3:=Tryz.sizeOf3
 v3:=Tryz.zeroValue3
 t4:=Tryz.underlying4
 a4:=Tryz.isAgg4
 z4:=Tryz.sizeOf4
 v4:=Tryz.zeroValue4
 t5:=Tryz.underlying5
 a5:=Tryz.isAgg5
 z5:=Tryz.sizeOf5
 v5:=Tryz.zeroValue5
 t9:=Tryz.underlying9
 a9:=Tryz.isAgg9
 z9:=Tryz.sizeOf9
 v9:=Tryz.zeroValue9
 t22:=Tryz.underlying37
 a22:=Tryz.isAgg37
 z22:=Tryz.sizeOf37
 v22:=Tryz.zeroValue37
 t25:=Tryz.underlying173
 a25:=Tryz.isAgg173
 z25:=Tryz.sizeOf173
 v25:=Tryz.zeroValue173
 t39:=Tryz.underlying155
 a39:=Tryz.isAgg155
 z39:=Tryz.sizeOf155
 v39:=Tryz.zeroValue155
 t45:=Tryz.underlying295
 a45:=Tryz.isAgg295
 z45:=Tryz.sizeOf295
 v45:=Tryz.zeroValue295
 t46:=Tryz.underlying296
 a46:=Tryz.isAgg296
 z46:=Tryz.sizeOf296
 v46:=Tryz.zeroValue296
 t50:=Tryz.underlying103
 a50:=Tryz.isAgg103
 z50:=Tryz.sizeOf103
 v50:=Tryz.zeroValue103
 t53:=Tryz.underlying302
 a53:=Tryz.isAgg302
 z53:=Tryz.sizeOf302
 v53:=Tryz.zeroValue302
 t55:=Tryz.underlying110
 a55:=Tryz.isAgg110
 z55:=Tryz.sizeOf110
 v55:=Tryz.zeroValue110
 t66:=Tryz.underlying330
 a66:=Tryz.isAgg330
 z66:=Tryz.sizeOf330
 v66:=Tryz.zeroValue330
 t70:=Tryz.underlying334
 a70:=Tryz.isAgg334
 z70:=Tryz.sizeOf334
 v70:=Tryz.zeroValue334
 t76:=Tryz.underlying353
 a76:=Tryz.isAgg353
 z76:=Tryz.sizeOf353
 v76:=Tryz.zeroValue353
 t77:=Tryz.underlying354
 a77:=Tryz.isAgg354
 z77:=Tryz.sizeOf354
 v77:=Tryz.zeroValue354 }
def Tryz.searchS_ren:Go.Shelf.Ren:=⟨fun | 26=>30 | 33=>87 | 34=>88 | 38=>152 | n=>n,fun | 24=>33 | 9=>9 | 3=>3 | 4=>4 | 40=>155 | 0=>0 | n=>n,fun | n=>n⟩
theorem Tryz.searchS:Go.Proofs.Lays2.n26 Tryz.prog Tryz.searchS_ren:={
 mixed:=by kernel_rfl
 f26:=Tryz.func30.trans (congrArg some (by kernel_rfl))
 f33:=Tryz.func87.trans (congrArg some (by kernel_rfl))
 f34:=Tryz.func88.trans (congrArg some (by kernel_rfl))
 f38:=Tryz.func152.trans (congrArg some (by kernel_rfl))
 t0:=Tryz.underlying0
 a0:=Tryz.isAgg0
 z0:=Tryz.sizeOf0
 v0:=Tryz.zeroValue0
 t3:=Tryz.underlying3
 a3:=Tryz.isAgg3
 z3:=Tryz.sizeOf3
 v3:=Tryz.zeroValue3
 t4:=Tryz.underlying4
 a4:=Tryz.isAgg4
 z4:=Tryz.sizeOf4
 v4:=Tryz.zeroValue4
 t9:=Tryz.underlying9
 a9:=Tryz.isAgg9
 z9:=Tryz.sizeOf9
 v9:=Tryz.zeroValue9
 t24:=Tryz.underlying33
 a24:=Tryz.isAgg33
 z24:=Tryz.sizeOf33
 v24:=Tryz.zeroValue33
 t40:=Tryz.underlying155
 a40:=Tryz.isAgg155
 z40:=Tryz.sizeOf155
 v40:=Tryz.zeroValue155 }
end Go.Proofs
namespace Go.Proofs.YtoegmdnfbemppaaGreatDoor
open Go.RowKit
theorem Zhq (x:Th):∀ u∈Zfv x,u.oneCell'=true:=by intro u hu;simp [Zfv] at hu;rcases hu with rfl | rfl | rfl <;> rfl
theorem Zwx {L:List Th}{j:Nat}{x y:Th}(h:L[j]?=some y)(hne:y≠x)(hx:x∉L.take j):x∉L.take (j+1):=by
 rw [List.take_add_one,h]
 simp only [Option.toList_some,List.mem_append,List.mem_singleton,not_or]
 exact⟨hx,fun e=>hne e.symm⟩
theorem Zvg {L:List Th}{j:Nat}{y:Th}(h:L[j]?=some y)(p:Th->Bool):(L.take (j+1)).any p=((L.take j).any p||p y):=by
 rw [List.take_add_one,h];simp
theorem Z2o {L:List Th}{j:Nat}{y:Th}(h:L[j]?=some y):L.take (j+1)=L.take j++[y]:=by rw [List.take_add_one,h];rfl
theorem Zex {B n:Nat}{a w:World}(h:Below B (a.drewN n) w):Below B a w:=⟨h.os,h.tape,h.output,h.size,h.block⟩
theorem Zjs {w0 w1 w2:World}{B n b o:Nat}{u v:Value}{xs:List Value}{ty:TypeId}{z:Nat}(hk:∀ b,b<w1.heap.size->v.ownBlock≠some b->w2.heap[b]?=w1.heap[b]?)(hB:b<B)(ho:w0.ownsRow B ty z v n xs)(hc:w1.cell? ⟨b,o,none⟩=some u):w2.cell? ⟨b,o,none⟩=some u:=by
 have hlt:=World.block_lt_of_cell? w1 _ hc
 have:=hk b hlt fun e=>by have:=(ho.lt _ e).1;omega
 rw [<- hc]
 unfold World.cell?
 simp only [this]
theorem Zll.mk {N:Nat}{T:List Th}{w w':World}{B:Nat}{v:Value}(hN:N<=B)(h:w'.ownsRow B 25 3 v T.length (Zay T))(hb:Below w.heap.size w w'):Zll N T w (.returned v) w':=by
 obtain⟨A,cap,rfl,ht⟩:=Zes h
 have ho:w'.ownsRow N 25 3 (.slice A T.length cap) T.length (Zay T):=by
  refine⟨h.1,?_⟩
  rcases h.2 with e | ⟨g,cap,cur,e,h1,h2⟩
  ·exact Or.inl e
  ·exact Or.inr ⟨g,cap,cur,e,Nat.le_trans hN h1,h2⟩
 exact⟨A,cap,rfl,⟨ht,(fun p hp=>by
  subst hp
  rcases h.2 with ⟨e,_⟩ | ⟨g,cap',cur,e,h1,_⟩
  ·cases e
  ·simp only [Value.slice.injEq,Option.some.injEq] at e
   rw [e.1];exact Nat.le_trans hN h1),ho⟩,hb⟩
section
variable {w:World} {t r v:Int} {l:List UInt8}
set_option maxHeartbeats 4000000 in
set_option maxRecDepth 100000 in
theorem Z59 (N:Nat)(hN:N<=w.heap.size)(Ak:Option Addr)(nk ck:Nat)(A:Option Addr)(cap:Nat)(L:List Th)(hlen:L.length<=1000000)(hA:Zpp w A L)(hNA:Z6o N A)(hOA:w.ownsRow N 25 3 (.slice A L.length cap) L.length (Zay L)) :
  Calls Tryz.prog 100 #[Zf1 2 t r l v (.slice Ak nk ck),.slice A L.length cap] w (Zll N (Zny (t,r,l) L) w):=by
 have HA:=Zh hA
 have HNA:=Zh hNA
 have HOA:=Zh hOA
 clear hNA hOA
 have HBN:=Zh (Blk.new w 28 #[.int .i64 2,.int .i64 t,.int .i64 r,.string ⟨l.toArray⟩,.int .i64 v,.slice Ak nk ck])
 have hb1:=Zad w (.cells #[.int .i64 2,.int .i64 t,.int .i64 r,.string ⟨l.toArray⟩,.int .i64 v,.slice Ak nk ck] 28 (0,0))
 have hsz1:(w.alloc (.cells #[.int .i64 2,.int .i64 t,.int .i64 r,.string ⟨l.toArray⟩,.int .i64 v,.slice Ak nk ck] 28 (0,0))).heap.size=w.heap.size+1:=by simp
 obtain⟨W0,hW0⟩:∃ W0,w.alloc (.cells #[.int .i64 2,.int .i64 t,.int .i64 r,.string ⟨l.toArray⟩,.int .i64 v,.slice Ak nk ck] 28 (0,0))=W0:=⟨_,rfl⟩
 rw [hW0] at hb1 hsz1
 have HB1:=Zh hb1
 have HW0:=Zh hW0
 clear hA hb1 hW0
 go_enter Tryz.func100,Tryz.ntmps100
 go_wp2_with fail
 go_loopw [5,6,7] (fun v5 p i wr=>∃ (j:Nat) (pb:Bool),j<=L.length/\i=.int .i64 j/\p=.bool pb/\(L.take j).any (Zh9 (t,r,l))=pb/\wr.ownsRow (w.heap.size+1) 25 3 v5 (Zkv (t,r,l) (L.take j)).length (Zay (Zkv (t,r,l) (L.take j)))/\(t,r,l)∉L.take j/\Below (w.heap.size+1) W0 wr) (fun _ _ i _=>L.length - (intOf i).toNat)
 case atStart=>exact⟨0,false,Nat.zero_le _,rfl,rfl,by simp,by simp [Zkv,Zay];exact World.ownsRow_nil _ _ _ _,by simp,by rw [HW0.out];exact Below.refl _ _⟩
 case round=>
  obtain⟨j,pb,hj,rfl,rfl,hpb,hown,hno,hbr⟩:=hrel
  obtain⟨Av,cv,rfl⟩:=Zbw hown
  have HBR:=Zh hbr
  have HPB:=Zh hpb
  have HOW:=Zh hown
  have HNO:=Zh hno
  have hzr:=hbr.size
  have hol:=Zxr (t,r,l) (L.take j)
  have htl:(L.take j).length<=j:=List.length_take_le _ _
  have HBT:=Zh (show Below w.heap.size w wr from HB1.out.trans (hbr.mono (by omega)))
  have hBk:=(HW0.out ▸ HBN.out:Blk W0 w.heap.size 28 #[.int .i64 2,.int .i64 t,.int .i64 r,.string ⟨l.toArray⟩,.int .i64 v,.slice Ak nk ck]).below hbr (by omega)
  have b1:=hBk.cell 1
  have b2:=hBk.cell 2
  have b3:=hBk.cell 3
  have HBK:=Zh hBk
  clear hbr hpb hown hno hBk
  by_cases hlt:j<L.length
  ·have ex:=List.getElem?_eq_getElem hlt
   obtain⟨y,hy⟩:∃ y,L[j]=y:=⟨_,rfl⟩
   rw [hy] at ex
   obtain⟨g,o,rfl,y0,y1,y2⟩:=HA.out _ _ ex
   have hgB:g<w.heap.size+1:=Nat.lt_succ_of_lt (World.block_lt_of_cell? w _ y0)
   have z0:=Zac y0 HBT.out
   have z1:=Zac y1 HBT.out
   have z2:=Zac y2 HBT.out
   have HEX:=Zh ex
   have hjl:(j:Int)<(L.length:Int):=by omega
   have hgd:=fun (w:World) (op:BinOp) (x y:Operand) (xs ys:Array Value)=>run_eqGuard_agg (P:=Tryz.prog) w op 25 x y xs ys Zkb
   clear ex hy y0 y1 y2
   by_cases hxy:y=(t,r,l)
   ·subst hxy
    have heq:∀ w,(binOp .eql 25 (Zeb t r l) (Zeb t r l)).run Tryz.prog w=.ok (.bool true) w:=fun w=>by rw [Zho (t,r,l) (t,r,l),decide_eq_true rfl]
    have HR:=Zh (show Zny (t,r,l) L=L by unfold Zny;rw [if_pos (List.mem_of_getElem? HEX.out)])
    go_wp2_with fail
    go_quiet (fail)
    go_wp2_with fail
    go_ret
    exact⟨_,_,by rw [HR.out];rfl,by rw [HR.out];exact⟨HA.out.below (Zan HBT.out _),HNA.out,Zau HOA.out (Zan HBT.out _)⟩,Zan HBT.out _⟩
   ·have heq:∀ w,(binOp .eql 25 (Zeb y.1 y.2.1 y.2.2) (Zeb t r l)).run Tryz.prog w=.ok (.bool false) w:=fun w=>by rw [Zho y (t,r,l),decide_eq_false hxy]
    have HN2:=Zh (Zwx HEX.out hxy HNO.out)
    have HT:=Zh (Z2o HEX.out)
    have HAN:=Zh (Zvg HEX.out (Zh9 (t,r,l)))
    clear hxy
    go_wp2_with fail
    go_quiet (fail)
    go_wp2_with fail
    cases pb with
    | true=>
     have HP:=Zh (Zsa (y:=y) HPB.out)
     go_quiet (fail)
     go_wp2_with (at_builtin;refine Zil _ rfl _ _ 38 25 rfl _ 3 32 Tryz.underlying38 Zec rfl (by decide) (Zfv y) rfl (Zhq y) (w.heap.size+1) _ _ _ rfl rfl (Zau HOW.out (Zan (Below.refl _ _) _)) (by omega) (by omega) (by first | omega | (simp;omega)) ?_)
     intro v' w1 hown1 hg1
     obtain⟨Av1,cv1,rfl⟩:=Zbw hown1
     have HO1:=Zh hown1
     have HG1:=Zh hg1
     clear hown1 hg1
     go_wp2_with fail
     go_roundw
     case rel=>exact⟨j+1,true,by omega,by go_num,rfl,by rw [HAN.out,HPB.out];rfl,by rw [HT.out,HP.out,List.length_append,Zcp];exact HO1.out,HN2.out,HBR.out.trans (Zex HG1.out.below)⟩
     case measure=>simp [intOf];omega
    | false=>
     have d1:=Zc6 b1
     have d2:=Zc6 b2
     have d3:=Zc6 b3
     have e0:=Zc6 z0
     have e1:=Zc6 z1
     have e2:=Zc6 z2
     obtain⟨bb,hbb⟩:∃ bb,Zh9 (t,r,l) (y.1,y.2.1,y.2.2)=bb:=⟨_,rfl⟩
     have HBB:=Zh hbb
     clear hbb
     cases bb with
     | true=>
      have HP:=Zh (Zsw (y:=y) HPB.out HBB.out)
      refine Zd8 9 (by kernel_rfl) (by kernel_rfl) ?_
      simp only [List.take_succ_cons,List.take_zero,List.drop_succ_cons,List.drop_zero]
      repeat still_step
      refine wpStill_nil ?_
      go_wp2_with (first
       | (go_at_call 168;refine (Z6p t r l y.1 y.2.1 y.2.2 _).mono ?_;rw [HBB.out];rintro e w1 ⟨rfl,hbx⟩;have HX:=Zh (show Below wr.heap.size wr w1 from Zex (Zar hbx));have hzx:wr.heap.size<=w1.heap.size:=hbx.size;clear hbx;have f1:=Zac b1 HX.out;have f2:=Zac b2 HX.out;have f3:=Zac b3 HX.out;have k0:=Zac z0 HX.out;have k1:=Zac z1 HX.out;have k2:=Zac z2 HX.out)
       | (at_builtin;refine Zil _ rfl _ _ 38 25 rfl _ 3 32 Tryz.underlying38 Zec rfl (by decide) (Zfv (t,r,l)) rfl (Zhq (t,r,l)) (w.heap.size+1) _ _ _ rfl rfl (Zau HOW.out HX.out) (by omega) (by omega) (by first | omega | (simp;omega)) ?_;intro v' w2 hown1 hg1;obtain⟨Av1,cv1,rfl⟩:=Zbw hown1;have HO1:=Zh hown1;have HG1:=Zh hg1;have hz2:=hg1.below.size;have HNB:=Zh (fun (b:Nat) (hb:b<w1.heap.size) (hne:(Value.slice Av (Zkv (t,r,l) (L.take j)).length cv).ownBlock≠some b)=>hg1.keep b hb hne);clear hown1 hg1;have m0:=Zjs HNB.out hgB HOW.out k0;have m1:=Zjs HNB.out hgB HOW.out k1;have m2:=Zjs HNB.out hgB HOW.out k2)
       | (at_builtin;refine Zil _ rfl _ _ 38 25 rfl _ 3 32 Tryz.underlying38 Zec rfl (by decide) (Zfv y) rfl (Zhq y) (w.heap.size+1) _ _ _ rfl rfl HO1.out (by omega) (by omega) (by first | omega | (simp;omega)) ?_;intro v' w3 hown2 hg2;obtain⟨Av2,cv2,rfl⟩:=Zbw hown2;have HO2:=Zh hown2;have HG2:=Zh hg2;clear hown2 hg2))
      go_roundw
      case rel=>exact⟨j+1,true,by omega,by go_num,rfl,by rw [HAN.out,HPB.out];exact HBB.out,by rw [HT.out,HP.out,List.length_append,List.length_append,Zcp,Zcp];exact HO2.out,HN2.out,HBR.out.trans (((HX.out.mono (by omega)).trans HG1.out.below).trans HG2.out.below)⟩
      case measure=>simp [intOf];omega
     | false=>
      have HP:=Zh (Zr6 (y:=y) HPB.out HBB.out)
      refine Zd8 9 (by kernel_rfl) (by kernel_rfl) ?_
      simp only [List.take_succ_cons,List.take_zero,List.drop_succ_cons,List.drop_zero]
      repeat still_step
      refine wpStill_nil ?_
      go_wp2_with (first
       | (go_at_call 168;refine (Z6p t r l y.1 y.2.1 y.2.2 _).mono ?_;rw [HBB.out];rintro e w1 ⟨rfl,hbx⟩;have HX:=Zh (show Below wr.heap.size wr w1 from Zex (Zar hbx));have hzx:wr.heap.size<=w1.heap.size:=hbx.size;clear hbx;have f1:=Zac b1 HX.out;have f2:=Zac b2 HX.out;have f3:=Zac b3 HX.out;have k0:=Zac z0 HX.out;have k1:=Zac z1 HX.out;have k2:=Zac z2 HX.out)
       | (at_builtin;refine Zil _ rfl _ _ 38 25 rfl _ 3 32 Tryz.underlying38 Zec rfl (by decide) (Zfv y) rfl (Zhq y) (w.heap.size+1) _ _ _ rfl rfl (Zau HOW.out HX.out) (by omega) (by omega) (by first | omega | (simp;omega)) ?_;intro v' w2 hown1 hg1;obtain⟨Av1,cv1,rfl⟩:=Zbw hown1;have HO1:=Zh hown1;have HG1:=Zh hg1;clear hown1 hg1))
      go_roundw
      case rel=>exact⟨j+1,false,by omega,by go_num,rfl,by rw [HAN.out,HPB.out];exact HBB.out,by rw [HT.out,HP.out,List.length_append,Zcp];exact HO1.out,HN2.out,HBR.out.trans ((HX.out.mono (by omega)).trans HG1.out.below)⟩
      case measure=>simp [intOf];omega
  ·have hje:j=L.length:=by omega
   subst hje
   have htk:L.take L.length=L:=List.take_length
   have HTK:=Zh htk
   clear htk
   have HNX:=Zh (show (t,r,l)∉L by have:=HNO.out;rwa [HTK.out] at this)
   have HIN:=Zh (show Zny (t,r,l) L=Zj2 (t,r,l) L by unfold Zny;rw [if_neg HNX.out])
   cases pb with
   | true=>
    have HP:=Zh (show Zny (t,r,l) L=Zkv (t,r,l) (L.take L.length) by rw [HIN.out,HTK.out];exact Zu3 (by have:=HPB.out;rwa [HTK.out] at this))
    go_wp2_with fail
    go_ret
    rw [HP.out]
    exact Zll.mk (by omega) HOW.out HBT.out
   | false=>
    have HP:=Zh (show Zny (t,r,l) L=Zkv (t,r,l) (L.take L.length)++[(t,r,l)] by rw [HIN.out,HTK.out];exact Zux (by have:=HPB.out;rwa [HTK.out] at this))
    go_wp2_with (at_builtin;refine Zil _ rfl _ _ 38 25 rfl _ 3 32 Tryz.underlying38 Zec rfl (by decide) (Zfv (t,r,l)) rfl (Zhq (t,r,l)) (w.heap.size+1) _ _ _ rfl rfl HOW.out (by omega) (by omega) (by first | omega | (simp;omega)) ?_;intro v' w2 hown1 hg1;obtain⟨Av1,cv1,rfl⟩:=Zbw hown1;have HO1:=Zh hown1;have HG1:=Zh hg1;clear hown1 hg1)
    go_ret
    rw [HP.out]
    refine Zll.mk (B:=w.heap.size+1) (by omega) ?_ (HB1.out.trans ((HBR.out.trans HG1.out.below).mono (by omega)))
    rw [List.length_append,Zcp]
    have hf:=HO1.out
    rw [HTK.out] at hf ⊢
    exact hf
end
def Zw7 (k t r:Int)(l:List UInt8)(v:Int)(kids:Fr):Prop:=
 ∀ (w:World) (hi:Nat) (kv:Value) (A:Option Addr) (cap:Nat) (L:List Th) (N:Nat),N<=w.heap.size->hi<=w.heap.size->Zd7 w hi kv kids->Ztj N w A cap L->L.length+1+kids.all<=1000000->
  Calls Tryz.prog 100 #[Zf1 k t r l v kv,.slice A L.length cap] w (Zll N (Zko (atL k t r l++Za2 kids) L) w)
def Z2u:Fr->Prop
 | .nil=>True
 | .cons k t r l v kids rest=>Zw7 k t r l v kids/\Z2u rest
theorem Z2u.at_:∀ (f:Fr) (j:Nat) {k t r:Int} {l:List UInt8} {v:Int} {kids rest:Fr},Z2u f->f.drop j=.cons k t r l v kids rest->Zw7 k t r l v kids
 | .nil,0,_,_,_,_,_,_,_,_,h=>by cases h
 | .nil,_+1,_,_,_,_,_,_,_,_,h=>by cases h
 | .cons _ _ _ _ _ _ _,0,_,_,_,_,_,_,_,h,e=>by cases e;exact h.1
 | .cons _ _ _ _ _ _ rest,j+1,_,_,_,_,_,_,_,h,e=>Z2u.at_ rest j h.2 e
section
variable {k t r v:Int} {l:List UInt8} {kids:Fr}
set_option maxHeartbeats 2000000 in
set_option maxRecDepth 100000 in
theorem Zl3 (hk:Z2u kids)(hat:k=2->kids=.nil):Zw7 k t r l v kids:=by
 intro w hi kv A0 cap0 L N hN hhi hs hths hlen
 by_cases h2:k=2
 ·obtain rfl:=hat h2
  subst h2
  obtain⟨A,cap,rfl,s1,s2,s3⟩:=hs
  have hL:L.length<=1000000:=by omega
  have:=Z59 (t:=t) (r:=r) (l:=l) (v:=v) N hN A 0 cap A0 cap0 L hL hths.1 hths.2.1 hths.2.2
  exact this
 obtain⟨A,cap,rfl,s1,s2,s3⟩:=hs
 have S3:=Zh s3
 have HK:=Zh hk
 have HTS:=Zh hths
 have hb0:=Zad w (.cells #[.int .i64 k,.int .i64 t,.int .i64 r,.string ⟨l.toArray⟩,.int .i64 v,.slice A kids.len cap] 28 (0,0))
 have HB0:=Zh hb0
 have HBN:=Zh (Blk.new w 28 #[.int .i64 k,.int .i64 t,.int .i64 r,.string ⟨l.toArray⟩,.int .i64 v,.slice A kids.len cap])
 have HT0:=Zh (hths.below hb0)
 have HAT:=Zh (show atL k t r l++Za2 kids=Za2 kids by simp [atL,h2])
 have hne:(k == 2)=false:=by simpa using h2
 clear s3 hk hths hb0 hat h2
 go_enter Tryz.func100,Tryz.ntmps100
 go_wp2_with fail
 go_loopw [1,8] (fun v1 i wr=>∃ (j:Nat) (A1:Option Addr) (c1:Nat) (M:List Th),j<=kids.len/\i=.int .i64 j/\v1=.slice A1 M.length c1/\Ztj N wr A1 c1 M/\Zko (Za2 (kids.drop j)) M=Zko (Za2 kids) L/\M.length+(kids.drop j).all<=L.length+kids.all/\Below w.heap.size w wr/\Below (w.heap.size+1) (w.alloc (.cells #[.int .i64 k,.int .i64 t,.int .i64 r,.string ⟨l.toArray⟩,.int .i64 v,.slice A kids.len cap] 28 (0,0))) wr) (fun _ i _=>kids.len - (intOf i).toNat)
 case atStart=>exact⟨0,A0,cap0,L,Nat.zero_le _,rfl,rfl,HT0.out,by rw [show kids.drop 0=kids by cases kids <;> rfl],by rw [show kids.drop 0=kids by cases kids <;> rfl];exact Nat.le_refl _,HB0.out,Below.refl _ _⟩
 case round=>
  obtain⟨j,A1,c1,M,hj,rfl,rfl,hths,hM,hML,hbr,hbr2⟩:=hrel
  have HTH:=Zh hths
  have HMM:=Zh hM
  have HBR:=Zh hbr
  have HBR2:=Zh hbr2
  have hzr:=hbr2.size
  simp only [World.size_alloc] at hzr
  have hBk:=HBN.out.below hbr2 (by omega)
  have b5:=hBk.cell 5
  clear hths hM hbr hbr2 hBk
  by_cases hlt:j<kids.len
  ·obtain⟨b,o,rfl,hb,hrow⟩:=S3.out (by omega)
   obtain⟨k',t',r',l',v',kids',rest',hdr⟩:=kids.drop_lt j hlt
   have hrow':=Zc4.keep (w':=wr) (fun b o hb=>HBR.out.cell (p:=⟨b,o,none⟩) (show b<w.heap.size by omega)) kids b o hb hrow
   have hat:=Zc4.at_ kids b o j hrow'
   rw [hdr] at hat
   obtain⟨kv',q0,q1,q2,q3,q4,q5,hl',hsl'⟩:=hat.head
   obtain⟨A',cap',rfl,hsl''⟩:=hsl'
   have HSL:=Zh (⟨A',cap',rfl,hsl''⟩:Zd7 wr hi (.slice A' kids'.len cap') kids')
   have HC:=Zh (Z2u.at_ kids j HK.out hdr)
   have HNX:=Zh (kids.drop_next j hdr)
   have hall:(kids.drop j).all=1+kids'.all+rest'.all:=by rw [hdr];rfl
   have hatl:(atL k' t' r' l').length<=1:=by unfold atL;split <;> simp
   have haf:=Zc7 kids'
   have HST:=Zh (show Zko (Za2 (kids.drop j)) M=Zko (Za2 rest') (Zko (atL k' t' r' l'++Za2 kids') M) by rw [hdr];simp only [Za2,Zqa])
   have hgl:=Zqp (atL k' t' r' l'++Za2 kids') M
   simp only [List.length_append] at hgl
   obtain⟨M',hM'⟩:∃ M',Zko (atL k' t' r' l'++Za2 kids') M=M':=⟨_,rfl⟩
   rw [hM'] at hgl HST
   have HM':=Zh hM'
   have hml:M.length+1+kids'.all<=1000000:=by omega
   have hml2:M'.length+rest'.all<=L.length+kids.all:=by omega
   clear hrow hrow' hat hsl'' hdr hall hM' hgl hatl haf
   go_wp2_with (go_at_call 100;refine (HC.out _ hi _ _ _ M N (by omega) (by omega) HSL.out HTH.out hml).mono ?_;rw [HM'.out];rintro e w2 ⟨A2,c2,rfl,ht2,hb2⟩)
   go_roundw
   case rel=>exact⟨j+1,A2,c2,M',by omega,by go_num,rfl,ht2,by rw [HNX.out,<- HMM.out,HST.out],by rw [HNX.out];exact hml2,HBR.out.trans (hb2.mono (by omega)),HBR2.out.trans (hb2.mono (by omega))⟩
   case measure=>simp [intOf];omega
  ·have hjk:j=kids.len:=by omega
   have HE:=Zh (show Zko (atL k t r l++Za2 kids) L=M by rw [HAT.out,<- HMM.out,Fr.drop_ge kids j (by omega)];rfl)
   go_wp2_with fail
   go_ret
   rw [HE.out]
   exact⟨A1,c1,rfl,HTH.out,HBR.out⟩
def Zxj:Fr->Prop
 | .nil=>True
 | .cons k _ _ _ _ kids rest=>(k=2->kids=.nil)/\Zxj kids/\Zxj rest
theorem Z6j:∀ f,Zxj f->Z2u f
 | .nil,_=>trivial
 | .cons _ _ _ _ _ kids rest,h=>⟨Zl3 (Z6j kids h.2.1) h.1,Z6j rest h.2.2⟩
theorem Zra {a k t r v:Int}{l:List UInt8}{kids:Fr}(h:Zfw a k t r l v kids.len=true):k=2->kids=.nil:=by
 intro h2
 unfold Zfw at h
 rw [if_pos h2] at h
 simp only [Bool.and_eq_true,decide_eq_true_eq] at h
 have:kids.len=0:=by first | exact h.2 | (simpa using h.2)
 cases kids with
 | nil=>rfl
 | cons _ _ _ _ _ _ _=>simp [Fr.len] at this
theorem Zqd {a:Int}:∀ f,okF a f->Zxj f
 | .nil,_=>trivial
 | .cons _ _ _ _ _ kids rest,h=>⟨Zra h.1,Zqd kids h.2.1,Zqd rest h.2.2⟩
theorem Zwg {a:Int}(h:Zfw a k t r l v kids.len=true)(hk:okF a kids):Zw7 k t r l v kids:=Zl3 (Z6j kids (Zqd kids hk)) (Zra h)
end
end Go.Proofs.YtoegmdnfbemppaaGreatDoor
