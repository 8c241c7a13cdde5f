/- Layer 8: what the calls read of the library's variables (Env), and the library's contracts -/
import Derived.Test.YtdfmcfppoohckaaGreatDoorTm05
import Derived.Test.YtdfmcfppoohckaaGreatDoorCards
import Derived.Test.YtdfmcfppoohckaaGreatDoorTie
namespace Go.Proofs.YtdfmcfppoohckaaGreatDoor
open Go.RowKit
theorem Zuz (s p:ByteArray)(w:World):Calls Tryz.prog 147 #[.string s,.string p] w fun e w'=>e=.returned (.int .i64 (Lib.compareBytes s.data.toList p.data.toList))/\w=w':=
 (Tryz.strings_Compare s p w).mono fun _ _ ⟨h,k⟩=>⟨h,k.symm⟩
def Zbu (x y:Th):Int:=
 if x.1=-1/\y.1=-1 then Lib.compareBytes x.2.2 y.2.2
 else if x.1=-1 then 1 else if y.1=-1 then -1
 else if x.1≠y.1 then x.1 - y.1 else x.2.1 - y.2.1
theorem Zrz (w:World)(a b:Obj):∃ q os',(w.alloc a).alloc b=Sort.grow (w.drewN q) os':=⟨0,#[a,b],by rw [Sort.alloc_eq_grow,Sort.alloc_eq_grow,Sort.grow_grow];rfl⟩
abbrev Zek (t r:Int)(l:List UInt8):Value:=.agg #[.int .i64 t,.int .i64 r,.string ⟨l.toArray⟩]
section
variable {t r t' r':Int} {l l':List UInt8} {w:World}
set_option maxHeartbeats 2000000 in
set_option maxRecDepth 100000 in
theorem Z51 (h1:-1<=t)(h2:t<=15)(h3:0<=r)(h4:r<=31)(h1':-1<=t')(h2':t'<=15)(h3':0<=r')(h4':r'<=31) :
  Calls Tryz.prog 105 #[Zek t r l,Zek t' r' l'] w fun e w'=>e=.returned (.int .i64 (Zbu (t,r,l) (t',r',l')))/\∃ q os',w'=Sort.grow (w.drewN q) os':=by
 have HG:=Zh (Zrz w (.cells #[.int .i64 t,.int .i64 r,.string ⟨l.toArray⟩] 25 (0,0)) (.cells #[.int .i64 t',.int .i64 r',.string ⟨l'.toArray⟩] 25 (0,0)));by_cases ha:t=-1
 ·subst ha;by_cases hb:t'=-1
  ·subst hb;have HV:=Zh (show Zbu (-1,r,l) (-1,r',l')=Lib.compareBytes l l' by simp [Zbu]);go_enter Tryz.func105,Tryz.ntmps105
   go_wp2_with (go_at_call 147;refine (Zuz _ _ _).mono ?_;rintro e w' ⟨rfl,rfl⟩)
   go_ret;exact⟨Zai HV.o.symm,HG.o⟩
  ·have hb':(t' == -1)=false:=by simpa using hb
   have HV:=Zh (show Zbu (-1,r,l) (t',r',l')=1 by simp [Zbu,hb]);exact m_121
 ·have ha':(t == -1)=false:=by simpa using ha
  by_cases hb:t'=-1
  ·subst hb;have HV:=Zh (show Zbu (t,r,l) (-1,r',l')=-1 by simp [Zbu,ha]);exact m_121
  ·have hb':(t' == -1)=false:=by simpa using hb
   by_cases hc:t=t'
   ·subst hc;have HV:=Zh (show Zbu (t,r,l) (t,r',l')=r - r' by simp [Zbu,ha]);exact m_121
   ·have HV:=Zh (show Zbu (t,r,l) (t',r',l')=t - t' by simp [Zbu,ha,hb,hc]);have hc':(t == t')=false:=by simpa using hc
    have hc'':(t != t')=true:=by simpa using hc
    exact m_121
end
def VTh:Type:={x:Th // Za9 2 x.1 x.2.1 x.2.2=true}
theorem Zjs:∀ a,Lib.compareBytes a a=0
 | []=>rfl
 | x :: r=>by simp [Lib.compareBytes,Zjs r]
theorem Zml (x y:UInt8)(r q:List UInt8):Lib.compareBytes (x :: r) (y :: q)<0↔x.toNat<y.toNat\/(x.toNat=y.toNat/\Lib.compareBytes r q<0):=by
 simp only [Lib.compareBytes,UInt8.lt_iff_toNat_lt];by_cases h1:x.toNat<y.toNat
 ·simp [h1]
 ·by_cases h2:y.toNat<x.toNat
  ·simp only [if_neg h1,if_pos h2];omega
  ·simp only [if_neg h1,if_neg h2];omega
theorem Zit:∀ a b c,Lib.compareBytes a b<0->Lib.compareBytes b c<0->Lib.compareBytes a c<0
 | [],[],_,h,_=>by simp [Lib.compareBytes] at h
 | [],_ :: _,[],_,h=>by simp [Lib.compareBytes] at h
 | [],_ :: _,_ :: _,_,_=>by simp [Lib.compareBytes]
 | _ :: _,[],_,h,_=>by simp [Lib.compareBytes] at h
 | _ :: _,_ :: _,[],_,h=>by simp [Lib.compareBytes] at h
 | x :: a,y :: b,z :: c,h,k=>by
  rw [Zml] at h k ⊢;have ih:=Zit a b c;rcases h with h | ⟨h,h'⟩ <;> rcases k with k | ⟨k,k'⟩
  ·left;omega
  ·left;omega
  ·left;omega
  ·exact .inr ⟨ω,ih h' k'⟩
theorem Zg5:∀ a b c,¬ Lib.compareBytes a b<0->¬ Lib.compareBytes b c<0->¬ Lib.compareBytes a c<0
 | [],[],_,_,k=>k
 | [],_ :: _,_,h,_=>by simp [Lib.compareBytes] at h
 | _ :: _,_,[],_,_=>by simp [Lib.compareBytes]
 | _ :: _,[],_ :: _,_,k=>by simp [Lib.compareBytes] at k
 | x :: a,y :: b,z :: c,h,k=>by
  rw [Zml] at h k ⊢;have ih:=Zg5 a b c;rintro (h1 | ⟨h1,h2⟩)
  ·exact absurd h1 ω
  ·by_cases h3:x.toNat=y.toNat
   ·have a1:¬ Lib.compareBytes a b<0:=fun e=>h (.inr ⟨h3,e⟩)
    have a2:¬ Lib.compareBytes b c<0:=fun e=>k (.inr ⟨ω,e⟩)
    exact ih a1 a2 h2
   ·omega
theorem Zqe:∀ a b,¬ Lib.compareBytes a b<0->¬ Lib.compareBytes b a<0->a=b
 | [],[],_,_=>rfl
 | [],_ :: _,h,_=>by simp [Lib.compareBytes] at h
 | _ :: _,[],_,h=>by simp [Lib.compareBytes] at h
 | x :: r,y :: q,h,k=>by
  rw [Zml] at h k;have he:x.toNat=y.toNat:=ω;have h1:¬ Lib.compareBytes r q<0:=fun e=>h (.inr ⟨he,e⟩)
  have k1:¬ Lib.compareBytes q r<0:=fun e=>k (.inr ⟨he.symm,e⟩)
  rw [UInt8.toNat_inj.1 he,Zqe r q h1 k1]
theorem Zfk (x:VTh):(x.1.1=-1/\x.1.2.1=0/\x.1.2.2.length<=32)\/(0<=x.1.1/\x.1.1<16/\0<=x.1.2.1/\x.1.2.1<32/\x.1.2.2=[]):=by
 have h:=x.2;unfold Za9 at h
 split at h
 ·rename_i h1;simp at h;refine .inl ⟨h1,h.1,?_⟩;have h2:=h.2
  revert h2
  cases x.1.2.2 with
  | nil=>simp
  | cons c r=>simp [Zbb];omega
 ·simp [regs] at h;exact .inr ⟨h.1.1.1.1,h.1.1.1.2,h.1.1.2,h.1.2,h.2⟩
def ltT (x y:VTh):Bool:=decide (Zbu x.1 y.1<0)
theorem Zm9 (x y:VTh):ltT x y=true↔(x.1.1=-1/\y.1.1=-1/\Lib.compareBytes x.1.2.2 y.1.2.2<0)\/(x.1.1≠-1/\y.1.1=-1)\/(x.1.1≠-1/\y.1.1≠-1/\(x.1.1<y.1.1\/(x.1.1=y.1.1/\x.1.2.1<y.1.2.1))):=by
 unfold ltT;rw [decide_eq_true_iff];unfold Zbu;by_cases h1:x.1.1=-1 <;> by_cases h2:y.1.1=-1
 ·simp [h1,h2]
 ·simp [h1,h2]
 ·simp [h1,h2]
 ·by_cases h3:x.1.1=y.1.1
  ·simp [h2,h3];omega
  ·simp [h1,h2,h3];omega
theorem Zgb:Sort.SWO ltT where
 irrefl x:=by
  rw [Bool.eq_false_iff];intro h;rw [Zm9] at h;have:=Zjs x.1.2.2;omega
 trans x y z h k:=by
  rw [Zm9] at h k ⊢;have ht:=Zit x.1.2.2 y.1.2.2 z.1.2.2;rcases h with ⟨a,b,c⟩ | ⟨a,b⟩ | ⟨a,b,c⟩ <;> rcases k with ⟨a',b',c'⟩ | ⟨a',b'⟩ | ⟨a',b',c'⟩
  ·exact .inl ⟨a,b',ht c c'⟩
  all_goals omega
 ntrans x y z h k:=by
  rw [Bool.eq_false_iff] at h k ⊢;rw [Ne,Zm9] at h k ⊢;have ht:=Zg5 x.1.2.2 y.1.2.2 z.1.2.2;intro hh;rcases hh with ⟨a,b,c⟩ | ⟨a,b⟩ | ⟨a,b,c⟩
  ·by_cases hy:y.1.1=-1
   ·exact ht (fun e=>h (.inl ⟨a,hy,e⟩)) (fun e=>k (.inl ⟨hy,b,e⟩)) c
   ·exact k (.inr (.inl ⟨hy,b⟩))
  ·by_cases hy:y.1.1=-1
   ·exact h (.inr (.inl ⟨a,hy⟩))
   ·exact k (.inr (.inl ⟨hy,b⟩))
  ·by_cases hy:y.1.1=-1
   ·exact h (.inr (.inl ⟨a,hy⟩))
   ·have h':¬ (x.1.1<y.1.1\/(x.1.1=y.1.1/\x.1.2.1<y.1.2.1)):=fun e=>h (.inr (.inr ⟨a,hy,e⟩))
    have k':¬ (y.1.1<z.1.1\/(y.1.1=z.1.1/\y.1.2.1<z.1.2.1)):=fun e=>k (.inr (.inr ⟨hy,b,e⟩))
    omega
theorem Zpb (x y:VTh)(h:ltT x y=false)(k:ltT y x=false):x=y:=by
 rw [Bool.eq_false_iff,Ne,Zm9] at h k;have hx:=Zfk x;have hy:=Zfk y;apply Subtype.ext;have h1:x.1.1=y.1.1:=ω;have h2:x.1.2.1=y.1.2.1:=ω;have h3:x.1.2.2=y.1.2.2:=by
  by_cases hl:x.1.1=-1
  ·exact Zqe _ _ (fun e=>h (.inl ⟨hl,ω,e⟩)) (fun e=>k (.inl ⟨ω,hl,e⟩))
  ·rcases hx with hx | hx
   ·exact absurd hx.1 hl
   ·rcases hy with hy | hy
    ·omega
    ·rw [hx.2.2.2.2,hy.2.2.2.2]
 obtain⟨⟨a,b,c⟩,_⟩:=x;obtain⟨⟨a',b',c'⟩,_⟩:=y;simp only at h1 h2 h3;subst h1 h2 h3;rfl
theorem Zjg:Tryz.prog.underlying 25=some (.struct (Tryz.prog.fieldsOf 25)):=by kernel_rfl
theorem Zkf:Tryz.prog.eqGuardType Tryz.prog.depth 25=false:=by kernel_rfl
theorem Zhq (x y:Th)(w:World):(binOp .eql 25 (Zek x.1 x.2.1 x.2.2) (Zek y.1 y.2.1 y.2.2)).run Tryz.prog w=.ok (.bool (decide (x=y))) w:=by
 have hp:Tryz.prog.stoodInHeld 25=false:=by kernel_rfl
 have u3:=Tryz.underlying3;have a3:=Tryz.isAgg3;have z3:=Tryz.sizeOf3;have u9:=Tryz.underlying9;have a9:=Tryz.isAgg9;have z9:=Tryz.sizeOf9;obtain⟨t,r,l⟩:=x;obtain⟨t',r',l'⟩:=y;rw [run_eql_struct,show (10000:Nat)=9999+1 from rfl,run_equalIn_agg w 9999 25 _ _ Zjg hp];simp only [Program.fieldsOf,Tryz.underlying25];go_simp;by_cases h1:t=t' <;> by_cases h2:r=r' <;> by_cases h3:l=l' <;> simp [h1,h2,h3]
def okF (a:Int):Fr->Prop
 | .nil=>True
 | .cons k t r l v kids rest=>Zf4 a k t r l v kids.len=true/\okF a kids/\okF a rest
def Fr.size:Fr->Nat
 | .nil=>0
 | .cons _ _ _ _ _ kids rest=>kids.size+rest.size+1
theorem Zn6 (a:Int):∀ (f:Fr) (met deep:Nat),(Zdo a f met deep).2=0->okF a f/\(Zdo a f met deep).1=met+f.size
 | .nil,met,_,_=>⟨trivial,rfl⟩
 | .cons k t r l v kids rest,met,deep,h=>by
  unfold Zdo at h ⊢
  split at h
  ·simp at h
  ·rename_i h0;rw [if_neg h0]
   split at h
   ·simp at h
   ·rename_i h1;rw [if_neg h1]
    split at h
    ·rename_i h2;rw [if_pos h2];obtain⟨k1,k2⟩:=Zn6 a kids _ _ h2;obtain⟨r1,r2⟩:=Zn6 a rest _ _ h;refine⟨⟨by simpa using h1,k1,r1⟩,?_⟩;rw [r2,k2];simp only [Fr.size];omega
    ·rename_i h2;exact absurd h h2
theorem Zol {a q k t r:Int}{l:List UInt8}{v:Int}{kids:Fr}(h:Zbe a q k t r l v kids=0):Zd3 a=true/\1<=q/\q<=3/\Zf4 a k t r l v kids.len=true/\okF a kids/\kids.size+1<=1024:=by
 unfold Zbe at h
 split at h
 ·cases h
 ·rename_i ha
  split at h
  ·cases h
  ·rename_i hq;obtain⟨h1,h2⟩:=Zn6 a (.cons k t r l v kids .nil) 0 0 h;have h3:=Zgi a (.cons k t r l v kids .nil) 0 0 ω;rw [h2] at h3;simp only [Fr.size] at h3;exact⟨by simpa using ha,ω,ω,h1.1,h1.2.1,ω⟩
end Go.Proofs.YtdfmcfppoohckaaGreatDoor
namespace Go.Proofs.YtdfmcfppoohckaaGreatDoor
open Go.RowKit Go.WideShapes Go.ChangeShapes
section
variable {H:Type} {enc:TypeId×Value->H} {P:Program}
theorem Zno {f:Func}{s:ChangeSpec}{apart fresh handsOn again:Bool}{W W':World}{args:Array Value}{v:Value}{ds gs:List (DataW H)}{before pa pv:List MemPlace}
  (hW:DataW.Whole enc P f.params.toList s.vars apart W args.toList ds gs before)
  (hres:∀ (b:Nat) (sp:Nat->Bool) (hd:Bool),DataW.TrodAll enc P W' b sp hd f.resultTypes.toList (v.resultList f.resultTypes.size) (s.fn H (ds++gs)).results [])
  (hargs:∀ sp:Nat->Bool,(∀ p∈before,sp p.block=true)->DataW.TrodAll enc P W' 0 sp true f.params.toList args.toList (s.fn H (ds++gs)).args pa)
  (hvars:∀ sp:Nat->Bool,(∀ p∈before,sp p.block=true)->DataW.TrodVars enc P W' sp s.vars (s.fn H (ds++gs)).vars pv)
  (hps:before=pa++pv) (hb:Below W.heap.size W W')
  (hok:∀ (j:Nat) (t:TypeId) (r:Value),f.resultTypes[j]?=some t->(v.resultList f.resultTypes.size)[j]?=some r->Value.okWide P W' .any 0 t r) :
  s.post enc P f apart fresh handsOn again W args v W':=by
 have hlt:∀ p∈before,p.block<W.heap.size:=fun p hp=>hW.lt p hp
 have hold:∀ p∈before,(fun b=>decide (b<W.heap.size)) p.block=true:=fun p hp=>by simpa using hlt p hp
 refine⟨ds,gs,before,[],pa,pv,hW,hres _ _ _,hargs _ hold,hvars _ hold,World.keptBut_mono (fun p hp=>⟨hp,?_⟩) (hb.frame (·∈before)),fun _=>?_⟩
 ·rw [hps,List.mem_append] at hp;exact Or.inr hp
 ·obtain⟨_,_,_,_,_,hz,hn⟩:=hW;refine⟨hok,_,_,([]++pa)++pv,⟨[]++pa,pv,trodAll_append (hargs _ (fun _ _=>rfl)) (hres _ _ _),hvars _ (fun _ _=>rfl),rfl,?_,?_⟩,?_⟩
  ·intro b off hp;have hin:MemPlace.cell b off∈before:=by rw [hps];simpa using hp
   rw [hb.frozen (hlt _ hin)];exact hz b off hin
  ·intro ha;have:=hn ha;rw [hps] at this;simpa using this
  ·intro p hp _;rw [hps];simpa using hp
theorem Zii (hl:laidOutB P=true){W W':World}(hb:Below W.heap.size W W'){sp:Nat->Bool}:∀ {ts:List TypeId} {vs:List Value} {ds:List (DataW H)} {ps:List MemPlace},
  (∀ t∈ts,P.readableRec t=true/\t<P.types.size)->DataW.TrodAll enc P W 0 (fun _=>true) true ts vs ds ps->(∀ p∈ps,p.block<W.heap.size)->(∀ p∈ps,sp p.block=true)->DataW.TrodAll enc P W' 0 sp true ts vs ds ps
 | [],_,_,_,_,h,_,_=>by
  obtain⟨rfl,rfl,rfl⟩:=trodAll_nil h;rfl
 | t :: ts,_,_,_,hr,h,hlt,hsp=>by
  obtain⟨v,vs,d,ds,p,q,rfl,rfl,rfl,h1,h2⟩:=trodAll_cons h;exact⟨p,q,WideElems.Trod_stays hl (hr t (by simp)).1 (hr t (by simp)).2 h1 (fun x hx=>hb.same (hlt x (by simp [hx]))) (fun x hx=>hsp x (by simp [hx])),
   Zii hl hb (fun u hu=>hr u (by simp [hu])) h2 (fun x hx=>hlt x (by simp [hx])) (fun x hx=>hsp x (by simp [hx])),rfl⟩
theorem Zkv {w:World}{base:Nat}{spare:Nat->Bool}{held:Bool}:∀ {ts:List TypeId} {vs:List Value} {ds:List (DataW H)} {ps:List MemPlace},DataW.TrodAll enc P w base spare held ts vs ds ps->ds.length=ts.length
 | [],_,_,_,h=>by
  obtain⟨rfl,rfl,rfl⟩:=trodAll_nil h;rfl
 | t :: ts,_,_,_,h=>by
  obtain⟨v,vs,d,ds,p,q,rfl,rfl,rfl,h1,h2⟩:=trodAll_cons h;simp [Zkv h2]
theorem Zwq {f:Func}{s:ChangeSpec}{tb:TypeId}{W W':World}{args:Array Value}{ds gs:List (DataW H)}{before:List MemPlace}(hl:laidOutB P=true)
  (hr:(f.params.toList.all fun t=>P.readableRec t&&decide (t<P.types.size))=true) (hv:s.vars=[]) (hrt:f.resultTypes=#[tb]) (htb:P.underlying tb=some .bool)
  (hs:∀ ds:List (DataW H),ds.length=f.params.toList.length->s.fn H ds={ results:=[.lit (.bool true)],args:=ds })
  (hW:DataW.Whole enc P f.params.toList s.vars false W args.toList ds gs before) (hb:Below W.heap.size W W'):s.post enc P f false true false false W args (.bool true) W':=by
 have hr':∀ t∈f.params.toList,P.readableRec t=true/\t<P.types.size:=fun t ht=>by
  have:=List.all_eq_true.1 hr t ht;simpa using this
 have hW':=hW;obtain⟨p,q,hA,hV,rfl,hfz,hnd⟩:=hW;rw [hv] at hV;obtain⟨rfl,rfl⟩:=trodVars_none hV;have hlen:=Zkv hA;have hfn:=hs ds hlen;have hlt:∀ x∈p,x.block<W.heap.size:=fun x hx=>hW'.lt x (by simpa using hx)
 refine Zno (pa:=p) (pv:=[]) hW' (fun _ _ _=>?_) (fun sp hsp=>?_) (fun _ _=>?_) rfl hb (ok_one hrt rfl (okWide_bool_mk htb _))
 ·rw [List.append_nil,hfn,hrt];exact trodAll_cons_mk (shut_bool htb _) trodAll_mk0
 ·rw [List.append_nil,hfn];exact Zii hl hb hr' hA hlt (fun x hx=>hsp x (by simpa using hx))
 ·rw [List.append_nil,hfn,hv];rfl
end
end Go.Proofs.YtdfmcfppoohckaaGreatDoor
namespace Go.Proofs.YtdfmcfppoohckaaGreatDoor.TMay
open Go.ChangeShapes Go.WideShapes Go.ChangeAt Go.ChangeMaps Go.RowKit
set_option maxHeartbeats 4000000 in
set_option maxRecDepth 100000 in
theorem closed:joinedFacts Tryz.pinned.checked.prog 3 Tryz.f3 (OpenSpec.ofChange Rows.traceMaySpec).bare Rows.traceMayRow=true:=by
 unfold joinedFacts;simp only [Bool.and_eq_true]
 repeat' apply And.intro
 all_goals (as_aux_lemma=>kernel_rfl)
end Go.Proofs.YtdfmcfppoohckaaGreatDoor.TMay
