/- Layer 8: what the calls read of the library's variables (Env), and the library's contracts -/
import Derived.Test.YtgjefdaaihgliaaGreatDoorMn05

namespace Go.Proofs.YtgjefdaaihgliaaGreatDoor
open Go.RowKit
theorem Zug (s p:ByteArray)(w:World):Calls Tryz.prog 180 #[.string s,.string p] w fun e w'=>e=.returned (.int .i64 (Lib.compareBytes s.data.toList p.data.toList))/\w=w':=
 (Tryz.strings_Compare s p w).mono fun _ _ ⟨h,k⟩=>⟨h,k.symm⟩
def Zbw (x y:Th):Int:=
 if x.1=-1/\y.1=-1 then Lib.compareBytes x.2.2 y.2.2
 else if x.1=-1 then 1 else if y.1=-1 then -1
 else if x.1≠y.1 then x.1 - y.1 else x.2.1 - y.2.1
theorem Zrd (w:World)(a b:Obj):∃ q os',(w.alloc a).alloc b=Sort.grow (w.drewN q) os':=⟨0,#[a,b],by rw [Sort.alloc_eq_grow,Sort.alloc_eq_grow,Sort.grow_grow];rfl⟩
abbrev Zek (t r:Int)(l:List UInt8):Value:=.agg #[.int .i64 t,.int .i64 r,.string ⟨l.toArray⟩]
section
variable {t r t' r':Int} {l l':List UInt8} {w:World}
set_option maxHeartbeats 2000000 in
set_option maxRecDepth 100000 in
theorem Z6f (h1:-1<=t)(h2:t<=15)(h3:0<=r)(h4:r<=31)(h1':-1<=t')(h2':t'<=15)(h3':0<=r')(h4':r'<=31) :
  Calls Tryz.prog 120 #[Zek t r l,Zek t' r' l'] w fun e w'=>e=.returned (.int .i64 (Zbw (t,r,l) (t',r',l')))/\∃ q os',w'=Sort.grow (w.drewN q) os':=by
 have HG:=Zh (Zrd w (.cells #[.int .i64 t,.int .i64 r,.string ⟨l.toArray⟩] 25 (0,0)) (.cells #[.int .i64 t',.int .i64 r',.string ⟨l'.toArray⟩] 25 (0,0)));by_cases ha:t=-1
 ·subst ha;by_cases hb:t'=-1
  ·subst hb;have HV:=Zh (show Zbw (-1,r,l) (-1,r',l')=Lib.compareBytes l l' by simp [Zbw]);go_enter Tryz.func120,Tryz.ntmps120
   go_wp2_with (go_at_call 180;refine (Zug _ _ _).mono ?_;rintro e w' ⟨rfl,rfl⟩)
   go_ret;exact⟨Zak HV.o.symm,HG.o⟩
  ·have hb':(t' == -1)=false:=by simpa using hb
   have HV:=Zh (show Zbw (-1,r,l) (t',r',l')=1 by simp [Zbw,hb]);exact m_81
 ·have ha':(t == -1)=false:=by simpa using ha
  by_cases hb:t'=-1
  ·subst hb;have HV:=Zh (show Zbw (t,r,l) (-1,r',l')=-1 by simp [Zbw,ha]);exact m_81
  ·have hb':(t' == -1)=false:=by simpa using hb
   by_cases hc:t=t'
   ·subst hc;have HV:=Zh (show Zbw (t,r,l) (t,r',l')=r - r' by simp [Zbw,ha]);exact m_81
   ·have HV:=Zh (show Zbw (t,r,l) (t',r',l')=t - t' by simp [Zbw,ha,hb,hc]);have hc':(t == t')=false:=by simpa using hc
    have hc'':(t != t')=true:=by simpa using hc
    exact m_81
end
def VTh:Type:={x:Th // Zbd 2 x.1 x.2.1 x.2.2=true}
theorem Zja:∀ a,Lib.compareBytes a a=0
 | []=>rfl
 | x :: r=>by simp [Lib.compareBytes,Zja r]
theorem Zmj (x y:UInt8)(r q:List UInt8):Lib.compareBytes (x :: r) (y :: q)<0↔x.toNat<y.toNat\/(x.toNat=y.toNat/\Lib.compareBytes r q<0):=by
 simp only [Lib.compareBytes,UInt8.lt_iff_toNat_lt];by_cases h1:x.toNat<y.toNat
 ·simp [h1]
 ·by_cases h2:y.toNat<x.toNat
  ·simp only [if_neg h1,if_pos h2];omega
  ·simp only [if_neg h1,if_neg h2];omega
theorem Zig:∀ a b c,Lib.compareBytes a b<0->Lib.compareBytes b c<0->Lib.compareBytes a c<0
 | [],[],_,h,_=>by simp [Lib.compareBytes] at h
 | [],_ :: _,[],_,h=>by simp [Lib.compareBytes] at h
 | [],_ :: _,_ :: _,_,_=>by simp [Lib.compareBytes]
 | _ :: _,[],_,h,_=>by simp [Lib.compareBytes] at h
 | _ :: _,_ :: _,[],_,h=>by simp [Lib.compareBytes] at h
 | x :: a,y :: b,z :: c,h,k=>by
  rw [Zmj] at h k ⊢;have ih:=Zig a b c;rcases h with h | ⟨h,h'⟩ <;> rcases k with k | ⟨k,k'⟩
  ·left;omega
  ·left;omega
  ·left;omega
  ·exact .inr ⟨ω,ih h' k'⟩
theorem Zg6:∀ a b c,¬ Lib.compareBytes a b<0->¬ Lib.compareBytes b c<0->¬ Lib.compareBytes a c<0
 | [],[],_,_,k=>k
 | [],_ :: _,_,h,_=>by simp [Lib.compareBytes] at h
 | _ :: _,_,[],_,_=>by simp [Lib.compareBytes]
 | _ :: _,[],_ :: _,_,k=>by simp [Lib.compareBytes] at k
 | x :: a,y :: b,z :: c,h,k=>by
  rw [Zmj] at h k ⊢;have ih:=Zg6 a b c;rintro (h1 | ⟨h1,h2⟩)
  ·exact absurd h1 ω
  ·by_cases h3:x.toNat=y.toNat
   ·have a1:¬ Lib.compareBytes a b<0:=fun e=>h (.inr ⟨h3,e⟩)
    have a2:¬ Lib.compareBytes b c<0:=fun e=>k (.inr ⟨ω,e⟩)
    exact ih a1 a2 h2
   ·omega
theorem Zpy:∀ a b,¬ Lib.compareBytes a b<0->¬ Lib.compareBytes b a<0->a=b
 | [],[],_,_=>rfl
 | [],_ :: _,h,_=>by simp [Lib.compareBytes] at h
 | _ :: _,[],_,h=>by simp [Lib.compareBytes] at h
 | x :: r,y :: q,h,k=>by
  rw [Zmj] at h k;have he:x.toNat=y.toNat:=ω;have h1:¬ Lib.compareBytes r q<0:=fun e=>h (.inr ⟨he,e⟩)
  have k1:¬ Lib.compareBytes q r<0:=fun e=>k (.inr ⟨he.symm,e⟩)
  rw [UInt8.toNat_inj.1 he,Zpy r q h1 k1]
theorem Zfg (x:VTh):(x.1.1=-1/\x.1.2.1=0/\x.1.2.2.length<=32)\/(0<=x.1.1/\x.1.1<16/\0<=x.1.2.1/\x.1.2.1<32/\x.1.2.2=[]):=by
 have h:=x.2;unfold Zbd at h
 split at h
 ·rename_i h1;simp at h;refine .inl ⟨h1,h.1,?_⟩;have h2:=h.2
  revert h2
  cases x.1.2.2 with
  | nil=>simp
  | cons c r=>simp [Zbl];omega
 ·simp [regs] at h;exact .inr ⟨h.1.1.1.1,h.1.1.1.2,h.1.1.2,h.1.2,h.2⟩
def ltT (x y:VTh):Bool:=decide (Zbw x.1 y.1<0)
theorem Zm2 (x y:VTh):ltT x y=true↔(x.1.1=-1/\y.1.1=-1/\Lib.compareBytes x.1.2.2 y.1.2.2<0)\/(x.1.1≠-1/\y.1.1=-1)\/(x.1.1≠-1/\y.1.1≠-1/\(x.1.1<y.1.1\/(x.1.1=y.1.1/\x.1.2.1<y.1.2.1))):=by
 unfold ltT;rw [decide_eq_true_iff];unfold Zbw;by_cases h1:x.1.1=-1 <;> by_cases h2:y.1.1=-1
 ·simp [h1,h2]
 ·simp [h1,h2]
 ·simp [h1,h2]
 ·by_cases h3:x.1.1=y.1.1
  ·simp [h2,h3];omega
  ·simp [h1,h2,h3];omega
theorem Zgc:Sort.SWO ltT where
 irrefl x:=by
  rw [Bool.eq_false_iff];intro h;rw [Zm2] at h;have:=Zja x.1.2.2;omega
 trans x y z h k:=by
  rw [Zm2] at h k ⊢;have ht:=Zig x.1.2.2 y.1.2.2 z.1.2.2;rcases h with ⟨a,b,c⟩ | ⟨a,b⟩ | ⟨a,b,c⟩ <;> rcases k with ⟨a',b',c'⟩ | ⟨a',b'⟩ | ⟨a',b',c'⟩
  ·exact .inl ⟨a,b',ht c c'⟩
  all_goals omega
 ntrans x y z h k:=by
  rw [Bool.eq_false_iff] at h k ⊢;rw [Ne,Zm2] at h k ⊢;have ht:=Zg6 x.1.2.2 y.1.2.2 z.1.2.2;intro hh;rcases hh with ⟨a,b,c⟩ | ⟨a,b⟩ | ⟨a,b,c⟩
  ·by_cases hy:y.1.1=-1
   ·exact ht (fun e=>h (.inl ⟨a,hy,e⟩)) (fun e=>k (.inl ⟨hy,b,e⟩)) c
   ·exact k (.inr (.inl ⟨hy,b⟩))
  ·by_cases hy:y.1.1=-1
   ·exact h (.inr (.inl ⟨a,hy⟩))
   ·exact k (.inr (.inl ⟨hy,b⟩))
  ·by_cases hy:y.1.1=-1
   ·exact h (.inr (.inl ⟨a,hy⟩))
   ·have h':¬ (x.1.1<y.1.1\/(x.1.1=y.1.1/\x.1.2.1<y.1.2.1)):=fun e=>h (.inr (.inr ⟨a,hy,e⟩))
    have k':¬ (y.1.1<z.1.1\/(y.1.1=z.1.1/\y.1.2.1<z.1.2.1)):=fun e=>k (.inr (.inr ⟨hy,b,e⟩))
    omega
theorem Zoz (x y:VTh)(h:ltT x y=false)(k:ltT y x=false):x=y:=by
 rw [Bool.eq_false_iff,Ne,Zm2] at h k;have hx:=Zfg x;have hy:=Zfg y;apply Subtype.ext;have h1:x.1.1=y.1.1:=ω;have h2:x.1.2.1=y.1.2.1:=ω;have h3:x.1.2.2=y.1.2.2:=by
  by_cases hl:x.1.1=-1
  ·exact Zpy _ _ (fun e=>h (.inl ⟨hl,ω,e⟩)) (fun e=>k (.inl ⟨ω,hl,e⟩))
  ·rcases hx with hx | hx
   ·exact absurd hx.1 hl
   ·rcases hy with hy | hy
    ·omega
    ·rw [hx.2.2.2.2,hy.2.2.2.2]
 obtain⟨⟨a,b,c⟩,_⟩:=x;obtain⟨⟨a',b',c'⟩,_⟩:=y;simp only at h1 h2 h3;subst h1 h2 h3;rfl
theorem Ziw:Tryz.prog.underlying 25=some (.struct (Tryz.prog.fieldsOf 25)):=by kernel_rfl
theorem Zj3:Tryz.prog.eqGuardType Tryz.prog.depth 25=false:=by kernel_rfl
theorem Zhn (x y:Th)(w:World):(binOp .eql 25 (Zek x.1 x.2.1 x.2.2) (Zek y.1 y.2.1 y.2.2)).run Tryz.prog w=.ok (.bool (decide (x=y))) w:=by
 have hp:Tryz.prog.stoodInHeld 25=false:=by kernel_rfl
 have u3:=Tryz.underlying3;have a3:=Tryz.isAgg3;have z3:=Tryz.sizeOf3;have u9:=Tryz.underlying9;have a9:=Tryz.isAgg9;have z9:=Tryz.sizeOf9;obtain⟨t,r,l⟩:=x;obtain⟨t',r',l'⟩:=y;rw [run_eql_struct,show (10000:Nat)=9999+1 from rfl,run_equalIn_agg w 9999 25 _ _ Ziw hp];simp only [Program.fieldsOf,Tryz.underlying25];go_simp;by_cases h1:t=t' <;> by_cases h2:r=r' <;> by_cases h3:l=l' <;> simp [h1,h2,h3]
def okF (a:Int):Fr->Prop
 | .nil=>True
 | .cons k t r l v kids rest=>Zf2 a k t r l v kids.len=true/\okF a kids/\okF a rest
def Fr.size:Fr->Nat
 | .nil=>0
 | .cons _ _ _ _ _ kids rest=>kids.size+rest.size+1
theorem Znx (a:Int):∀ (f:Fr) (met deep:Nat),(Zdo a f met deep).2=0->okF a f/\(Zdo a f met deep).1=met+f.size
 | .nil,met,_,_=>⟨trivial,rfl⟩
 | .cons k t r l v kids rest,met,deep,h=>by
  unfold Zdo at h ⊢
  split at h
  ·simp at h
  ·rename_i h0;rw [if_neg h0]
   split at h
   ·simp at h
   ·rename_i h1;rw [if_neg h1]
    split at h
    ·rename_i h2;rw [if_pos h2];obtain⟨k1,k2⟩:=Znx a kids _ _ h2;obtain⟨r1,r2⟩:=Znx a rest _ _ h;refine⟨⟨by simpa using h1,k1,r1⟩,?_⟩;rw [r2,k2];simp only [Fr.size];omega
    ·rename_i h2;exact absurd h h2
theorem Zj0 {a q k t r:Int}{l:List UInt8}{v:Int}{kids:Fr}(h:Zbg a q k t r l v kids=0):Zef a=true/\1<=q/\q<=3/\Zf2 a k t r l v kids.len=true/\okF a kids/\kids.size+1<=1024:=by
 unfold Zbg at h
 split at h
 ·cases h
 ·rename_i ha
  split at h
  ·cases h
  ·rename_i hq;obtain⟨h1,h2⟩:=Znx a (.cons k t r l v kids .nil) 0 0 h;have h3:=Zgi a (.cons k t r l v kids .nil) 0 0 ω;rw [h2] at h3;simp only [Fr.size] at h3;exact⟨by simpa using ha,ω,ω,h1.1,h1.2.1,ω⟩
end Go.Proofs.YtgjefdaaihgliaaGreatDoor
namespace Go.Proofs
open Go.Shelf
def Tryz.cloneV_ren:Go.Shelf.Ren:=⟨fun | 41=>20 | n=>n,fun | 22=>63 | 23=>71 | 4=>4 | n=>n,fun | n=>n⟩
theorem Tryz.cloneV:Go.Proofs.SlLaysE0.n41 Tryz.prog Tryz.cloneV_ren:={
 mixed:=by kernel_rfl
 f41:=⟨Tryz.f20.name,by decide,Tryz.func20.trans (congrArg some (by kernel_rfl))⟩
 t4:=Tryz.underlying4
 a4:=Tryz.isAgg4
 z4:=Tryz.sizeOf4
 v4:=Tryz.zeroValue4
 t22:=Tryz.underlying63
 a22:=Tryz.isAgg63
 z22:=Tryz.sizeOf63
 v22:=Tryz.zeroValue63 }
def Tryz.cloneN_ren:Go.Shelf.Ren:=⟨fun | 41=>25 | n=>n,fun | 22=>66 | 23=>92 | 4=>4 | n=>n,fun | n=>n⟩
theorem Tryz.cloneN:Go.Proofs.SlLaysE0.n41 Tryz.prog Tryz.cloneN_ren:={
 mixed:=by kernel_rfl
 f41:=⟨Tryz.f25.name,by decide,Tryz.func25.trans (congrArg some (by kernel_rfl))⟩
 t4:=Tryz.underlying4
 a4:=Tryz.isAgg4
 z4:=Tryz.sizeOf4
 v4:=Tryz.zeroValue4
 t22:=Tryz.underlying66
 a22:=Tryz.isAgg66
 z22:=Tryz.sizeOf66
 v22:=Tryz.zeroValue66 }
def Tryz.cloneI_ren:Go.Shelf.Ren:=⟨fun | 41=>18 | n=>n,fun | 22=>37 | 23=>3 | 4=>4 | n=>n,fun | n=>n⟩
theorem Tryz.cloneI:Go.Proofs.SlLaysE0.n41 Tryz.prog Tryz.cloneI_ren:={
 mixed:=by kernel_rfl
 f41:=⟨Tryz.f18.name,by decide,Tryz.func18.trans (congrArg some (by kernel_rfl))⟩
 t4:=Tryz.underlying4
 a4:=Tryz.isAgg4
 z4:=Tryz.sizeOf4
 v4:=Tryz.zeroValue4
 t22:=Tryz.underlying37
 a22:=Tryz.isAgg37
 z22:=Tryz.sizeOf37
 v22:=Tryz.zeroValue37 }
end Go.Proofs
namespace Go.Proofs.YtgjefdaaihgliaaGreatDoor
open Go.RowKit
open Go.Maps
theorem Zkx:laidOutB Tryz.prog=true:=by kernel_rfl
theorem Zwi:(25:TypeId)<Tryz.prog.types.size:=of_decide_eq_true κ
theorem Ztc:(match Tryz.prog.underlying 25 with | some (.array _ _) | some (.struct _)=>true | _=>false)=true:=by rw [Tryz.underlying25]
set_option maxHeartbeats 2000000 in
set_option maxRecDepth 100000 in
theorem Zga:Keyed Tryz.prog 25:=Keyed.of_law (deep_law_laid Zkx (m:=2) ω Zwi κ Ztc)
theorem Zms:Tryz.prog.keyType 25=true:=by kernel_rfl
theorem Zjz:Tryz.prog.cellsOf 25=3:=by kernel_rfl
theorem Zdy (w:World):(zeroValue 3).run Tryz.prog w=.ok (.int .i64 0) w:=by kernel_rfl
theorem Zoo {a b c:Value}:(Value.agg #[a,b,c]).formed Tryz.prog 25=true:=by simp [Value.formed,Tryz.underlying25,Zjz]
theorem Ztx:Tryz.prog.cellsOf 3=1:=by kernel_rfl
theorem Zoa:Tryz.prog.cellsOf 9=1:=by kernel_rfl
theorem Zsv (d:Nat)(t r:Int)(l:List UInt8)(h1:(Lit.int .i64 t).wf=true)(h2:(Lit.int .i64 r).wf=true)(hl:l.length<=9223372036854775807) :
  Tryz.prog.keyLits (d+2) 25 [.int .i64 t,.int .i64 r,.string ⟨l.toArray⟩]=some [.int .i64 t,.int .i64 r,.string l]:=by
 have hs:(⟨l.toArray⟩:ByteArray).size<=maxLen:=by rw [Zfs];unfold maxLen;omega
 simp [Program.keyLits,Tryz.underlying25,Tryz.underlying3,Tryz.underlying9,Zjz,Ztx,Zoa,h1,h2,hs]
theorem Zu7 (t r:Int)(l:List UInt8)(h1:(Lit.int .i64 t).wf=true)(h2:(Lit.int .i64 r).wf=true)(hl:l.length<=9223372036854775807) :
  keyOf Tryz.prog 25 (Zek t r l)=some (.string (keyBytes [.int .i64 t,.int .i64 r,.string l])):=by
 have h:∀ d,Tryz.prog.keyLits (d+2) 25 [.int .i64 t,.int .i64 r,.string ⟨l.toArray⟩]=_:=fun d=>Zsv d t r l h1 h2 hl
 have hc:(Zek t r l).cells.toList=[.int .i64 t,.int .i64 r,.string ⟨l.toArray⟩]:=rfl;unfold keyOf;simp only [Tryz.underlying25,Zms,Zoo];simp [hc,h]
def klT (x:Th):Lit:=.string (keyBytes [.int .i64 x.1,.int .i64 x.2.1,.string x.2.2])
end Go.Proofs.YtgjefdaaihgliaaGreatDoor
namespace Go.Proofs.YtgjefdaaihgliaaGreatDoor
open Go.RowKit Go.WideShapes Go.ChangeShapes
section
variable {H:Type} {enc:TypeId×Value->H} {P:Program}
theorem Znj {f:Func}{s:ChangeSpec}{apart fresh handsOn again:Bool}{W W':World}{args:Array Value}{v:Value}{ds gs:List (DataW H)}{before pa pv:List MemPlace}
  (hW:DataW.Whole enc P f.params.toList s.vars apart W args.toList ds gs before)
  (hres:∀ (b:Nat) (sp:Nat->Bool) (hd:Bool),DataW.TrodAll enc P W' b sp hd f.resultTypes.toList (v.resultList f.resultTypes.size) (s.fn H (ds++gs)).results [])
  (hargs:∀ sp:Nat->Bool,(∀ p∈before,sp p.block=true)->DataW.TrodAll enc P W' 0 sp true f.params.toList args.toList (s.fn H (ds++gs)).args pa)
  (hvars:∀ sp:Nat->Bool,(∀ p∈before,sp p.block=true)->DataW.TrodVars enc P W' sp s.vars (s.fn H (ds++gs)).vars pv)
  (hps:before=pa++pv) (hb:Below W.heap.size W W')
  (hok:∀ (j:Nat) (t:TypeId) (r:Value),f.resultTypes[j]?=some t->(v.resultList f.resultTypes.size)[j]?=some r->Value.okWide P W' .any 0 t r) :
  s.post enc P f apart fresh handsOn again W args v W':=by
 have hlt:∀ p∈before,p.block<W.heap.size:=fun p hp=>hW.lt p hp
 have hold:∀ p∈before,(fun b=>decide (b<W.heap.size)) p.block=true:=fun p hp=>by simpa using hlt p hp
 refine⟨ds,gs,before,[],pa,pv,hW,hres _ _ _,hargs _ hold,hvars _ hold,World.keptBut_mono (fun p hp=>⟨hp,?_⟩) (hb.frame (·∈before)),fun _=>?_⟩
 ·rw [hps,List.mem_append] at hp;exact Or.inr hp
 ·obtain⟨_,_,_,_,_,hz,hn⟩:=hW;refine⟨hok,_,_,([]++pa)++pv,⟨[]++pa,pv,trodAll_append (hargs _ (fun _ _=>rfl)) (hres _ _ _),hvars _ (fun _ _=>rfl),rfl,?_,?_⟩,?_⟩
  ·intro b off hp;have hin:MemPlace.cell b off∈before:=by rw [hps];simpa using hp
   rw [hb.frozen (hlt _ hin)];exact hz b off hin
  ·intro ha;have:=hn ha;rw [hps] at this;simpa using this
  ·intro p hp _;rw [hps];simpa using hp
theorem Zh6 (hl:laidOutB P=true){W W':World}(hb:Below W.heap.size W W'){sp:Nat->Bool}:∀ {ts:List TypeId} {vs:List Value} {ds:List (DataW H)} {ps:List MemPlace},
  (∀ t∈ts,P.readableRec t=true/\t<P.types.size)->DataW.TrodAll enc P W 0 (fun _=>true) true ts vs ds ps->(∀ p∈ps,p.block<W.heap.size)->(∀ p∈ps,sp p.block=true)->DataW.TrodAll enc P W' 0 sp true ts vs ds ps
 | [],_,_,_,_,h,_,_=>by
  obtain⟨rfl,rfl,rfl⟩:=trodAll_nil h;rfl
 | t :: ts,_,_,_,hr,h,hlt,hsp=>by
  obtain⟨v,vs,d,ds,p,q,rfl,rfl,rfl,h1,h2⟩:=trodAll_cons h
  exact⟨p,q,WideElems.Trod_stays hl (hr t (by simp)).1 (hr t (by simp)).2 h1 (fun x hx=>hb.same (hlt x (by simp [hx]))) (fun x hx=>hsp x (by simp [hx])),
   Zh6 hl hb (fun u hu=>hr u (by simp [hu])) h2 (fun x hx=>hlt x (by simp [hx])) (fun x hx=>hsp x (by simp [hx])),rfl⟩
theorem Zkp {w:World}{base:Nat}{spare:Nat->Bool}{held:Bool}:∀ {ts:List TypeId} {vs:List Value} {ds:List (DataW H)} {ps:List MemPlace},DataW.TrodAll enc P w base spare held ts vs ds ps->ds.length=ts.length
 | [],_,_,_,h=>by
  obtain⟨rfl,rfl,rfl⟩:=trodAll_nil h;rfl
 | t :: ts,_,_,_,h=>by
  obtain⟨v,vs,d,ds,p,q,rfl,rfl,rfl,h1,h2⟩:=trodAll_cons h;simp [Zkp h2]
theorem Zv9 {f:Func}{s:ChangeSpec}{tb:TypeId}{W W':World}{args:Array Value}{ds gs:List (DataW H)}{before:List MemPlace}(hl:laidOutB P=true)
  (hr:(f.params.toList.all fun t=>P.readableRec t&&decide (t<P.types.size))=true) (hv:s.vars=[]) (hrt:f.resultTypes=#[tb]) (htb:P.underlying tb=some .bool)
  (hs:∀ ds:List (DataW H),ds.length=f.params.toList.length->s.fn H ds={ results:=[.lit (.bool true)],args:=ds })
  (hW:DataW.Whole enc P f.params.toList s.vars false W args.toList ds gs before) (hb:Below W.heap.size W W'):s.post enc P f false true false false W args (.bool true) W':=by
 have hr':∀ t∈f.params.toList,P.readableRec t=true/\t<P.types.size:=fun t ht=>by
  have:=List.all_eq_true.1 hr t ht;simpa using this
 have hW':=hW;obtain⟨p,q,hA,hV,rfl,hfz,hnd⟩:=hW;rw [hv] at hV;obtain⟨rfl,rfl⟩:=trodVars_none hV;have hlen:=Zkp hA;have hfn:=hs ds hlen;have hlt:∀ x∈p,x.block<W.heap.size:=fun x hx=>hW'.lt x (by simpa using hx)
 refine Znj (pa:=p) (pv:=[]) hW' (fun _ _ _=>?_) (fun sp hsp=>?_) (fun _ _=>?_) rfl hb (ok_one hrt rfl (okWide_bool_mk htb _))
 ·rw [List.append_nil,hfn,hrt];exact trodAll_cons_mk (shut_bool htb _) trodAll_mk0
 ·rw [List.append_nil,hfn];exact Zh6 hl hb hr' hA hlt (fun x hx=>hsp x (by simpa using hx))
 ·rw [List.append_nil,hfn,hv];rfl
end
end Go.Proofs.YtgjefdaaihgliaaGreatDoor
