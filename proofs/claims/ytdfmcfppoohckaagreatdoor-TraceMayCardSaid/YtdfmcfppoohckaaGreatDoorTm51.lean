/- Layer 15: the trace that Of answers may be: plain. -/
import Derived.Test.YtdfmcfppoohckaaGreatDoorTm53
import Derived.Test.YtdfmcfppoohckaaGreatDoorTm49
import Derived.Test.YtdfmcfppoohckaaGreatDoorTm50

namespace Go.Proofs.YtdfmcfppoohckaaGreatDoor
open Go.RowKit
theorem Zhe.nil (C:Cx):Zhe C 0 [] []:=by
 refine⟨?_,List.Pairwise.nil,?_,List.Pairwise.nil,?_⟩
 all_goals
  intro _ h;cases h
theorem Zy0 {locs:List Nm}{init:List Ini}(h:∀ x∈init,x.th=-1->Zc7 x.vn):∀ n∈Ziw locs init,Zew n=true:=by
 unfold Ziw;have key:∀ (l:List Ini) (m:List Int),(∀ x∈l,x.th=-1->Zc7 x.vn)->(∀ n∈m,Zew n=true)->∀ n∈l.foldl (Zot locs) m,Zew n=true:=by
  intro l
  induction l with
  | nil=>intro m _ h n hn;exact h n hn
  | cons x l ih=>
   intro m hl hm n hn;rw [List.foldl_cons] at hn;refine ih _ (fun y hy=>hl y (List.mem_cons_of_mem _ hy)) (fun z hz=>?_) n hn;unfold Zot at hz
   split at hz
   ·rename_i ht;rcases List.mem_or_eq_of_mem_set hz with hz | rfl
    ·exact hm z hz
    ·exact Zqw (hl x (by simp) ht)
   ·exact hm z hz
 refine key init _ h fun n hn=>?_
 rw [(List.mem_replicate.1 hn).2];rfl
theorem Zrt {locs:List Nm}:∀ (ths:List Th) (i:Nat) (m:List (Int×Int)),i+ths.length<=m.length->(∀ j,j<i->(Zjt locs i ths m)[j]?=m[j]?)/\∀ (j:Nat) (x:Th),ths[j]?=some x->(x.1=-1->(Zjt locs i ths m)[i+j]?=some (3,((locs.idxOf x.2.2:Nat):Int)))/\(x.1≠-1->(Zjt locs i ths m)[i+j]?=m[i+j]?)
 | [],i,m,_=>⟨fun _ _=>rfl,fun j x hx=>by simp at hx⟩
 | x :: ths,i,m,hl=>by
  simp only [List.length_cons] at hl;unfold Zjt;have hm:(Zru locs m i x).length=m.length/\(∀ j,j≠i->(Zru locs m i x)[j]?=m[j]?)/\(x.1=-1->(Zru locs m i x)[i]?=some (3,((locs.idxOf x.2.2:Nat):Int)))/\(x.1≠-1->(Zru locs m i x)[i]?=m[i]?):=by
   unfold Zru
   split
   ·rename_i hk;refine⟨by simp,fun j hj=>?_,fun _=>?_,fun hn=>absurd hk hn⟩
    ·rw [List.getElem?_set_ne (Ne.symm hj)]
    ·rw [List.getElem?_set_self ω]
   ·rename_i hk;exact⟨rfl,fun _ _=>rfl,fun hn=>absurd hn hk,fun _=>rfl⟩
  obtain⟨hml,hmo,hm1,hm2⟩:=hm;obtain⟨i1,i2⟩:=Zrt ths (i+1) (Zru locs m i x) ω;refine⟨fun j hj=>?_,fun j y hy=>?_⟩
  ·rw [i1 j ω,hmo j ω]
  ·cases j with
   | zero=>
    have e:x=y:=by simpa using hy
    subst e;simp only [Nat.add_zero];rw [i1 i (Nat.lt_succ_self i)];exact⟨hm1,hm2⟩
   | succ j=>
    have hy2:ths[j]?=some y:=by simpa using hy
    obtain⟨c1,c2⟩:=i2 j y hy2;rw [show i+(j+1)=i+1+j by omega];exact⟨c1,fun hn=>by rw [c2 hn,hmo _ ω]⟩
theorem Zi8 {α:Type}{R:α->α->Prop}{l:List α}(h:l.Pairwise R){i:Nat}{x y:α}(hx:l[i]?=some x)(hy:l[i+1]?=some y):R x y:=by
 obtain⟨h1,rfl⟩:=List.getElem?_eq_some_iff.1 hx;obtain⟨h2,rfl⟩:=List.getElem?_eq_some_iff.1 hy;exact List.pairwise_iff_getElem.1 h i (i+1) h1 h2 (Nat.lt_succ_self i)
theorem Z3x {T:Tst}(hE:Za6 T=0){x:Th}(hx:x∈Za5 T):Zfn x:=by
 have h:=Zpu hE hx;unfold Zfn;unfold Za9 at h ⊢
 split
 ·rename_i e;rw [if_pos e] at h;exact h
 ·rename_i e;rw [if_neg e] at h;simp only [Bool.and_eq_true,decide_eq_true_eq] at h ⊢;have h1:=(Zgu T.arch).2;have h2:regs 2=32:=rfl;exact⟨⟨h.1.1,ω⟩,h.2⟩
theorem Z0h {T:Tst}(hE:Za6 T=0):Str (Za5 T):=by
 have hv:∀ x∈Za5 T,Zfn x:=fun x hx=>Z3x hE hx
 unfold Za5 Zk4 at hv ⊢
 split
 ·rename_i hc;rw [if_pos hc] at hv;exact Zsv fun x hx=>hv x ((Zst _ x).2 hx)
 ·exact List.Pairwise.nil
theorem Zuy {T:Tst}(hE:Za6 T=0){c:List Ins}(hc:c∈T.code){x:Ins}(hx:x∈c):x.loc≠[]->Zbb x.loc=true:=by
 intro hne;obtain⟨_,_,ha,hcod,_⟩:=Za8 hE;obtain⟨t,ht⟩:=List.getElem?_of_mem hc;obtain⟨_,hthr⟩:=(Zb9 hcod).2.2 t c ht;have hox:=(Zig hthr).1 x hx;have hne2:x.loc.isEmpty=false:=by cases h:x.loc with
  | nil=>exact absurd h hne
  | cons a r=>rfl
 unfold okX at hox
 split at hox
 ·unfold Zo4 Zhg at hox;simp only [Bool.and_eq_true] at hox;obtain⟨_,h⟩:=hox;have hemp:∀ b:Bool,(ByteArray.toList ⟨x.loc.toArray⟩).isEmpty=true->b=true:=fun b hb=>by
   have:(ByteArray.toList ⟨x.loc.toArray⟩)=x.loc:=by simp [ByteArray.toList_eq]
   rw [this,hne2] at hb;cases hb
  repeat' split at h
  all_goals try simp only [Bool.and_eq_true] at h
  all_goals first
   | exact h.1.1.1
   | exact hemp _ h.1.1.1
   | cases h
 ·unfold Zkw Zca at hox;simp only [Bool.and_eq_true] at hox;have hb:=hox.1;have:(ByteArray.toList ⟨x.loc.toArray⟩)=x.loc:=by simp [ByteArray.toList_eq]
  rw [this,hne2] at hb;cases hb
theorem Zvy {T:Tst}(hE:Za6 T=0):∀ x∈Zaq T,Zbb x=true:=by
 intro x hx;rw [Zfe] at hx;obtain⟨hx,hne⟩:=hx;unfold Zel at hx;rcases List.mem_append.1 hx with hx | hx
 ·obtain⟨y,hy,hxy⟩:=List.mem_flatMap.1 hx;obtain⟨_,_,ha,_,hini,_⟩:=Za8 hE;obtain⟨k,hk⟩:=List.getElem?_of_mem hy;have hb:Zn9 T.arch T.code.length T.init k=false:=by
   unfold Zfx at hini
   split at hini
   ·cases hini
   cases h1:fst? (Zn9 T.arch T.code.length T.init) T.init.length with
   | some j=>rw [h1] at hini;cases hini
   | none=>exact Zeu h1 k (List.getElem?_eq_some_iff.1 hk).1
  rw [Zdi hk,Bool.or_eq_false_iff] at hb;have hf:Zak T.arch T.code.length y=true:=by simpa using hb.1
  unfold Zak at hf;have emp:∀ l:Nm,l.isEmpty=true->l=[]:=fun l h=>by simpa using h
  split at hf
  ·simp only [Bool.and_eq_true] at hf;rcases List.mem_cons.1 hxy with rfl | hxy
   ·exact hf.1
   ·rw [List.mem_singleton] at hxy;subst hxy;exact absurd (emp _ hf.2.2.1) hne
  ·simp only [Bool.and_eq_true] at hf;rcases List.mem_cons.1 hxy with rfl | hxy
   ·exact absurd (emp _ hf.2.1) hne
   ·rw [List.mem_singleton] at hxy;subst hxy;have h3:=hf.2.2.2
    split at h3
    ·rename_i he;exact absurd (emp _ he) hne
    ·simp only [Bool.and_eq_true] at h3;exact h3.1
 rcases List.mem_append.1 hx with hx | hx
 ·obtain⟨c,hc,hxc⟩:=List.mem_flatMap.1 hx;obtain⟨y,hy,rfl⟩:=List.mem_map.1 hxc;exact Zuy hE hc hy hne
 ·obtain⟨y,hy,rfl⟩:=List.mem_map.1 hx;have h:=Zpu hE (x:=y) hy;unfold Za9 at h
  split at h
  ·simp only [Bool.and_eq_true] at h;exact h.2
  ·simp only [Bool.and_eq_true] at h;exact absurd (by simpa using h.2) hne
theorem Zwl {T:Tst}{a:Tr}(h:Zcv T=.ok a):Zc5 (Ztl T):=by
 obtain⟨hE,a0,h0,ha⟩:=Zp2 h;obtain⟨_,hlo,_,hcod,_,_,hany⟩:=Za8 hE;obtain⟨h16,_,hcl⟩:=Zb9 hcod;have hnr:Zfg (isR T)<=32:=by unfold Zfg;split <;> omega
 obtain⟨hT,ho⟩:=Znx hE (fun k a=>k<=T.code.length/\TrI T k a) (fun k c a r es hc hp ho hg hf hes hI=>by
  have hk:k<T.code.length:=(List.getElem?_eq_some_iff.1 hc).1;have hS:=Z2r (fun j x hx=>Zhd hE rfl hc hx) (hcl k c hc).1 (by show k<16;omega) hnr c.length 0 _ _ (Nat.sub_le _ _) (Nat.zero_le _) (Z2s hE rfl ho.evs k) (Zhe.nil _) hg;exact⟨hk,hp.2.join hE ho.ends hI hS hes⟩) T.code 0 _ a0 (by rw [List.drop_zero]) h0 ⟨Nat.zero_le _,Z8f T⟩ (Z0i T)
 rw [Nat.zero_add] at hT ho;have hT:=hT.2;have hL:Ztl T=⟨Zaq T,Ziw (Zaq T) T.init,Za5 T,{ a0 with ends:=Zjt (Zaq T) 0 (Za5 T) a0.ends }⟩:=by
  unfold Ztl;rw [h,ha]
 rw [hL];refine⟨hlo,Zrv _ _,Zvy hE,Zf9 _,Zy0 fun x hx ht=>((Zly hE hx).mem ht).2,ho.evs,fun e he=>(hT.ev e he).1,fun i x y=>Zi8 hT.evo,by have:=ho.bars;show a0.bars.length<=4096;omega,fun b hb=>(hT.br b hb).1,fun i x y=>Zi8 hT.bro,hT.bre,hT.ad,fun i x y=>Zi8 hT.ado,hT.da,fun i x y=>Zi8 hT.dao,hT.ct,fun i x y=>Zi8 hT.cto,by show (Zjt _ _ _ _).length=_;rw [Zmr];exact ho.ends,Zeb T,fun i x y hx hy=>?_,fun i x e hx he=>?_⟩
 ·have hs:Zbu x y<0:=Zi8 (Z0h hE) hx hy;unfold Zbu at hs;unfold ThO
  split at hs
  ·rename_i e;rw [if_pos (Or.inl e.1)];exact Or.inr ⟨e.2,by unfold ltN;simpa using hs⟩
  split at hs
  ·omega
  split at hs
  ·rename_i e1 e2 e3;rw [if_pos (Or.inr e3)];exact Or.inl e2
  rename_i e1 e2 e3;rw [if_neg ω]
  split at hs
  ·exact Or.inl ω
  ·exact Or.inr ω
 ·have hm:=List.mem_of_getElem? hx;obtain⟨c1,c2⟩:=(Zrt (locs:=Zaq T) (Za5 T) 0 a0.ends (by rw [ho.ends];omega)).2 i x hx;rw [Nat.zero_add] at c1 c2;have he2:(Zjt (Zaq T) 0 (Za5 T) a0.ends)[i]?=some e:=he;have hg:=Zpu hE hm;by_cases ht:x.1=-1
  ·rw [c1 ht] at he2;cases he2
   unfold Za9 at hg;rw [if_pos ht] at hg;simp only [Bool.and_eq_true,decide_eq_true_eq] at hg;exact Or.inl ⟨ht,hg.1,Zrb hE hm ht,rfl,rfl⟩
  ·rw [c2 ht] at he2;unfold Za9 at hg;rw [if_neg ht] at hg;simp only [Bool.and_eq_true,decide_eq_true_eq] at hg;have hr:=(Zgu T.arch).2;have hlt:x.1<(T.code.length:Int):=by
    rw [List.any_eq_false] at hany;have:=hany x hm;simp at this;omega
   exact Or.inr ⟨hg.1.1.1.1,hg.1.1.1.2,hg.1.1.2,ω,by simpa using hg.2,hT.en i x e hx he2 hg.1.1.1.1 hlt⟩
section
theorem Zxb {risc:Bool}{locs:List Nm}{init:List Ini}{ths:List Th}:∀ (cs:List (List Ins)) (k:Nat) (a:Tr) (c:Int) (p:Nat),Zgh risc locs init ths k cs a=.error (c,p)->c≠0
 | [],_,_,_,_,h=>by simp [Zgh] at h
 | x :: cs,k,a,c,p,h=>by
  unfold Zgh at h
  split at h
  ·rename_i e he;simp only [Except.error.injEq,Prod.mk.injEq] at h;obtain⟨rfl,_⟩:=h;unfold Zrd at he
   split at he
   ·cases he;decide
   ·split at he
    ·cases he;decide
    ·split at he
     ·cases he;decide
     ·cases he
  ·exact Zxb cs (k+1) _ c p h
theorem Z4u {T:Tst}(h:Zxr T=0):∃ a,Zcv T=.ok a:=by
 cases ht:Zcv T with
 | ok a=>exact⟨a,rfl⟩
 | error e=>
  obtain⟨c,p⟩:=e;have hc:c=0:=by unfold Zxr at h;rw [ht] at h;exact h
  unfold Zcv at ht
  split at ht
  ·rename_i hf;simp only [Except.error.injEq,Prod.mk.injEq] at ht;exact absurd (ht.1.trans hc) hf
  ·split at ht
   ·rename_i e2 he;cases ht
    exact absurd hc (Zxb _ _ _ _ _ he)
   ·cases ht
theorem Zyn {T:Tst}(h:Zxr T=0):Zc5 (Ztl T):=by
 obtain⟨a,ha⟩:=Z4u h;exact Zwl ha
theorem Z2j {T:Tst}(h:Zxr T≠0):Ztl T=⟨[],[],[],⟨[],[],[],[],[],[]⟩⟩:=by
 unfold Zxr at h;unfold Ztl
 split
 ·rfl
 ·rename_i a ha;rw [ha] at h;exact absurd rfl h
section
set_option maxHeartbeats 4000000
set_option maxRecDepth 100000
theorem Z0l (T:Tst)(Ai Ac:Option Addr)(ci cc:Nat)(kv:Value)(w:World)(hT:Zcb w T Ai Ac kv):Calls Tryz.prog 3 #[Zbr T (.slice Ai T.init.length ci) (.slice Ac T.code.length cc) kv] w fun e w'=>e=.returned (.bool true)/\Below w.heap.size w w':=by
 obtain⟨cT,hct⟩:∃ c,Zxr T=c:=⟨_,rfl⟩;obtain⟨pT,hpt⟩:∃ c,plT T=c:=⟨_,rfl⟩;obtain⟨L,hL⟩:∃ c,Ztl T=c:=⟨_,rfl⟩;have HT0:=Zh hT;obtain⟨tc,htc⟩:∃ c:Array Value,c=#[.int .i64 T.arch,.string ⟨T.name.toArray⟩,.string ⟨T.cycle.toArray⟩,.slice Ai T.init.length ci,.slice Ac T.code.length cc,.int .i64 T.q,.int .i64 T.k,.int .i64 T.t,.int .i64 T.r,.string ⟨T.l.toArray⟩,.int .i64 T.v,kv]:=⟨_,rfl⟩;have HTZ:=Zh (show tc.size=12 by rw [htc];rfl);have HP:Hid (∀ y,Zcb y T Ai Ac kv->Calls Tryz.prog 4 #[.agg tc] y fun e w'=>∃ V:Ze5,e=.returned (.tuple #[.agg (Zjb V),.int .i64 cT,.int .i64 (pT:Int)])/\Zc1 w' L V/\Z7o y.heap.size w' V/\Below y.heap.size y w'):=Zh (fun y h=>by rw [htc,<- hct,<- hpt,<- hL];exact Z79 T Ai Ac ci cc kv y h);have HR:Hid (∀ y,Zcb y T Ai Ac kv->Calls Tryz.prog 5 #[.agg tc] y fun e w'=>∃ V:Ze5,e=.returned (.tuple #[.agg (Zjb V),.int .i64 cT,.int .i64 (pT:Int)])/\Zc1 w' L V/\Below y.heap.size y w'):=Zh (fun y h=>by rw [htc,<- hct,<- hpt,<- hL];exact Z8a T Ai Ac ci cc kv y h);have HSM:=Zh (show Z1p L by rw [<- hL];exact Ztm T);have HGD:=Zh (show cT=0->Zc5 L by rw [<- hct,<- hL];exact Zyn);have HNL:=Zh (show cT≠0->L=⟨[],[],[],⟨[],[],[],[],[],[]⟩⟩ by rw [<- hct,<- hL];exact Z2j);rw [show Zbr T (.slice Ai T.init.length ci) (.slice Ac T.code.length cc) kv=.agg tc by rw [htc]];clear hT htc hct hpt hL
 go_enter Tryz.func3,Tryz.ntmps3;apply wp_seq_k;intro K hK;have HK:=Zh hK;clear hK
 go_wp2_with fail
 refine Z4m (P:=fun X=>K _ X) w _ _ ?_;intro W b0 hz hbW;refine HK.o _ _ ?_;clear HK K hz;have HTB:=Zh b0;have HBW:=Zh hbW;clear b0 hbW
 repeat (first | ((with_reducible refine Zas ?_);refine Zaw 32 1 w.heap.size rfl rfl HTB.o Tryz.underlying32 rfl (by rw [HTZ.o];kernel_rfl) rfl ?_) | (go_at_call 4;refine Hid.o ?_) | go_step)
 refine Zh ?_;refine (HP.o W (HT0.o.below HBW.o)).mono ?_;rintro e w2 ⟨V,rfl,hV,_,hb⟩;generalize hvc:Zjb V=cv;dsimp only;have HVC:=Zh hvc;clear hvc;have HZ:=Zh (Blk.new w2 41 #[.slice none 0 0,.slice none 0 0,.slice none 0 0,.slice none 0 0,.slice none 0 0,.slice none 0 0,.slice none 0 0,.slice none 0 0,.slice none 0 0])
 repeat (first | ((with_reducible refine Zas ?_);refine Zap 41 3 16 w2.heap.size rfl rfl rfl HZ.o (by rw [<- HVC.o];rfl) (by rw [<- HVC.o];kernel_rfl) (by rw [<- HVC.o];exact Zny _) rfl rfl ?_;refine Hid.o ?_) | go_step)
 refine Zh ?_;have hvc:=HVC.o;clear HVC;subst hvc;have hn:=below_setRow (Zad w2 (.cells #[.slice none 0 0,.slice none 0 0,.slice none 0 0,.slice none 0 0,.slice none 0 0,.slice none 0 0,.slice none 0 0,.slice none 0 0,.slice none 0 0] 41 (0,0))) (Nat.le_refl _) (Zjb V);have hr:=HZ.o.row (Zjb V);have HV:=Zh (hV.below hn);have HT3:=Zh ((HTB.o.go hb).go hn);have HO3:=Zh hr;have HB3:=Zh (Zaa (Zaa HBW.o hb) hn);generalize ((w2.alloc (.cells #[.slice none 0 0,.slice none 0 0,.slice none 0 0,.slice none 0 0,.slice none 0 0,.slice none 0 0,.slice none 0 0,.slice none 0 0,.slice none 0 0] 41 (0,0))).setRow w2.heap.size (Zjb V))=W3 at *;generalize w2.heap.size=O3 at *;clear hn hr hb hV HZ HTB HBW;by_cases hc:cT=0
 ·have f1:(cT != 0)=false:=by simpa using hc
  have HG:=Zh (HGD.o hc);have HPO:=Zh (fun y (h:Below W3.heap.size W3 y)=>poP L V y (HV.o.below h) HG.o HSM.o.l4 HSM.o.l5 HSM.o.l6);have HCP:=Zh (fun y (h:Below W3.heap.size W3 y)=>Z4r L V y (HV.o.below h) HG.o HSM.o.l4 HSM.o.l5 HSM.o.l6);have HCR:=Zh (fun y (h:Below W3.heap.size W3 y)=>Z6w L V y (HV.o.below h) HG.o HSM.o.l4 HSM.o.l5 HSM.o.l6);obtain⟨hrl,hrb,hrw⟩:=Z3b HG.o;have HRW:=Zh hrw;unfold Zoc at HPO;have hn3:V.ev.n=L.a.evs.length:=HV.o.nev;have hl3:=HG.o.nev;obtain⟨m,hm⟩:∃ m,Zp8 L.a.evs.length (btw Zjc L.a.evs 0 L.a.evs)=m:=⟨_,rfl⟩;rw [hm] at HPO HRW hrl hrb;rw [<- hn3] at HPO hrl hrb hl3;have HN3:=Zh hn3;have HRL:=Zh hrl;have HRB:=Zh hrb;obtain⟨⟨Al,nl,cl⟩,⟨Ai',ni,ci'⟩,⟨Ae,ne,ce⟩,⟨Ab,nb,cb⟩,⟨Aa,na,ca⟩,⟨Ad,nd,cd⟩,⟨Ac',nc,cc'⟩,⟨At,nt,ct⟩,⟨Ax,nx,cx⟩⟩:=V;simp only at HPO hl3 HN3 HRL HRB;simp only [Zd4,Zjb,Sl.v] at HPO HCP HCR HO3;obtain⟨k0,k1,k2,k3,k4,k5,k6,k7,k8⟩:=HO3.o.c9;clear hc hrw hm hn3 hrl hrb HNL HGD
  go_wp2_with (go_at_call 7;refine Hid.o ?_)
  refine Zh ?_;refine (HPO.o W3 (Below.refl _ _)).mono ?_;rintro e w4 ⟨q,rfl,hq,hge,hb⟩;dsimp only;have HQ4:=Zh hq;have HB4:=Zh hb;obtain⟨k0,k1,k2,k3,k4,k5,k6,k7,k8⟩:=(HO3.o.go hb).c9;have hO4:=(HO3.o.go hb).lt;clear hq hb hge;have HBR:=Zh (Zaa HB4.o (Zad w4 (.cells #[.int .i64 (ne:Int),.slice (some ⟨q,0,none⟩) ne ne] 48 (0,0))));have HRX:=Zh (Blk.new w4 48 #[.int .i64 (ne:Int),.slice (some ⟨q,0,none⟩) ne ne]);have HQX:=Zh (HQ4.o.alloc (.cells #[.int .i64 (ne:Int),.slice (some ⟨q,0,none⟩) ne ne] 48 (0,0)));have HOX:=Zh ((HO3.o.go HB4.o).alloc (.cells #[.int .i64 (ne:Int),.slice (some ⟨q,0,none⟩) ne ne] 48 (0,0)))
  go_wp2_with (go_at_call 8;refine Hid.o ?_)
  refine Zh ?_;generalize w4.alloc _=WA at *;generalize w4.heap.size=R at *;clear k0 k1 k2 k3 k4 k5 k6 k7 k8 hO4;refine (HCP.o WA HBR.o).mono ?_;rintro e w5 ⟨rfl,hb⟩;dsimp only;have HB5:=Zh (Zaa HBR.o hb);have HA5:=Zh hb;obtain⟨k0,k1,k2,k3,k4,k5,k6,k7,k8⟩:=(HOX.o.go hb).c9;clear hb
  go_wp2_with (go_at_call 9;refine (HCR.o _ HB5.o).mono ?_;rintro e w6 ⟨rfl,hb⟩;have HA6:=Zh (Zaa HA5.o hb);have k2':=(HOX.o.go HA6.o).k2;clear hb)
  clear k0 k1 k2 k3 k4 k5 k6 k7 k8;have HHS:=Zh (fun i j r y (h:Below WA.heap.size WA y) (hr:m[i]?=some r) (hj:j<ne)=>Z75 ne q m y i j r (HQX.o.go h) HRL.o hl3 HRB.o hr hj);clear HP HR HPO HCP HCR HQ4 HB4 HB5 HA5 f1
  go_wp2_with fail
  go_loopw [11] (fun v wr=>∃ i:Nat,i<=ne/\v=.int .i64 i/\Below WA.heap.size WA wr) (fun v _=>ne - (intOf v).toNat)
  case atStart=>exact⟨0,Nat.zero_le _,rfl,HA6.o⟩
  case round=>
   clear k2' HA6;obtain⟨i,hi,rfl,hb⟩:=hrel;have HB1:=Zh hb;have k2:wr.cell? ⟨O3,2,none⟩=some (.slice Ae ne ce):=(HOX.o.go hb).cell 2;have hii:(0:Int)<=(i:Int):=ω;clear hb;by_cases hl:i<ne
   ·have hij:(i:Int)<(ne:Int):=ω
    go_wp2_with fail
    go_loopw [12] (fun v wr=>∃ j:Nat,j<=ne/\v=.int .i64 j/\Below WA.heap.size WA wr) (fun v _=>ne - (intOf v).toNat)
    case atStart=>exact⟨0,Nat.zero_le _,rfl,HB1.o⟩
    case round=>
     clear k2 HB1;obtain⟨j,hj,rfl,hb⟩:=hrel;have HB2:=Zh hb;have k2:wr.cell? ⟨O3,2,none⟩=some (.slice Ae ne ce):=(HOX.o.go hb).cell 2;have hjj:(0:Int)<=(j:Int):=ω;clear hb;by_cases hl2:j<ne
     ·have hjl:(j:Int)<(ne:Int):=ω;obtain⟨x,hx⟩:∃ x,L.a.evs[i]?=some x:=⟨_,List.getElem?_eq_getElem (by rw [<- HN3.o];exact hl)⟩;obtain⟨y,hy⟩:∃ x,L.a.evs[j]?=some x:=⟨_,List.getElem?_eq_getElem (by rw [<- HN3.o];exact hl2)⟩;obtain⟨r,hr,hrt⟩:=HRW.o i j x y hx hy;have HAT:=Zh (HV.o.below (Zaa HBR.o HB2.o));obtain⟨b,o,eA,c0,-⟩:=Zc6 HAT.o.ev hx;simp only at eA;subst eA;obtain⟨b2,o2,eA,d0,-⟩:=Zc6 HAT.o.ev hy;simp only [Option.some.injEq,Addr.mk.injEq,and_true] at eA;obtain⟨rfl,rfl⟩:=eA;obtain⟨xt,xp,xd,xl,xv,xr⟩:=x;obtain⟨yt,yp,yd,yl,yv,yr⟩:=y;simp only at c0 d0 hrt;have HHS2:=Zh (fun z h=>HHS.o i j r z h hr hl2);have r0:=(HRX.o.go HB2.o).cell 0;have r1:=(HRX.o.go HB2.o).cell 1;have HSS:=Zh (show ∀ y,Below wr.heap.size wr y->(y.cell? ⟨R,0,none⟩=some (.int .i64 (ne:Int))/\y.cell? ⟨R,1,none⟩=some (.slice (some ⟨q,0,none⟩) ne ne)/\y.cell? ⟨O3,2,none⟩=some (.slice (some ⟨b,o,none⟩) ne ce)/\y.cell? ⟨b,o+i*6,none⟩=some (.int .i64 xt)/\y.cell? ⟨b,o+j*6,none⟩=some (.int .i64 yt)) from fun y hb=>⟨Zac r0 hb,Zac r1 hb,Zac k2 hb,Zac c0 hb,Zac d0 hb⟩);clear hx hy hr r0 r1 c0 d0 HHS
      go_wp2_with fail
      clear k2;by_cases h1:i<j
      ·have hd1:decide (i<j)=true:=decide_eq_true h1;have hd2:decide ((i:Int)<(j:Int))=true:=decide_eq_true ω;by_cases h2:xt=yt
       ·rw [show r.testBit j=true by rw [hrt];simp [h1,h2]] at HHS2;have q1:(xt == yt)=true:=by simpa using h2
        exact m_12
       ·have q1:(xt == yt)=false:=by simpa using h2
        rw [show r.testBit j=false by rw [hrt];simp [h1,h2]] at HHS2;exact m_12
      ·have hd1:decide (i<j)=false:=decide_eq_false h1;have hd2:decide ((i:Int)<(j:Int))=false:=decide_eq_false ω;rw [show r.testBit j=false by rw [hrt];simp [h1]] at HHS2;clear hrt h1;refine wz (fun y:World=>y.cell? ⟨R,0,none⟩=some (.int .i64 (ne:Int))/\y.cell? ⟨R,1,none⟩=some (.slice (some ⟨q,0,none⟩) ne ne)/\y.cell? ⟨O3,2,none⟩=some (.slice (some ⟨b,o,none⟩) ne ce)/\y.cell? ⟨b,o+i*6,none⟩=some (.int .i64 xt)/\y.cell? ⟨b,o+j*6,none⟩=some (.int .i64 yt)) [0,3] (HSS.o _ (Below.refl _ _).drew) (fun hHeld=>?_);refine wq 1 ?_;refine wq 2 ?_;refine wq 4 ?_;refine wq 5 ?_;refine wq 6 ?_;refine wt 0 (by assumption) ?_;refine Zar (i:=3) κ rfl (fun K hK=>?_);go_simp
       go_at_call 10
       refine (HHS2.o _ HB2.o.drew).mono ?_;rintro e w9 ⟨rfl,hb9⟩;have HB9:=Zh (Zaa HB2.o (Zag hb9));have hS2:=HSS.o w9 (Zag hb9);refine hK.out _ _ hS2 ?_;clear hK K hb9;refine pu ?_;refine wq 7 ?_;refine ws 8 ?_;refine ws 10 ?_;refine ws 14 ?_;refine ws 16 ?_;refine ws 9 ?_;refine ws 15 ?_;refine ws 11 ?_;refine ws 17 ?_;refine ws 12 ?_;refine ws 18 ?_;refine ws 13 ?_;refine ws 19 ?_;refine ws 20 ?_;refine wq 21 ?_;refine wl 22 ?_;clear hHeld hS2
       go_wp2_with fail
       go_roundw
       case rel=>exact⟨j+1,ω,by go_num,HB9.o⟩
       case measure=>simp [intOf];omega
     ·have hjl:¬ (j:Int)<(ne:Int):=ω
      go_wp2_with fail
      go_roundw
      case rel=>exact⟨i+1,ω,by go_num,HB2.o⟩
      case measure=>simp [intOf];omega
   ·have hij:¬ (i:Int)<(ne:Int):=ω
    go_wp2_with (go_at_call 6;refine (Z0t _).mono ?_;rintro e w8 ⟨rfl,hb⟩;have HB8:=Zh (Zaa (Zaa HB3.o (Zaa HBR.o HB1.o)) hb);clear hb)
    go_ret;exact⟨rfl,HB8.o⟩
 ·have f1:(cT != 0)=true:=by simpa using hc
  have f2:(cT == cT)=true:=by simp
  have HN:=Zh (HNL.o hc);clear hc
  repeat (first | ((with_reducible refine Zas ?_);refine Zaw 32 1 w.heap.size rfl rfl HT3.o Tryz.underlying32 rfl (by rw [HTZ.o];kernel_rfl) rfl ?_) | (go_at_call 5;refine Hid.o ?_) | go_step)
  refine Zh ?_;refine (HR.o W3 (HT0.o.below HB3.o)).mono ?_;rintro e w4 ⟨V2,rfl,hV2,hb⟩;generalize hvc:Zjb V2=cv;dsimp only;have HVC:=Zh hvc;clear hvc;have HZ:=Zh (Blk.new w4 41 #[.slice none 0 0,.slice none 0 0,.slice none 0 0,.slice none 0 0,.slice none 0 0,.slice none 0 0,.slice none 0 0,.slice none 0 0,.slice none 0 0])
  repeat (first | ((with_reducible refine Zas ?_);refine Zap 41 6 24 w4.heap.size rfl rfl rfl HZ.o (by rw [<- HVC.o];rfl) (by rw [<- HVC.o];kernel_rfl) (by rw [<- HVC.o];exact Zny _) rfl rfl ?_;refine Hid.o ?_) | go_step)
  refine Zh ?_;have hvc:=HVC.o;clear HVC;subst hvc;have hn:=below_setRow (Zad w4 (.cells #[.slice none 0 0,.slice none 0 0,.slice none 0 0,.slice none 0 0,.slice none 0 0,.slice none 0 0,.slice none 0 0,.slice none 0 0,.slice none 0 0] 41 (0,0))) (Nat.le_refl _) (Zjb V2);have hr:=HZ.o.row (Zjb V2);have HB6:=Zh (Zaa (Zaa HB3.o hb) hn);have HO5:=Zh ((HO3.o.go hb).go hn);generalize ((w4.alloc (.cells #[.slice none 0 0,.slice none 0 0,.slice none 0 0,.slice none 0 0,.slice none 0 0,.slice none 0 0,.slice none 0 0,.slice none 0 0,.slice none 0 0] 41 (0,0))).setRow w4.heap.size (Zjb V2))=W6 at *;have HLN:=Zh (show V.ev.n=0/\V.lo.n=0/\V.th.n=0 from⟨by rw [HV.o.nev,HN.o];rfl,by rw [HV.o.nlo,HN.o];rfl,by rw [HV.o.nth,HN.o];rfl⟩);obtain⟨⟨Al,nl,cl⟩,⟨Ai',ni,ci'⟩,⟨Ae,ne,ce⟩,⟨Ab,nb,cb⟩,⟨Aa,na,ca⟩,⟨Ad,nd,cd⟩,⟨Ac',nc,cc'⟩,⟨At,nt,ct⟩,⟨Ax,nx,cx⟩⟩:=V;obtain⟨rfl,rfl,rfl⟩:=HLN.o;have k2:W6.cell? ⟨O3,2,none⟩=some (.slice Ae 0 ce):=HO5.o.cell 2;have k0:W6.cell? ⟨O3,0,none⟩=some (.slice Al 0 cl):=HO5.o.cell 0;have k7:W6.cell? ⟨O3,7,none⟩=some (.slice At 0 ct):=HO5.o.cell 7;clear hn hr hb hV2 HZ HT3 HO3 HB3 HV HLN HN
  go_wp2_with (go_at_call 6;refine (Z0t _).mono ?_;rintro e w8 ⟨rfl,hb⟩;have HB8:=Zh (Zaa HB6.o hb);clear hb)
  go_ret;exact⟨rfl,HB8.o⟩
end
end
end Go.Proofs.YtdfmcfppoohckaaGreatDoor
