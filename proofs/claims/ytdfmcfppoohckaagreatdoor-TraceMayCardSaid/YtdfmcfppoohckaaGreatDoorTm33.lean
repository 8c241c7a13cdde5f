/- Layer 13: the reference's Locs. -/
import Derived.Test.YtdfmcfppoohckaaGreatDoorTm22
import Derived.Test.YtdfmcfppoohckaaGreatDoorTm32

namespace Go.Proofs.YtdfmcfppoohckaaGreatDoor
open Go.RowKit
section
def Z4e (T:Tst)(w:World)(e:Ending)(w':World):Prop:=
 ((Za6 T≠0/\e=.returned (.tuple #[.slice none 0 0,.int .i64 (Za6 T)]))\/(Za6 T=0/\∃ A cap,e=.returned (.tuple #[.slice A (Zdp (Zel T)).length cap,.int .i64 0])/\Zcy.Own 9 w.heap.size w' (.slice A (Zdp (Zel T)).length cap) (Zdp (Zel T))))/\Below w.heap.size w w'
section
set_option maxHeartbeats 4000000
set_option maxRecDepth 100000
variable {w:World} {T:Tst} {Ai Ac:Option Addr} {kv:Value}
theorem Z65 (ci cc:Nat)(hT:Zcb w T Ai Ac kv):Calls Tryz.prog 20 #[Zbr T (.slice Ai T.init.length ci) (.slice Ac T.code.length cc) kv] w (Z4e T w):=by
 have HT:=Zh hT;have HBX:=Zh (Blk.new w 32 #[.int .i64 T.arch,.string ⟨T.name.toArray⟩,.string ⟨T.cycle.toArray⟩,.slice Ai T.init.length ci,.slice Ac T.code.length cc,.int .i64 T.q,.int .i64 T.k,.int .i64 T.t,.int .i64 T.r,.string ⟨T.l.toArray⟩,.int .i64 T.v,kv]);have HB0:=Zh (Zad w (.cells #[.int .i64 T.arch,.string ⟨T.name.toArray⟩,.string ⟨T.cycle.toArray⟩,.slice Ai T.init.length ci,.slice Ac T.code.length cc,.int .i64 T.q,.int .i64 T.k,.int .i64 T.t,.int .i64 T.r,.string ⟨T.l.toArray⟩,.int .i64 T.v,kv] 32 (0,0)));go_enter Tryz.func20,Tryz.ntmps20
 go_wp2_with fail
 refine (Zuk ci cc (HT.o.below HB0.o)).mono ?_;rintro e w2 ⟨rfl,hb⟩;have HB2:=Zh (Zaa HB0.o hb);have HK2:=Zh (HBX.o.go hb);by_cases hE:Za6 T=0
 ·have HE:=Zh hE;have f1:(Za6 T != 0)=false:=by simpa using hE
  obtain⟨k0,k1,k2,k3,k4,k5,k6,k7,k8,k9,k10,k11⟩:=HK2.o.c12
  go_wp2_with (go_at_call 70;refine (Zm7 ci cc (Za8 HE.o).1 (HT.o.below HB2.o)).mono ?_;rintro e w3 ⟨A3,c3,rfl,hat3,hb⟩;have HB3:=Zh (Zaa HB2.o hb);have HAT:=Zh hat3;clear hat3 hb)
  go_ret2
  exact⟨Or.inr ⟨HE.o,A3,c3,rfl,Zdx HAT.o.2 HB2.o.size⟩,HB3.o⟩
 ·have HE:=Zh hE;exact m_98
end
end
def shP (f:Nat)(p:Int×Int):Int×Int:=((f:Int)+p.1,(f:Int)+p.2)
def Zfa (k:Nat)(l:List (Int×Int)):List (Int×Int):=(List.range k).flatMap fun (a:Nat)=>l.filter fun p=>decide (p.1=(a:Int))
abbrev Zf0 (l:List (Int×Int)):List (Int×Int):=Zfa 64 l
theorem Zed (k:Nat)(l:List (Int×Int)):Zfa (k+1) l=Zfa k l++l.filter fun p=>decide (p.1=(k:Int)):=by
 unfold Zfa;rw [List.range_succ,List.flatMap_append];simp
theorem Zf7 {k:Nat}{l:List (Int×Int)}{p:Int×Int}:p∈Zfa k l↔p∈l/\∃ a:Nat,a<k/\p.1=(a:Int):=by
 unfold Zfa;rw [List.mem_flatMap]
 constructor
 ·rintro⟨a,ha,hp⟩;rw [List.mem_filter] at hp;exact⟨hp.1,a,List.mem_range.1 ha,by simpa using hp.2⟩
 ·rintro⟨h1,a,ha,h2⟩;exact⟨a,List.mem_range.2 ha,List.mem_filter.2 ⟨h1,by simpa using h2⟩⟩
def Zjo (p q:Int×Int):Prop:=p.1<q.1\/(p.1=q.1/\p.2<q.2)
theorem Zmi {l:List (Int×Int)}(h:l.Pairwise Z1c):∀ k,(Zfa k l).Pairwise Zjo
 | 0=>by simp [Zfa]
 | k+1=>by
  rw [Zed,List.pairwise_append];refine⟨Zmi h k,?_,fun p hp q hq=>?_⟩
  ·have h2:(l.filter fun p=>decide (p.1=(k:Int))).Pairwise Z1c:=List.Pairwise.sublist List.filter_sublist h;refine List.Pairwise.imp_of_mem (fun {p q} hp hq hpq=>?_) h2;rw [List.mem_filter] at hp hq;have e1:p.1=(k:Int):=by simpa using hp.2
   have e2:q.1=(k:Int):=by simpa using hq.2
   refine Or.inr ⟨by rw [e1,e2],?_⟩;rcases hpq with h | ⟨_,h⟩
   ·exact h
   ·omega
  ·obtain⟨_,a,ha,e1⟩:=Zf7.1 hp;rw [List.mem_filter] at hq;have e2:q.1=(k:Int):=by simpa using hq.2
   exact Or.inl (by rw [e1,e2];exact Int.ofNat_lt.2 ha)
theorem Zkj:∀ {a b:List (Int×Int)},a.Pairwise Zjo->b.Pairwise Zjo->(∀ x,x∈a↔x∈b)->a=b
 | [],[],_,_,_=>rfl
 | [],y :: b,_,_,h=>absurd ((h y).2 (by simp)) (by simp)
 | x :: a,[],_,_,h=>absurd ((h x).1 (by simp)) (by simp)
 | x :: a,y :: b,ha,hb,h=>by
  have h1:=List.pairwise_cons.1 ha;have h2:=List.pairwise_cons.1 hb;have irr:∀ p q:Int×Int,Zjo p q->Zjo q p->False:=fun p q h k=>by
   rcases h with h | ⟨h,h'⟩ <;> rcases k with k | ⟨k,k'⟩ <;> omega
  have hxy:x=y:=by
   rcases List.mem_cons.1 ((h x).1 (by simp)) with e | e
   ·exact e
   rcases List.mem_cons.1 ((h y).2 (by simp)) with e2 | e2
   ·exact e2.symm
   exact absurd (h1.1 y e2) (fun k=>irr _ _ k (h2.1 x e))
  subst hxy
  congr 1
  refine Zkj h1.2 h2.2 fun z=>⟨fun hz=>?_,fun hz=>?_⟩
  ·rcases List.mem_cons.1 ((h z).1 (List.mem_cons_of_mem _ hz)) with e | e
   ·subst e;exact absurd (h1.1 z hz) (fun k=>irr _ _ k k)
   ·exact e
  ·rcases List.mem_cons.1 ((h z).2 (List.mem_cons_of_mem _ hz)) with e | e
   ·subst e;exact absurd (h2.1 z hz) (fun k=>irr _ _ k k)
   ·exact e
theorem Zmj {f:Nat}{a b:List (Int×Int)}(ha:∀ p∈a,p.1<(f:Int))(hb:∀ p∈b,(f:Int)<=p.1):Zf0 (a++b)=Zf0 a++Zf0 b:=by
 have key:∀ k,k<=64->Zfa k (a++b)=Zfa k a++Zfa k b:=by
  intro k
  induction k with
  | zero=>intro _;simp [Zfa]
  | succ k ih=>
   intro hk;rw [Zed,Zed,Zed,ih ω,List.filter_append];by_cases hkf:k<f
   ·have e1:b.filter (fun p=>decide (p.1=(k:Int)))=[]:=by
     rw [List.filter_eq_nil_iff];intro p hp;have:=hb p hp;simp;omega
    have e2:Zfa k b=[]:=by
     rw [List.eq_nil_iff_forall_not_mem];intro p hp;obtain⟨h1,x,hx,h2⟩:=Zf7.1 hp;have:=hb p h1;omega
    rw [e1,e2];simp
   ·have e1:a.filter (fun p=>decide (p.1=(k:Int)))=[]:=by
     rw [List.filter_eq_nil_iff];intro p hp;have:=ha p hp;simp;omega
    rw [e1];simp [List.append_assoc]
 exact key 64 (Nat.le_refl _)
def Zp6 (first:Nat):Zd8->Option (Int×Int)
 | .num n=>some (1,n)
 | .rd i=>some (2,((first+i:Nat):Int))
 | _=>none
def Zp7 (x:Ini):Rg:=⟨if x.vl=[] then .num x.vn else .adr x.vl,0⟩
def Zf2 (k:Nat)(rs:List Rg)(x:Ini):List Rg:=if x.th=(k:Int) then rs.set x.rg.toNat (Zp7 x) else rs
def Zx1 (k nr:Nat)(init:List Ini):List Rg:=init.foldl (Zf2 k) (List.replicate nr ⟨.num 0,0⟩)
structure Tr where
 evs:List Evt
 bars:List Br
 addr:List (Int×Int)
 data:List (Int×Int)
 hang:List (Int×Int)
 ends : List (Int × Int)
def Zu6 (k first:Nat)(r:Rn)(m:List (Int×Int))(i:Nat)(x:Th):Option (List (Int×Int)):=
 if x.1=(k:Int) then (Zp6 first (rgA r x.2.1).h).map fun e=>m.set i e else some m
def Zdk (k first:Nat)(r:Rn):Nat->List Th->List (Int×Int)->Option (List (Int×Int))
 | _,[],m=>some m
 | i,x :: ts,m=>(Zu6 k first r m i x).bind fun m'=>Zdk k first r (i+1) ts m'
def Zfg (risc:Bool):Nat:=if risc then 32 else 15
def Z37 (risc:Bool)(locs:List Nm)(k:Nat)(a:Tr):Cx:=⟨k,risc,a.evs.length,locs⟩
def rn0 (risc:Bool)(init:List Ini)(k:Nat):Rn:=⟨Zx1 k (Zfg risc) init,0,[],[],[],[],[],false⟩
def Zg8 (a:Tr)(r:Rn)(es:List (Int×Int)):Tr:=
 ⟨a.evs++r.evs,a.bars++r.bars,a.addr++Zf0 (r.addr.map (shP a.evs.length)),a.data++Zf0 (r.data.map (shP a.evs.length)),a.hang++Zf0 (r.hang.map (shP a.evs.length)),es⟩
def Zrd (risc:Bool)(locs:List Nm)(init:List Ini)(ths:List Th)(k:Nat)(c:List Ins)(a:Tr):Except Int Tr:=
 match goL (Z37 risc locs k a) c 0 (rn0 risc init k) with
 | none=>.error 150
 | some r=>if r.full then .error 2 else match Zdk k a.evs.length r 0 ths a.ends with
  | none=>.error 150
  | some es=>.ok (Zg8 a r es)
def Zgh (risc:Bool)(locs:List Nm)(init:List Ini)(ths:List Th):Nat->List (List Ins)->Tr->Except (Int×Nat) Tr
 | _,[],a=>.ok a
 | k,c :: cs,a=>match Zrd risc locs init ths k c a with
  | .error e=>.error (e,k)
  | .ok a'=>Zgh risc locs init ths (k+1) cs a'
def Zru (locs:List Nm)(m:List (Int×Int))(i:Nat)(x:Th):List (Int×Int):=if x.1=-1 then m.set i (3,((locs.idxOf x.2.2:Nat):Int)) else m
def Zjt (locs:List Nm):Nat->List Th->List (Int×Int)->List (Int×Int)
 | _,[],m=>m
 | i,x :: ts,m=>Zjt locs (i+1) ts (Zru locs m i x)
def Zot (locs:List Nm)(m:List Int)(x:Ini):List Int:=if x.th=-1 then m.set (locs.idxOf x.loc) x.vn else m
def Ziw (locs:List Nm)(init:List Ini):List Int:=init.foldl (Zot locs) (List.replicate locs.length 0)
def tr0 (ths:List Th):Tr:=⟨[],[],[],[],[],List.replicate ths.length (0,0)⟩
def isR (T:Tst):Bool:=decide (T.arch=2)
abbrev Zaq (T:Tst):List Nm:=Zdp (Zel T)
def Zcv (T:Tst):Except (Int×Nat) Tr:=
 if Za6 T≠0 then .error (Za6 T,0)
 else match Zgh (isR T) (Zaq T) T.init (Za5 T) 0 T.code (tr0 (Za5 T)) with
  | .error e=>.error e
  | .ok a=>.ok { a with ends:=Zjt (Zaq T) 0 (Za5 T) a.ends }
theorem Zhy {l:List UInt8}(h:Zbb l=true):l≠[]:=by rintro rfl;cases h
theorem Zjv {n:Int}(h:Zew n=true):Zc7 n:=Zzx h
theorem Zcn {m n:Int}(h:Zem m n=true):0<=n/\n<m:=by simpa [Zem] using h
theorem Zvw {c:List Ins}(h:(Zfm c).1=0):c.length<=256/\∀ k,k<c.length->Zun c k=false/\Zki c k=false:=by
 unfold Zfm at h
 split at h
 ·cases h
 rename_i hl;cases h1:fst? (Zun c) c.length with
 | some k=>rw [h1] at h;cases h
 | none=>
  rw [h1] at h;simp only [] at h;cases h2:fst? (Zki c) c.length with
  | some k=>rw [h2] at h;cases h
  | none=>exact⟨ω,fun k hk=>⟨Zeu h1 k hk,Zeu h2 k hk⟩⟩
theorem Zb9 {a:Int}{cs:List (List Ins)}(h:Zfq a cs=0):cs.length<=16/\1<=cs.length/\∀ (k:Nat) (c:List Ins),cs[k]?=some c->c.length<=256/\Zjh a c=0:=by
 have h1:1<=cs.length/\cs.length<=16:=by
  refine Decidable.byContradiction fun hn=>?_
  rw [Zgo ω] at h;cases h
 have h2:∀ (k:Nat) (c:List Ins),cs[k]?=some c->c.length<=256:=fun k c hk=>by
  refine Decidable.byContradiction fun hn=>?_
  rw [Zfb hk ω] at h;cases h
 refine⟨h1.2,h1.1,fun k c hk=>⟨h2 k c hk,?_⟩⟩;rw [Zmm h1.1 h1.2 h2] at h;cases hf:(cs.map (Zjh a)).find? (fun e=>decide (e≠0)) with
 | some e=>
  rw [hf] at h;have:=List.find?_some hf;simp at h this;exact absurd h this
 | none=>
  rw [List.find?_eq_none] at hf;have:=hf (Zjh a c) (List.mem_map.2 ⟨c,List.mem_of_getElem? hk,rfl⟩);simpa using this
theorem Zig {a:Int}{c:List Ins}(h:Zjh a c=0):(∀ x∈c,okX a x=true)/\(a=2->(Zfm c).1=0):=by
 unfold Zjh at h
 split at h
 ·rename_i h1;exact⟨List.all_eq_true.1 h1,fun e=>by rwa [if_pos e] at h⟩
 ·cases h
section
variable {C:Cx} {c:List Ins} {k:Nat} {x:Ins}
theorem Z6g (h:Zo4 x=true)(hloc:x.loc≠[]->x.loc∈C.locs):Zoe C 15 c k x:=by
 unfold Zo4 Zhg at h;simp only [Bool.and_eq_true] at h;obtain⟨⟨⟨_,hb⟩,_⟩,h⟩:=h;have hb0:x.b=0:=by simpa using hb
 have z32:Zc7 0:=Zhu
 split at h
 ·rename_i e;simp only [Bool.and_eq_true,beq_iff_eq] at h;obtain⟨⟨⟨h1,h2⟩,h3⟩,h4⟩:=h;exact⟨ω,ω,ω,ω,Zjv h2,fun _=>hloc (Zhy h1),fun e2=>by omega,fun e2=>by omega⟩
 split at h
 ·rename_i e;exact m_87
 split at h
 ·rename_i e;exact m_87
 split at h
 ·rename_i e;simp only [Bool.and_eq_true,beq_iff_eq] at h;obtain⟨⟨⟨_,h2⟩,h3⟩,h4⟩:=h;have:=Zcn h2;exact⟨ω,ω,ω,ω,Zjv h3,fun _=>by omega,fun e2=>by omega,fun e2=>by omega⟩
 split at h
 ·rename_i e;simp only [Bool.and_eq_true,beq_iff_eq] at h;obtain⟨⟨⟨_,h2⟩,h3⟩,h4⟩:=h;exact⟨ω,ω,ω,ω,h4 ▸ z32,fun _=>by omega,fun e2=>by omega,fun e2=>by omega⟩
 ·cases h
theorem Z6h (h:Zkw x=true)(hlab:x.op=11->Zhv c k x<c.length):Zoe C 32 c k x:=by
 unfold Zkw Zca at h;simp only [Bool.and_eq_true] at h;obtain⟨_,h⟩:=h;have z32:Zc7 0:=Zhu
 split at h
 ·rename_i e;simp only [Bool.and_eq_true,beq_iff_eq] at h;obtain⟨⟨⟨⟨⟨_,h1⟩,h2⟩,h3⟩,h4⟩,_⟩:=h;have:=Zcn h1;have:=Zcn h2;exact m_143
 split at h
 ·rename_i e;exact m_85
 split at h
 ·rename_i e;simp only [Bool.and_eq_true,beq_iff_eq,decide_eq_true_iff] at h;obtain⟨⟨⟨⟨⟨_,h1⟩,h2⟩,h3⟩,h4⟩,_⟩:=h;have:=Zcn h1;have:=Zcn h2;exact⟨ω,ω,ω,ω,by unfold Zc7;omega,fun _=>by omega,fun e2=>by omega,hlab⟩
 split at h
 ·rename_i e;simp only [Bool.and_eq_true,beq_iff_eq] at h;obtain⟨⟨⟨⟨⟨_,h1⟩,h2⟩,h3⟩,h4⟩,_⟩:=h;have:=Zcn h1;have:=Zcn h2;have:=Zcn h3;exact m_143
 split at h
 ·rename_i e;exact m_85
 split at h
 ·rename_i e;simp only [Bool.and_eq_true,beq_iff_eq] at h;obtain⟨⟨⟨⟨⟨_,h1⟩,h2⟩,h3⟩,h4⟩,_⟩:=h;exact m_143
 split at h
 ·rename_i e;simp only [Bool.and_eq_true,beq_iff_eq,decide_eq_true_iff] at h;obtain⟨⟨⟨⟨⟨_,h1⟩,h2⟩,h3⟩,h4⟩,h5⟩:=h;exact⟨ω,ω,ω,ω,h4 ▸ z32,fun _=>by omega,fun _=>h5,hlab⟩
 ·cases h
end
theorem Zvx {T:Tst}{t k:Nat}{c:List Ins}{x:Ins}(hc:T.code[t]?=some c)(hx:c[k]?=some x)(h:x.loc≠[]):x.loc∈Zaq T:=by
 rw [Zfe];refine⟨?_,h⟩;unfold Zel;exact List.mem_append_right _ (List.mem_append_left _ (List.mem_flatMap.2 ⟨c,List.mem_of_getElem? hc,List.mem_map.2 ⟨x,List.mem_of_getElem? hx,rfl⟩⟩))
theorem Zzl {T:Tst}{x:Ini}(hx:x∈T.init):(x.loc≠[]->x.loc∈Zaq T)/\(x.vl≠[]->x.vl∈Zaq T):=by
 have h1:∀ s,s=x.loc\/s=x.vl->s≠[]->s∈Zaq T:=fun s hs hn=>by
  rw [Zfe];refine⟨?_,hn⟩;unfold Zel;exact List.mem_append_left _ (List.mem_flatMap.2 ⟨x,hx,by rcases hs with rfl | rfl <;> simp⟩)
 exact⟨h1 _ (Or.inl rfl),h1 _ (Or.inr rfl)⟩
theorem Zln {T:Tst}(h:Zd3 T.arch=true):(T.arch=1/\isR T=false)\/(T.arch=2/\isR T=true):=by
 unfold Zd3 at h;unfold isR;simp at h;rcases (show T.arch=1\/T.arch=2 by omega) with e | e <;> simp [e]
theorem Zhd {T:Tst}(hE:Za6 T=0){C:Cx}(hC:C.locs=Zaq T){t k:Nat}{c:List Ins}{x:Ins}(hc:T.code[t]?=some c)(hx:c[k]?=some x):Zoe C (Zfg (isR T)) c k x:=by
 obtain⟨_,_,ha,hcod,_⟩:=Za8 hE;obtain⟨_,hthr⟩:=(Zb9 hcod).2.2 t c hc;obtain⟨hok,hlnk⟩:=Zig hthr;have hox:=hok x (List.mem_of_getElem? hx);rcases Zln ha with ⟨e1,e2⟩ | ⟨e1,e2⟩
 ·rw [e2];unfold okX at hox;rw [if_pos e1] at hox;exact Z6g hox (fun h=>hC ▸ Zvx hc hx h)
 ·rw [e2];unfold okX at hox;rw [if_neg ω] at hox;refine Z6h hox (fun h11=>?_);have hk:=(List.getElem?_eq_some_iff.1 hx).1;have:=((Zvw (hlnk e1)).2 k hk).2;rw [Zdm hx] at this;simp only [Bool.or_eq_false_iff,Bool.and_eq_false_iff] at this;have h2:(c.drop (k+1)).any (Zcp x.label)=true:=by
   rcases this.2 with h | h
   ·simp [h11] at h
   ·simpa using h
  unfold Zhv;have h3:(c.drop (k+1)).findIdx (Zcp x.label)<(c.drop (k+1)).length:=List.findIdx_lt_length.2 (by simpa using h2);rw [List.length_drop] at h3;omega
structure OkI (T:Tst) (x:Ini):Prop where
 mem:x.th=-1->x.loc∈Zaq T/\Zc7 x.vn
 reg:x.th≠-1->(0<=x.th/\x.th<T.code.length)/\(0<=x.rg/\x.rg<Zfg (isR T))/\(x.vl=[]->Zc7 x.vn)/\(x.vl≠[]->x.vl∈Zaq T)
theorem Zly {T:Tst}(hE:Za6 T=0){x:Ini}(hx:x∈T.init):OkI T x:=by
 obtain⟨_,_,ha,_,hini,_⟩:=Za8 hE;obtain⟨k,hk⟩:=List.getElem?_of_mem hx;have hb:Zn9 T.arch T.code.length T.init k=false:=by
  unfold Zfx at hini
  split at hini
  ·cases hini
  cases h1:fst? (Zn9 T.arch T.code.length T.init) T.init.length with
  | some j=>rw [h1] at hini;cases hini
  | none=>exact Zeu h1 k (List.getElem?_eq_some_iff.1 hk).1
 rw [Zdi hk,Bool.or_eq_false_iff] at hb;have hf:Zak T.arch T.code.length x=true:=by simpa using hb.1
 have hl:=Zzl hx;unfold Zak at hf
 constructor
 ·intro e;rw [if_pos e] at hf;simp only [Bool.and_eq_true] at hf;exact⟨hl.1 (Zhy hf.1),Zjv hf.2.2.2⟩
 ·intro e;rw [if_neg e] at hf;simp only [Bool.and_eq_true,decide_eq_true_iff] at hf;obtain⟨h1,_,h2,h3⟩:=hf;refine⟨h1,?_,fun hv=>?_,fun hv=>hl.2 hv⟩
  ·rcases Zln ha with ⟨e1,e2⟩ | ⟨e1,e2⟩
   ·rw [e2];rw [if_neg ω] at h2;simp only [decide_eq_true_iff] at h2;show _/\_<((15:Nat):Int);omega
   ·rw [e2];rw [if_pos e1] at h2;simp only [decide_eq_true_iff] at h2;show _/\_<((32:Nat):Int);omega
  ·simp only [hv,List.isEmpty_nil,if_true] at h3;exact Zjv h3
theorem Zlk (a:Nat):∀ k m,a<2 ^ k->k<=m->Zdf a m=Zdf a k:=by
 intro k m ha hm
 induction m with
 | zero=>rw [show k=0 by omega]
 | succ m ih=>
  by_cases e:k<=m
  ·rw [Zdc,Nat.testBit_lt_two_pow (Nat.lt_of_lt_of_le ha (Nat.pow_le_pow_right ω e))];exact ih e
  ·rw [show k=m+1 by omega]
theorem Zj8 (a f:Nat):∀ k,Zdf (a<<<f) (f+k)=(Zdf a k).map fun x=>(f:Int)+x
 | 0=>by
  unfold Zdf;rw [List.filter_eq_nil_iff.2]
  ·simp
  ·intro i hi;have:=List.mem_range.1 hi;rw [Nat.testBit_shiftLeft];simp;omega
 | k+1=>by
  rw [show f+(k+1)=(f+k)+1 by omega,Zdc,Zdc,Zj8 a f k,Nat.testBit_shiftLeft];rw [show f+k - f=k by omega];have:(decide (f<=f+k))=true:=by simp
  rw [show (decide (f+k>=f))=true from this,Bool.true_and]
  split <;> simp
theorem Zgg {a f i n:Nat}(ha:a<2 ^ n)(hn:f+n<=64):Zbk (a<<<f) (f+i) 64=(Zbk a i 64).map (shP f):=by
 unfold Zbk;rw [Zlk a n 64 ha ω,show (64:Nat)=f+(64 - f) by omega,Zj8,Zlk a n (64 - f) ha ω,List.map_map,List.map_map];apply List.map_congr_left;intro x _;simp [shP]
theorem Zh6 {a f n:Nat}(ha:a<2 ^ n)(hn:f+n<=64):a<<<f<18446744073709551616:=by
 rw [Nat.shiftLeft_eq];have h1:a*2 ^ f<2 ^ n*2 ^ f:=Nat.mul_lt_mul_of_pos_right ha (Nat.two_pow_pos f);rw [<- Nat.pow_add] at h1;have h2:2 ^ (n+f)<=2 ^ 64:=Nat.pow_le_pow_right ω ω;have:=Nat.lt_of_lt_of_le h1 h2;simpa using this
theorem Zh7 (a b f:Nat):(a|||b)<<<f=(a<<<f)|||(b<<<f):=Nat.shiftLeft_or_distrib ..
theorem Z3g (i f:Nat):2 ^ i<<<f=2 ^ (f+i):=by rw [Nat.shiftLeft_eq,<- Nat.pow_add,Nat.add_comm]
abbrev Zf1:Enc Bool:=⟨5,fun b=>[if b then .iface 110 (.int .i64 0) else .nilIface,.int .u64 0,.int .u64 0,.int .u64 0,.int .u64 0],fun _=>rfl,ω,fun x u h=>by simp at h;rcases h with rfl | rfl;cases x <;> rfl;rfl⟩
def zl (i n:Nat):List Bool:=List.replicate i true++List.replicate (n - i) false
theorem Zxp {i n:Nat}(h:i<=n):(zl i n).length=n:=by simp [zl];omega
theorem Z1j {i n:Nat}(h:i<n):(zl i n).set i true=zl (i+1) n:=by
 unfold zl;rw [List.set_append_right _ _ (by simp)];simp only [List.length_replicate,Nat.sub_self];rw [show n - i=(n - (i+1))+1 by omega,List.replicate_succ,List.set_cons_zero,List.replicate_succ',List.append_assoc];rfl
theorem Z6i {i n:Nat}(h:i<n):(zl i n)[i]?=some false:=by
 unfold zl;rw [List.getElem?_append_right (by simp)];simp only [List.length_replicate,Nat.sub_self];rw [show n - i=(n - i - 1)+1 by omega,List.replicate_succ];rfl
theorem Zow (l:List Bool)(i:Nat)(h:i<l.length):(Zf1.flat l).toArray.setIfInBounds (i*5) (.iface 110 (.int .i64 0))=(Zf1.flat (l.set i true)).toArray:=by
 apply Array.ext';apply List.ext_getElem?;intro m;have hl:(Zf1.flat l).length=l.length*5:=Zf1.flat_len l;rw [show ((Zf1.flat (l.set i true)).toArray.toList)=Zf1.flat (l.set i true) from rfl,Zet Zf1 l i true m h];simp only [Array.toList_setIfInBounds,List.getElem?_set];show _=if i*5<=m/\m<i*5+5 then _ else _
 by_cases hm:i*5<=m/\m<i*5+5
 ·rw [if_pos hm];by_cases h0:m=i*5
  ·subst h0;simp [hl];omega
  ·rw [if_neg ω];have hx:=Zf1.flat_at (List.getElem?_eq_getElem h) (show m - i*5<5 by omega);rw [show i*Zf1.size+(m - i*5)=m by show i*5+(m - i*5)=m;omega] at hx;rw [hx];have hc:m - i*5=1\/m - i*5=2\/m - i*5=3\/m - i*5=4:=ω;show _=(Zf1.enc true)[m - i*5]?;rcases hc with hc | hc | hc | hc <;> rw [hc] <;> rfl
 ·rw [if_neg hm,if_neg ω]
theorem Zlm (n:Nat):Zf1.flat (zl n n)=Zdh.flat (List.replicate n ⟨.num 0,0⟩):=by
 unfold zl;rw [Nat.sub_self,List.replicate_zero,List.append_nil];unfold Enc.flat;rw [List.map_replicate,List.map_replicate];rfl
theorem Z68 (n:Nat):madeCells #[.nilIface,.int .u64 0,.int .u64 0,.int .u64 0,.int .u64 0] (n*5)=(Zf1.flat (zl 0 n)).toArray:=by
 apply Array.ext';apply List.ext_getElem?;intro m;have hl:(Zf1.flat (zl 0 n)).length=n*5:=by rw [Zf1.flat_len,Zxp (Nat.zero_le n)]
 by_cases hm:m<n*5
 ·have h1:m / 5<n:=ω;have h2:(zl 0 n)[m / 5]?=some false:=by simp [zl,h1]
  have h3:=Zf1.flat_at h2 (show m % 5<5 by omega);rw [show m / 5*Zf1.size+m % 5=m by show m / 5*5+m % 5=m;omega] at h3;rw [h3];unfold madeCells;have hc:m % 5=0\/m % 5=1\/m % 5=2\/m % 5=3\/m % 5=4:=ω;rcases hc with hc | hc | hc | hc | hc <;> simp [hc,hm]
 ·rw [List.getElem?_eq_none (by simp [madeCells];omega),List.getElem?_eq_none (by simp [hl];omega)]
theorem Z45:(Tryz.prog.info? 114).map (fun i=>(i.zero,i.size,i.bytes))=some (some (.agg #[.nilIface,.int .u64 0,.int .u64 0,.int .u64 0,.int .u64 0]),5,48):=by kernel_rfl
theorem Zv8 (n:Nat)(hn:n<=1000)(w:World):(Instr.makeSlice 69 (.int .i64 (n:Int)) (.int .i64 (n:Int))).run Tryz.prog w=.ok (.slice (some ⟨w.heap.size,0,none⟩) n n) (w.alloc (.cells (Zf1.flat (zl 0 n)).toArray 114 (0,0))):=by
 obtain⟨i0,hi,hz0,hz1,hz2⟩:=Zda Z45;have h:=run_make (P:=Tryz.prog) w 69 114 i0 _ Tryz.underlying69 hi hz0 .i64 .i64 (n:Int) (n:Int) ω (Int.le_refl _) (by rw [hz2];omega) ω;rw [h,hz1];simp only [Int.toNat_natCast];rw [show (Value.agg #[.nilIface,.int .u64 0,.int .u64 0,.int .u64 0,.int .u64 0]).cells=#[.nilIface,.int .u64 0,.int .u64 0,.int .u64 0,.int .u64 0] from rfl,<- Z68]
theorem Zvg (l:List Rg)(i:Nat)(x:Rg)(h:l[i]?=some x)(v:Zd8):(Zdh.flat l).toArray.setIfInBounds (i*5) (Zah v)=(Zdh.flat (l.set i ⟨v,x.on⟩)).toArray:=by
 have hi:=(List.getElem?_eq_some_iff.1 h).1;apply Array.ext';apply List.ext_getElem?;intro m;have hl:(Zdh.flat l).length=l.length*5:=Zdh.flat_len l;rw [show ((Zdh.flat (l.set i ⟨v,x.on⟩)).toArray.toList)=Zdh.flat (l.set i ⟨v,x.on⟩) from rfl,Zet Zdh l i _ m hi];simp only [Array.toList_setIfInBounds,List.getElem?_set];show _=if i*5<=m/\m<i*5+5 then _ else _
 by_cases hm:i*5<=m/\m<i*5+5
 ·rw [if_pos hm];by_cases h0:m=i*5
  ·subst h0;simp [hl];omega
  ·rw [if_neg ω];have hx:=Zdh.flat_at h (show m - i*5<5 by omega);rw [show i*Zdh.size+(m - i*5)=m by show i*5+(m - i*5)=m;omega] at hx;rw [hx];have hc:m - i*5=1\/m - i*5=2\/m - i*5=3\/m - i*5=4:=ω;show _=(Zdh.enc ⟨v,x.on⟩)[m - i*5]?;rcases hc with hc | hc | hc | hc <;> rw [hc] <;> rfl
 ·rw [if_neg hm,if_neg ω]
theorem Za0.has {w:World}{B g:Nat}{S:Zgk}{r:Rn}{V:Zd6}(h:Za0 w B g S r V){i q:Nat}{x:Rg}(hi:r.regs[i]?=some x)(hq:V.rg=.slice (some ⟨q,0,none⟩) r.regs.length r.regs.length)(v:Zd8) :
  Za0 (w.setCell ⟨q,i*5,none⟩ (Zah v)) B g S { r with regs:=r.regs.set i ⟨v,x.on⟩ } V:=by
 obtain⟨q',e,hb,hB⟩:=h.regs;rw [hq] at e;simp only [Value.slice.injEq,Option.some.injEq,Addr.mk.injEq,and_true] at e;subst e;have hgq:g≠q:=(Za4 hb h.blk (by decide)).symm;have k1:=hb.set_ (i*5) (Zah v);rw [Zvg r.regs i x hi v] at k1;have ho:∀ {t:TypeId} {z n:Nat} {u:Value} {cs:List Value},w.ownsRow B t z u n cs->t≠114->(w.setCell ⟨q,i*5,none⟩ (Zah v)).ownsRow B t z u n cs:=fun h1 hne=>Zaf h1 hb hne _ _
 exact⟨h.blk.far hgq _,h.hg,⟨q,by rw [hq,List.length_set],k1,hB⟩,ho h.evs (by decide),ho h.bars (by decide),ho h.addr (by decide),ho h.data (by decide),ho h.hang (by decide),h.a1,h.a2,h.a3⟩
end Go.Proofs.YtdfmcfppoohckaaGreatDoor
namespace Go.Proofs.YtdfmcfppoohckaaGreatDoor
open Go.RowKit
open Go.ChangeShapes Go.WideShapes Go.ChangeAt
section
variable {H:Type} {enc:TypeId×Value->H} {w:World} {base:Nat} {spare:Nat->Bool} {held:Bool}
theorem Zci {P:Program}:∀ {ts:List TypeId} {ds:List (DataW H)} {j:Nat} {t:TypeId} {d:DataW H},ts[j]?=some t->ds[j]?=some d->∀ n∈d.weights P t,n∈DataW.weightsEach P ts ds
 | t :: ts,d :: ds,0,_,_,h1,h2,n,hn=>by
  simp at h1 h2;subst h1 h2;rw [DataW.weightsEach];exact List.mem_append_left _ hn
 | t :: ts,d :: ds,j+1,_,_,h1,h2,n,hn=>by
  rw [DataW.weightsEach];exact List.mem_append_right _ (Zci (j:=j) (by simpa using h1) (by simpa using h2) n hn)
theorem Zdn {P:Program}{e:TypeId}:∀ {ds:List (DataW H)} {d:DataW H},d∈ds->∀ n∈d.weights P e,n∈DataW.weightsAll P e ds
 | x :: ds,d,hd,n,hn=>by
  rw [DataW.weightsAll];rcases List.mem_cons.1 hd with rfl | hd
  ·exact List.mem_append_left _ hn
  ·exact List.mem_append_right _ (Zdn hd n hn)
theorem Zhl {a:Addr}{u:Value}(h:w.cell? (a.add 0)=some u):a=⟨a.block,a.off,none⟩:=by
 obtain⟨b,o,s⟩:=a;cases s with
 | none=>rfl
 | some s=>
  exfalso;have e:(⟨b,o,some s⟩:Addr).add 0=⟨b,o,some s⟩:=rfl;rw [e] at h;unfold World.cell? at h
  split at h <;> simp at h
theorem Zjp (b o j:Nat):(⟨b,o,none⟩:Addr).add j=⟨b,o+j,none⟩:=by
 unfold Addr.add
 split
 ·rename_i h;subst h;rfl
 ·rfl
theorem Zhn {a:Addr}{n:Nat}{cs:List Value}(h:w.cells? base a n=some cs)(i:Nat)(hi:i<n):w.cell? (a.add i)=cs[i]?:=by
 unfold World.cells? at h
 split at h
 ·obtain⟨b,hb,hf⟩:=Lib.mapM_at h i i (by simp [hi]);rw [hb];exact hf
 ·cases h
theorem cTh:Tryz.prog.cellsOf 25=3:=by kernel_rfl
theorem cNd:Tryz.prog.cellsOf 28=6:=by kernel_rfl
theorem cIn:Tryz.prog.cellsOf 3=1:=by kernel_rfl
theorem cSt:Tryz.prog.cellsOf 9=1:=by kernel_rfl
theorem cSl:Tryz.prog.cellsOf 26=1:=by kernel_rfl
set_option maxHeartbeats 2000000 in
set_option maxRecDepth 100000 in
theorem Zi4 {fuel:Nat}{cs:List Value}{x:DataW H×List MemPlace}(h:DataW.trod enc Tryz.prog w base spare held fuel 28 cs=some x)(hw:∀ n∈x.1.weights Tryz.prog 28,n<=reachBytes) :
  ∃ (k t r v:Int) (l:List UInt8) (kv:Value) (n:Nat) (y:DataW H×List MemPlace),cs=[.int .i64 k,.int .i64 t,.int .i64 r,.string ⟨l.toArray⟩,.int .i64 v,kv]/\l.length<=9223372036854775807/\n<fuel/\
   DataW.trod enc Tryz.prog w base spare held n 26 [kv]=some y/\∀ m∈y.1.weights Tryz.prog 26,m<=reachBytes:=by
 obtain⟨xs,n,rfl,rfl,hl,hlen,hf⟩:=DataW.trod_struct Tryz.underlying28 h;rw [cNd] at hl
 match cs,hl with
 | [c0,c1,c2,c3,c4,c5],_=>
  match xs,hlen with
  | [x0,x1,x2,x3],_=>
   have f0:=hf 0 _ rfl;have f1:=hf 1 _ rfl;have f2:=hf 2 _ rfl;have f3:=hf 3 _ rfl;simp only [List.getElem_toArray,List.getElem_cons_zero,List.getElem_cons_succ,cIn,cTh,cSl,List.drop_zero,List.drop_succ_cons,List.take_succ_cons,List.take_zero,List.getElem?_cons_zero,List.getElem?_cons_succ] at f0 f1 f2 f3;obtain⟨n0,e0,_,_⟩:=DataW.trod_int Tryz.underlying3 f0;obtain⟨n2,e2,_,_⟩:=DataW.trod_int Tryz.underlying3 f2;obtain⟨ys,m,rfl,rfl,hl',hlen',hg⟩:=DataW.trod_struct Tryz.underlying25 f1
   match ys,hlen' with
   | [y0,y1,y2],_=>
    have g0:=hg 0 _ rfl;have g1:=hg 1 _ rfl;have g2:=hg 2 _ rfl;simp only [List.getElem_toArray,List.getElem_cons_zero,List.getElem_cons_succ,cIn,cSt,List.drop_zero,List.drop_succ_cons,List.take_succ_cons,List.take_zero,List.getElem?_cons_zero,List.getElem?_cons_succ] at g0 g1 g2;obtain⟨m0,d0,_,_⟩:=DataW.trod_int Tryz.underlying3 g0;obtain⟨m1,d1,_,_⟩:=DataW.trod_int Tryz.underlying3 g1;obtain⟨m2,d2,_,w2⟩:=DataW.trod_string Tryz.underlying9 g2;simp only [List.cons.injEq,and_true] at e0 e2 d0 d1 d2;subst e0 e2 d0 d1 d2;unfold maxLen at w2;refine⟨n0,m0,m1,n2,m2.data.toList,c5,m+1,x3,by simp,w2,ω,f3,fun q hq=>hw q ?_⟩;dsimp only [List.map_cons,List.map_nil];rw [DataW.weights,Tryz.underlying28];exact Zci (j:=3) rfl rfl q hq
theorem Zof (a:Addr):a.add 0=a:=rfl
theorem bNd:Tryz.prog.bytesOf 28=72:=by kernel_rfl
def Z7m (w:World)(b o:Nat):Prop:=∃ (k t r v:Int) (l:List UInt8) (kv:Value) (f:Fr),w.cell? ⟨b,o,none⟩=some (.int .i64 k)/\w.cell? ⟨b,o+1,none⟩=some (.int .i64 t)/\w.cell? ⟨b,o+2,none⟩=some (.int .i64 r)/\w.cell? ⟨b,o+3,none⟩=some (.string ⟨l.toArray⟩)/\
 w.cell? ⟨b,o+4,none⟩=some (.int .i64 v)/\w.cell? ⟨b,o+5,none⟩=some kv/\l.length<=9223372036854775807/\Zec w w.heap.size kv f
theorem Zw0 {b o len:Nat}(h:∀ i,i<len->Z7m w b (o+i*6)):∀ d,d<=len->∃ f:Fr,f.len=d/\Zc4 w w.heap.size b (o+(len - d)*6) f
 | 0,_=>⟨.nil,rfl,trivial⟩
 | d+1,hd=>by
  obtain⟨rest,hr,hrow⟩:=Zw0 h d ω;obtain⟨k,t,r,v,l,kv,f,c0,c1,c2,c3,c4,c5,hl,A,cap,rfl,s1,s2,s3⟩:=h (len - (d+1)) ω;refine⟨.cons k t r l v f rest,by simp [Fr.len,hr],c0,c1,c2,c3,c4,hl,⟨A,cap,c5,s1,s2,s3⟩,?_⟩;rw [show o+(len - (d+1))*6+6=o+(len - d)*6 by omega];exact hrow
set_option maxHeartbeats 2000000 in
set_option maxRecDepth 100000 in
theorem Zwg:∀ (N fuel:Nat),fuel<N->∀ (c:Value) (x:DataW H×List MemPlace),DataW.trod enc Tryz.prog w base spare held fuel 26 [c]=some x->(∀ n∈x.1.weights Tryz.prog 26,n<=reachBytes)->∃ f:Fr,Zec w w.heap.size c f
 | 0,_,h,_,_,_,_=>by omega
 | N+1,fuel,hN,c,x,h,hw=>by
  rcases DataW.trod_slice Tryz.underlying26 h with ⟨hc,_⟩ | ⟨a,len,cap,elems,rest,n,rfl,hc,rfl,hb,hl,hm,hlen,hel,_,_⟩
  ·simp only [List.cons.injEq,and_true] at hc;subst hc;exact⟨.nil,Zec.nil _ _ _ _ ω⟩
  ·simp only [List.cons.injEq,and_true] at hc;subst hc;dsimp only at hw;rw [DataW.weights,Tryz.underlying26] at hw;dsimp only at hw;have hwt:len*72<=140737488351232:=by
    have:=hw _ List.mem_cons_self;rw [bNd] at this;simp only [List.length_map,hlen,reachBytes] at this;omega
   unfold maxLen at hm;rw [cNd] at hel;have hA:0<len->a=⟨a.block,a.off,none⟩:=by
    intro hp;have h1:=hel 0 hp;rw [List.getElem?_eq_getElem ω] at h1;obtain⟨cs',h2,h3⟩:=Option.bind_eq_some_iff.1 h1;obtain⟨k,t,r,v,l,kv,m,y,rfl,_⟩:=Zi4 h3 (fun q hq=>hw q (List.mem_cons_of_mem _ (List.mem_append_left _ (Zdn (List.mem_map.2 ⟨_,List.getElem_mem ω,rfl⟩) q hq))));have g0:=Zhn h2 0 ω;rw [Nat.zero_mul,Zof] at g0;exact Zhl g0
   have hnd:∀ i,i<len->a=⟨a.block,a.off,none⟩/\Z7m w a.block (a.off+i*6):=by
    intro i hi;have h1:=hel i hi;rw [List.getElem?_eq_getElem ω] at h1;obtain⟨cs',h2,h3⟩:=Option.bind_eq_some_iff.1 h1;obtain⟨k,t,r,v,l,kv,m,y,rfl,hl',hmn,hy,hwy⟩:=Zi4 h3 (fun q hq=>hw q (List.mem_cons_of_mem _ (List.mem_append_left _ (Zdn (List.mem_map.2 ⟨_,List.getElem_mem ω,rfl⟩) q hq))));obtain⟨f,hf⟩:=Zwg N m ω kv y hy hwy;have hc0:=Zhn h2;have ha:=hA ω;refine⟨ha,k,t,r,v,l,kv,f,?_,?_,?_,?_,?_,?_,hl',hf⟩
    all_goals
     rw [ha] at hc0;simp only [Zjp] at hc0
    ·exact hc0 0 ω
    ·exact hc0 1 ω
    ·exact hc0 2 ω
    ·exact hc0 3 ω
    ·exact hc0 4 ω
    ·exact hc0 5 ω
   obtain⟨f,hf,hrow⟩:=Zw0 (fun i hi=>(hnd i hi).2) len (Nat.le_refl _);refine⟨f,some a,cap,by rw [hf],ω,⟨by rw [hf];exact hwt,ω⟩,fun hp=>?_⟩;obtain⟨ha,k,t,r,v,l,kv,f',c0,_⟩:=hnd 0 ω;refine⟨a.block,a.off,by rw [<- ha],World.block_lt_of_cell? w ⟨a.block,a.off+0*6,none⟩ c0,?_⟩;simpa using hrow
end
theorem Zm4 {α:Type}{P:Nat->α->Prop}:∀ n,(∀ i,i<n->∃ z,P i z)->∃ l:List α,l.length=n/\∀ i z,l[i]?=some z->P i z
 | 0,_=>⟨[],rfl,fun i z h=>by simp at h⟩
 | n+1,h=>by
  obtain⟨l,hl,hp⟩:=Zm4 n (fun i hi=>h i ω);obtain⟨z,hz⟩:=h n ω;refine⟨l++[z],by simp [hl],fun i u hu=>?_⟩;by_cases hi:i<n
  ·rw [List.getElem?_append_left ω] at hu;exact hp i u hu
  ·have hlt:=(List.getElem?_eq_some_iff.1 hu).1;simp [hl] at hlt;obtain rfl:i=n:=ω;rw [List.getElem?_append_right ω,hl,Nat.sub_self] at hu;simp only [List.getElem?_cons_zero,Option.some.injEq] at hu;subst hu;exact hz
section
variable {H:Type} {enc:TypeId×Value->H} {P:Program} {w:World} {base:Nat} {spare:Nat->Bool} {held:Bool}
theorem Zqy {t e:TypeId}{fuel:Nat}{c:Value}{x:DataW H×List MemPlace}(nc bytes:Nat)(ht:P.underlying t=some (.slice e))(hnc:P.cellsOf e=nc)(hbb:P.bytesOf e=bytes)
  (h:DataW.trod enc P w base spare held fuel t [c]=some x) (hw:∀ n∈x.1.weights P t,n<=reachBytes) :
  c=.slice none 0 0\/∃ (a:Addr) (len cap n:Nat),c=.slice (some a) len cap/\len<=cap/\cap<=9223372036854775807/\len*bytes<=140737488351232/\
   ∀ i,i<len->∃ cs y,w.cells? base (a.add (i*nc)) nc=some cs/\DataW.trod enc P w base spare held n e cs=some y/\∀ m∈y.1.weights P e,m<=reachBytes:=by
 rcases DataW.trod_slice ht h with ⟨hc,_⟩ | ⟨a,len,cap,elems,rest,n,_,hc,rfl,hb,hl,hm,hlen,hel,_,_⟩
 ·simp only [List.cons.injEq,and_true] at hc;exact .inl hc
 ·simp only [List.cons.injEq,and_true] at hc;subst hc;dsimp only at hw;rw [DataW.weights,ht] at hw;dsimp only at hw;refine .inr ⟨a,len,cap,n,rfl,hl,by unfold maxLen at hm;exact hm,?_,fun i hi=>?_⟩
  ·have:=hw _ List.mem_cons_self;rw [hbb] at this;simp only [List.length_map,hlen,reachBytes] at this;refine Nat.le_trans ?_ (Nat.le_trans this (by decide))
   first | exact Nat.le_refl _ | exact Nat.mul_le_mul_right _ ω
  ·have h1:=hel i hi;rw [List.getElem?_eq_getElem ω,hnc] at h1;obtain⟨cs',h2,h3⟩:=Option.bind_eq_some_iff.1 h1;exact⟨cs',_,h2,h3,fun q hq=>hw q (List.mem_cons_of_mem _ (List.mem_append_left _ (Zdn (List.mem_map.2 ⟨_,List.getElem_mem ω,rfl⟩) q hq)))⟩
end
section
variable {H:Type} {enc:TypeId×Value->H} {w:World} {base:Nat} {spare:Nat->Bool} {held:Bool}
theorem Z7w {n:Int}(h:(Lit.int .i64 n).wf=true):-9223372036854775808<=n/\n<=9223372036854775807:=by
 simp [Lit.wf,IntKind.min,IntKind.max,IntKind.signed,IntKind.bits] at h;omega
theorem cIs:Tryz.prog.cellsOf 118=8:=by kernel_rfl
theorem cIt:Tryz.prog.cellsOf 62=5:=by kernel_rfl
theorem cVl:Tryz.prog.cellsOf 60=2:=by kernel_rfl
theorem cTs:Tryz.prog.cellsOf 32=12:=by kernel_rfl
theorem cCd:Tryz.prog.cellsOf 30=7:=by kernel_rfl
theorem cS1:Tryz.prog.cellsOf 22=1:=by kernel_rfl
theorem cS2:Tryz.prog.cellsOf 23=1:=by kernel_rfl
theorem cS3:Tryz.prog.cellsOf 116=1:=by kernel_rfl
theorem bIs:Tryz.prog.bytesOf 118=80:=by kernel_rfl
theorem bIt:Tryz.prog.bytesOf 62=56:=by kernel_rfl
theorem bS3:Tryz.prog.bytesOf 116=24:=by kernel_rfl
set_option maxHeartbeats 2000000
set_option maxRecDepth 100000
theorem Zvp {fuel:Nat}{cs:List Value}{x:DataW H×List MemPlace}(h:DataW.trod enc Tryz.prog w base spare held fuel 118 cs=some x) :
  ∃ t:Ins,cs=[.int .i64 t.op,.int .i64 t.d,.int .i64 t.a,.int .i64 t.b,.int .i64 t.imm,.string ⟨t.loc.toArray⟩,.string ⟨t.label.toArray⟩,.int .i64 t.fence]/\t.loc.length<=9223372036854775807/\t.label.length<=9223372036854775807:=by
 obtain⟨ys,m,rfl,rfl,hl',hlen',hg⟩:=DataW.trod_struct Tryz.underlying118 h;rw [cIs] at hl'
 match cs,hl' with
 | [c0,c1,c2,c3,c4,c5,c6,c7],_=>
  match ys,hlen' with
  | [y0,y1,y2,y3,y4,y5,y6,y7],_=>
   have g0:=hg 0 _ rfl;have g1:=hg 1 _ rfl;have g2:=hg 2 _ rfl;have g3:=hg 3 _ rfl;have g4:=hg 4 _ rfl;have g5:=hg 5 _ rfl;have g6:=hg 6 _ rfl;have g7:=hg 7 _ rfl;simp only [List.getElem_toArray,List.getElem_cons_zero,List.getElem_cons_succ,cIn,cSt,List.drop_zero,List.drop_succ_cons,List.take_succ_cons,List.take_zero,List.getElem?_cons_zero,List.getElem?_cons_succ] at g0 g1 g2 g3 g4 g5 g6 g7;obtain⟨m0,d0,_,_⟩:=DataW.trod_int Tryz.underlying3 g0;obtain⟨m1,d1,_,_⟩:=DataW.trod_int Tryz.underlying3 g1;obtain⟨m2,d2,_,_⟩:=DataW.trod_int Tryz.underlying3 g2;obtain⟨m3,d3,_,_⟩:=DataW.trod_int Tryz.underlying3 g3;obtain⟨m4,d4,_,_⟩:=DataW.trod_int Tryz.underlying3 g4;obtain⟨m5,d5,_,w5⟩:=DataW.trod_string Tryz.underlying9 g5;obtain⟨m6,d6,_,w6⟩:=DataW.trod_string Tryz.underlying9 g6;obtain⟨m7,d7,_,_⟩:=DataW.trod_int Tryz.underlying3 g7;simp only [List.cons.injEq,and_true] at d0 d1 d2 d3 d4 d5 d6 d7;subst d0 d1 d2 d3 d4 d5 d6 d7;unfold maxLen at w5 w6;exact⟨⟨m0,m1,m2,m3,m4,m5.data.toList,m6.data.toList,m7⟩,by simp,w5,w6⟩
theorem Zxj {fuel:Nat}{cs:List Value}{x:DataW H×List MemPlace}(h:DataW.trod enc Tryz.prog w base spare held fuel 60 cs=some x) :
  ∃ (l:List UInt8) (n:Int),cs=[.string ⟨l.toArray⟩,.int .i64 n]/\l.length<=9223372036854775807:=by
 obtain⟨ys,m,rfl,rfl,hl',hlen',hg⟩:=DataW.trod_struct Tryz.underlying60 h;rw [cVl] at hl'
 match cs,hl' with
 | [c0,c1],_=>
  match ys,hlen' with
  | [y0,y1],_=>
   have g0:=hg 0 _ rfl;have g1:=hg 1 _ rfl;simp only [List.getElem_toArray,List.getElem_cons_zero,List.getElem_cons_succ,cIn,cSt,List.drop_zero,List.drop_succ_cons,List.take_succ_cons,List.take_zero,List.getElem?_cons_zero,List.getElem?_cons_succ] at g0 g1;obtain⟨m0,d0,_,w0⟩:=DataW.trod_string Tryz.underlying9 g0;obtain⟨m1,d1,_,_⟩:=DataW.trod_int Tryz.underlying3 g1;simp only [List.cons.injEq,and_true] at d0 d1;subst d0 d1;unfold maxLen at w0;exact⟨m0.data.toList,m1,by simp,w0⟩
theorem Zvo {fuel:Nat}{cs:List Value}{x:DataW H×List MemPlace}(h:DataW.trod enc Tryz.prog w base spare held fuel 62 cs=some x) :
  ∃ t:Ini,cs=[.int .i64 t.th,.int .i64 t.rg,.string ⟨t.loc.toArray⟩,.string ⟨t.vl.toArray⟩,.int .i64 t.vn]/\t.loc.length<=9223372036854775807/\t.vl.length<=9223372036854775807/\(-9223372036854775808<=t.th/\t.th<=9223372036854775807)/\-9223372036854775808<=t.rg/\t.rg<=9223372036854775807:=by
 obtain⟨ys,m,rfl,rfl,hl',hlen',hg⟩:=DataW.trod_struct Tryz.underlying62 h;rw [cIt] at hl'
 match cs,hl' with
 | [c0,c1,c2,c3,c4],_=>
  match ys,hlen' with
  | [y0,y1,y2,y3],_=>
   have g0:=hg 0 _ rfl;have g1:=hg 1 _ rfl;have g2:=hg 2 _ rfl;have g3:=hg 3 _ rfl;simp only [List.getElem_toArray,List.getElem_cons_zero,List.getElem_cons_succ,cIn,cSt,cVl,List.drop_zero,List.drop_succ_cons,List.take_succ_cons,List.take_zero,List.getElem?_cons_zero,List.getElem?_cons_succ] at g0 g1 g2 g3;obtain⟨m0,d0,_,w0⟩:=DataW.trod_int Tryz.underlying3 g0;obtain⟨m1,d1,_,w1⟩:=DataW.trod_int Tryz.underlying3 g1;obtain⟨m2,d2,_,w2⟩:=DataW.trod_string Tryz.underlying9 g2;obtain⟨l3,n3,d3,w3⟩:=Zxj g3;simp only [List.cons.injEq,and_true] at d0 d1 d2 d3;obtain⟨d3,d4⟩:=d3;subst d0 d1 d2 d3 d4;unfold maxLen at w2;exact⟨⟨m0,m1,m2.data.toList,l3,n3⟩,by simp,w2,w3,Z7w w0,Z7w w1⟩
theorem Zzy {fuel:Nat}{c:Value}{x:DataW H×List MemPlace}(h:DataW.trod enc Tryz.prog w base spare held fuel 116 [c]=some x)(hw:∀ n∈x.1.weights Tryz.prog 116,n<=reachBytes) :
  ∃ (A:Option Addr) (cap:Nat) (st:List Ins),c=.slice A st.length cap/\Zco w A st/\st.length<=cap/\st.length<=9223372036854775806:=by
 rcases Zqy 8 80 Tryz.underlying116 cIs bIs h hw with rfl | ⟨a,len,cap,n,rfl,h1,h2,h3,h4⟩
 ·exact⟨none,0,[],rfl,fun i v h=>by simp at h,by simp,by simp⟩
 ·have h5:∀ i,i<len->∃ t:Ins,a=⟨a.block,a.off,none⟩/\(∀ j,j<8->w.cell? ((a.add (i*8)).add j)=([.int .i64 t.op,.int .i64 t.d,.int .i64 t.a,.int .i64 t.b,.int .i64 t.imm,.string ⟨t.loc.toArray⟩,.string ⟨t.label.toArray⟩,.int .i64 t.fence]:List Value)[j]?)/\t.loc.length<=9223372036854775807/\t.label.length<=9223372036854775807:=by
   have h6:∀ i,i<len->∃ t:Ins,(∀ j,j<8->w.cell? ((a.add (i*8)).add j)=([.int .i64 t.op,.int .i64 t.d,.int .i64 t.a,.int .i64 t.b,.int .i64 t.imm,.string ⟨t.loc.toArray⟩,.string ⟨t.label.toArray⟩,.int .i64 t.fence]:List Value)[j]?)/\t.loc.length<=9223372036854775807/\t.label.length<=9223372036854775807:=by
    intro i hi;obtain⟨cs,y,h7,h8,_⟩:=h4 i hi;obtain⟨t,rfl,ht⟩:=Zvp h8;exact⟨t,fun j hj=>Zhn h7 j hj,ht⟩
   intro i hi;obtain⟨t,hz⟩:=h6 i hi;obtain⟨t0,hz0,_⟩:=h6 0 ω;have h0:=hz0 0 ω;rw [Nat.zero_mul] at h0;exact⟨t,Zhl h0,hz⟩
  obtain⟨st,hl,hp⟩:=Zm4 len h5;subst hl;refine⟨some a,cap,st,rfl,fun i v hv=>?_,h1,ω⟩;obtain⟨ha,hc,hb1,hb2⟩:=hp i v hv;refine⟨a.block,a.off,by rw [<- ha],?_⟩;rw [ha] at hc;simp only [Zjp] at hc;exact⟨hc 0 ω,hc 1 ω,hc 2 ω,hc 3 ω,hc 4 ω,hc 5 ω,hc 6 ω,hc 7 ω,hb1,hb2⟩
theorem Zwh {fuel:Nat}{c:Value}{x:DataW H×List MemPlace}(h:DataW.trod enc Tryz.prog w base spare held fuel 22 [c]=some x)(hw:∀ n∈x.1.weights Tryz.prog 22,n<=reachBytes) :
  ∃ (A:Option Addr) (cap:Nat) (st:List Ini),c=.slice A st.length cap/\Zjm w A st/\st.length<=9223372036854775806:=by
 rcases Zqy 5 56 Tryz.underlying22 cIt bIt h hw with rfl | ⟨a,len,cap,n,rfl,h1,h2,h3,h4⟩
 ·exact⟨none,0,[],rfl,fun i v h=>by simp at h,by simp⟩
 ·have h5:∀ i,i<len->∃ t:Ini,a=⟨a.block,a.off,none⟩/\(∀ j,j<5->w.cell? ((a.add (i*5)).add j)=([.int .i64 t.th,.int .i64 t.rg,.string ⟨t.loc.toArray⟩,.string ⟨t.vl.toArray⟩,.int .i64 t.vn]:List Value)[j]?)/\t.loc.length<=9223372036854775807/\t.vl.length<=9223372036854775807/\(-9223372036854775808<=t.th/\t.th<=9223372036854775807)/\-9223372036854775808<=t.rg/\t.rg<=9223372036854775807:=by
   have h6:∀ i,i<len->∃ t:Ini,(∀ j,j<5->w.cell? ((a.add (i*5)).add j)=([.int .i64 t.th,.int .i64 t.rg,.string ⟨t.loc.toArray⟩,.string ⟨t.vl.toArray⟩,.int .i64 t.vn]:List Value)[j]?)/\t.loc.length<=9223372036854775807/\t.vl.length<=9223372036854775807/\(-9223372036854775808<=t.th/\t.th<=9223372036854775807)/\-9223372036854775808<=t.rg/\t.rg<=9223372036854775807:=by
    intro i hi;obtain⟨cs,y,h7,h8,_⟩:=h4 i hi;obtain⟨t,rfl,ht⟩:=Zvo h8;exact⟨t,fun j hj=>Zhn h7 j hj,ht⟩
   intro i hi;obtain⟨t,hz⟩:=h6 i hi;obtain⟨t0,hz0,_⟩:=h6 0 ω;have h0:=hz0 0 ω;rw [Nat.zero_mul] at h0;exact⟨t,Zhl h0,hz⟩
  obtain⟨st,hl,hp⟩:=Zm4 len h5;subst hl;refine⟨some a,cap,st,rfl,fun i v hv=>?_,ω⟩;obtain⟨ha,hc,hb⟩:=hp i v hv;refine⟨a.block,a.off,by rw [<- ha],?_⟩;rw [ha] at hc;simp only [Zjp] at hc;exact⟨hc 0 ω,hc 1 ω,hc 2 ω,hc 3 ω,hc 4 ω,hb⟩
theorem Zwf {fuel:Nat}{c:Value}{x:DataW H×List MemPlace}(h:DataW.trod enc Tryz.prog w base spare held fuel 23 [c]=some x)(hw:∀ n∈x.1.weights Tryz.prog 23,n<=reachBytes) :
  ∃ (A:Option Addr) (cap:Nat) (sts:List (List Ins)),c=.slice A sts.length cap/\Zjz w A sts/\sts.length<=9223372036854775806:=by
 rcases Zqy 1 24 Tryz.underlying23 cS3 bS3 h hw with e | ⟨a,len,cap,n,e,h1,h2,h3,h4⟩
 ·exact⟨none,0,[],e,fun i v h=>by simp at h,by simp⟩
 ·have h5:∀ i,i<len->∃ st:List Ins,a=⟨a.block,a.off,none⟩/\∃ A2 c2,w.cell? (a.add i)=some (.slice A2 st.length c2)/\Zco w A2 st/\st.length<=9223372036854775806/\st.length<=c2:=by
   have h6:∀ i,i<len->∃ (st:List Ins) (A2:Option Addr) (c2:Nat),w.cell? (a.add i)=some (.slice A2 st.length c2)/\Zco w A2 st/\st.length<=9223372036854775806/\st.length<=c2:=by
    intro i hi;obtain⟨cs,y,h7,h8,h9⟩:=h4 i hi;have hc:=Zhn h7 0 ω;rw [Zof,Nat.mul_one] at hc;have hcs:∃ u,cs=[u]:=by
     rcases DataW.trod_slice Tryz.underlying116 h8 with ⟨e,_⟩ | ⟨_,_,_,_,_,_,_,e,_⟩
     ·exact⟨_,e⟩
     ·exact⟨_,e⟩
    obtain⟨u,rfl⟩:=hcs;obtain⟨A2,c2,st,rfl,hi2,hk,hb⟩:=Zzy h8 h9;exact⟨st,A2,c2,hc,hi2,hb,hk⟩
   intro i hi;obtain⟨st,A2,c2,hz⟩:=h6 i hi;obtain⟨st0,A20,c20,hz0,_⟩:=h6 0 ω;exact⟨st,Zhl hz0,A2,c2,hz⟩
  obtain⟨sts,hl,hp⟩:=Zm4 len h5;subst hl;rw [e];refine⟨some a,cap,sts,rfl,fun i v hv=>?_,ω⟩;obtain⟨ha,A2,c2,hc,hi2,hb⟩:=hp i v hv;refine⟨a.block,a.off,A2,c2,by rw [<- ha],?_,hi2,hb⟩;rw [ha,Zjp] at hc;exact hc
theorem Zs6 {fuel:Nat}{cs:List Value}{x:DataW H×List MemPlace}(h:DataW.trod enc Tryz.prog w base spare held fuel 30 cs=some x)(hw:∀ n∈x.1.weights Tryz.prog 30,n<=reachBytes) :
  ∃ (q k t r v':Int) (l:List UInt8) (kv:Value) (f:Fr),cs=[.int .i64 q,.int .i64 k,.int .i64 t,.int .i64 r,.string ⟨l.toArray⟩,.int .i64 v',kv]/\l.length<=9223372036854775807/\Zec w w.heap.size kv f:=by
 obtain⟨xs,n,rfl,hx,hl,hlen,hg⟩:=DataW.trod_struct Tryz.underlying30 h;rw [cCd] at hl
 match cs,hl with
 | [c0,c1,c2,c3,c4,c5,c6],_=>
  match xs,hlen with
  | [x0,x1],_=>
   have f0:=hg 0 _ rfl;have f1:=hg 1 _ rfl;simp only [List.getElem_toArray,List.getElem_cons_zero,List.getElem_cons_succ,cIn,cNd,List.drop_zero,List.drop_succ_cons,List.take_succ_cons,List.take_zero,List.getElem?_cons_zero,List.getElem?_cons_succ] at f0 f1;obtain⟨n0,e0,_,_⟩:=DataW.trod_int Tryz.underlying3 f0;subst hx;obtain⟨k,t,r,v,l,kv,m,y,e1,hl',hmn,hy,hwy⟩:=Zi4 f1 (fun q hq=>hw q (by
    dsimp only [List.map_cons,List.map_nil];rw [DataW.weights,Tryz.underlying30];exact Zci (j:=1) rfl rfl q hq))
   obtain⟨f,hf'⟩:=Zwg (m+1) m ω kv y hy hwy;simp only [List.cons.injEq,and_true] at e0 e1;obtain⟨rfl,rfl,rfl,rfl,rfl,rfl⟩:=e1;subst e0;exact⟨n0,k,t,r,v,l,_,f,rfl,hl',hf'⟩
theorem Zwi {r:Reach}{b0:Nat}{v:Value}{d:DataW H}{p:List MemPlace}(hv:Value.okWide Tryz.prog w r b0 32 v)(h:DataW.Trod enc Tryz.prog w base spare held 32 v d p)(hw:∀ n∈d.weights Tryz.prog 32,n<=reachBytes) :
  ∃ (T:Tst) (Ai Ac:Option Addr) (ci cc:Nat) (kv:Value),v=Zbr T (.slice Ai T.init.length ci) (.slice Ac T.code.length cc) kv/\Zcb w T Ai Ac kv:=by
 obtain⟨cs,rfl,hsz⟩:=okWide_struct Tryz.underlying32 hv;obtain⟨l⟩:=cs;obtain⟨fuel,hf⟩:=h
 match l,hsz.trans cTs with
 | [c0,c1,c2,c3,c4,c5,c6,c7,c8,c9,c10,c11],_=>
  obtain⟨xs,n,rfl,hx,hl,hlen,hg⟩:=DataW.trod_struct Tryz.underlying32 hf
  match xs,hlen with
  | [x0,x1,x2,x3,x4,x5],_=>
   have f0:=hg 0 _ rfl;have f1:=hg 1 _ rfl;have f2:=hg 2 _ rfl;have f3:=hg 3 _ rfl;have f4:=hg 4 _ rfl;have f5:=hg 5 _ rfl;simp only [List.getElem_toArray,List.getElem_cons_zero,List.getElem_cons_succ,cIn,cSt,cS1,cS2,cCd,Value.cells,List.drop_zero,List.drop_succ_cons,List.take_succ_cons,List.take_zero,List.getElem?_cons_zero,List.getElem?_cons_succ] at f0 f1 f2 f3 f4 f5;simp only [List.map_cons,List.map_nil,Prod.mk.injEq] at hx;obtain⟨rfl,_⟩:=hx;have hwj:∀ (j:Nat) (t:TypeId) (y:DataW H×List MemPlace),[3,9,9,22,23,30][j]?=some t->[x0.1,x1.1,x2.1,x3.1,x4.1,x5.1][j]?=some y.1->∀ n∈y.1.weights Tryz.prog t,n<=reachBytes:=fun j t y h1 h2 n hn=>hw n (by
    rw [DataW.weights,Tryz.underlying32];exact Zci (j:=j) h1 h2 n hn)
   obtain⟨m0,d0,_,_⟩:=DataW.trod_int Tryz.underlying3 f0;obtain⟨m1,d1,_,w1⟩:=DataW.trod_string Tryz.underlying9 f1;obtain⟨m2,d2,_,w2⟩:=DataW.trod_string Tryz.underlying9 f2;obtain⟨A3,cp3,l3,rfl,i3,b3⟩:=Zwh f3 (hwj 3 _ x3 rfl rfl);obtain⟨A4,cp4,l4,rfl,i4,b4⟩:=Zwf f4 (hwj 4 _ x4 rfl rfl);obtain⟨q,k,t,r,v',l,kv,f,e5,hl5,hs5⟩:=Zs6 f5 (hwj 5 _ x5 rfl rfl);simp only [List.cons.injEq,and_true] at d0 d1 d2 e5;obtain⟨rfl,rfl,rfl,rfl,rfl,rfl,rfl⟩:=e5;subst d0 d1 d2;unfold maxLen at w1 w2;exact⟨⟨m0,m1.data.toList,m2.data.toList,l3,l4,q,k,t,r,l,v',f⟩,A3,A4,cp3,cp4,_,by simp [Zbr],i3,i4,hs5,b3,b4,w1,w2,hl5⟩
end
end Go.Proofs.YtdfmcfppoohckaaGreatDoor
