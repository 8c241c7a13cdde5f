/- Layer 15: sets of events as bits. -/
import Derived.Test.YtdfmcfppoohckaaGreatDoorTm08

namespace Go.Proofs.YtdfmcfppoohckaaGreatDoor
open Go.RowKit
theorem Zn8 {a:Nat}(h:a<18446744073709551616):IntKind.u64.wrap (a:Int)=(a:Int):=by
 unfold IntKind.wrap;simp [IntKind.bits,IntKind.signed];omega
theorem Zcf {a b:Nat}(ha:a<18446744073709551616)(hb:b<18446744073709551616):bits .or .u64 (a:Int) (b:Int)=((a|||b:Nat):Int):=by
 have hab:a|||b<2 ^ 64:=Nat.or_lt_two_pow (by simpa using ha) (by simpa using hb)
 unfold bits;have e:((BitVec.ofInt IntKind.u64.bits (a:Int))|||(BitVec.ofInt IntKind.u64.bits (b:Int))).toNat=a|||b:=by
  rw [BitVec.toNat_or,BitVec.ofInt_natCast,BitVec.ofInt_natCast,BitVec.toNat_ofNat,BitVec.toNat_ofNat];show a % 2 ^ 64|||b % 2 ^ 64=_
  rw [Nat.mod_eq_of_lt (by simpa using ha),Nat.mod_eq_of_lt (by simpa using hb)]
 simp only [e];exact Zn8 (by simpa using hab)
theorem Zj9 {a:Nat}(ha:a<18446744073709551616):bits .and .u64 (a:Int) 1=((a % 2:Nat):Int):=by
 unfold bits;have e:((BitVec.ofInt IntKind.u64.bits (a:Int))&&& (BitVec.ofInt IntKind.u64.bits (1:Int))).toNat=a % 2:=by
  rw [show (1:Int)=((1:Nat):Int) from rfl,BitVec.toNat_and,BitVec.ofInt_natCast,BitVec.ofInt_natCast,BitVec.toNat_ofNat,BitVec.toNat_ofNat];show a % 2 ^ 64&&& 1 % 2 ^ 64=_;rw [Nat.mod_eq_of_lt (by simpa using ha)];simp [Nat.and_one_is_mod]
 simp only [e];exact Zn8 ω
theorem Zq8 {i:Nat}(h:i<64):IntKind.u64.wrap (1*2 ^ i)=((2 ^ i:Nat):Int):=by
 have:2 ^ i<2 ^ 64:=Nat.pow_lt_pow_right ω h;rw [Int.one_mul,show ((2:Int) ^ i)=((2 ^ i:Nat):Int) by simp];exact Zn8 (by simpa using this)
theorem Zqb (a i:Nat):(a / 2 ^ i % 2=1)=(a.testBit i=true):=by
 rw [Nat.testBit_eq_decide_div_mod_eq];simp
namespace Enc
variable {α:Type} {E:Enc α}
theorem At.cells {w:World}{b o:Nat}{l:List α}(h:E.At w (some ⟨b,o,none⟩) l)(j:Nat)(u:Value)(hj:(E.flat l)[j]?=some u):w.cell? ⟨b,o+j,none⟩=some u:=by
 have hp:=E.pos;have hlt:=(List.getElem?_eq_some_iff.1 hj).1;rw [E.flat_len] at hlt;have hq:j / E.size<l.length:=Nat.div_lt_of_lt_mul (by rw [Nat.mul_comm];exact hlt);obtain⟨b',o',e,hc⟩:=h (j / E.size) _ (List.getElem?_eq_getElem hq);simp only [Option.some.injEq,Addr.mk.injEq,and_true] at e;obtain⟨rfl,rfl⟩:=e;have hm:=Nat.mod_lt j hp;have hd:=Nat.div_add_mod' j E.size;have h2:=E.flat_at (List.getElem?_eq_getElem hq) hm;rw [hd] at h2;have:=hc (j % E.size) u (by rw [<- h2];exact hj)
 rwa [show o+j / E.size*E.size+j % E.size=o+j by rw [Nat.add_assoc,hd]] at this
theorem Zrh (b o j:Nat):(⟨b,o,none⟩:Addr).add j=⟨b,o+j,none⟩:=by
 unfold Addr.add
 split
 ·rename_i h;subst h;rfl
 ·rfl
theorem appL {T S:TypeId}{bytes:Nat}(hE:E.Elem T S bytes){ops:Array Oper}{rest:List Oper}{o:Oper}{a:Act}{Q:Exit->Act->World->Prop}(V:World)
  (hg:o.guard=none) (s x:Operand) (hop:o.op=Op.call { callee:=Callee.builtin Builtin.append,args:=#[s,x],argTypes:=#[S,S] })
  (ys:List α) (B:Nat) (l:List α) (v:Value) (b2 o2 c2:Nat) (hs:a.eval s=v) (hx:a.eval x=.slice (some ⟨b2,o2,none⟩) ys.length c2)
  (hys:E.At V (some ⟨b2,o2,none⟩) ys) (hown:E.Own T B V v l) (b1:l.length+ys.length<=1152921504606846976) (b3:(l.length+ys.length)*bytes<=140737488355328) (hB:B<=V.heap.size)
  (hK:∀ v' w1,E.Own T B w1 v' (l++ys)->Z4c V w1 B v->wpList Tryz.prog ops Q rest (a.put o.dst v') w1) :
  wpList Tryz.prog ops Q (o :: rest) a V:=by
 obtain⟨z,hz,hzs⟩:=hE.info;obtain⟨i0,hi,hz0,hz1,hz2⟩:=Zda hz;refine wpList_append_own _ hg s x S hop B T i0 z E.size bytes hE.sl hi hz0 hz1 hz2 hzs E.pos v l.length (E.flat l) hs hown ⟨b2,o2,none⟩ ys.length c2 (E.flat ys) hx (E.flat_len ys) (fun j u hj=>by rw [Zrh];exact hys.cells j u hj) ?_ (by unfold maxLen;omega) b3 hB ?_
 ·intro u hu;unfold flat at hu;obtain⟨q,hq,huq⟩:=List.mem_flatten.1 hu;obtain⟨y,_,rfl⟩:=List.mem_map.1 hq;exact E.one y u huq
 ·intro v' w1 hown' hgrow _;refine hK v' w1 ?_ ⟨?_,fun i hi hne=>?_⟩
  ·show w1.ownsRow B T E.size v' (l++ys).length (E.flat (l++ys));rw [E.flat_append,List.length_append];exact hown'
  ·exact (Below.refl _ _).grown hgrow hB (fun j hj=>(hown.lt j hj).1)
  ·exact hgrow.block i hi (fun e=>hne e.symm)
end Enc
theorem Ztn {P:Program}(w:World)(base:Nat)(t ty e:TypeId)(i:TypeInfo)(z:Value)(size bytes:Nat)(ht:P.underlying t=some (.slice e))(hi:P.info? e=some i)(hz:i.zero=some z)
  (hsize:i.size=size) (hby:i.bytes=bytes) (hzs:z.cells.size=size) (hsz:0<size) (v:Value) (n:Nat) (xs:List Value) (hown:w.ownsRow base e size v n xs)
  (a:Addr) (m c:Nat) (news:List Value) (hl:news.length=m*size) (hnews:∀ j u,news[j]?=some u->w.cell? (a.add j)=some u) (h1:∀ u∈news,u.oneCell'=true)
  (h63:n+m<=maxLen) (hbytes:(n+m)*bytes<=140737488355328) (hbase:base<=w.heap.size) :
  ∃ v' w',(Builtin.append_ #[t,t] ty #[v,.slice (some a) m c]).run P w=.ok v' w'/\w'.ownsRow base e size v' (n+m) (xs++news)/\w.grownBy w' v.ownBlock/\∀ b,v'.ownBlock=some b->v.ownBlock=some b\/w.heap.size<=b:=by
 obtain⟨v',w',hr,h2,h3,_⟩:=run_append_own (P:=P) w base t ty e i z size bytes ht hi hz hsize hby hzs hsz v n xs hown a m c news hl hnews h1 h63 hbytes hbase;refine⟨v',w',hr,h2,h3,?_⟩;rcases hown.2 with ⟨rfl,rfl⟩ | ⟨g,cap,cur,rfl,hbg,hg,hnc,hcm,hcs,htake⟩
 ·have hx:xs=[]:=List.eq_nil_of_length_eq_zero (by simpa using hown.1);subst hx;obtain⟨v2,w2,hr2,h22,_,_⟩:=run_append_own (P:=P) w w.heap.size t ty e i z size bytes ht hi hz hsize hby hzs hsz (.slice none 0 0) 0 [] (World.ownsRow_nil _ _ _ _) a m c news hl hnews h1 h63 hbytes (Nat.le_refl _);have he:=hr.symm.trans hr2
  injection he with he1 he2
  subst he1 he2;exact fun b hb=>.inr (h22.lt b hb).1
 ·by_cases hroom:n+m<=cap
  ·obtain⟨w2,hr2,_,_⟩:=run_append_fits (P:=P) w base t ty e i size ht hi hsize g n cap xs hown a m c news hl hnews h1 hroom;have he:=hr.symm.trans hr2
   injection he with he1 he2
   subst he1;exact fun b hb=>.inl hb
  ·subst hsize;subst hby
   have holds:∀ j u,xs[j]?=some u->w.cell? ((⟨g,0,none⟩:Addr).add j)=some u:=hown.cells (g:=g) rfl;have hr2:=run_append_grow (P:=P) w t ty e i z ht hi hz ⟨g,0,none⟩ n cap xs hown.1 holds a m c news hl hnews ω (by simp only [maxLen] at h63;omega) (growslice_fits ω hbytes);have he:=hr.symm.trans hr2
   injection he with he1 he2
   subst he1;exact fun b hb=>.inr (by simp only [Value.ownBlock,Option.some.injEq] at hb;omega)
structure Zbm (W w1:World) (B:Nat) (v v':Value):Prop where
 below:Below B W w1
 keep:∀ i,i<W.heap.size->v.ownBlock≠some i->w1.heap[i]?=W.heap[i]?
 which:∀ b,v'.ownBlock=some b->v.ownBlock=some b\/W.heap.size<=b
theorem Zbm.refl (W:World)(B:Nat)(v:Value):Zbm W W B v v:=⟨Below.refl _ _,fun _ _ _=>rfl,fun _ h=>Or.inl h⟩
theorem Zbm.trans {W w1 w2:World}{B:Nat}{v v1 v2:Value}(h:Zbm W w1 B v v1)(k:Zbm w1 w2 B v1 v2):Zbm W w2 B v v2:=
 ⟨h.below.trans k.below,fun i hi hne=>by
  rw [k.keep i (Nat.lt_of_lt_of_le hi h.below.size) (fun e=>by
   rcases h.which i e with e2 | e2
   ·exact hne e2
   ·omega),h.keep i hi hne],fun b hb=>by
  rcases k.which b hb with e | e
  ·exact h.which b e
  ·exact Or.inr (Nat.le_trans h.below.size e)⟩
theorem Zbm.of_below {W w1:World}{B:Nat}{v:Value}(h:Below W.heap.size W w1)(hB:B<=W.heap.size):Zbm W w1 B v v:=
 ⟨h.mono hB,fun i hi _=>h.block i hi,fun _ hb=>Or.inl hb⟩
namespace Enc
variable {α:Type} {E:Enc α}
theorem appW {T S:TypeId}{bytes:Nat}(hE:E.Elem T S bytes){ops:Array Oper}{rest:List Oper}{o:Oper}{a:Act}{Q:Exit->Act->World->Prop}(V:World)
  (hg:o.guard=none) (s x:Operand) (hop:o.op=Op.call { callee:=Callee.builtin Builtin.append,args:=#[s,x],argTypes:=#[S,S] })
  (ys:List α) (B:Nat) (l:List α) (v:Value) (b2 o2 c2:Nat) (hs:a.eval s=v) (hx:a.eval x=.slice (some ⟨b2,o2,none⟩) ys.length c2)
  (hys:E.At V (some ⟨b2,o2,none⟩) ys) (hown:E.Own T B V v l) (b1:l.length+ys.length<=1152921504606846976) (b3:(l.length+ys.length)*bytes<=140737488355328) (hB:B<=V.heap.size)
  (hK:∀ v' w1,E.Own T B w1 v' (l++ys)->Zbm V w1 B v v'->wpList Tryz.prog ops Q rest (a.put o.dst v') w1) :
  wpList Tryz.prog ops Q (o :: rest) a V:=by
 obtain⟨z,hz,hzs⟩:=hE.info;obtain⟨i0,hi,hz0,hz1,hz2⟩:=Zda hz;have hone:∀ u∈E.flat ys,u.oneCell'=true:=fun u hu=>by
  unfold flat at hu;obtain⟨q,hq,huq⟩:=List.mem_flatten.1 hu;obtain⟨y,_,rfl⟩:=List.mem_map.1 hq;exact E.one y u huq
 obtain⟨v',w1,hr,hown',hgrow,hwh⟩:=Ztn (P:=Tryz.prog) V B S o.type T i0 z E.size bytes hE.sl hi hz0 hz1 hz2 hzs E.pos v l.length (E.flat l) hown ⟨b2,o2,none⟩ ys.length c2 (E.flat ys) (E.flat_len ys) (fun j u hj=>by rw [Zrh];exact hys.cells j u hj) hone (by unfold maxLen;omega) b3 hB;refine wpList_plain hg fun K hKK=>?_
 unfold Oper.wp execOp;simp only [hop,resolve,invoke,builtin,Sem.run_bind,Sem.run_pure,Result.andThen_ok,List.map_toArray,List.map_cons,List.map_nil,hs,hx,hr];refine hKK _ _ (hK v' w1 ?_ ⟨?_,fun i hi hne=>?_,hwh⟩)
 ·show w1.ownsRow B T E.size v' (l++ys).length (E.flat (l++ys));rw [E.flat_append,List.length_append];exact hown'
 ·exact (Below.refl _ _).grown hgrow hB (fun j hj=>(hown.lt j hj).1)
 ·exact hgrow.block i hi (fun e=>hne e.symm)
end Enc
structure Ins where
 op:Int
 d:Int
 a:Int
 b:Int
 imm:Int
 loc:List UInt8
 label:List UInt8
 fence:Int
structure Ini where
 th:Int
 rg:Int
 loc:List UInt8
 vl:List UInt8
 vn:Int
structure Tst where
 arch:Int
 name:List UInt8
 cycle:List UInt8
 init:List Ini
 code:List (List Ins)
 q:Int
 k:Int
 t:Int
 r:Int
 l:List UInt8
 v:Int
 kids:Fr
def Zco (w:World)(A:Option Addr)(c:List Ins):Prop:=∀ i x,c[i]?=some x->∃ b o,A=some ⟨b,o,none⟩/\w.cell? ⟨b,o+i*8,none⟩=some (.int .i64 x.op)/\w.cell? ⟨b,o+i*8+1,none⟩=some (.int .i64 x.d)/\w.cell? ⟨b,o+i*8+2,none⟩=some (.int .i64 x.a)/\w.cell? ⟨b,o+i*8+3,none⟩=some (.int .i64 x.b)/\
  w.cell? ⟨b,o+i*8+4,none⟩=some (.int .i64 x.imm)/\w.cell? ⟨b,o+i*8+5,none⟩=some (.string ⟨x.loc.toArray⟩)/\w.cell? ⟨b,o+i*8+6,none⟩=some (.string ⟨x.label.toArray⟩)/\w.cell? ⟨b,o+i*8+7,none⟩=some (.int .i64 x.fence)/\x.loc.length<=9223372036854775807/\x.label.length<=9223372036854775807
def Zjz (w:World)(A:Option Addr)(cs:List (List Ins)):Prop:=∀ i c,cs[i]?=some c->∃ b o A2 c2,A=some ⟨b,o,none⟩/\w.cell? ⟨b,o+i,none⟩=some (.slice A2 c.length c2)/\Zco w A2 c/\c.length<=9223372036854775806/\c.length<=c2
def Zjm (w:World)(A:Option Addr)(c:List Ini):Prop:=∀ i x,c[i]?=some x->∃ b o,A=some ⟨b,o,none⟩/\w.cell? ⟨b,o+i*5,none⟩=some (.int .i64 x.th)/\w.cell? ⟨b,o+i*5+1,none⟩=some (.int .i64 x.rg)/\w.cell? ⟨b,o+i*5+2,none⟩=some (.string ⟨x.loc.toArray⟩)/\w.cell? ⟨b,o+i*5+3,none⟩=some (.string ⟨x.vl.toArray⟩)/\
  w.cell? ⟨b,o+i*5+4,none⟩=some (.int .i64 x.vn)/\x.loc.length<=9223372036854775807/\x.vl.length<=9223372036854775807/\(-9223372036854775808<=x.th/\x.th<=9223372036854775807)/\-9223372036854775808<=x.rg/\x.rg<=9223372036854775807
theorem Zco.below {w w':World}{A:Option Addr}{c:List Ins}(h:Zco w A c)(hb:Below w.heap.size w w'):Zco w' A c:=fun i x hx=>by
 obtain⟨b,o,e,h0,h1,h2,h3,h4,h5,h6,h7,h8,h9⟩:=h i x hx;exact⟨b,o,e,Zac h0 hb,Zac h1 hb,Zac h2 hb,Zac h3 hb,Zac h4 hb,Zac h5 hb,Zac h6 hb,Zac h7 hb,h8,h9⟩
theorem Zjz.below {w w':World}{A:Option Addr}{c:List (List Ins)}(h:Zjz w A c)(hb:Below w.heap.size w w'):Zjz w' A c:=fun i x hx=>by
 obtain⟨b,o,A2,c2,e,h0,h1,h2⟩:=h i x hx;exact⟨b,o,A2,c2,e,Zac h0 hb,h1.below hb,h2⟩
theorem Zjm.below {w w':World}{A:Option Addr}{c:List Ini}(h:Zjm w A c)(hb:Below w.heap.size w w'):Zjm w' A c:=fun i x hx=>by
 obtain⟨b,o,e,h0,h1,h2,h3,h4,h5,h6⟩:=h i x hx;exact⟨b,o,e,Zac h0 hb,Zac h1 hb,Zac h2 hb,Zac h3 hb,Zac h4 hb,h5,h6⟩
abbrev Zbr (T:Tst)(iv cv kv:Value):Value:=.agg #[.int .i64 T.arch,.string ⟨T.name.toArray⟩,.string ⟨T.cycle.toArray⟩,iv,cv,.int .i64 T.q,.int .i64 T.k,.int .i64 T.t,.int .i64 T.r,.string ⟨T.l.toArray⟩,.int .i64 T.v,kv]
structure Zcb (w:World) (T:Tst) (Ai Ac:Option Addr) (kv:Value):Prop where
 init:Zjm w Ai T.init
 code:Zjz w Ac T.code
 kids:Zec w w.heap.size kv T.kids
 ilen:T.init.length<=9223372036854775806
 clen:T.code.length<=9223372036854775806
 nlen:T.name.length<=9223372036854775807
 ylen:T.cycle.length<=9223372036854775807
 llen:T.l.length<=9223372036854775807
theorem Zcb.below {w w':World}{T:Tst}{Ai Ac:Option Addr}{kv:Value}(h:Zcb w T Ai Ac kv)(hb:Below w.heap.size w w'):Zcb w' T Ai Ac kv:=
 ⟨h.init.below hb,h.code.below hb,(Zec.below h.kids (Nat.le_refl _) hb).up hb.size,h.ilen,h.clen,h.nlen,h.ylen,h.llen⟩
end Go.Proofs.YtdfmcfppoohckaaGreatDoor
namespace Go.Proofs
open Go.Shelf
def Tryz.sortTh_ren:Go.Shelf.Ren:=⟨fun | 6=>104 | 15=>114 | 14=>146 | 28=>157 | 29=>158 | 20=>182 | 21=>183 | 22=>184 | 23=>185 | 24=>186 | 25=>187 | 26=>188 | 27=>189 | 46=>213 | 47=>192 | 48=>193 | 49=>214 | 50=>215 | 57=>224 | n=>n,fun | 22=>38 | 24=>25 | 25=>159 | 3=>3 | 39=>105 | 0=>0 | 53=>206 | 55=>70 | 4=>4 | 46=>200 | 45=>199 | 50=>63 | 5=>5 | 9=>9 | 66=>225 | 70=>229 | 76=>242 | 77=>243 | n=>n,fun | n=>n⟩
theorem Tryz.sortTh:Go.Proofs.SlLaysF0.n6 Tryz.prog Tryz.sortTh_ren:={
 mixed:=by kernel_rfl
 f6:=⟨Tryz.f104.name,by decide,Tryz.func104.trans (congrArg some (by kernel_rfl))⟩
 f14:=⟨Tryz.f146.name,by decide,Tryz.func146.trans (congrArg some (by kernel_rfl))⟩
 f15:=Tryz.func114.trans (congrArg some (by kernel_rfl))
 f20:=⟨Tryz.f182.name,by decide,Tryz.func182.trans (congrArg some (by kernel_rfl))⟩
 f21:=⟨Tryz.f183.name,by decide,Tryz.func183.trans (congrArg some (by kernel_rfl))⟩
 f22:=⟨Tryz.f184.name,by decide,Tryz.func184.trans (congrArg some (by kernel_rfl))⟩
 f23:=⟨Tryz.f185.name,by decide,Tryz.func185.trans (congrArg some (by kernel_rfl))⟩
 f24:=⟨Tryz.f186.name,by decide,Tryz.func186.trans (congrArg some (by kernel_rfl))⟩
 f25:=⟨Tryz.f187.name,by decide,Tryz.func187.trans (congrArg some (by kernel_rfl))⟩
 f26:=⟨Tryz.f188.name,by decide,Tryz.func188.trans (congrArg some (by kernel_rfl))⟩
 f27:=⟨Tryz.f189.name,by decide,Tryz.func189.trans (congrArg some (by kernel_rfl))⟩
 f28:=Tryz.func157.trans (congrArg some (by kernel_rfl))
 f29:=Tryz.func158.trans (congrArg some (by kernel_rfl))
 f46:=⟨Tryz.f213.name,by decide,Tryz.func213.trans (congrArg some (by kernel_rfl))⟩
 f47:=Tryz.func192.trans (congrArg some (by kernel_rfl))
 f48:=Tryz.func193.trans (congrArg some (by kernel_rfl))
 f49:=⟨Tryz.f214.name,by decide,Tryz.func214.trans (congrArg some (by kernel_rfl))⟩
 f50:=⟨Tryz.f215.name,by decide,Tryz.func215.trans (congrArg some (by kernel_rfl))⟩
 f57:=⟨Tryz.f224.name,by decide,Tryz.func224.trans (congrArg some (by kernel_rfl))⟩
 t0:=Tryz.underlying0
 a0:=Tryz.isAgg0
 z0:=Tryz.sizeOf0
 v0:=Tryz.zeroValue0
 t3:=Tryz.underlying3
 a3:=Tryz.isAgg3
 z3:=Tryz.sizeOf3
 v3:=Tryz.zeroValue3
 t4:=Tryz.underlying4
 a4:=Tryz.isAgg4
 z4:=Tryz.sizeOf4
 v4:=Tryz.zeroValue4
 t5:=Tryz.underlying5
 a5:=Tryz.isAgg5
 z5:=Tryz.sizeOf5
 v5:=Tryz.zeroValue5
 t9:=Tryz.underlying9
 a9:=Tryz.isAgg9
 z9:=Tryz.sizeOf9
 v9:=Tryz.zeroValue9
 t22:=Tryz.underlying38
 a22:=Tryz.isAgg38
 z22:=Tryz.sizeOf38
 v22:=Tryz.zeroValue38
 t25:=Tryz.underlying159
 a25:=Tryz.isAgg159
 z25:=Tryz.sizeOf159
 v25:=Tryz.zeroValue159
 t39:=Tryz.underlying105
 a39:=Tryz.isAgg105
 z39:=Tryz.sizeOf105
 v39:=Tryz.zeroValue105
 t45:=Tryz.underlying199
 a45:=Tryz.isAgg199
 z45:=Tryz.sizeOf199
 v45:=Tryz.zeroValue199
 t46:=Tryz.underlying200
 a46:=Tryz.isAgg200
 z46:=Tryz.sizeOf200
 v46:=Tryz.zeroValue200
 t50:=Tryz.underlying63
 a50:=Tryz.isAgg63
 z50:=Tryz.sizeOf63
 v50:=Tryz.zeroValue63
 t53:=Tryz.underlying206
 a53:=Tryz.isAgg206
 z53:=Tryz.sizeOf206
 v53:=Tryz.zeroValue206
 t55:=Tryz.underlying70
 a55:=Tryz.isAgg70
 z55:=Tryz.sizeOf70
 v55:=Tryz.zeroValue70
 t66:=Tryz.underlying225
 a66:=Tryz.isAgg225
 z66:=Tryz.sizeOf225
 v66:=Tryz.zeroValue225
 t70:=Tryz.underlying229
 a70:=Tryz.isAgg229
 z70:=Tryz.sizeOf229
 v70:=Tryz.zeroValue229
 t76:=Tryz.underlying242
 a76:=Tryz.isAgg242
 z76:=Tryz.sizeOf242
 v76:=Tryz.zeroValue242
 t77:=Tryz.underlying243
 a77:=Tryz.isAgg243
 z77:=Tryz.sizeOf243
 v77:=Tryz.zeroValue243 }
def Tryz.cloneTh_ren:Go.Shelf.Ren:=⟨fun | 41=>54 | n=>n,fun | 22=>38 | 23=>25 | 4=>4 | n=>n,fun | n=>n⟩
theorem Tryz.cloneTh:Go.Proofs.SlLaysE0.n41 Tryz.prog Tryz.cloneTh_ren:={
 mixed:=by kernel_rfl
 f41:=⟨Tryz.f54.name,by decide,Tryz.func54.trans (congrArg some (by kernel_rfl))⟩
 t4:=Tryz.underlying4
 a4:=Tryz.isAgg4
 z4:=Tryz.sizeOf4
 v4:=Tryz.zeroValue4
 t22:=Tryz.underlying38
 a22:=Tryz.isAgg38
 z22:=Tryz.sizeOf38
 v22:=Tryz.zeroValue38 }
end Go.Proofs
namespace Go.Proofs.YtdfmcfppoohckaaGreatDoor
open Go.RowKit
open Go.Sort
open Go.Sort (sorted_unique_holds flatK size_flatK get_flatK HoldsK)
instance Z62:Inhabited VTh:=⟨⟨(0,0,[]),by decide⟩⟩
def Zrr (x:VTh):List Value:=Zf3 x.1
theorem Zux (blk off size:Nat)(w:World):CmpLays Tryz.prog 105 #[] Zrr 3 (fun x y=>Zbu x.1 y.1) blk off size w:=fun m os dk _ x y=>by
 obtain⟨⟨t,r,l⟩,hx⟩:=x;obtain⟨⟨t',r',l'⟩,hy⟩:=y;have px:=Zfk ⟨(t,r,l),hx⟩;have py:=Zfk ⟨(t',r',l'),hy⟩;simp only at px py;exact Z51 (t:=t) (r:=r) (l:=l) (t':=t') (r':=r') (l':=l') ω ω ω ω ω ω ω ω
theorem Z7i (blk cap:Nat)(d:Array VTh)(w:World)(hH:HoldsK Zrr 3 w blk 0 d)(hblk:blk<w.heap.size)(hsz:d.size<4611686018427387904) :
  Calls Tryz.prog 104 #[.slice (some ⟨blk,0,none⟩) d.size cap,.func (.func 105) #[] #[]] w fun e w'=>
   e=.returned (.tuple #[])/\∃ d' n os,PermIn 0 d.size d d'/\SortedIn ltT 0 d.size d'/\w'=sortWorldK Zrr 3 w blk 0 n d' os:=by
 have eg:∀ args w,(callFunc 105 args).run Tryz.prog w=.ok (.enter 105 args) w:=enters_of Tryz.func105 κ rfl;exact AnyQ.slices_SortFunc Tryz.sortTh 3 Tryz.isAgg25 Tryz.sizeOf25 Zrr (fun _=>rfl) (fun x v hv=>by simp [Zrr,Zf3] at hv;rcases hv with rfl | rfl | rfl <;> rfl) (fun x y=>Zbu x.1 y.1) Zgb 105 #[] blk 0 cap d w eg (Zux blk 0 d.size w) hH hblk hsz
def leT (x y:Th):Bool:=!decide (Zbu y x<0)
def Zft (L:List Th):List Th:=L.mergeSort leT
def Zfn (x:Th):Prop:=Za9 2 x.1 x.2.1 x.2.2=true
def toV:(L:List Th)->(∀ x∈L,Zfn x)->List VTh
 | [],_=>[]
 | x :: r,h=>⟨x,h x (by simp)⟩ :: toV r (fun y hy=>h y (by simp [hy]))
def Z0k (x:VTh):Th:=x.1
theorem Zre:∀ (L:List Th) (h:∀ x∈L,Zfn x),(toV L h).map Z0k=L
 | [],_=>rfl
 | x :: r,h=>by
  show Z0k _ :: (toV r _).map Z0k=x :: r;rw [Zre r];rfl
theorem Zxe (L:List Th)(h:∀ x∈L,Zfn x):(toV L h).length=L.length:=by
 have:=congrArg List.length (Zre L h);simpa using this
theorem Zsy (L:List Th)(h:∀ x∈L,Zfn x):((toV L h).mergeSort (fun x y=>!ltT y x)).map Z0k=Zft L:=by
 rw [List.map_mergeSort (r:=fun x y=>!ltT y x) (s:=leT) (f:=Z0k) (fun a _ b _=>rfl),Zre];rfl
theorem Zl7:∀ (L:List Th) (i:Nat) (x:Th),L[i]?=some x->(Zay L)[i*3]?=some (.int .i64 x.1)/\(Zay L)[i*3+1]?=some (.int .i64 x.2.1)/\(Zay L)[i*3+2]?=some (.string ⟨x.2.2.toArray⟩)
 | [],_,_,h=>by simp at h
 | y :: r,0,x,h=>by simp at h;subst h;simp [Zay,Zf3]
 | y :: r,i+1,x,h=>by
  have:=Zl7 r i x (by simpa using h);rw [show (i+1)*3=i*3+3 by omega];simpa [Zay,Zf3] using this
theorem Zl4 {w:World}{blk n:Nat}{d:Array VTh}{os:Array Obj}{i:Nat}(hi:i<w.heap.size)(hne:i≠blk):(sortWorldK Zrr 3 w blk 0 n d os).heap[i]?=w.heap[i]?:=by
 have h1:(Sort.mapBlock (Sort.ahead w n) blk (Sort.putCells id 0 (flatK Zrr 3 d))).heap[i]?=w.heap[i]?:=by
  simp only [Sort.mapBlock,Array.getElem?_modify];rw [if_neg (fun e=>hne e.symm)];rfl
 have h2:(Sort.grow (Sort.mapBlock (Sort.ahead w n) blk (Sort.putCells id 0 (flatK Zrr 3 d))) os).heap[i]?=(Sort.mapBlock (Sort.ahead w n) blk (Sort.putCells id 0 (flatK Zrr 3 d))).heap[i]?:=Sort.heap_grow_old _ _ (by simp [Sort.mapBlock];exact hi);exact h2.trans h1
theorem Ztw {w:World}{blk n B:Nat}{d:Array VTh}{os:Array Obj}(hB:B<=blk)(hblk:blk<w.heap.size):Below B w (sortWorldK Zrr 3 w blk 0 n d os):=
 ⟨rfl,rfl,rfl,by show w.heap.size<=((w.heap.modify blk _)++os).size;simp,fun i hi=>Zl4 ω ω⟩
theorem Zhc:∀ (L:List Th) (j:Nat),j<L.length*3->(Zay L)[j]?=(Zf3 (L.getD (j / 3) (0,0,[])))[j % 3]?
 | [],_,h=>by simp at h
 | y :: r,0,_=>by simp [Zay,Zf3]
 | y :: r,1,_=>by simp [Zay,Zf3]
 | y :: r,2,_=>by simp [Zay,Zf3]
 | y :: r,j+3,h=>by
  have:=Zhc r j (by simp at h;omega);rw [show (j+3) / 3=j / 3+1 by omega,show (j+3) % 3=j % 3 by omega];simpa [Zay,Zf3] using this
theorem Zxz {α:Type}[Inhabited α](a:α)(l:List α)(i:Nat):(a :: l).toArray[i+1]! = l.toArray[i]!:=by simp
theorem Zxd:∀ (L:List Th) (h:∀ x∈L,Zfn x) (i:Nat),i<L.length->((toV L h).toArray[i]!).1=L.getD i (0,0,[])
 | [],_,_,hi=>by simp at hi
 | x :: r,h,0,_=>rfl
 | x :: r,h,i+1,hi=>by
  have:=Zxd r (fun y hy=>h y (by simp [hy])) i (by simpa using hi);exact (congrArg Subtype.val (Zxz (α:=VTh) _ _ i)).trans this
theorem Zvm {w:World}{B g cap:Nat}{L:List Th}(hv:∀ x∈L,Zfn x)(ho:w.ownsRow B 25 3 (.slice (some ⟨g,0,none⟩) L.length cap) L.length (Zay L)):HoldsK Zrr 3 w g 0 (toV L hv).toArray:=by
 intro j hj;rw [size_flatK] at hj;have hsz:(toV L hv).toArray.size=L.length:=by simp [Zxe]
 rw [hsz] at hj;rw [Nat.zero_add,ho.cellAt j hj,get_flatK _ _ _ _ (by rw [hsz];exact hj),Zhc L j hj];refine⟨?_,ho.frozenAt j⟩;show _=some ((Zf3 ((toV L hv).toArray[j / 3]!).1)[j % 3]!);rw [Zxd L hv (j / 3) ω];have h3:j % 3<(Zf3 (L.getD (j / 3) (0,0,[]))).length:=by simp [Zf3];omega
 rw [List.getElem?_eq_getElem h3];exact congrArg some (getElem!_pos (Zf3 (L.getD (j / 3) (0,0,[]))) (j % 3) h3).symm
def Zt8 (w:World)(g:Nat)(T:List Th):Prop:=∀ i x,T[i]?=some x->w.cell? ⟨g,i*3,none⟩=some (.int .i64 x.1)/\w.cell? ⟨g,i*3+1,none⟩=some (.int .i64 x.2.1)/\w.cell? ⟨g,i*3+2,none⟩=some (.string ⟨x.2.2.toArray⟩)
theorem Z20 {d:Array VTh}{T:List Th}(h:d.toList.map Z0k=T){i:Nat}{x:Th}(hx:T[i]?=some x):i<d.size/\(d[i]!).1=x:=by
 subst h;simp only [List.getElem?_map,Option.map_eq_some_iff] at hx;obtain⟨y,hy,rfl⟩:=hx;obtain⟨h1,rfl⟩:=List.getElem?_eq_some_iff.1 hy;have h2:i<d.size:=by simpa using h1
 exact⟨h2,by rw [getElem!_pos d i h2];rfl⟩
theorem Zqt {w:World}{g:Nat}{d:Array VTh}{T:List Th}(hH:HoldsK Zrr 3 w g 0 d)(hT:d.toList.map Z0k=T):Zt8 w g T:=by
 intro i x hx;obtain⟨hi,hv⟩:=Z20 hT hx;have key:∀ j,j<3->w.cell? ⟨g,i*3+j,none⟩=some ((Zf3 x)[j]!):=by
  intro j hj;have h1:=(hH (i*3+j) (by rw [size_flatK];omega)).1;rw [Nat.zero_add,get_flatK _ _ _ _ ω] at h1;rw [show (i*3+j) / 3=i by omega,show (i*3+j) % 3=j by omega] at h1;rw [h1];show some ((Zf3 (d[i]!).1)[j]!)=_;rw [hv]
 exact⟨key 0 ω,key 1 ω,key 2 ω⟩
theorem Zgw (L:List Th):(Zft L).Perm L:=List.mergeSort_perm _ _
theorem Zkr (L:List Th):(Zft L).length=L.length:=(Zgw L).length_eq
theorem Zzz {w:World}{B:Nat}{t:TypeId}{z n:Nat}{v:Value}{cs:List Value}(h:w.ownsRow B t z v n cs)(hn:0<n):∃ g cap,v=.slice (some ⟨g,0,none⟩) n cap:=by
 rcases h.2 with ⟨_,rfl⟩ | ⟨g,cap,cur,rfl,_⟩
 ·omega
 ·exact⟨g,cap,rfl⟩
theorem Zty {w:World}{g:Nat}{T:List Th}(h:Zt8 w g T)(j:Nat)(u:Value)(hu:(Zay T)[j]?=some u):w.cell? ⟨g,0+j,none⟩=some u:=by
 have hj:j<T.length*3:=by
  obtain⟨h1,_⟩:=List.getElem?_eq_some_iff.1 hu
  rwa [Zfu] at h1
 rw [Zhc T j hj] at hu;have h3:j / 3<T.length:=ω;obtain⟨x,hx⟩:∃ x,T[j / 3]?=some x:=⟨_,List.getElem?_eq_getElem h3⟩;rw [show T.getD (j / 3) (0,0,[])=x by simp [List.getD,hx]] at hu;obtain⟨c0,c1,c2⟩:=h _ _ hx;have hjm:j % 3<3:=ω;rw [Nat.zero_add];by_cases m0:j % 3=0
 ·rw [m0] at hu;rw [show j / 3*3=j by omega] at c0;exact c0.trans (by simpa [Zf3] using hu)
 by_cases m1:j % 3=1
 ·rw [m1] at hu;rw [show j / 3*3+1=j by omega] at c1;exact c1.trans (by simpa [Zf3] using hu)
 have m2:j % 3=2:=ω;rw [m2] at hu;rw [show j / 3*3+2=j by omega] at c2;exact c2.trans (by simpa [Zf3] using hu)
theorem Z30 {w:World}{B g cap:Nat}{T:List Th}(h:w.ownsRow B 25 3 (.slice (some ⟨g,0,none⟩) T.length cap) T.length (Zay T)):Zt8 w g T:=by
 intro i x hx;obtain⟨h1,_⟩:=List.getElem?_eq_some_iff.1 hx;obtain⟨a,b,c⟩:=Zl7 T i x hx;exact⟨(h.cellAt (i*3) ω).trans a,(h.cellAt (i*3+1) ω).trans b,(h.cellAt (i*3+2) ω).trans c⟩
theorem Z5n:∀ (T:List Th) (u:Value),u∈Zay T->u.oneCell'=true
 | [],_,h=>by simp [Zay] at h
 | x :: r,u,h=>by
  simp only [Zay,List.mem_append] at h;rcases h with h | h
  ·simp [Zf3] at h;rcases h with rfl | rfl | rfl <;> rfl
  ·exact Z5n r u h
end Go.Proofs.YtdfmcfppoohckaaGreatDoor
namespace Go.Proofs.YtdfmcfppoohckaaGreatDoor
open Go.RowKit
open Go.Lib (compactUpTo keeps CompInv)
open Go.Sort (sorted_unique_holds flatK size_flatK get_flatK HoldsK)
open Go.Lib (compactUpTo)
theorem Zpi (x y:Th)(w:World):(binOp .neq 25 (Zek x.1 x.2.1 x.2.2) (Zek y.1 y.2.1 y.2.2)).run Tryz.prog w=.ok (.bool (!decide (x=y))) w:=by
 have hp:Tryz.prog.stoodInHeld 25=false:=by kernel_rfl
 have u3:=Tryz.underlying3;have a3:=Tryz.isAgg3;have z3:=Tryz.sizeOf3;have u9:=Tryz.underlying9;have a9:=Tryz.isAgg9;have z9:=Tryz.sizeOf9;obtain⟨t,r,l⟩:=x;obtain⟨t',r',l'⟩:=y;rw [run_neq_struct,show (10000:Nat)=9999+1 from rfl,run_equalIn_agg w 9999 25 _ _ Zjg hp];simp only [Program.fieldsOf,Tryz.underlying25];go_simp;by_cases h1:t=t' <;> by_cases h2:r=r' <;> by_cases h3:l=l' <;> simp [h1,h2,h3]
def Zg4 (w:World)(g:Nat)(d:Array Th):Prop:=(∀ j,j<d.size->w.cell? ⟨g,j*3,none⟩=some (.int .i64 (d[j]!).1)/\w.cell? ⟨g,j*3+1,none⟩=some (.int .i64 (d[j]!).2.1)/\w.cell? ⟨g,j*3+2,none⟩=some (.string ⟨(d[j]!).2.2.toArray⟩))/\∀ o,o<d.size*3->w.frozen? ⟨g,o,none⟩=false
abbrev Z8b (w:World)(g k:Nat)(x:Th):World:=((w.setCell ⟨g,k*3,none⟩ (.int .i64 x.1)).setCell ⟨g,k*3+1,none⟩ (.int .i64 x.2.1)).setCell ⟨g,k*3+2,none⟩ (.string ⟨x.2.2.toArray⟩)
theorem Zg4.put {w:World}{g k:Nat}{d:Array Th}(h:Zg4 w g d)(hk:k<d.size)(x:Th):Zg4 (Z8b w g k x) g (d.setIfInBounds k x):=by
 refine⟨fun j hj=>?_,fun o ho=>by rw [World.frozen?_setCell,World.frozen?_setCell,World.frozen?_setCell];exact h.2 o (by simpa using ho)⟩;simp only [Array.size_setIfInBounds] at hj;by_cases e:j=k
 ·subst e;obtain⟨a,b,c⟩:=h.1 j hj;rw [Sort.getElem!_set_same d j x hj];refine⟨?_,?_,?_⟩
  ·exact Zc2 (Zc2 (Zh5 (by rw [a];rfl)) ω) ω
  ·exact Zc2 (Zh5 (Zix (by rw [b];rfl))) ω
  ·exact Zh5 (Zix (Zix (by rw [c];rfl)))
 ·obtain⟨a,b,c⟩:=h.1 j hj;rw [Sort.getElem!_set_other d k j x e];refine⟨?_,?_,?_⟩
  ·exact Zc2 (Zc2 (Zc2 a ω) ω) ω
  ·exact Zc2 (Zc2 (Zc2 b ω) ω) ω
  ·exact Zc2 (Zc2 (Zc2 c ω) ω) ω
theorem Zg4.drewN {w:World}{g n:Nat}{d:Array Th}(h:Zg4 w g d):Zg4 (w.drewN n) g d:=h
def Zik (n:Nat):List Value:=(Builtin.zeroCells #[.int .i64 0,.int .i64 0,.string ⟨#[]⟩] n).toList
theorem Zmc (n:Nat):(Zik n).length=n*3:=by simp [Zik,Builtin.zeroCells]
theorem Zt4 (n:Nat):∀ v∈Zik n,v.oneCell'=true:=by
 intro v hv;simp only [Zik,Builtin.zeroCells,Array.toList_map,List.mem_map] at hv;obtain⟨i,_,rfl⟩:=hv;have h3:i % 3<3:=ω;have:i % 3=0\/i % 3=1\/i % 3=2:=ω;rcases this with e | e | e
 ·rw [show (#[Value.int .i64 0,.int .i64 0,.string ⟨#[]⟩]:Array Value).size=3 from rfl,e];rfl
 ·rw [show (#[Value.int .i64 0,.int .i64 0,.string ⟨#[]⟩]:Array Value).size=3 from rfl,e];rfl
 ·rw [show (#[Value.int .i64 0,.int .i64 0,.string ⟨#[]⟩]:Array Value).size=3 from rfl,e];rfl
theorem Zpr (w:World)(ty:TypeId)(b o n c:Nat)(hn:0<n)(hc:∀ j,j<n*3->(w.cell? ⟨b,o+j,none⟩).isSome=true)(hf:∀ j,j<n*3->w.frozen? ⟨b,o+j,none⟩=false) :
  (Builtin.clear_ #[38] ty #[.slice (some ⟨b,o,none⟩) n c]).run Tryz.prog w=.ok (.tuple #[]) (w.setCells b o (Zik n)):=by
 have hst:=run_storeCells_cells (P:=Tryz.prog) b o (Zik n) 0 w (by rw [Zmc];simpa using hc) (by rw [Zmc];simpa using hf) (Zt4 n);simp only [Nat.add_zero] at hst;obtain⟨m,rfl⟩:∃ m,n=m+1:=⟨n - 1,ω⟩;have hz:(Builtin.zeroCells (Value.agg #[.int .i64 0,.int .i64 0,.string ⟨#[]⟩]).cells (m+1)).toList=Zik (m+1):=rfl;simp [Builtin.clear_,run_underlying Tryz.underlying38,hz,hst]
theorem Zhz (g:Nat):∀ (vs:List Value) (o:Nat) (a w:World),Ze8 g a w->Ze8 g a (w.setCells g o vs)
 | [],_,_,_,h=>h
 | v :: r,o,a,w,h=>Zhz g r (o+1) a (w.setCell ⟨g,o,none⟩ v) (h.set o v)
def Zoa (d:Array Th)(g cap:Nat)(w:World)(e:Ending)(w':World):Prop:=e=.returned (.slice (some ⟨g,0,none⟩) (compactUpTo d d.size).length cap)/\Zt8 w' g (compactUpTo d d.size)/\Ze8 g w w'
theorem Zoa.same {d:Array Th}{g cap:Nat}{w w':World}(hM:Zg4 w g d)(hall:∀ j,j<d.size->keeps d j=true)(ho:Below w.heap.size w w')(_hg:g<w.heap.size):Zoa d g cap w (.returned (.slice (some ⟨g,0,none⟩) d.size cap)) w':=by
 have e:compactUpTo d d.size=d.toList:=by rw [Lib.compactUpTo_all d _ hall,Lib.range_map_get]
 refine⟨by rw [e];rfl,?_,Ze8.of_below ho⟩;rw [e];intro i x hx;obtain⟨hi,hxe⟩:=List.getElem?_eq_some_iff.1 hx;have hi':i<d.size:=by simpa using hi
 have hx':d[i]! = x:=by rw [getElem!_pos d i hi',<- hxe];rfl
 obtain⟨a,b,c⟩:=hM.1 i hi';rw [hx'] at a b c;exact⟨Zac a ho,Zac b ho,Zac c ho⟩
theorem Zoa.dup {d dk:Array Th}{g cap kk:Nat}{w wr:World}(hI:CompInv d d.size kk dk)(hM:Zg4 wr g dk)(ho:Ze8 g w wr)(n:Nat):Zoa d g cap w (.returned (.slice (some ⟨g,0,none⟩) kk cap)) (wr.setCells g (kk*3) (Zik n)):=by
 refine⟨by rw [hI.len],fun i x hx=>?_,Zhz _ _ _ _ _ ho⟩;obtain⟨hi,_⟩:=List.getElem?_eq_some_iff.1 hx;rw [hI.len] at hi;have hlow:=hI.low i hi;rw [hx] at hlow
 injection hlow with hlow
 have hkk:=hI.lt;have hsz:=hI.size;obtain⟨a,b,c⟩:=hM.1 i ω;rw [<- hlow] at a b c;refine⟨?_,?_,?_⟩
 ·rw [World.cell?_setCells_out g _ _ _ _ (fun _ _=>.inl (by dsimp only;omega))];exact a
 ·rw [World.cell?_setCells_out g _ _ _ _ (fun _ _=>.inl (by dsimp only;omega))];exact b
 ·rw [World.cell?_setCells_out g _ _ _ _ (fun _ _=>.inl (by dsimp only;omega))];exact c
section
variable {w:World}
set_option maxHeartbeats 2000000 in
set_option maxRecDepth 100000 in
theorem Zys (g cap:Nat)(d:Array Th)(hlen:d.size<=1000000)(hcap:d.size<=cap)(hM:Zg4 w g d)(hg:g<w.heap.size) :
  Calls Tryz.prog 106 #[.slice (some ⟨g,0,none⟩) d.size cap] w (Zoa d g cap w):=by
 have HM:=Zh hM;by_cases h2:d.size<2
 ·have HS:=Zh (Zoa.same (cap:=cap) HM.o (fun j hj=>Lib.keeps_lt_one d j ω) (Below.refl _ _) hg);go_enter Tryz.func106,Tryz.ntmps106
  go_wp2_with fail
  go_ret;exact HS.o
 ·have hd2:decide (d.size<2)=false:=by simpa using h2
  go_enter Tryz.func106,Tryz.ntmps106
  go_wp2_with fail
  go_loopw [3] (fun i wr=>∃ j:Nat,1<=j/\j<=d.size/\i=.int .i64 j/\Below w.heap.size w wr/\∀ i,i<j->keeps d i=true) (fun i _=>d.size - (intOf i).toNat)
  case atStart=>exact⟨1,Nat.le_refl _,ω,rfl,Below.refl _ _,Lib.keeps_lt_one d⟩
  case round=>
   obtain⟨j,hj1,hj,rfl,hb,hall⟩:=hrel;have HB:=Zh hb;have HALL:=Zh hall;by_cases hlt:j<d.size
   ·obtain⟨b0,b1,b2⟩:=HM.o.1 (j - 1) ω;obtain⟨c0,c1,c2⟩:=HM.o.1 j hlt;obtain⟨y,hy⟩:∃ y,d[j]! = y:=⟨_,rfl⟩;obtain⟨x,hx⟩:∃ x,d[j - 1]! = x:=⟨_,rfl⟩;rw [hx] at b0 b1 b2;rw [hy] at c0 c1 c2;have HXY:=Zh (show d[j]! = y/\d[j - 1]! = x from⟨hy,hx⟩);have b0r:=Zac b0 HB.o;have b1r:=Zac b1 HB.o;have b2r:=Zac b2 HB.o;have c0r:=Zac c0 HB.o;have c1r:=Zac c1 HB.o;have c2r:=Zac c2 HB.o;have i0:(1:Int)<=(j:Int):=ω;have i1:((j:Int) - 1).toNat=j - 1:=ω;have i2:(0:Int)<=(j:Int) - 1:=ω;have i3:(j:Int) - 1<(d.size:Int):=ω;have i4:IntKind.i64.wrap ((j:Int) - 1)=(j:Int) - 1:=IntWalk.i64_in _ ω;have hl1:(j:Int)<(d.size:Int):=ω;have hgd:=fun (w:World) (op:BinOp) (x y:Operand) (xs ys:Array Value)=>run_eqGuard_agg (P:=Tryz.prog) w op 25 x y xs ys Zkf
    by_cases hdup:y=x
    ·subst hdup;have heq:∀ w,(binOp .eql 25 (Zek y.1 y.2.1 y.2.2) (Zek y.1 y.2.1 y.2.2)).run Tryz.prog w=.ok (.bool true) w:=fun w=>by rw [Zhq,decide_eq_true rfl]
     go_wp2_with fail
     go_quiet (fail)
     go_wp2_with fail
     have HST:=Zh (CompInv.start HALL.o (Lib.keeps_neg (d:=d) (m:=j) ω (by rw [HXY.o.1,HXY.o.2])));have HM0:=Zh (show Zg4 wr g d from⟨fun j hj=>⟨Zac (HM.o.1 j hj).1 HB.o,Zac (HM.o.1 j hj).2.1 HB.o,Zac (HM.o.1 j hj).2.2 HB.o⟩,fun o ho=>Z4z (HM.o.2 o ho) hg HB.o⟩);have HO0:=Zh (show Ze8 g w (wr.drewN nq) from Ze8.of_below (Zam HB.o nq));have HM1:=Zh (show Zg4 (wr.drewN nq) g d from HM0.o);generalize wr.drewN nq=W0 at HO0 HM1;go_loopw [3,5] (fun s3 s5 w2=>∃ (kk k2:Nat) (dk:Array Th),s3=.int .i64 kk/\s5=.int .i64 k2/\1<=k2/\j+k2<=d.size/\Ze8 g w w2/\Zg4 w2 g dk/\CompInv d (j+k2) kk dk) (fun _ s5 _=>d.size - (intOf s5).toNat)
     case atStart=>exact⟨j,1,d,rfl,rfl,Nat.le_refl _,ω,HO0.o,HM1.o,HST.o⟩
     case round=>
      obtain⟨kk,k2,dk,rfl,rfl,h1,hle,hon,hmm,hI⟩:=hrel;have hkk:=hI.lt;have hds:=hI.size;have HON:=Zh hon;have HMM:=Zh hmm;have HI:=Zh hI;by_cases hlt2:j+k2<d.size
      ·obtain⟨p0,p1,p2⟩:=HMM.o.1 (j+k2 - 1) ω;obtain⟨q0,q1,q2⟩:=HMM.o.1 (j+k2) ω;obtain⟨o0,o1,o2⟩:=HMM.o.1 kk ω;obtain⟨v,hv⟩:∃ v,d[j+k2]! = v:=⟨_,rfl⟩;obtain⟨u,hu⟩:∃ u,d[j+k2 - 1]! = u:=⟨_,rfl⟩;rw [HI.o.high _ ω,hu] at p0 p1 p2;rw [HI.o.high _ ω,hv] at q0 q1 q2;rw [show (j+k2 - 1)*3=j*3+(k2 - 1)*3 by omega] at p0 p1 p2;rw [show (j+k2)*3=j*3+k2*3 by omega] at q0 q1 q2;have z0:=HMM.o.2 (kk*3) ω;have z1:=HMM.o.2 (kk*3+1) ω;have z2:=HMM.o.2 (kk*3+2) ω;have HUV:=Zh (show d[j+k2]! = v/\d[j+k2 - 1]! = u from⟨hv,hu⟩);have g0:(1:Int)<=(k2:Int):=ω;have g1:((k2:Int) - 1).toNat=k2 - 1:=ω;have g2:(0:Int)<=(k2:Int) - 1:=ω;have g3:(k2:Int) - 1<((d.size - j:Nat):Int):=ω;have g4:IntKind.i64.wrap ((k2:Int) - 1)=(k2:Int) - 1:=IntWalk.i64_in _ ω;have g5:(k2:Int)<((d.size - j:Nat):Int):=ω;have g6:(kk:Int)<(d.size:Int):=ω;by_cases huv:v=u
       ·subst huv;have hne:∀ w,(binOp .neq 25 (Zek v.1 v.2.1 v.2.2) (Zek v.1 v.2.1 v.2.2)).run Tryz.prog w=.ok (.bool false) w:=fun w=>by rw [Zpi,decide_eq_true rfl];rfl
        go_wp2_with fail
        go_quiet (fail)
        go_wp2_with fail
        go_roundw
        case rel=>exact⟨kk,k2+1,dk,rfl,by go_num,ω,ω,Zlz HON.o _,HMM.o,HI.o.skip (Lib.keeps_neg ω (by rw [HUV.o.1,HUV.o.2]))⟩
        case measure=>exact msr
       ·have hne:∀ w,(binOp .neq 25 (Zek v.1 v.2.1 v.2.2) (Zek u.1 u.2.1 u.2.2)).run Tryz.prog w=.ok (.bool true) w:=fun w=>by rw [Zpi,decide_eq_false huv];rfl
        go_wp2_with fail
        go_quiet (fail)
        go_wp2_with fail
        go_roundw
        case rel=>exact⟨kk+1,k2+1,dk.setIfInBounds kk v,by go_num,by go_num,ω,ω,Ze8.set (Ze8.set (Ze8.set (Zlz HON.o _) _ _) _ _) _ _,(Zg4.drewN HMM.o).put ω v,by have:=HI.o.keep hlt2 (Lib.keeps_pos (by rw [HUV.o.1,HUV.o.2];exact huv));rwa [HUV.o.1] at this⟩
        case measure=>exact msr
      ·have hend:j+k2=d.size:=ω;have hI:=HI.o;rw [hend] at hI;have HRES:=Zh (Zoa.dup (cap:=cap) hI HMM.o HON.o (d.size - kk));have hks:kk<d.size:=hI.lt;have hcl:∀ ty,(Builtin.clear_ #[38] ty #[.slice (some ⟨g,kk*3,none⟩) (d.size - kk) (cap - kk)]).run Tryz.prog wr=.ok (.tuple #[]) (wr.setCells g (kk*3) (Zik (d.size - kk))):=fun ty=>
        Zpr wr ty g (kk*3) (d.size - kk) (cap - kk) ω (fun i hi=>by
         obtain⟨m,hm⟩:∃ m,kk*3+i=m:=⟨_,rfl⟩;rw [hm];obtain⟨a,b,c⟩:=HMM.o.1 (m / 3) ω;have h3:m % 3=0\/m % 3=1\/m % 3=2:=ω;rcases h3 with h3 | h3 | h3
         ·rw [show m / 3*3=m by omega] at a;rw [a];rfl
         ·rw [show m / 3*3+1=m by omega] at b;rw [b];rfl
         ·rw [show m / 3*3+2=m by omega] at c;rw [c];rfl) (fun i _=>HMM.o.2 _ ω)
       go_wp2_with fail
       go_ret;exact HRES.o
    ·have heq:∀ w,(binOp .eql 25 (Zek y.1 y.2.1 y.2.2) (Zek x.1 x.2.1 x.2.2)).run Tryz.prog w=.ok (.bool false) w:=fun w=>by rw [Zhq,decide_eq_false hdup]
     have HK:=Zh (Lib.keeps_pos (d:=d) (m:=j) (by rw [HXY.o.1,HXY.o.2];exact hdup))
     go_wp2_with fail
     go_quiet (fail)
     go_wp2_with fail
     go_roundw
     case rel=>exact⟨j+1,ω,ω,by go_num,Zam HB.o _,fun i hi=>by
      by_cases e:i=j
      ·rw [e];exact HK.o
      ·exact HALL.o i ω⟩
     case measure=>exact msr
   ·have hje:j=d.size:=ω;have HS:=Zh (Zoa.same (cap:=cap) HM.o (fun i hi=>HALL.o i ω) HB.o hg)
    go_wp2_with fail
    go_ret;exact HS.o
end
def Zpz (L:List Th):List Th:=compactUpTo (Zft L).toArray (Zft L).toArray.size
theorem Zvl {w:World}{g:Nat}{d:Array VTh}{T:List Th}(hH:HoldsK Zrr 3 w g 0 d)(hT:d.toList.map Z0k=T):Zg4 w g T.toArray:=by
 have hc:=Zqt hH hT;have hsz:d.size=T.length:=by rw [<- hT];simp
 refine⟨fun j hj=>?_,fun o ho=>?_⟩
 ·have hj':j<T.length:=by simpa using hj
  have:=hc j T[j] (List.getElem?_eq_getElem hj');rw [getElem!_pos T.toArray j hj];simpa using this
 ·have:=(hH o (by rw [size_flatK,hsz];simpa using ho)).2
  rwa [Nat.zero_add] at this
theorem Z7h {w:World}{B g cap:Nat}{L:List Th}(hv:∀ x∈L,Zfn x)(hlen:L.length<=1000000)(ho:w.ownsRow B 25 3 (.slice (some ⟨g,0,none⟩) L.length cap) L.length (Zay L)) :
  Calls Tryz.prog 104 #[.slice (some ⟨g,0,none⟩) L.length cap,.func (.func 105) #[] #[]] w fun e w'=>
   e=.returned (.tuple #[])/\Below B w w'/\(∀ i,i<w.heap.size->i≠g->w'.heap[i]?=w.heap[i]?)/\Zg4 w' g (Zft L).toArray:=by
 have hH:=Zvm hv ho;have hg:=ho.lt g rfl;have hsz:(toV L hv).toArray.size=L.length:=by simp [Zxe]
 have h:=Z7i g cap (toV L hv).toArray w hH hg.2 ω;rw [hsz] at h;refine h.mono ?_;rintro e w' ⟨rfl,d',n,os,hP,hSo,rfl⟩;refine⟨rfl,Ztw hg.1 hg.2,fun i hi hne=>Zl4 hi hne,?_⟩;have hd:d'.size=(toV L hv).toArray.size:=by rw [hsz];exact hP.1.trans hsz
 refine Zvl (holdsK_sortWorldK_c Zrr 3 w g 0 (toV L hv).toArray d' n os hH hg.2 hd) ?_;have:=sorted_unique_holds Zgb Zpb (toV L hv).toArray d' (by rw [hsz];exact hP) (by rw [hsz];exact hSo);rw [this];exact Zsy L hv
theorem Zz8 (A:Option Addr)(cap:Nat)(w:World):Calls Tryz.prog 104 #[.slice A 0 cap,.func (.func 105) #[] #[]] w fun e w'=>e=.returned (.tuple #[])/\w'=w:=
 AnyF.slices_SortFunc_none Tryz.sortTh A cap _ w
theorem Zqf (A:Option Addr)(cap:Nat)(w:World):Calls Tryz.prog 106 #[.slice A 0 cap] w fun e w'=>e=.returned (.slice A 0 cap)/\w=w':=by
 go_enter Tryz.func106,Tryz.ntmps106
 go_wp2_with fail
 go_ret;exact⟨rfl,rfl⟩
def Z6p (w:World)(A:Option Addr)(T:List Th):Prop:=∀ i x,T[i]?=some x->∃ g,A=some ⟨g,0,none⟩/\w.cell? ⟨g,i*3,none⟩=some (.int .i64 x.1)/\w.cell? ⟨g,i*3+1,none⟩=some (.int .i64 x.2.1)/\w.cell? ⟨g,i*3+2,none⟩=some (.string ⟨x.2.2.toArray⟩)
def Z6n (A:Option Addr):Prop:=A=none\/∃ g,A=some ⟨g,0,none⟩
theorem Z3z (L:List Th):Zpz L=compactUpTo (Zft L).toArray L.length:=by simp [Zpz,Zkr]
theorem Zsu:Zpz []=[]:=by simp [Zpz,Zft,compactUpTo]
def TG (L:List Th)(w:World)(e:Ending)(w':World):Prop:=∃ A cap,e=.returned (.slice A (Zpz L).length cap)/\Z6n A/\Z6p w' A (Zpz L)/\Below w.heap.size w w'
def Zs3 (w w':World)(v:Value)(T:List Th):Prop:=w'.ownsRow w.heap.size 25 3 v T.length (Zay T)
theorem Z4s {w:World}(A:Option Addr)(cap:Nat)(T:List Th)(hlen:T.length<=1000000)(hf:Z6n A)(h:Z6p w A T) :
  Calls Tryz.prog 54 #[.slice A T.length cap] w fun e w'=>∃ v,e=.returned v/\Zs3 w w' v T/\Below w.heap.size w w':=by
 rcases hf with rfl | ⟨g,rfl⟩
 ·have hT:T=[]:=by
   cases T with
   | nil=>rfl
   | cons x r=>
    obtain⟨_,e,_⟩:=h 0 x rfl;cases e
  subst hT;refine (AnyE.slices_Clone_nil Tryz.cloneTh _ _ _).mono ?_;rintro e w' ⟨rfl,rfl⟩;exact⟨_,rfl,World.ownsRow_nil _ _ _ _,Below.refl _ _⟩
 ·obtain⟨i0,hi,hz0,hz1,hz2⟩:=info_parts Zeh;have hat:Zt8 w g T:=fun i x hx=>by
   obtain⟨g',e,a⟩:=h i x hx
   injection e with e
   injection e with e
   subst e;exact a
  refine (AnyE.slices_Clone Tryz.cloneTh i0 _ 3 32 hi hz0 hz1 hz2 rfl (by decide) Tryz.sizeOf25 g 0 T.length cap (Zay T) w (Zfu T) (by unfold maxLen;omega) ω (Zty hat) (Z5n T)).mono ?_;rintro e w' ⟨v',rfl,ho,_,hb⟩;exact⟨v',rfl,ho,hb⟩
theorem Z28 {w:World}{B n:Nat}{v:Value}{T:List Th}(h:w.ownsRow B 25 3 v n (Zay T))(hn:n=T.length):∃ A cap,v=.slice A n cap/\Z6n A/\Z6p w A T:=by
 subst hn;rcases h.2 with ⟨rfl,h0⟩ | ⟨g,cap,cur,rfl,_⟩
 ·have hT:T=[]:=List.eq_nil_of_length_eq_zero h0;subst hT;exact⟨none,0,rfl,.inl rfl,fun i x hx=>by simp at hx⟩
 ·exact⟨_,cap,rfl,.inr ⟨g,rfl⟩,fun i x hx=>by
   have:=Z30 h i x hx;exact⟨g,rfl,this⟩⟩
theorem Z27 {w:World}{B:Nat}{t:TypeId}{z n g cap:Nat}{cs:List Value}(h:w.ownsRow B t z (.slice (some ⟨g,0,none⟩) n cap) n cs):n<=cap:=by
 rcases h.2 with ⟨e,_⟩ | ⟨g',cap',cur,e,_,_,hc1,_⟩
 ·cases e
 ·injection e with _ _ e3
  omega
section
variable {w:World} {k t r v:Int} {l:List UInt8} {kids:Fr}
set_option maxHeartbeats 2000000 in
set_option maxRecDepth 100000 in
theorem Zpw (hi:Nat)(kv:Value)(hhi:hi<=w.heap.size)(hs:Zec w hi kv kids)(hl:l.length<=9223372036854775807)(hall:1+kids.all<=1000000)
  (hv:∀ x∈atL k t r l++Za1 kids,Zfn x) (hne:0<(atL k t r l++Za1 kids).length) :
  Calls Tryz.prog 55 #[Zge k t r l v kv] w (TG (atL k t r l++Za1 kids) w):=by
 obtain⟨A,cap,rfl,s'⟩:=hs;have hs2:Zec w hi (.slice A kids.len cap) kids:=⟨A,cap,rfl,s'⟩;have hat1:(atL k t r l).length<=1:=by unfold atL;split <;> simp
 have haf1:=Zdb kids;have hnl:(atL k t r l++Za1 kids).length<=1000000:=by simp;omega
 obtain⟨L,hL⟩:∃ L,atL k t r l++Za1 kids=L:=⟨_,rfl⟩;rw [hL] at hnl hv hne ⊢;have HLL:=Zh hL;have HNL:=Zh hnl;have HV:=Zh hv;have hb2:=((Zad w (.cells #[.int .i64 k,.int .i64 t,.int .i64 r,.string ⟨l.toArray⟩,.int .i64 v,.slice A kids.len cap] 28 (0,0))).alloc (by simp) (.cells #[.slice none 0 0] 38 (0,0)));have HB2:=Zh hb2;have HS:=Zh (hs2.below hhi hb2);have hbn:=Blk.new (w.alloc (.cells #[.int .i64 k,.int .i64 t,.int .i64 r,.string ⟨l.toArray⟩,.int .i64 v,.slice A kids.len cap] 28 (0,0))) 38 #[.slice none 0 0];have HACC:=Zh (show Acc ((w.alloc (.cells #[.int .i64 k,.int .i64 t,.int .i64 r,.string ⟨l.toArray⟩,.int .i64 v,.slice A kids.len cap] 28 (0,0))).alloc (.cells #[.slice none 0 0] 38 (0,0))) (w.heap.size+1) [] from⟨_,by simpa using hbn,⟨by simp [Zay],.inl ⟨rfl,rfl⟩⟩⟩);have HNE:=Zh hne;go_enter Tryz.func55,Tryz.ntmps55
 go_wp2_with (go_at_call 102;refine (Zpj _ (w.heap.size+1) hi _ [] ω HACC.o HS.o hl (by simp;omega)).mono ?_;rintro e w3 ⟨rfl,ha3,hb3⟩;rw [List.nil_append,HLL.o] at ha3;obtain⟨u,hbl,hown⟩:=ha3;obtain⟨g,cu,rfl⟩:=Zzz hown HNE.o;have c0:=hbl.cell 0;have HBL:=Zh hbl;have HOW:=Zh hown;have HB3:=Zh hb3;have hz3:=hb3.size;simp at hz3;clear hbl hown hb3)
 go_wp2_with (go_at_call 104;refine (Z7h HV.o HNL.o HOW.o).mono ?_;rintro e w4 ⟨rfl,hb4,hk4,ht4⟩;have hgl:=HOW.o.lt g rfl;have hB4:Blk w4 (w.heap.size+1) 38 #[.slice (some ⟨g,0,none⟩) L.length cu]:=(hk4 _ ω ω).trans HBL.o;have c1:=hB4.cell 0;have HB4:=Zh hb4;have HT4:=Zh ht4;have hz4:=hb4.size;clear hb4 hk4 ht4 hB4)
 have hsz:(Zft L).toArray.size=L.length:=by simp [Zkr]
 have hcp:=Zys g cu (Zft L).toArray (by rw [hsz];exact HNL.o) (by rw [hsz];exact Z27 HOW.o) HT4.o ω;rw [hsz] at hcp;have HCP:=Zh hcp
 go_wp2_with (go_at_call 106;refine HCP.o.mono ?_;rintro e w5 ⟨rfl,ht5,ho5⟩)
 go_ret;have hgl:=HOW.o.lt g rfl;have hb34:=(HB3.o.mono (Nat.le_succ w.heap.size)).trans (HB4.o.mono (show w.heap.size<=w.heap.size+1+1 by omega));exact⟨some ⟨g,0,none⟩,cu,by rw [Z3z];rfl,.inr ⟨g,rfl⟩,fun i x hx=>⟨g,rfl,ht5 i x hx⟩,Ze8.below (HB2.o.trans hb34) ω ho5⟩
set_option maxHeartbeats 2000000 in
set_option maxRecDepth 100000 in
theorem Zpv (hi:Nat)(kv:Value)(hhi:hi<=w.heap.size)(hs:Zec w hi kv kids)(hl:l.length<=9223372036854775807)(hall:1+kids.all<=1000000)
  (hv:∀ x∈atL k t r l++Za1 kids,Zfn x) (hne:atL k t r l++Za1 kids=[]) :
  Calls Tryz.prog 55 #[Zge k t r l v kv] w (TG (atL k t r l++Za1 kids) w):=by
 obtain⟨A,cap,rfl,s'⟩:=hs;have hs2:Zec w hi (.slice A kids.len cap) kids:=⟨A,cap,rfl,s'⟩;have hat1:(atL k t r l).length<=1:=by unfold atL;split <;> simp
 have haf1:=Zdb kids;have hnl:(atL k t r l++Za1 kids).length<=1000000:=by simp;omega
 obtain⟨L,hL⟩:∃ L,atL k t r l++Za1 kids=L:=⟨_,rfl⟩;rw [hL] at hnl hv hne ⊢;have HLL:=Zh hL;have HNL:=Zh hnl;have HV:=Zh hv;have hb2:=((Zad w (.cells #[.int .i64 k,.int .i64 t,.int .i64 r,.string ⟨l.toArray⟩,.int .i64 v,.slice A kids.len cap] 28 (0,0))).alloc (by simp) (.cells #[.slice none 0 0] 38 (0,0)));have HB2:=Zh hb2;have HS:=Zh (hs2.below hhi hb2);have hbn:=Blk.new (w.alloc (.cells #[.int .i64 k,.int .i64 t,.int .i64 r,.string ⟨l.toArray⟩,.int .i64 v,.slice A kids.len cap] 28 (0,0))) 38 #[.slice none 0 0];have HACC:=Zh (show Acc ((w.alloc (.cells #[.int .i64 k,.int .i64 t,.int .i64 r,.string ⟨l.toArray⟩,.int .i64 v,.slice A kids.len cap] 28 (0,0))).alloc (.cells #[.slice none 0 0] 38 (0,0))) (w.heap.size+1) [] from⟨_,by simpa using hbn,⟨by simp [Zay],.inl ⟨rfl,rfl⟩⟩⟩);subst hne;go_enter Tryz.func55,Tryz.ntmps55
 go_wp2_with (first
  | (go_at_call 106;(with_reducible refine (Zqf _ _ _).mono ?_);rintro e w5 ⟨rfl,rfl⟩)
  | (go_at_call 104;(with_reducible refine (Zz8 _ _ _).mono ?_);rintro e w4 ⟨rfl,rfl⟩)
  | (go_at_call 102;refine (Zpj _ (w.heap.size+1) hi _ [] ω HACC.o HS.o hl (by simp;omega)).mono ?_;rintro e w3 ⟨rfl,ha3,hb3⟩;rw [List.nil_append,HLL.o] at ha3;obtain⟨u,hbl,hown⟩:=ha3;obtain⟨Au,cu,rfl,hfl,hth⟩:=Z28 hown rfl;have c0:=hbl.cell 0;have HTH:=Zh hth;have HFL:=Zh hfl;have HB3:=Zh hb3;have hz3:=hb3.size;simp at hz3;clear hbl hown hb3 hth hfl))
 go_ret;exact⟨Au,cu,by rw [Zsu];rfl,HFL.o,by rw [Zsu];exact HTH.o,HB2.o.trans (HB3.o.mono (Nat.le_succ w.heap.size))⟩
theorem Z3y (hi:Nat)(kv:Value)(hhi:hi<=w.heap.size)(hs:Zec w hi kv kids)(hl:l.length<=9223372036854775807)(hall:1+kids.all<=1000000)
  (hv:∀ x∈atL k t r l++Za1 kids,Zfn x) :
  Calls Tryz.prog 55 #[Zge k t r l v kv] w (TG (atL k t r l++Za1 kids) w):=by
 by_cases hne:0<(atL k t r l++Za1 kids).length
 ·exact Zpw hi kv hhi hs hl hall hv hne
 ·exact Zpv hi kv hhi hs hl hall hv (List.eq_nil_of_length_eq_zero ω)
end
end Go.Proofs.YtdfmcfppoohckaaGreatDoor
