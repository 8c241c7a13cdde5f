/- Rows of the call's own: a list of several is put behind. -/
import Derived.Test.YtgjefdaaihgliaaGreatDoorMn09

namespace Go.Proofs.YtgjefdaaihgliaaGreatDoor
open Go.RowKit
namespace Enc
variable {α:Type} {E:Enc α}
theorem At.cells {w:World}{b o:Nat}{l:List α}(h:E.At w (some ⟨b,o,none⟩) l)(j:Nat)(u:Value)(hj:(E.flat l)[j]?=some u):w.cell? ⟨b,o+j,none⟩=some u:=by
 have hp:=E.pos;have hlt:=(List.getElem?_eq_some_iff.1 hj).1;rw [E.flat_len] at hlt;have hq:j / E.size<l.length:=Nat.div_lt_of_lt_mul (by rw [Nat.mul_comm];exact hlt);obtain⟨b',o',e,hc⟩:=h (j / E.size) _ (List.getElem?_eq_getElem hq);simp only [Option.some.injEq,Addr.mk.injEq,and_true] at e;obtain⟨rfl,rfl⟩:=e;have hm:=Nat.mod_lt j hp;have hd:=Nat.div_add_mod' j E.size;have h2:=E.flat_at (List.getElem?_eq_getElem hq) hm;rw [hd] at h2;have:=hc (j % E.size) u (by rw [<- h2];exact hj)
 rwa [show o+j / E.size*E.size+j % E.size=o+j by rw [Nat.add_assoc,hd]] at this
theorem addr_add (b o j:Nat):(⟨b,o,none⟩:Addr).add j=⟨b,o+j,none⟩:=by
 unfold Addr.add
 split
 ·rename_i h;subst h;rfl
 ·rfl
theorem appL {T S:TypeId}{bytes:Nat}(hE:E.Elem T S bytes){ops:Array Oper}{rest:List Oper}{o:Oper}{a:Act}{Q:Exit->Act->World->Prop}(V:World)
  (hg:o.guard=none) (s x:Operand) (hop:o.op=Op.call { callee:=Callee.builtin Builtin.append,args:=#[s,x],argTypes:=#[S,S] })
  (ys:List α) (B:Nat) (l:List α) (v:Value) (b2 o2 c2:Nat) (hs:a.eval s=v) (hx:a.eval x=.slice (some ⟨b2,o2,none⟩) ys.length c2)
  (hys:E.At V (some ⟨b2,o2,none⟩) ys) (hown:E.Own T B V v l) (b1:l.length+ys.length<=1152921504606846976) (b3:(l.length+ys.length)*bytes<=140737488355328) (hB:B<=V.heap.size)
  (hK:∀ v' w1,E.Own T B w1 v' (l++ys)->Z3y V w1 B v->wpList Tryz.prog ops Q rest (a.put o.dst v') w1) :
  wpList Tryz.prog ops Q (o :: rest) a V:=by
 obtain⟨z,hz,hzs⟩:=hE.info;obtain⟨i0,hi,hz0,hz1,hz2⟩:=Zbx hz;refine wpList_append_own _ hg s x S hop B T i0 z E.size bytes hE.sl hi hz0 hz1 hz2 hzs E.pos v l.length (E.flat l) hs hown ⟨b2,o2,none⟩ ys.length c2 (E.flat ys) hx (E.flat_len ys) (fun j u hj=>by rw [addr_add];exact hys.cells j u hj) ?_ (by unfold maxLen;omega) b3 hB ?_
 ·intro u hu;unfold flat at hu;obtain⟨q,hq,huq⟩:=List.mem_flatten.1 hu;obtain⟨y,_,rfl⟩:=List.mem_map.1 hq;exact E.one y u huq
 ·intro v' w1 hown' hgrow _;exact m_40
end Enc
theorem Zls {P:Program}(w:World)(base:Nat)(t ty e:TypeId)(i:TypeInfo)(z:Value)(size bytes:Nat)(ht:P.underlying t=some (.slice e))(hi:P.info? e=some i)(hz:i.zero=some z)
  (hsize:i.size=size) (hby:i.bytes=bytes) (hzs:z.cells.size=size) (hsz:0<size) (v:Value) (n:Nat) (xs:List Value) (hown:w.ownsRow base e size v n xs)
  (a:Addr) (m c:Nat) (news:List Value) (hl:news.length=m*size) (hnews:∀ j u,news[j]?=some u->w.cell? (a.add j)=some u) (h1:∀ u∈news,u.oneCell'=true)
  (h63:n+m<=maxLen) (hbytes:(n+m)*bytes<=140737488355328) (hbase:base<=w.heap.size) :
  ∃ v' w',(Builtin.append_ #[t,t] ty #[v,.slice (some a) m c]).run P w=.ok v' w'/\w'.ownsRow base e size v' (n+m) (xs++news)/\w.grownBy w' v.ownBlock/\∀ b,v'.ownBlock=some b->v.ownBlock=some b\/w.heap.size<=b:=by
 obtain⟨v',w',hr,h2,h3,_⟩:=run_append_own (P:=P) w base t ty e i z size bytes ht hi hz hsize hby hzs hsz v n xs hown a m c news hl hnews h1 h63 hbytes hbase;refine⟨v',w',hr,h2,h3,?_⟩;rcases hown.2 with ⟨rfl,rfl⟩ | ⟨g,cap,cur,rfl,hbg,hg,hnc,hcm,hcs,htake⟩
 ·have hx:xs=[]:=List.eq_nil_of_length_eq_zero (by simpa using hown.1);subst hx;obtain⟨v2,w2,hr2,h22,_,_⟩:=run_append_own (P:=P) w w.heap.size t ty e i z size bytes ht hi hz hsize hby hzs hsz (.slice none 0 0) 0 [] (World.ownsRow_nil _ _ _ _) a m c news hl hnews h1 h63 hbytes (Nat.le_refl _);have he:=hr.symm.trans hr2
  injection he with he1 he2
  subst he1 he2;exact fun b hb=>.inr (h22.lt b hb).1
 ·by_cases hroom:n+m<=cap
  ·obtain⟨w2,hr2,_,_⟩:=run_append_fits (P:=P) w base t ty e i size ht hi hsize g n cap xs hown a m c news hl hnews h1 hroom;have he:=hr.symm.trans hr2
   injection he with he1 he2
   subst he1;exact fun b hb=>.inl hb
  ·subst hsize;subst hby
   have holds:∀ j u,xs[j]?=some u->w.cell? ((⟨g,0,none⟩:Addr).add j)=some u:=hown.cells (g:=g) rfl;have hr2:=run_append_grow (P:=P) w t ty e i z ht hi hz ⟨g,0,none⟩ n cap xs hown.1 holds a m c news hl hnews ω (by simp only [maxLen] at h63;omega) (growslice_fits ω hbytes);have he:=hr.symm.trans hr2
   injection he with he1 he2
   subst he1;exact fun b hb=>.inr (by simp only [Value.ownBlock,Option.some.injEq] at hb;omega)
structure Zbh (W w1:World) (B:Nat) (v v':Value):Prop where
 below:Below B W w1
 keep:∀ i,i<W.heap.size->v.ownBlock≠some i->w1.heap[i]?=W.heap[i]?
 which:∀ b,v'.ownBlock=some b->v.ownBlock=some b\/W.heap.size<=b
theorem Zbh.refl (W:World)(B:Nat)(v:Value):Zbh W W B v v:=⟨Below.refl _ _,fun _ _ _=>rfl,fun _ h=>Or.inl h⟩
theorem Zbh.trans {W w1 w2:World}{B:Nat}{v v1 v2:Value}(h:Zbh W w1 B v v1)(k:Zbh w1 w2 B v1 v2):Zbh W w2 B v v2:=
 ⟨h.below.trans k.below,fun i hi hne=>by
  rw [k.keep i (Nat.lt_of_lt_of_le hi h.below.size) (fun e=>by
   rcases h.which i e with e2 | e2
   ·exact hne e2
   ·omega),h.keep i hi hne],fun b hb=>by
  rcases k.which b hb with e | e
  ·exact h.which b e
  ·exact Or.inr (Nat.le_trans h.below.size e)⟩
theorem Zbh.of_below {W w1:World}{B:Nat}{v:Value}(h:Below W.heap.size W w1)(hB:B<=W.heap.size):Zbh W w1 B v v:=
 ⟨h.mono hB,fun i hi _=>h.block i hi,fun _ hb=>Or.inl hb⟩
namespace Enc
variable {α:Type} {E:Enc α}
theorem appW {T S:TypeId}{bytes:Nat}(hE:E.Elem T S bytes){ops:Array Oper}{rest:List Oper}{o:Oper}{a:Act}{Q:Exit->Act->World->Prop}(V:World)
  (hg:o.guard=none) (s x:Operand) (hop:o.op=Op.call { callee:=Callee.builtin Builtin.append,args:=#[s,x],argTypes:=#[S,S] })
  (ys:List α) (B:Nat) (l:List α) (v:Value) (b2 o2 c2:Nat) (hs:a.eval s=v) (hx:a.eval x=.slice (some ⟨b2,o2,none⟩) ys.length c2)
  (hys:E.At V (some ⟨b2,o2,none⟩) ys) (hown:E.Own T B V v l) (b1:l.length+ys.length<=1152921504606846976) (b3:(l.length+ys.length)*bytes<=140737488355328) (hB:B<=V.heap.size)
  (hK:∀ v' w1,E.Own T B w1 v' (l++ys)->Zbh V w1 B v v'->wpList Tryz.prog ops Q rest (a.put o.dst v') w1) :
  wpList Tryz.prog ops Q (o :: rest) a V:=by
 obtain⟨z,hz,hzs⟩:=hE.info;obtain⟨i0,hi,hz0,hz1,hz2⟩:=Zbx hz;have hone:∀ u∈E.flat ys,u.oneCell'=true:=fun u hu=>by
  unfold flat at hu;obtain⟨q,hq,huq⟩:=List.mem_flatten.1 hu;obtain⟨y,_,rfl⟩:=List.mem_map.1 hq;exact E.one y u huq
 obtain⟨v',w1,hr,hown',hgrow,hwh⟩:=Zls (P:=Tryz.prog) V B S o.type T i0 z E.size bytes hE.sl hi hz0 hz1 hz2 hzs E.pos v l.length (E.flat l) hown ⟨b2,o2,none⟩ ys.length c2 (E.flat ys) (E.flat_len ys) (fun j u hj=>by rw [addr_add];exact hys.cells j u hj) hone (by unfold maxLen;omega) b3 hB;refine wpList_plain hg fun K hKK=>?_
 unfold Oper.wp execOp;simp only [hop,resolve,invoke,builtin,Sem.run_bind,Sem.run_pure,Result.andThen_ok,List.map_toArray,List.map_cons,List.map_nil,hs,hx,hr];refine hKK _ _ (hK v' w1 ?_ ⟨?_,fun i hi hne=>?_,hwh⟩)
 ·show w1.ownsRow B T E.size v' (l++ys).length (E.flat (l++ys));rw [E.flat_append,List.length_append];exact hown'
 ·exact (Below.refl _ _).grown hgrow hB (fun j hj=>(hown.lt j hj).1)
 ·exact hgrow.block i hi (fun e=>hne e.symm)
end Enc
theorem Znz {a:Nat}(h:a<18446744073709551616):IntKind.u64.wrap (a:Int)=(a:Int):=by
 unfold IntKind.wrap;simp [IntKind.bits,IntKind.signed];omega
theorem Zcw {a b:Nat}(ha:a<18446744073709551616)(hb:b<18446744073709551616):bits .or .u64 (a:Int) (b:Int)=((a|||b:Nat):Int):=by
 have hab:a|||b<2 ^ 64:=Nat.or_lt_two_pow (by simpa using ha) (by simpa using hb)
 unfold bits;have e:((BitVec.ofInt IntKind.u64.bits (a:Int))|||(BitVec.ofInt IntKind.u64.bits (b:Int))).toNat=a|||b:=by
  rw [BitVec.toNat_or,BitVec.ofInt_natCast,BitVec.ofInt_natCast,BitVec.toNat_ofNat,BitVec.toNat_ofNat];show a % 2 ^ 64|||b % 2 ^ 64=_
  rw [Nat.mod_eq_of_lt (by simpa using ha),Nat.mod_eq_of_lt (by simpa using hb)]
 simp only [e];exact Znz (by simpa using hab)
theorem Zn7 {a:Nat}(ha:a<18446744073709551616):bits .and .u64 (a:Int) 1=((a % 2:Nat):Int):=by
 unfold bits;have e:((BitVec.ofInt IntKind.u64.bits (a:Int))&&& (BitVec.ofInt IntKind.u64.bits (1:Int))).toNat=a % 2:=by
  rw [show (1:Int)=((1:Nat):Int) from rfl,BitVec.toNat_and,BitVec.ofInt_natCast,BitVec.ofInt_natCast,BitVec.toNat_ofNat,BitVec.toNat_ofNat];show a % 2 ^ 64&&& 1 % 2 ^ 64=_;rw [Nat.mod_eq_of_lt (by simpa using ha)];simp [Nat.and_one_is_mod]
 simp only [e];exact Znz ω
theorem Zwl {i:Nat}(h:i<64):IntKind.u64.wrap (1*2 ^ i)=((2 ^ i:Nat):Int):=by
 have:2 ^ i<2 ^ 64:=Nat.pow_lt_pow_right ω h;rw [Int.one_mul,show ((2:Int) ^ i)=((2 ^ i:Nat):Int) by simp];exact Znz (by simpa using this)
theorem Ztw (a i:Nat):(a / 2 ^ i % 2=1)=(a.testBit i=true):=by
 rw [Nat.testBit_eq_decide_div_mod_eq];simp
structure Ins where
 op:Int
 d:Int
 a:Int
 b:Int
 imm:Int
 loc:List UInt8
 label:List UInt8
 fence:Int
structure Ini where
 th:Int
 rg:Int
 loc:List UInt8
 vl:List UInt8
 vn:Int
structure Tst where
 arch:Int
 name:List UInt8
 cycle:List UInt8
 init:List Ini
 code:List (List Ins)
 q:Int
 k:Int
 t:Int
 r:Int
 l:List UInt8
 v:Int
 kids:Fr
def Zcj (w:World)(A:Option Addr)(c:List Ins):Prop:=∀ i x,c[i]?=some x->∃ b o,A=some ⟨b,o,none⟩/\w.cell? ⟨b,o+i*8,none⟩=some (.int .i64 x.op)/\w.cell? ⟨b,o+i*8+1,none⟩=some (.int .i64 x.d)/\w.cell? ⟨b,o+i*8+2,none⟩=some (.int .i64 x.a)/\w.cell? ⟨b,o+i*8+3,none⟩=some (.int .i64 x.b)/\
  w.cell? ⟨b,o+i*8+4,none⟩=some (.int .i64 x.imm)/\w.cell? ⟨b,o+i*8+5,none⟩=some (.string ⟨x.loc.toArray⟩)/\w.cell? ⟨b,o+i*8+6,none⟩=some (.string ⟨x.label.toArray⟩)/\w.cell? ⟨b,o+i*8+7,none⟩=some (.int .i64 x.fence)/\x.loc.length<=9223372036854775807/\x.label.length<=9223372036854775807
def Zis (w:World)(A:Option Addr)(cs:List (List Ins)):Prop:=∀ i c,cs[i]?=some c->∃ b o A2 c2,A=some ⟨b,o,none⟩/\w.cell? ⟨b,o+i,none⟩=some (.slice A2 c.length c2)/\Zcj w A2 c/\c.length<=9223372036854775806/\c.length<=c2
def Zi2 (w:World)(A:Option Addr)(c:List Ini):Prop:=∀ i x,c[i]?=some x->∃ b o,A=some ⟨b,o,none⟩/\w.cell? ⟨b,o+i*5,none⟩=some (.int .i64 x.th)/\w.cell? ⟨b,o+i*5+1,none⟩=some (.int .i64 x.rg)/\w.cell? ⟨b,o+i*5+2,none⟩=some (.string ⟨x.loc.toArray⟩)/\w.cell? ⟨b,o+i*5+3,none⟩=some (.string ⟨x.vl.toArray⟩)/\
  w.cell? ⟨b,o+i*5+4,none⟩=some (.int .i64 x.vn)/\x.loc.length<=9223372036854775807/\x.vl.length<=9223372036854775807/\(-9223372036854775808<=x.th/\x.th<=9223372036854775807)/\-9223372036854775808<=x.rg/\x.rg<=9223372036854775807
theorem Zcj.below {w w':World}{A:Option Addr}{c:List Ins}(h:Zcj w A c)(hb:Below w.heap.size w w'):Zcj w' A c:=fun i x hx=>by
 obtain⟨b,o,e,h0,h1,h2,h3,h4,h5,h6,h7,h8,h9⟩:=h i x hx;exact⟨b,o,e,Zac h0 hb,Zac h1 hb,Zac h2 hb,Zac h3 hb,Zac h4 hb,Zac h5 hb,Zac h6 hb,Zac h7 hb,h8,h9⟩
theorem Zis.below {w w':World}{A:Option Addr}{c:List (List Ins)}(h:Zis w A c)(hb:Below w.heap.size w w'):Zis w' A c:=fun i x hx=>by
 obtain⟨b,o,A2,c2,e,h0,h1,h2⟩:=h i x hx;exact⟨b,o,A2,c2,e,Zac h0 hb,h1.below hb,h2⟩
theorem Zi2.below {w w':World}{A:Option Addr}{c:List Ini}(h:Zi2 w A c)(hb:Below w.heap.size w w'):Zi2 w' A c:=fun i x hx=>by
 obtain⟨b,o,e,h0,h1,h2,h3,h4,h5,h6⟩:=h i x hx;exact⟨b,o,e,Zac h0 hb,Zac h1 hb,Zac h2 hb,Zac h3 hb,Zac h4 hb,h5,h6⟩
abbrev Zbu (T:Tst)(iv cv kv:Value):Value:=.agg #[.int .i64 T.arch,.string ⟨T.name.toArray⟩,.string ⟨T.cycle.toArray⟩,iv,cv,.int .i64 T.q,.int .i64 T.k,.int .i64 T.t,.int .i64 T.r,.string ⟨T.l.toArray⟩,.int .i64 T.v,kv]
structure Zcu (w:World) (T:Tst) (Ai Ac:Option Addr) (kv:Value):Prop where
 init:Zi2 w Ai T.init
 code:Zis w Ac T.code
 kids:Zd7 w w.heap.size kv T.kids
 ilen:T.init.length<=9223372036854775806
 clen:T.code.length<=9223372036854775806
 nlen:T.name.length<=9223372036854775807
 ylen:T.cycle.length<=9223372036854775807
 llen:T.l.length<=9223372036854775807
theorem Zcu.below {w w':World}{T:Tst}{Ai Ac:Option Addr}{kv:Value}(h:Zcu w T Ai Ac kv)(hb:Below w.heap.size w w'):Zcu w' T Ai Ac kv:=
 ⟨h.init.below hb,h.code.below hb,(Zd7.below h.kids (Nat.le_refl _) hb).up hb.size,h.ilen,h.clen,h.nlen,h.ylen,h.llen⟩
end Go.Proofs.YtgjefdaaihgliaaGreatDoor
namespace Go.Proofs
open Go.Shelf
def Tryz.sortTh_ren:Go.Shelf.Ren:=⟨fun | 6=>119 | 15=>129 | 14=>179 | 28=>190 | 29=>165 | 20=>223 | 21=>224 | 22=>225 | 23=>226 | 24=>227 | 25=>228 | 26=>229 | 27=>230 | 46=>258 | 47=>233 | 48=>234 | 49=>259 | 50=>260 | 57=>269 | n=>n,fun | 22=>35 | 24=>25 | 25=>221 | 3=>3 | 39=>112 | 0=>0 | 53=>254 | 55=>124 | 4=>4 | 46=>271 | 45=>270 | 50=>68 | 5=>5 | 9=>9 | 66=>295 | 70=>299 | 76=>316 | 77=>317 | n=>n,fun | n=>n⟩
theorem Tryz.sortTh:Go.Proofs.SlLaysF0.n6 Tryz.prog Tryz.sortTh_ren:={
 mixed:=by kernel_rfl
 f6:=⟨Tryz.f119.name,by decide,Tryz.func119.trans (congrArg some (by kernel_rfl))⟩
 f14:=⟨Tryz.f179.name,by decide,Tryz.func179.trans (congrArg some (by kernel_rfl))⟩
 f15:=Tryz.func129.trans (congrArg some (by kernel_rfl))
 f20:=⟨Tryz.f223.name,by decide,Tryz.func223.trans (congrArg some (by kernel_rfl))⟩
 f21:=⟨Tryz.f224.name,by decide,Tryz.func224.trans (congrArg some (by kernel_rfl))⟩
 f22:=⟨Tryz.f225.name,by decide,Tryz.func225.trans (congrArg some (by kernel_rfl))⟩
 f23:=⟨Tryz.f226.name,by decide,Tryz.func226.trans (congrArg some (by kernel_rfl))⟩
 f24:=⟨Tryz.f227.name,by decide,Tryz.func227.trans (congrArg some (by kernel_rfl))⟩
 f25:=⟨Tryz.f228.name,by decide,Tryz.func228.trans (congrArg some (by kernel_rfl))⟩
 f26:=⟨Tryz.f229.name,by decide,Tryz.func229.trans (congrArg some (by kernel_rfl))⟩
 f27:=⟨Tryz.f230.name,by decide,Tryz.func230.trans (congrArg some (by kernel_rfl))⟩
 f28:=Tryz.func190.trans (congrArg some (by kernel_rfl))
 f29:=Tryz.func165.trans (congrArg some (by kernel_rfl))
 f46:=⟨Tryz.f258.name,by decide,Tryz.func258.trans (congrArg some (by kernel_rfl))⟩
 f47:=Tryz.func233.trans (congrArg some (by kernel_rfl))
 f48:=Tryz.func234.trans (congrArg some (by kernel_rfl))
 f49:=⟨Tryz.f259.name,by decide,Tryz.func259.trans (congrArg some (by kernel_rfl))⟩
 f50:=⟨Tryz.f260.name,by decide,Tryz.func260.trans (congrArg some (by kernel_rfl))⟩
 f57:=⟨Tryz.f269.name,by decide,Tryz.func269.trans (congrArg some (by kernel_rfl))⟩
 t0:=Tryz.underlying0
 a0:=Tryz.isAgg0
 z0:=Tryz.sizeOf0
 v0:=Tryz.zeroValue0
 t3:=Tryz.underlying3
 a3:=Tryz.isAgg3
 z3:=Tryz.sizeOf3
 v3:=Tryz.zeroValue3
 t4:=Tryz.underlying4
 a4:=Tryz.isAgg4
 z4:=Tryz.sizeOf4
 v4:=Tryz.zeroValue4
 t5:=Tryz.underlying5
 a5:=Tryz.isAgg5
 z5:=Tryz.sizeOf5
 v5:=Tryz.zeroValue5
 t9:=Tryz.underlying9
 a9:=Tryz.isAgg9
 z9:=Tryz.sizeOf9
 v9:=Tryz.zeroValue9
 t22:=Tryz.underlying35
 a22:=Tryz.isAgg35
 z22:=Tryz.sizeOf35
 v22:=Tryz.zeroValue35
 t25:=Tryz.underlying221
 a25:=Tryz.isAgg221
 z25:=Tryz.sizeOf221
 v25:=Tryz.zeroValue221
 t39:=Tryz.underlying112
 a39:=Tryz.isAgg112
 z39:=Tryz.sizeOf112
 v39:=Tryz.zeroValue112
 t45:=Tryz.underlying270
 a45:=Tryz.isAgg270
 z45:=Tryz.sizeOf270
 v45:=Tryz.zeroValue270
 t46:=Tryz.underlying271
 a46:=Tryz.isAgg271
 z46:=Tryz.sizeOf271
 v46:=Tryz.zeroValue271
 t50:=Tryz.underlying68
 a50:=Tryz.isAgg68
 z50:=Tryz.sizeOf68
 v50:=Tryz.zeroValue68
 t53:=Tryz.underlying254
 a53:=Tryz.isAgg254
 z53:=Tryz.sizeOf254
 v53:=Tryz.zeroValue254
 t55:=Tryz.underlying124
 a55:=Tryz.isAgg124
 z55:=Tryz.sizeOf124
 v55:=Tryz.zeroValue124
 t66:=Tryz.underlying295
 a66:=Tryz.isAgg295
 z66:=Tryz.sizeOf295
 v66:=Tryz.zeroValue295
 t70:=Tryz.underlying299
 a70:=Tryz.isAgg299
 z70:=Tryz.sizeOf299
 v70:=Tryz.zeroValue299
 t76:=Tryz.underlying316
 a76:=Tryz.isAgg316
 z76:=Tryz.sizeOf316
 v76:=Tryz.zeroValue316
 t77:=Tryz.underlying317
 a77:=Tryz.isAgg317
 z77:=Tryz.sizeOf317
 v77:=Tryz.zeroValue317 }
def Tryz.cloneTh_ren:Go.Shelf.Ren:=⟨fun | 41=>70 | n=>n,fun | 22=>35 | 23=>25 | 4=>4 | n=>n,fun | n=>n⟩
theorem Tryz.cloneTh:Go.Proofs.SlLaysE0.n41 Tryz.prog Tryz.cloneTh_ren:={
 mixed:=by kernel_rfl
 f41:=⟨Tryz.f70.name,by decide,Tryz.func70.trans (congrArg some (by kernel_rfl))⟩
 t4:=Tryz.underlying4
 a4:=Tryz.isAgg4
 z4:=Tryz.sizeOf4
 v4:=Tryz.zeroValue4
 t22:=Tryz.underlying35
 a22:=Tryz.isAgg35
 z22:=Tryz.sizeOf35
 v22:=Tryz.zeroValue35 }
end Go.Proofs
namespace Go.Proofs.YtgjefdaaihgliaaGreatDoor
open Go.RowKit
open Go.Sort
open Go.Sort (sorted_unique_holds flatK size_flatK get_flatK HoldsK)
instance Z7v:Inhabited VTh:=⟨⟨(0,0,[]),by decide⟩⟩
def Zq9 (x:VTh):List Value:=Zf0 x.1
theorem Zue (blk off size:Nat)(w:World):CmpLays Tryz.prog 120 #[] Zq9 3 (fun x y=>Zbw x.1 y.1) blk off size w:=fun m os dk _ x y=>by
 obtain⟨⟨t,r,l⟩,hx⟩:=x;obtain⟨⟨t',r',l'⟩,hy⟩:=y;have px:=Zfg ⟨(t,r,l),hx⟩;have py:=Zfg ⟨(t',r',l'),hy⟩;simp only at px py;exact Z6f (t:=t) (r:=r) (l:=l) (t':=t') (r':=r') (l':=l') ω ω ω ω ω ω ω ω
theorem Z8j (blk cap:Nat)(d:Array VTh)(w:World)(hH:HoldsK Zq9 3 w blk 0 d)(hblk:blk<w.heap.size)(hsz:d.size<4611686018427387904) :
  Calls Tryz.prog 119 #[.slice (some ⟨blk,0,none⟩) d.size cap,.func (.func 120) #[] #[]] w fun e w'=>
   e=.returned (.tuple #[])/\∃ d' n os,PermIn 0 d.size d d'/\SortedIn ltT 0 d.size d'/\w'=sortWorldK Zq9 3 w blk 0 n d' os:=by
 have eg:∀ args w,(callFunc 120 args).run Tryz.prog w=.ok (.enter 120 args) w:=enters_of Tryz.func120 κ rfl;exact AnyQ.slices_SortFunc Tryz.sortTh 3 Tryz.isAgg25 Tryz.sizeOf25 Zq9 (fun _=>rfl) (fun x v hv=>by simp [Zq9,Zf0] at hv;rcases hv with rfl | rfl | rfl <;> rfl) (fun x y=>Zbw x.1 y.1) Zgc 120 #[] blk 0 cap d w eg (Zue blk 0 d.size w) hH hblk hsz
def leT (x y:Th):Bool:=!decide (Zbw y x<0)
def Zfr (L:List Th):List Th:=L.mergeSort leT
def Zf1 (x:Th):Prop:=Zbd 2 x.1 x.2.1 x.2.2=true
def toV:(L:List Th)->(∀ x∈L,Zf1 x)->List VTh
 | [],_=>[]
 | x :: r,h=>⟨x,h x (by simp)⟩ :: toV r (fun y hy=>h y (by simp [hy]))
def Zzx (x:VTh):Th:=x.1
theorem Zqt:∀ (L:List Th) (h:∀ x∈L,Zf1 x),(toV L h).map Zzx=L
 | [],_=>rfl
 | x :: r,h=>by
  show Zzx _ :: (toV r _).map Zzx=x :: r;rw [Zqt r];rfl
theorem Zw1 (L:List Th)(h:∀ x∈L,Zf1 x):(toV L h).length=L.length:=by
 have:=congrArg List.length (Zqt L h);simpa using this
theorem Zr8 (L:List Th)(h:∀ x∈L,Zf1 x):((toV L h).mergeSort (fun x y=>!ltT y x)).map Zzx=Zfr L:=by
 rw [List.map_mergeSort (r:=fun x y=>!ltT y x) (s:=leT) (f:=Zzx) (fun a _ b _=>rfl),Zqt];rfl
theorem Zl6:∀ (L:List Th) (i:Nat) (x:Th),L[i]?=some x->(Za1 L)[i*3]?=some (.int .i64 x.1)/\(Za1 L)[i*3+1]?=some (.int .i64 x.2.1)/\(Za1 L)[i*3+2]?=some (.string ⟨x.2.2.toArray⟩)
 | [],_,_,h=>by simp at h
 | y :: r,0,x,h=>by simp at h;subst h;simp [Za1,Zf0]
 | y :: r,i+1,x,h=>by
  have:=Zl6 r i x (by simpa using h);rw [show (i+1)*3=i*3+3 by omega];simpa [Za1,Zf0] using this
theorem Zlz {w:World}{blk n:Nat}{d:Array VTh}{os:Array Obj}{i:Nat}(hi:i<w.heap.size)(hne:i≠blk):(sortWorldK Zq9 3 w blk 0 n d os).heap[i]?=w.heap[i]?:=by
 have h1:(Sort.mapBlock (Sort.ahead w n) blk (Sort.putCells id 0 (flatK Zq9 3 d))).heap[i]?=w.heap[i]?:=by
  simp only [Sort.mapBlock,Array.getElem?_modify];rw [if_neg (fun e=>hne e.symm)];rfl
 have h2:(Sort.grow (Sort.mapBlock (Sort.ahead w n) blk (Sort.putCells id 0 (flatK Zq9 3 d))) os).heap[i]?=(Sort.mapBlock (Sort.ahead w n) blk (Sort.putCells id 0 (flatK Zq9 3 d))).heap[i]?:=Sort.heap_grow_old _ _ (by simp [Sort.mapBlock];exact hi);exact h2.trans h1
theorem Zs7 {w:World}{blk n B:Nat}{d:Array VTh}{os:Array Obj}(hB:B<=blk)(hblk:blk<w.heap.size):Below B w (sortWorldK Zq9 3 w blk 0 n d os):=
 ⟨rfl,rfl,rfl,by show w.heap.size<=((w.heap.modify blk _)++os).size;simp,fun i hi=>Zlz ω ω⟩
theorem Zhd:∀ (L:List Th) (j:Nat),j<L.length*3->(Za1 L)[j]?=(Zf0 (L.getD (j / 3) (0,0,[])))[j % 3]?
 | [],_,h=>by simp at h
 | y :: r,0,_=>by simp [Za1,Zf0]
 | y :: r,1,_=>by simp [Za1,Zf0]
 | y :: r,2,_=>by simp [Za1,Zf0]
 | y :: r,j+3,h=>by
  have:=Zhd r j (by simp at h;omega);rw [show (j+3) / 3=j / 3+1 by omega,show (j+3) % 3=j % 3 by omega];simpa [Za1,Zf0] using this
theorem Zxn {α:Type}[Inhabited α](a:α)(l:List α)(i:Nat):(a :: l).toArray[i+1]! = l.toArray[i]!:=by simp
theorem Zw0:∀ (L:List Th) (h:∀ x∈L,Zf1 x) (i:Nat),i<L.length->((toV L h).toArray[i]!).1=L.getD i (0,0,[])
 | [],_,_,hi=>by simp at hi
 | x :: r,h,0,_=>rfl
 | x :: r,h,i+1,hi=>by
  have:=Zw0 r (fun y hy=>h y (by simp [hy])) i (by simpa using hi);exact (congrArg Subtype.val (Zxn (α:=VTh) _ _ i)).trans this
theorem Zu2 {w:World}{B g cap:Nat}{L:List Th}(hv:∀ x∈L,Zf1 x)(ho:w.ownsRow B 25 3 (.slice (some ⟨g,0,none⟩) L.length cap) L.length (Za1 L)):HoldsK Zq9 3 w g 0 (toV L hv).toArray:=by
 intro j hj;rw [size_flatK] at hj;have hsz:(toV L hv).toArray.size=L.length:=by simp [Zw1]
 rw [hsz] at hj;rw [Nat.zero_add,ho.cellAt j hj,get_flatK _ _ _ _ (by rw [hsz];exact hj),Zhd L j hj];refine⟨?_,ho.frozenAt j⟩;show _=some ((Zf0 ((toV L hv).toArray[j / 3]!).1)[j % 3]!);rw [Zw0 L hv (j / 3) ω];have h3:j % 3<(Zf0 (L.getD (j / 3) (0,0,[]))).length:=by simp [Zf0];omega
 rw [List.getElem?_eq_getElem h3];exact congrArg some (getElem!_pos (Zf0 (L.getD (j / 3) (0,0,[]))) (j % 3) h3).symm
def Ztn (w:World)(g:Nat)(T:List Th):Prop:=∀ i x,T[i]?=some x->w.cell? ⟨g,i*3,none⟩=some (.int .i64 x.1)/\w.cell? ⟨g,i*3+1,none⟩=some (.int .i64 x.2.1)/\w.cell? ⟨g,i*3+2,none⟩=some (.string ⟨x.2.2.toArray⟩)
theorem Z2n {d:Array VTh}{T:List Th}(h:d.toList.map Zzx=T){i:Nat}{x:Th}(hx:T[i]?=some x):i<d.size/\(d[i]!).1=x:=by
 subst h;simp only [List.getElem?_map,Option.map_eq_some_iff] at hx;obtain⟨y,hy,rfl⟩:=hx;obtain⟨h1,rfl⟩:=List.getElem?_eq_some_iff.1 hy;have h2:i<d.size:=by simpa using h1
 exact⟨h2,by rw [getElem!_pos d i h2];rfl⟩
theorem Zqd {w:World}{g:Nat}{d:Array VTh}{T:List Th}(hH:HoldsK Zq9 3 w g 0 d)(hT:d.toList.map Zzx=T):Ztn w g T:=by
 intro i x hx;obtain⟨hi,hv⟩:=Z2n hT hx;have key:∀ j,j<3->w.cell? ⟨g,i*3+j,none⟩=some ((Zf0 x)[j]!):=by
  intro j hj;have h1:=(hH (i*3+j) (by rw [size_flatK];omega)).1;rw [Nat.zero_add,get_flatK _ _ _ _ ω] at h1;rw [show (i*3+j) / 3=i by omega,show (i*3+j) % 3=j by omega] at h1;rw [h1];show some ((Zf0 (d[i]!).1)[j]!)=_;rw [hv]
 exact⟨key 0 ω,key 1 ω,key 2 ω⟩
theorem Zgx (L:List Th):(Zfr L).Perm L:=List.mergeSort_perm _ _
theorem Zkk (L:List Th):(Zfr L).length=L.length:=(Zgx L).length_eq
theorem Zzc {w:World}{B:Nat}{t:TypeId}{z n:Nat}{v:Value}{cs:List Value}(h:w.ownsRow B t z v n cs)(hn:0<n):∃ g cap,v=.slice (some ⟨g,0,none⟩) n cap:=by
 rcases h.2 with ⟨_,rfl⟩ | ⟨g,cap,cur,rfl,_⟩
 ·omega
 ·exact⟨g,cap,rfl⟩
theorem Zs9 {w:World}{g:Nat}{T:List Th}(h:Ztn w g T)(j:Nat)(u:Value)(hu:(Za1 T)[j]?=some u):w.cell? ⟨g,0+j,none⟩=some u:=by
 have hj:j<T.length*3:=by
  obtain⟨h1,_⟩:=List.getElem?_eq_some_iff.1 hu
  rwa [Zfu] at h1
 rw [Zhd T j hj] at hu;have h3:j / 3<T.length:=ω;obtain⟨x,hx⟩:∃ x,T[j / 3]?=some x:=⟨_,List.getElem?_eq_getElem h3⟩;rw [show T.getD (j / 3) (0,0,[])=x by simp [List.getD,hx]] at hu;obtain⟨c0,c1,c2⟩:=h _ _ hx;have hjm:j % 3<3:=ω;rw [Nat.zero_add];by_cases m0:j % 3=0
 ·rw [m0] at hu;rw [show j / 3*3=j by omega] at c0;exact c0.trans (by simpa [Zf0] using hu)
 by_cases m1:j % 3=1
 ·rw [m1] at hu;rw [show j / 3*3+1=j by omega] at c1;exact c1.trans (by simpa [Zf0] using hu)
 have m2:j % 3=2:=ω;rw [m2] at hu;rw [show j / 3*3+2=j by omega] at c2;exact c2.trans (by simpa [Zf0] using hu)
theorem Z3t {w:World}{B g cap:Nat}{T:List Th}(h:w.ownsRow B 25 3 (.slice (some ⟨g,0,none⟩) T.length cap) T.length (Za1 T)):Ztn w g T:=by
 intro i x hx;obtain⟨h1,_⟩:=List.getElem?_eq_some_iff.1 hx;obtain⟨a,b,c⟩:=Zl6 T i x hx;exact⟨(h.cellAt (i*3) ω).trans a,(h.cellAt (i*3+1) ω).trans b,(h.cellAt (i*3+2) ω).trans c⟩
theorem Z5x:∀ (T:List Th) (u:Value),u∈Za1 T->u.oneCell'=true
 | [],_,h=>by simp [Za1] at h
 | x :: r,u,h=>by
  simp only [Za1,List.mem_append] at h;rcases h with h | h
  ·simp [Zf0] at h;rcases h with rfl | rfl | rfl <;> rfl
  ·exact Z5x r u h
end Go.Proofs.YtgjefdaaihgliaaGreatDoor
namespace Go.Proofs.YtgjefdaaihgliaaGreatDoor
open Go.RowKit
open Go.Lib (compactUpTo keeps CompInv)
open Go.Sort (sorted_unique_holds flatK size_flatK get_flatK HoldsK)
open Go.Lib (compactUpTo)
theorem Zo7 (x y:Th)(w:World):(binOp .neq 25 (Zek x.1 x.2.1 x.2.2) (Zek y.1 y.2.1 y.2.2)).run Tryz.prog w=.ok (.bool (!decide (x=y))) w:=by
 have hp:Tryz.prog.stoodInHeld 25=false:=by kernel_rfl
 have u3:=Tryz.underlying3;have a3:=Tryz.isAgg3;have z3:=Tryz.sizeOf3;have u9:=Tryz.underlying9;have a9:=Tryz.isAgg9;have z9:=Tryz.sizeOf9;obtain⟨t,r,l⟩:=x;obtain⟨t',r',l'⟩:=y;rw [run_neq_struct,show (10000:Nat)=9999+1 from rfl,run_equalIn_agg w 9999 25 _ _ Ziw hp];simp only [Program.fieldsOf,Tryz.underlying25];go_simp;by_cases h1:t=t' <;> by_cases h2:r=r' <;> by_cases h3:l=l' <;> simp [h1,h2,h3]
def Zg5 (w:World)(g:Nat)(d:Array Th):Prop:=(∀ j,j<d.size->w.cell? ⟨g,j*3,none⟩=some (.int .i64 (d[j]!).1)/\w.cell? ⟨g,j*3+1,none⟩=some (.int .i64 (d[j]!).2.1)/\w.cell? ⟨g,j*3+2,none⟩=some (.string ⟨(d[j]!).2.2.toArray⟩))/\∀ o,o<d.size*3->w.frozen? ⟨g,o,none⟩=false
abbrev Z9j (w:World)(g k:Nat)(x:Th):World:=((w.setCell ⟨g,k*3,none⟩ (.int .i64 x.1)).setCell ⟨g,k*3+1,none⟩ (.int .i64 x.2.1)).setCell ⟨g,k*3+2,none⟩ (.string ⟨x.2.2.toArray⟩)
theorem Zg5.put {w:World}{g k:Nat}{d:Array Th}(h:Zg5 w g d)(hk:k<d.size)(x:Th):Zg5 (Z9j w g k x) g (d.setIfInBounds k x):=by
 refine⟨fun j hj=>?_,fun o ho=>by rw [World.frozen?_setCell,World.frozen?_setCell,World.frozen?_setCell];exact h.2 o (by simpa using ho)⟩;simp only [Array.size_setIfInBounds] at hj;by_cases e:j=k
 ·subst e;obtain⟨a,b,c⟩:=h.1 j hj;rw [Sort.getElem!_set_same d j x hj];refine⟨?_,?_,?_⟩
  ·exact Zc5 (Zc5 (Zh0 (by rw [a];rfl)) ω) ω
  ·exact Zc5 (Zh0 (Zgo (by rw [b];rfl))) ω
  ·exact Zh0 (Zgo (Zgo (by rw [c];rfl)))
 ·obtain⟨a,b,c⟩:=h.1 j hj;rw [Sort.getElem!_set_other d k j x e];refine⟨?_,?_,?_⟩
  ·exact Zc5 (Zc5 (Zc5 a ω) ω) ω
  ·exact Zc5 (Zc5 (Zc5 b ω) ω) ω
  ·exact Zc5 (Zc5 (Zc5 c ω) ω) ω
theorem Zg5.drewN {w:World}{g n:Nat}{d:Array Th}(h:Zg5 w g d):Zg5 (w.drewN n) g d:=h
def Zh8 (n:Nat):List Value:=(Builtin.zeroCells #[.int .i64 0,.int .i64 0,.string ⟨#[]⟩] n).toList
theorem Zme (n:Nat):(Zh8 n).length=n*3:=by simp [Zh8,Builtin.zeroCells]
theorem Ztg (n:Nat):∀ v∈Zh8 n,v.oneCell'=true:=by
 intro v hv;simp only [Zh8,Builtin.zeroCells,Array.toList_map,List.mem_map] at hv;obtain⟨i,_,rfl⟩:=hv;have h3:i % 3<3:=ω;have:i % 3=0\/i % 3=1\/i % 3=2:=ω;rcases this with e | e | e
 ·rw [show (#[Value.int .i64 0,.int .i64 0,.string ⟨#[]⟩]:Array Value).size=3 from rfl,e];rfl
 ·rw [show (#[Value.int .i64 0,.int .i64 0,.string ⟨#[]⟩]:Array Value).size=3 from rfl,e];rfl
 ·rw [show (#[Value.int .i64 0,.int .i64 0,.string ⟨#[]⟩]:Array Value).size=3 from rfl,e];rfl
theorem Zph (w:World)(ty:TypeId)(b o n c:Nat)(hn:0<n)(hc:∀ j,j<n*3->(w.cell? ⟨b,o+j,none⟩).isSome=true)(hf:∀ j,j<n*3->w.frozen? ⟨b,o+j,none⟩=false) :
  (Builtin.clear_ #[35] ty #[.slice (some ⟨b,o,none⟩) n c]).run Tryz.prog w=.ok (.tuple #[]) (w.setCells b o (Zh8 n)):=by
 have hst:=run_storeCells_cells (P:=Tryz.prog) b o (Zh8 n) 0 w (by rw [Zme];simpa using hc) (by rw [Zme];simpa using hf) (Ztg n);simp only [Nat.add_zero] at hst;obtain⟨m,rfl⟩:∃ m,n=m+1:=⟨n - 1,ω⟩;have hz:(Builtin.zeroCells (Value.agg #[.int .i64 0,.int .i64 0,.string ⟨#[]⟩]).cells (m+1)).toList=Zh8 (m+1):=rfl;simp [Builtin.clear_,run_underlying Tryz.underlying35,hz,hst]
theorem Zhu (g:Nat):∀ (vs:List Value) (o:Nat) (a w:World),Zd1 g a w->Zd1 g a (w.setCells g o vs)
 | [],_,_,_,h=>h
 | v :: r,o,a,w,h=>Zhu g r (o+1) a (w.setCell ⟨g,o,none⟩ v) (h.set o v)
def Zn0 (d:Array Th)(g cap:Nat)(w:World)(e:Ending)(w':World):Prop:=e=.returned (.slice (some ⟨g,0,none⟩) (compactUpTo d d.size).length cap)/\Ztn w' g (compactUpTo d d.size)/\Zd1 g w w'
theorem Zn0.same {d:Array Th}{g cap:Nat}{w w':World}(hM:Zg5 w g d)(hall:∀ j,j<d.size->keeps d j=true)(ho:Below w.heap.size w w')(_hg:g<w.heap.size):Zn0 d g cap w (.returned (.slice (some ⟨g,0,none⟩) d.size cap)) w':=by
 have e:compactUpTo d d.size=d.toList:=by rw [Lib.compactUpTo_all d _ hall,Lib.range_map_get]
 refine⟨by rw [e];rfl,?_,Zd1.of_below ho⟩;rw [e];intro i x hx;obtain⟨hi,hxe⟩:=List.getElem?_eq_some_iff.1 hx;have hi':i<d.size:=by simpa using hi
 have hx':d[i]! = x:=by rw [getElem!_pos d i hi',<- hxe];rfl
 obtain⟨a,b,c⟩:=hM.1 i hi';rw [hx'] at a b c;exact⟨Zac a ho,Zac b ho,Zac c ho⟩
theorem Zn0.dup {d dk:Array Th}{g cap kk:Nat}{w wr:World}(hI:CompInv d d.size kk dk)(hM:Zg5 wr g dk)(ho:Zd1 g w wr)(n:Nat):Zn0 d g cap w (.returned (.slice (some ⟨g,0,none⟩) kk cap)) (wr.setCells g (kk*3) (Zh8 n)):=by
 refine⟨by rw [hI.len],fun i x hx=>?_,Zhu _ _ _ _ _ ho⟩;obtain⟨hi,_⟩:=List.getElem?_eq_some_iff.1 hx;rw [hI.len] at hi;have hlow:=hI.low i hi;rw [hx] at hlow
 injection hlow with hlow
 have hkk:=hI.lt;have hsz:=hI.size;obtain⟨a,b,c⟩:=hM.1 i ω;rw [<- hlow] at a b c;refine⟨?_,?_,?_⟩
 ·rw [World.cell?_setCells_out g _ _ _ _ (fun _ _=>.inl (by dsimp only;omega))];exact a
 ·rw [World.cell?_setCells_out g _ _ _ _ (fun _ _=>.inl (by dsimp only;omega))];exact b
 ·rw [World.cell?_setCells_out g _ _ _ _ (fun _ _=>.inl (by dsimp only;omega))];exact c
section
variable {w:World}
set_option maxHeartbeats 2000000 in
set_option maxRecDepth 100000 in
theorem Zx4 (g cap:Nat)(d:Array Th)(hlen:d.size<=1000000)(hcap:d.size<=cap)(hM:Zg5 w g d)(hg:g<w.heap.size) :
  Calls Tryz.prog 121 #[.slice (some ⟨g,0,none⟩) d.size cap] w (Zn0 d g cap w):=by
 have HM:=Zh hM;by_cases h2:d.size<2
 ·have HS:=Zh (Zn0.same (cap:=cap) HM.o (fun j hj=>Lib.keeps_lt_one d j ω) (Below.refl _ _) hg);go_enter Tryz.func121,Tryz.ntmps121
  go_wp2_with fail
  go_ret;exact HS.o
 ·have hd2:decide (d.size<2)=false:=by simpa using h2
  go_enter Tryz.func121,Tryz.ntmps121
  go_wp2_with fail
  go_loopw [3] (fun i wr=>∃ j:Nat,1<=j/\j<=d.size/\i=.int .i64 j/\Below w.heap.size w wr/\∀ i,i<j->keeps d i=true) (fun i _=>d.size - (intOf i).toNat)
  case atStart=>exact⟨1,Nat.le_refl _,ω,rfl,Below.refl _ _,Lib.keeps_lt_one d⟩
  case round=>
   obtain⟨j,hj1,hj,rfl,hb,hall⟩:=hrel;have HB:=Zh hb;have HALL:=Zh hall;by_cases hlt:j<d.size
   ·obtain⟨b0,b1,b2⟩:=HM.o.1 (j - 1) ω;obtain⟨c0,c1,c2⟩:=HM.o.1 j hlt;obtain⟨y,hy⟩:∃ y,d[j]! = y:=⟨_,rfl⟩;obtain⟨x,hx⟩:∃ x,d[j - 1]! = x:=⟨_,rfl⟩;rw [hx] at b0 b1 b2;rw [hy] at c0 c1 c2;have HXY:=Zh (show d[j]! = y/\d[j - 1]! = x from⟨hy,hx⟩);have b0r:=Zac b0 HB.o;have b1r:=Zac b1 HB.o;have b2r:=Zac b2 HB.o;have c0r:=Zac c0 HB.o;have c1r:=Zac c1 HB.o;have c2r:=Zac c2 HB.o;have i0:(1:Int)<=(j:Int):=ω;have i1:((j:Int) - 1).toNat=j - 1:=ω;have i2:(0:Int)<=(j:Int) - 1:=ω;have i3:(j:Int) - 1<(d.size:Int):=ω;have i4:IntKind.i64.wrap ((j:Int) - 1)=(j:Int) - 1:=IntWalk.i64_in _ ω;have hl1:(j:Int)<(d.size:Int):=ω;have hgd:=fun (w:World) (op:BinOp) (x y:Operand) (xs ys:Array Value)=>run_eqGuard_agg (P:=Tryz.prog) w op 25 x y xs ys Zj3
    by_cases hdup:y=x
    ·subst hdup;have heq:∀ w,(binOp .eql 25 (Zek y.1 y.2.1 y.2.2) (Zek y.1 y.2.1 y.2.2)).run Tryz.prog w=.ok (.bool true) w:=fun w=>by rw [Zhn,decide_eq_true rfl]
     go_wp2_with fail
     go_quiet (fail)
     go_wp2_with fail
     have HST:=Zh (CompInv.start HALL.o (Lib.keeps_neg (d:=d) (m:=j) ω (by rw [HXY.o.1,HXY.o.2])));have HM0:=Zh (show Zg5 wr g d from⟨fun j hj=>⟨Zac (HM.o.1 j hj).1 HB.o,Zac (HM.o.1 j hj).2.1 HB.o,Zac (HM.o.1 j hj).2.2 HB.o⟩,fun o ho=>Z41 (HM.o.2 o ho) hg HB.o⟩);have HO0:=Zh (show Zd1 g w (wr.drewN nq) from Zd1.of_below (Zag HB.o nq));have HM1:=Zh (show Zg5 (wr.drewN nq) g d from HM0.o);generalize wr.drewN nq=W0 at HO0 HM1;go_loopw [3,5] (fun s3 s5 w2=>∃ (kk k2:Nat) (dk:Array Th),s3=.int .i64 kk/\s5=.int .i64 k2/\1<=k2/\j+k2<=d.size/\Zd1 g w w2/\Zg5 w2 g dk/\CompInv d (j+k2) kk dk) (fun _ s5 _=>d.size - (intOf s5).toNat)
     case atStart=>exact⟨j,1,d,rfl,rfl,Nat.le_refl _,ω,HO0.o,HM1.o,HST.o⟩
     case round=>
      obtain⟨kk,k2,dk,rfl,rfl,h1,hle,hon,hmm,hI⟩:=hrel;have hkk:=hI.lt;have hds:=hI.size;have HON:=Zh hon;have HMM:=Zh hmm;have HI:=Zh hI;by_cases hlt2:j+k2<d.size
      ·obtain⟨p0,p1,p2⟩:=HMM.o.1 (j+k2 - 1) ω;obtain⟨q0,q1,q2⟩:=HMM.o.1 (j+k2) ω;obtain⟨o0,o1,o2⟩:=HMM.o.1 kk ω;obtain⟨v,hv⟩:∃ v,d[j+k2]! = v:=⟨_,rfl⟩;obtain⟨u,hu⟩:∃ u,d[j+k2 - 1]! = u:=⟨_,rfl⟩;rw [HI.o.high _ ω,hu] at p0 p1 p2;rw [HI.o.high _ ω,hv] at q0 q1 q2;rw [show (j+k2 - 1)*3=j*3+(k2 - 1)*3 by omega] at p0 p1 p2;rw [show (j+k2)*3=j*3+k2*3 by omega] at q0 q1 q2;have z0:=HMM.o.2 (kk*3) ω;have z1:=HMM.o.2 (kk*3+1) ω;have z2:=HMM.o.2 (kk*3+2) ω;have HUV:=Zh (show d[j+k2]! = v/\d[j+k2 - 1]! = u from⟨hv,hu⟩);have g0:(1:Int)<=(k2:Int):=ω;have g1:((k2:Int) - 1).toNat=k2 - 1:=ω;have g2:(0:Int)<=(k2:Int) - 1:=ω;have g3:(k2:Int) - 1<((d.size - j:Nat):Int):=ω;have g4:IntKind.i64.wrap ((k2:Int) - 1)=(k2:Int) - 1:=IntWalk.i64_in _ ω;have g5:(k2:Int)<((d.size - j:Nat):Int):=ω;have g6:(kk:Int)<(d.size:Int):=ω;by_cases huv:v=u
       ·subst huv;have hne:∀ w,(binOp .neq 25 (Zek v.1 v.2.1 v.2.2) (Zek v.1 v.2.1 v.2.2)).run Tryz.prog w=.ok (.bool false) w:=fun w=>by rw [Zo7,decide_eq_true rfl];rfl
        go_wp2_with fail
        go_quiet (fail)
        go_wp2_with fail
        go_roundw
        case rel=>exact⟨kk,k2+1,dk,rfl,by go_num,ω,ω,Zlq HON.o _,HMM.o,HI.o.skip (Lib.keeps_neg ω (by rw [HUV.o.1,HUV.o.2]))⟩
        case measure=>exact msr
       ·have hne:∀ w,(binOp .neq 25 (Zek v.1 v.2.1 v.2.2) (Zek u.1 u.2.1 u.2.2)).run Tryz.prog w=.ok (.bool true) w:=fun w=>by rw [Zo7,decide_eq_false huv];rfl
        go_wp2_with fail
        go_quiet (fail)
        go_wp2_with fail
        go_roundw
        case rel=>exact⟨kk+1,k2+1,dk.setIfInBounds kk v,by go_num,by go_num,ω,ω,Zd1.set (Zd1.set (Zd1.set (Zlq HON.o _) _ _) _ _) _ _,(Zg5.drewN HMM.o).put ω v,by have:=HI.o.keep hlt2 (Lib.keeps_pos (by rw [HUV.o.1,HUV.o.2];exact huv));rwa [HUV.o.1] at this⟩
        case measure=>exact msr
      ·have hend:j+k2=d.size:=ω;have hI:=HI.o;rw [hend] at hI;have HRES:=Zh (Zn0.dup (cap:=cap) hI HMM.o HON.o (d.size - kk));have hks:kk<d.size:=hI.lt;have hcl:∀ ty,(Builtin.clear_ #[35] ty #[.slice (some ⟨g,kk*3,none⟩) (d.size - kk) (cap - kk)]).run Tryz.prog wr=.ok (.tuple #[]) (wr.setCells g (kk*3) (Zh8 (d.size - kk))):=fun ty=>
        Zph wr ty g (kk*3) (d.size - kk) (cap - kk) ω (fun i hi=>by
         obtain⟨m,hm⟩:∃ m,kk*3+i=m:=⟨_,rfl⟩;rw [hm];obtain⟨a,b,c⟩:=HMM.o.1 (m / 3) ω;have h3:m % 3=0\/m % 3=1\/m % 3=2:=ω;rcases h3 with h3 | h3 | h3
         ·rw [show m / 3*3=m by omega] at a;rw [a];rfl
         ·rw [show m / 3*3+1=m by omega] at b;rw [b];rfl
         ·rw [show m / 3*3+2=m by omega] at c;rw [c];rfl) (fun i _=>HMM.o.2 _ ω)
       go_wp2_with fail
       go_ret;exact HRES.o
    ·have heq:∀ w,(binOp .eql 25 (Zek y.1 y.2.1 y.2.2) (Zek x.1 x.2.1 x.2.2)).run Tryz.prog w=.ok (.bool false) w:=fun w=>by rw [Zhn,decide_eq_false hdup]
     have HK:=Zh (Lib.keeps_pos (d:=d) (m:=j) (by rw [HXY.o.1,HXY.o.2];exact hdup))
     go_wp2_with fail
     go_quiet (fail)
     go_wp2_with fail
     go_roundw
     case rel=>exact⟨j+1,ω,ω,by go_num,Zag HB.o _,fun i hi=>by
      by_cases e:i=j
      ·rw [e];exact HK.o
      ·exact HALL.o i ω⟩
     case measure=>exact msr
   ·have hje:j=d.size:=ω;have HS:=Zh (Zn0.same (cap:=cap) HM.o (fun i hi=>HALL.o i ω) HB.o hg)
    go_wp2_with fail
    go_ret;exact HS.o
end
def Zpn (L:List Th):List Th:=compactUpTo (Zfr L).toArray (Zfr L).toArray.size
theorem Zu1 {w:World}{g:Nat}{d:Array VTh}{T:List Th}(hH:HoldsK Zq9 3 w g 0 d)(hT:d.toList.map Zzx=T):Zg5 w g T.toArray:=by
 have hc:=Zqd hH hT;have hsz:d.size=T.length:=by rw [<- hT];simp
 refine⟨fun j hj=>?_,fun o ho=>?_⟩
 ·have hj':j<T.length:=by simpa using hj
  have:=hc j T[j] (List.getElem?_eq_getElem hj');rw [getElem!_pos T.toArray j hj];simpa using this
 ·have:=(hH o (by rw [size_flatK,hsz];simpa using ho)).2
  rwa [Nat.zero_add] at this
theorem Z8i {w:World}{B g cap:Nat}{L:List Th}(hv:∀ x∈L,Zf1 x)(hlen:L.length<=1000000)(ho:w.ownsRow B 25 3 (.slice (some ⟨g,0,none⟩) L.length cap) L.length (Za1 L)) :
  Calls Tryz.prog 119 #[.slice (some ⟨g,0,none⟩) L.length cap,.func (.func 120) #[] #[]] w fun e w'=>
   e=.returned (.tuple #[])/\Below B w w'/\(∀ i,i<w.heap.size->i≠g->w'.heap[i]?=w.heap[i]?)/\Zg5 w' g (Zfr L).toArray:=by
 have hH:=Zu2 hv ho;have hg:=ho.lt g rfl;have hsz:(toV L hv).toArray.size=L.length:=by simp [Zw1]
 have h:=Z8j g cap (toV L hv).toArray w hH hg.2 ω;rw [hsz] at h;refine h.mono ?_;rintro e w' ⟨rfl,d',n,os,hP,hSo,rfl⟩;refine⟨rfl,Zs7 hg.1 hg.2,fun i hi hne=>Zlz hi hne,?_⟩;have hd:d'.size=(toV L hv).toArray.size:=by rw [hsz];exact hP.1.trans hsz
 refine Zu1 (holdsK_sortWorldK_c Zq9 3 w g 0 (toV L hv).toArray d' n os hH hg.2 hd) ?_;have:=sorted_unique_holds Zgc Zoz (toV L hv).toArray d' (by rw [hsz];exact hP) (by rw [hsz];exact hSo);rw [this];exact Zr8 L hv
theorem Zzk (A:Option Addr)(cap:Nat)(w:World):Calls Tryz.prog 119 #[.slice A 0 cap,.func (.func 120) #[] #[]] w fun e w'=>e=.returned (.tuple #[])/\w'=w:=
 AnyF.slices_SortFunc_none Tryz.sortTh A cap _ w
theorem Zpz (A:Option Addr)(cap:Nat)(w:World):Calls Tryz.prog 121 #[.slice A 0 cap] w fun e w'=>e=.returned (.slice A 0 cap)/\w=w':=by
 go_enter Tryz.func121,Tryz.ntmps121
 go_wp2_with fail
 go_ret;exact⟨rfl,rfl⟩
def Z7h (w:World)(A:Option Addr)(T:List Th):Prop:=∀ i x,T[i]?=some x->∃ g,A=some ⟨g,0,none⟩/\w.cell? ⟨g,i*3,none⟩=some (.int .i64 x.1)/\w.cell? ⟨g,i*3+1,none⟩=some (.int .i64 x.2.1)/\w.cell? ⟨g,i*3+2,none⟩=some (.string ⟨x.2.2.toArray⟩)
def Z7c (A:Option Addr):Prop:=A=none\/∃ g,A=some ⟨g,0,none⟩
theorem Z3s (L:List Th):Zpn L=compactUpTo (Zfr L).toArray L.length:=by simp [Zpn,Zkk]
theorem Zr5:Zpn []=[]:=by simp [Zpn,Zfr,compactUpTo]
def TG (L:List Th)(w:World)(e:Ending)(w':World):Prop:=∃ A cap,e=.returned (.slice A (Zpn L).length cap)/\Z7c A/\Z7h w' A (Zpn L)/\Below w.heap.size w w'
def Zsb (w w':World)(v:Value)(T:List Th):Prop:=w'.ownsRow w.heap.size 25 3 v T.length (Za1 T)
theorem Z4q {w:World}(A:Option Addr)(cap:Nat)(T:List Th)(hlen:T.length<=1000000)(hf:Z7c A)(h:Z7h w A T) :
  Calls Tryz.prog 70 #[.slice A T.length cap] w fun e w'=>∃ v,e=.returned v/\Zsb w w' v T/\Below w.heap.size w w':=by
 rcases hf with rfl | ⟨g,rfl⟩
 ·have hT:T=[]:=by
   cases T with
   | nil=>rfl
   | cons x r=>
    obtain⟨_,e,_⟩:=h 0 x rfl;cases e
  subst hT;refine (AnyE.slices_Clone_nil Tryz.cloneTh _ _ _).mono ?_;rintro e w' ⟨rfl,rfl⟩;exact⟨_,rfl,World.ownsRow_nil _ _ _ _,Below.refl _ _⟩
 ·obtain⟨i0,hi,hz0,hz1,hz2⟩:=info_parts Zeh;have hat:Ztn w g T:=fun i x hx=>by
   obtain⟨g',e,a⟩:=h i x hx
   injection e with e
   injection e with e
   subst e;exact a
  refine (AnyE.slices_Clone Tryz.cloneTh i0 _ 3 32 hi hz0 hz1 hz2 rfl (by decide) Tryz.sizeOf25 g 0 T.length cap (Za1 T) w (Zfu T) (by unfold maxLen;omega) ω (Zs9 hat) (Z5x T)).mono ?_;rintro e w' ⟨v',rfl,ho,_,hb⟩;exact⟨v',rfl,ho,hb⟩
theorem Z2w {w:World}{B n:Nat}{v:Value}{T:List Th}(h:w.ownsRow B 25 3 v n (Za1 T))(hn:n=T.length):∃ A cap,v=.slice A n cap/\Z7c A/\Z7h w A T:=by
 subst hn;rcases h.2 with ⟨rfl,h0⟩ | ⟨g,cap,cur,rfl,_⟩
 ·have hT:T=[]:=List.eq_nil_of_length_eq_zero h0;subst hT;exact⟨none,0,rfl,.inl rfl,fun i x hx=>by simp at hx⟩
 ·exact⟨_,cap,rfl,.inr ⟨g,rfl⟩,fun i x hx=>by
   have:=Z3t h i x hx
   exact⟨g,rfl,this⟩⟩
theorem Z2v {w:World}{B:Nat}{t:TypeId}{z n g cap:Nat}{cs:List Value}(h:w.ownsRow B t z (.slice (some ⟨g,0,none⟩) n cap) n cs):n<=cap:=by
 rcases h.2 with ⟨e,_⟩ | ⟨g',cap',cur,e,_,_,hc1,_⟩
 ·cases e
 ·injection e with _ _ e3
  omega
section
variable {w:World} {k t r v:Int} {l:List UInt8} {kids:Fr}
set_option maxHeartbeats 2000000 in
set_option maxRecDepth 100000 in
theorem Zpk (hi:Nat)(kv:Value)(hhi:hi<=w.heap.size)(hs:Zd7 w hi kv kids)(hl:l.length<=9223372036854775807)(hall:1+kids.all<=1000000)
  (hv:∀ x∈atL k t r l++Za4 kids,Zf1 x) (hne:0<(atL k t r l++Za4 kids).length) :
  Calls Tryz.prog 71 #[Zgf k t r l v kv] w (TG (atL k t r l++Za4 kids) w):=by
 obtain⟨A,cap,rfl,s'⟩:=hs;have hs2:Zd7 w hi (.slice A kids.len cap) kids:=⟨A,cap,rfl,s'⟩;have hat1:(atL k t r l).length<=1:=by unfold atL;split <;> simp
 have haf1:=Zda kids;have hnl:(atL k t r l++Za4 kids).length<=1000000:=by simp;omega
 obtain⟨L,hL⟩:∃ L,atL k t r l++Za4 kids=L:=⟨_,rfl⟩;rw [hL] at hnl hv hne ⊢;have HLL:=Zh hL;have HNL:=Zh hnl;have HV:=Zh hv;have hb2:=((Zad w (.cells #[.int .i64 k,.int .i64 t,.int .i64 r,.string ⟨l.toArray⟩,.int .i64 v,.slice A kids.len cap] 28 (0,0))).alloc (by simp) (.cells #[.slice none 0 0] 35 (0,0)));have HB2:=Zh hb2;have HS:=Zh (hs2.below hhi hb2);have hbn:=Blk.new (w.alloc (.cells #[.int .i64 k,.int .i64 t,.int .i64 r,.string ⟨l.toArray⟩,.int .i64 v,.slice A kids.len cap] 28 (0,0))) 35 #[.slice none 0 0];have HACC:=Zh (show Acc ((w.alloc (.cells #[.int .i64 k,.int .i64 t,.int .i64 r,.string ⟨l.toArray⟩,.int .i64 v,.slice A kids.len cap] 28 (0,0))).alloc (.cells #[.slice none 0 0] 35 (0,0))) (w.heap.size+1) [] from⟨_,by simpa using hbn,⟨by simp [Za1],.inl ⟨rfl,rfl⟩⟩⟩);have HNE:=Zh hne;go_enter Tryz.func71,Tryz.ntmps71
 go_wp2_with (go_at_call 117;refine (Zo8 _ (w.heap.size+1) hi _ [] ω HACC.o HS.o hl (by simp;omega)).mono ?_;rintro e w3 ⟨rfl,ha3,hb3⟩;rw [List.nil_append,HLL.o] at ha3;obtain⟨u,hbl,hown⟩:=ha3;obtain⟨g,cu,rfl⟩:=Zzc hown HNE.o;have c0:=hbl.cell 0;have HBL:=Zh hbl;have HOW:=Zh hown;have HB3:=Zh hb3;have hz3:=hb3.size;simp at hz3;clear hbl hown hb3)
 go_wp2_with (go_at_call 119;refine (Z8i HV.o HNL.o HOW.o).mono ?_;rintro e w4 ⟨rfl,hb4,hk4,ht4⟩;have hgl:=HOW.o.lt g rfl;have hB4:Blk w4 (w.heap.size+1) 35 #[.slice (some ⟨g,0,none⟩) L.length cu]:=(hk4 _ ω ω).trans HBL.o;have c1:=hB4.cell 0;have HB4:=Zh hb4;have HT4:=Zh ht4;have hz4:=hb4.size;clear hb4 hk4 ht4 hB4)
 have hsz:(Zfr L).toArray.size=L.length:=by simp [Zkk]
 have hcp:=Zx4 g cu (Zfr L).toArray (by rw [hsz];exact HNL.o) (by rw [hsz];exact Z2v HOW.o) HT4.o ω;rw [hsz] at hcp;have HCP:=Zh hcp
 go_wp2_with (go_at_call 121;refine HCP.o.mono ?_;rintro e w5 ⟨rfl,ht5,ho5⟩)
 go_ret;have hgl:=HOW.o.lt g rfl;have hb34:=(HB3.o.mono (Nat.le_succ w.heap.size)).trans (HB4.o.mono (show w.heap.size<=w.heap.size+1+1 by omega));exact⟨some ⟨g,0,none⟩,cu,by rw [Z3s];rfl,.inr ⟨g,rfl⟩,fun i x hx=>⟨g,rfl,ht5 i x hx⟩,Zd1.below (HB2.o.trans hb34) ω ho5⟩
set_option maxHeartbeats 2000000 in
set_option maxRecDepth 100000 in
theorem Zpj (hi:Nat)(kv:Value)(hhi:hi<=w.heap.size)(hs:Zd7 w hi kv kids)(hl:l.length<=9223372036854775807)(hall:1+kids.all<=1000000)
  (hv:∀ x∈atL k t r l++Za4 kids,Zf1 x) (hne:atL k t r l++Za4 kids=[]) :
  Calls Tryz.prog 71 #[Zgf k t r l v kv] w (TG (atL k t r l++Za4 kids) w):=by
 obtain⟨A,cap,rfl,s'⟩:=hs;have hs2:Zd7 w hi (.slice A kids.len cap) kids:=⟨A,cap,rfl,s'⟩;have hat1:(atL k t r l).length<=1:=by unfold atL;split <;> simp
 have haf1:=Zda kids;have hnl:(atL k t r l++Za4 kids).length<=1000000:=by simp;omega
 obtain⟨L,hL⟩:∃ L,atL k t r l++Za4 kids=L:=⟨_,rfl⟩;rw [hL] at hnl hv hne ⊢;have HLL:=Zh hL;have HNL:=Zh hnl;have HV:=Zh hv;have hb2:=((Zad w (.cells #[.int .i64 k,.int .i64 t,.int .i64 r,.string ⟨l.toArray⟩,.int .i64 v,.slice A kids.len cap] 28 (0,0))).alloc (by simp) (.cells #[.slice none 0 0] 35 (0,0)));have HB2:=Zh hb2;have HS:=Zh (hs2.below hhi hb2);have hbn:=Blk.new (w.alloc (.cells #[.int .i64 k,.int .i64 t,.int .i64 r,.string ⟨l.toArray⟩,.int .i64 v,.slice A kids.len cap] 28 (0,0))) 35 #[.slice none 0 0];have HACC:=Zh (show Acc ((w.alloc (.cells #[.int .i64 k,.int .i64 t,.int .i64 r,.string ⟨l.toArray⟩,.int .i64 v,.slice A kids.len cap] 28 (0,0))).alloc (.cells #[.slice none 0 0] 35 (0,0))) (w.heap.size+1) [] from⟨_,by simpa using hbn,⟨by simp [Za1],.inl ⟨rfl,rfl⟩⟩⟩);subst hne;go_enter Tryz.func71,Tryz.ntmps71
 go_wp2_with (first
  | (go_at_call 121;(with_reducible refine (Zpz _ _ _).mono ?_);rintro e w5 ⟨rfl,rfl⟩)
  | (go_at_call 119;(with_reducible refine (Zzk _ _ _).mono ?_);rintro e w4 ⟨rfl,rfl⟩)
  | (go_at_call 117;refine (Zo8 _ (w.heap.size+1) hi _ [] ω HACC.o HS.o hl (by simp;omega)).mono ?_;rintro e w3 ⟨rfl,ha3,hb3⟩;rw [List.nil_append,HLL.o] at ha3;obtain⟨u,hbl,hown⟩:=ha3;obtain⟨Au,cu,rfl,hfl,hth⟩:=Z2w hown rfl;have c0:=hbl.cell 0;have HTH:=Zh hth;have HFL:=Zh hfl;have HB3:=Zh hb3;have hz3:=hb3.size;simp at hz3;clear hbl hown hb3 hth hfl))
 go_ret;exact⟨Au,cu,by rw [Zr5];rfl,HFL.o,by rw [Zr5];exact HTH.o,HB2.o.trans (HB3.o.mono (Nat.le_succ w.heap.size))⟩
theorem Z3r (hi:Nat)(kv:Value)(hhi:hi<=w.heap.size)(hs:Zd7 w hi kv kids)(hl:l.length<=9223372036854775807)(hall:1+kids.all<=1000000)
  (hv:∀ x∈atL k t r l++Za4 kids,Zf1 x) :
  Calls Tryz.prog 71 #[Zgf k t r l v kv] w (TG (atL k t r l++Za4 kids) w):=by
 by_cases hne:0<(atL k t r l++Za4 kids).length
 ·exact Zpk hi kv hhi hs hl hall hv hne
 ·exact Zpj hi kv hhi hs hl hall hv (List.eq_nil_of_length_eq_zero ω)
end
end Go.Proofs.YtgjefdaaihgliaaGreatDoor
