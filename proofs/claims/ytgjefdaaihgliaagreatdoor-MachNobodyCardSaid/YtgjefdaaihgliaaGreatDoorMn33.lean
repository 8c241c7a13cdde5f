/- Layer 15: threads' events counted from the start of all: plain. -/
import Derived.Test.YtgjefdaaihgliaaGreatDoorMn31

namespace Go.Proofs.YtgjefdaaihgliaaGreatDoor
open Go.RowKit
theorem Zlf (a:Nat):∀ k m,a<2 ^ k->k<=m->Zdd a m=Zdd a k:=by
 intro k m ha hm
 induction m with
 | zero=>rw [show k=0 by omega]
 | succ m ih=>
  by_cases e:k<=m
  ·rw [Zdb,Nat.testBit_lt_two_pow (Nat.lt_of_lt_of_le ha (Nat.pow_le_pow_right ω e))];exact ih e
  ·rw [show k=m+1 by omega]
theorem Zjv (a f:Nat):∀ k,Zdd (a<<<f) (f+k)=(Zdd a k).map fun x=>(f:Int)+x
 | 0=>by
  unfold Zdd;rw [List.filter_eq_nil_iff.2]
  ·simp
  ·intro i hi;have:=List.mem_range.1 hi;rw [Nat.testBit_shiftLeft];simp;omega
 | k+1=>by
  rw [show f+(k+1)=(f+k)+1 by omega,Zdb,Zdb,Zjv a f k,Nat.testBit_shiftLeft];rw [show f+k - f=k by omega];have:(decide (f<=f+k))=true:=by simp
  rw [show (decide (f+k>=f))=true from this,Bool.true_and]
  split <;> simp
theorem Zgh {a f i n:Nat}(ha:a<2 ^ n)(hn:f+n<=64):Zbm (a<<<f) (f+i) 64=(Zbm a i 64).map (shP f):=by
 unfold Zbm;rw [Zlf a n 64 ha ω,show (64:Nat)=f+(64 - f) by omega,Zjv,Zlf a n (64 - f) ha ω,List.map_map,List.map_map];apply List.map_congr_left;intro x _;simp [shP]
theorem Zh1 {a f n:Nat}(ha:a<2 ^ n)(hn:f+n<=64):a<<<f<18446744073709551616:=by
 rw [Nat.shiftLeft_eq];have h1:a*2 ^ f<2 ^ n*2 ^ f:=Nat.mul_lt_mul_of_pos_right ha (Nat.two_pow_pos f);rw [<- Nat.pow_add] at h1;have h2:2 ^ (n+f)<=2 ^ 64:=Nat.pow_le_pow_right ω ω;have:=Nat.lt_of_lt_of_le h1 h2;simpa using this
theorem Zh2 (a b f:Nat):(a|||b)<<<f=(a<<<f)|||(b<<<f):=Nat.shiftLeft_or_distrib ..
theorem Z25 (i f:Nat):2 ^ i<<<f=2 ^ (f+i):=by rw [Nat.shiftLeft_eq,<- Nat.pow_add,Nat.add_comm]
def Zxk {α:Type}(E:Enc α)(t:TypeId)(B:Nat)(w:World)(v:Value)(l:List α):Prop:=∃ q,v=.slice (some ⟨q,0,none⟩) l.length l.length/\Blk w q t (E.flat l).toArray/\B<=q
theorem Zxk.keep {α:Type}{E:Enc α}{t:TypeId}{w w1:World}{B:Nat}{v:Value}{l:List α}(h:Zxk E t B w v l)(hk:∀ q,Blk w q t (E.flat l).toArray->w1.heap[q]?=w.heap[q]?):Zxk E t B w1 v l:=by
 obtain⟨q,h1,h2,h3⟩:=h;exact⟨q,h1,(hk q h2).trans h2,h3⟩
structure Ztj where
 lo:Value
 ini:Value
 ev:Value
 br:Value
 ad:Value
 da:Value
 ct:Value
 th:Value
 en:Value
structure Zpu where
 lo:List Nm
 ini:List Int
 th:List Th
 a:Tr
structure Zcg (w:World) (B O:Nat) (L:Zpu) (V:Ztj):Prop where
 blk:Blk w O 87 #[V.lo,V.ini,V.ev,V.br,V.ad,V.da,V.ct,V.th,V.en]
 hO:B<=O
 lo:Zc1.Own 9 B w V.lo L.lo
 ini:Zxk Zde 3 B w V.ini L.ini
 ev:Zq8.Own 225 B w V.ev L.a.evs
 br:Zoe.Own 169 B w V.br L.a.bars
 ad:Zbj.Own 175 B w V.ad L.a.addr
 da:Zbj.Own 175 B w V.da L.a.data
 ct:Zbj.Own 175 B w V.ct L.a.hang
 th:w.ownsRow B 25 3 V.th L.th.length (Za1 L.th)
 en:Zxk Zbj 130 B w V.en L.a.ends
 a1:Zfz V.ad V.da
 a2:Zfz V.ad V.ct
 a3:Zfz V.da V.ct
namespace Zcg
variable {w w' w1:World} {B O:Nat} {L:Zpu} {V:Ztj} {v':Value}
theorem drew (h:Zcg w B O L V):Zcg w.drew B O L V:=⟨h.blk,h.hO,h.lo,h.ini,h.ev,h.br,h.ad,h.da,h.ct,h.th,h.en,h.a1,h.a2,h.a3⟩
theorem below (h:Zcg w B O L V)(hb:Below w.heap.size w w'):Zcg w' B O L V:=
 ⟨h.blk.go hb,h.hO,Zah h.lo hb,h.ini.keep (fun _ hq=>hb.block _ hq.lt),Zah h.ev hb,Zah h.br hb,Zah h.ad hb,Zah h.da hb,Zah h.ct hb,Zah h.th hb,h.en.keep (fun _ hq=>hb.block _ hq.lt),h.a1,h.a2,h.a3⟩
theorem ev_ (h:Zcg w B O L V){l:List Evt}(hg:Zbh w w1 B V.ev v')(ho:Zq8.Own 225 B w1 v' l):Zcg (w1.setCell ⟨O,2,none⟩ v') B O { L with a:={ L.a with evs:=l } } { V with ev:=v' }:=by
 have hb1:=Zax h.blk h.ev (by decide) hg;exact⟨hb1.set_ 2 _,h.hO,Zae (Zaj h.lo h.ev (by decide) hg) hb1 (by decide) _ _,h.ini.keep (fun _ hq=>(Below.heap_setCell w1 _ _ _ (Za5 hq h.blk (by decide))).trans (hg.keep _ hq.lt (Zc2 h.ev hq (by decide)))),Zae ho hb1 (by decide) _ _,Zae (Zaj h.br h.ev (by decide) hg) hb1 (by decide) _ _,Zae (Zaj h.ad h.ev (by decide) hg) hb1 (by decide) _ _,Zae (Zaj h.da h.ev (by decide) hg) hb1 (by decide) _ _,Zae (Zaj h.ct h.ev (by decide) hg) hb1 (by decide) _ _,Zae (Zaj h.th h.ev (by decide) hg) hb1 (by decide) _ _,h.en.keep (fun _ hq=>(Below.heap_setCell w1 _ _ _ (Za5 hq h.blk (by decide))).trans (hg.keep _ hq.lt (Zc2 h.ev hq (by decide)))),h.a1,h.a2,h.a3⟩
theorem br_ (h:Zcg w B O L V){l:List Br}(hg:Zbh w w1 B V.br v')(ho:Zoe.Own 169 B w1 v' l):Zcg (w1.setCell ⟨O,3,none⟩ v') B O { L with a:={ L.a with bars:=l } } { V with br:=v' }:=by
 have hb1:=Zax h.blk h.br (by decide) hg;exact⟨hb1.set_ 3 _,h.hO,Zae (Zaj h.lo h.br (by decide) hg) hb1 (by decide) _ _,h.ini.keep (fun _ hq=>(Below.heap_setCell w1 _ _ _ (Za5 hq h.blk (by decide))).trans (hg.keep _ hq.lt (Zc2 h.br hq (by decide)))),Zae (Zaj h.ev h.br (by decide) hg) hb1 (by decide) _ _,Zae ho hb1 (by decide) _ _,Zae (Zaj h.ad h.br (by decide) hg) hb1 (by decide) _ _,Zae (Zaj h.da h.br (by decide) hg) hb1 (by decide) _ _,Zae (Zaj h.ct h.br (by decide) hg) hb1 (by decide) _ _,Zae (Zaj h.th h.br (by decide) hg) hb1 (by decide) _ _,h.en.keep (fun _ hq=>(Below.heap_setCell w1 _ _ _ (Za5 hq h.blk (by decide))).trans (hg.keep _ hq.lt (Zc2 h.br hq (by decide)))),h.a1,h.a2,h.a3⟩
theorem ad_ (h:Zcg w B O L V){l:List (Int×Int)}(hg:Zbh w w1 B V.ad v')(ho:Zbj.Own 175 B w1 v' l):Zcg (w1.setCell ⟨O,4,none⟩ v') B O { L with a:={ L.a with addr:=l } } { V with ad:=v' }:=by
 have hb1:=Zax h.blk h.ad (by decide) hg;exact⟨hb1.set_ 4 _,h.hO,Zae (Zaj h.lo h.ad (by decide) hg) hb1 (by decide) _ _,h.ini.keep (fun _ hq=>(Below.heap_setCell w1 _ _ _ (Za5 hq h.blk (by decide))).trans (hg.keep _ hq.lt (Zc2 h.ad hq (by decide)))),Zae (Zaj h.ev h.ad (by decide) hg) hb1 (by decide) _ _,Zae (Zaj h.br h.ad (by decide) hg) hb1 (by decide) _ _,Zae ho hb1 (by decide) _ _,Zae (Zbc h.da h.a1.symm hg) hb1 (by decide) _ _,Zae (Zbc h.ct h.a2.symm hg) hb1 (by decide) _ _,Zae (Zaj h.th h.ad (by decide) hg) hb1 (by decide) _ _,h.en.keep (fun _ hq=>(Below.heap_setCell w1 _ _ _ (Za5 hq h.blk (by decide))).trans (hg.keep _ hq.lt (Zc2 h.ad hq (by decide)))),(h.a1.symm.grew h.da hg).symm,(h.a2.symm.grew h.ct hg).symm,h.a3⟩
theorem da_ (h:Zcg w B O L V){l:List (Int×Int)}(hg:Zbh w w1 B V.da v')(ho:Zbj.Own 175 B w1 v' l):Zcg (w1.setCell ⟨O,5,none⟩ v') B O { L with a:={ L.a with data:=l } } { V with da:=v' }:=by
 have hb1:=Zax h.blk h.da (by decide) hg;exact⟨hb1.set_ 5 _,h.hO,Zae (Zaj h.lo h.da (by decide) hg) hb1 (by decide) _ _,h.ini.keep (fun _ hq=>(Below.heap_setCell w1 _ _ _ (Za5 hq h.blk (by decide))).trans (hg.keep _ hq.lt (Zc2 h.da hq (by decide)))),Zae (Zaj h.ev h.da (by decide) hg) hb1 (by decide) _ _,Zae (Zaj h.br h.da (by decide) hg) hb1 (by decide) _ _,Zae (Zbc h.ad h.a1 hg) hb1 (by decide) _ _,Zae ho hb1 (by decide) _ _,Zae (Zbc h.ct h.a3.symm hg) hb1 (by decide) _ _,Zae (Zaj h.th h.da (by decide) hg) hb1 (by decide) _ _,h.en.keep (fun _ hq=>(Below.heap_setCell w1 _ _ _ (Za5 hq h.blk (by decide))).trans (hg.keep _ hq.lt (Zc2 h.da hq (by decide)))),h.a1.grew h.ad hg,h.a2,(h.a3.symm.grew h.ct hg).symm⟩
theorem ct_ (h:Zcg w B O L V){l:List (Int×Int)}(hg:Zbh w w1 B V.ct v')(ho:Zbj.Own 175 B w1 v' l):Zcg (w1.setCell ⟨O,6,none⟩ v') B O { L with a:={ L.a with hang:=l } } { V with ct:=v' }:=by
 have hb1:=Zax h.blk h.ct (by decide) hg;exact⟨hb1.set_ 6 _,h.hO,Zae (Zaj h.lo h.ct (by decide) hg) hb1 (by decide) _ _,h.ini.keep (fun _ hq=>(Below.heap_setCell w1 _ _ _ (Za5 hq h.blk (by decide))).trans (hg.keep _ hq.lt (Zc2 h.ct hq (by decide)))),Zae (Zaj h.ev h.ct (by decide) hg) hb1 (by decide) _ _,Zae (Zaj h.br h.ct (by decide) hg) hb1 (by decide) _ _,Zae (Zbc h.ad h.a2 hg) hb1 (by decide) _ _,Zae (Zbc h.da h.a3 hg) hb1 (by decide) _ _,Zae ho hb1 (by decide) _ _,Zae (Zaj h.th h.ct (by decide) hg) hb1 (by decide) _ _,h.en.keep (fun _ hq=>(Below.heap_setCell w1 _ _ _ (Za5 hq h.blk (by decide))).trans (hg.keep _ hq.lt (Zc2 h.ct hq (by decide)))),h.a1,h.a2.grew h.ad hg,h.a3.grew h.da hg⟩
end Zcg
theorem Zoh (l:List Int)(i:Nat)(n:Int)(h:i<l.length):(Zde.flat l).toArray.setIfInBounds i (.int .i64 n)=(Zde.flat (l.set i n)).toArray:=by
 apply Array.ext';apply List.ext_getElem?;intro m;have hl:(Zde.flat l).length=l.length*1:=Zde.flat_len l;rw [show ((Zde.flat (l.set i n)).toArray.toList)=Zde.flat (l.set i n) from rfl,Zfn Zde l i n m h];simp only [Array.toList_setIfInBounds,List.getElem?_set];show _=if i*1<=m/\m<i*1+1 then _ else _
 by_cases hm:m=i
 ·subst hm;rw [if_pos rfl,if_pos ω,if_pos ω];show _=(Zde.enc n)[m - m*1]?;rw [show m - m*1=0 by omega];rfl
 ·rw [if_neg (Ne.symm hm),if_neg ω]
theorem Zoj (l:List (Int×Int))(i:Nat)(x:Int×Int)(h:i<l.length):(((Zbj.flat l).toArray.setIfInBounds (i*2) (.int .i64 x.1)).setIfInBounds (i*2+1) (.int .i64 x.2))=(Zbj.flat (l.set i x)).toArray:=by
 apply Array.ext';apply List.ext_getElem?;intro m;have hl:(Zbj.flat l).length=l.length*2:=Zbj.flat_len l;rw [show ((Zbj.flat (l.set i x)).toArray.toList)=Zbj.flat (l.set i x) from rfl,Zfn Zbj l i x m h];simp only [Array.toList_setIfInBounds,List.getElem?_set,List.length_set];show _=if i*2<=m/\m<i*2+2 then _ else _
 by_cases h0:m=i*2
 ·subst h0;rw [if_neg ω,if_pos rfl,if_pos (by rw [hl];omega),if_pos ω];show _=(Zbj.enc x)[i*2 - i*2]?;rw [Nat.sub_self];rfl
 ·by_cases h1:m=i*2+1
  ·subst h1;rw [if_pos rfl,if_pos (by rw [hl];omega),if_pos ω];show _=(Zbj.enc x)[i*2+1 - i*2]?;rw [show i*2+1 - i*2=1 by omega];rfl
  ·rw [if_neg (fun e=>h1 e.symm),if_neg (fun e=>h0 e.symm),if_neg ω]
namespace Zcg
variable {w w' w1:World} {B O:Nat} {L:Zpu} {V:Ztj} {v':Value}
theorem en_ (h:Zcg w B O L V){i q:Nat}{x:Int×Int}(hi:i<L.a.ends.length)(hq:V.en=.slice (some ⟨q,0,none⟩) L.a.ends.length L.a.ends.length):Zcg ((w.setCell ⟨q,i*2,none⟩ (.int .i64 x.1)).setCell ⟨q,i*2+1,none⟩ (.int .i64 x.2)) B O { L with a:={ L.a with ends:=L.a.ends.set i x } } V:=by
 obtain⟨q',e,hb,hB⟩:=h.en;rw [hq] at e;simp only [Value.slice.injEq,Option.some.injEq,Addr.mk.injEq,and_true] at e;obtain⟨rfl,_⟩:=e;have k0:=hb.set_ (i*2) (.int .i64 x.1);have k1:=k0.set_ (i*2+1) (.int .i64 x.2);rw [Zoj _ _ _ hi] at k1
 exact⟨(h.blk.far (Za5 h.blk hb (by decide)) _).far (Za5 h.blk hb (by decide)) _,h.hO,Zae (Zae h.lo hb (by decide) _ _) k0 (by decide) _ _,(h.ini.keep (fun _ hq2=>Below.heap_setCell w _ _ _ (Za5 hq2 hb (by decide)))).keep (fun _ hq2=>Below.heap_setCell _ _ _ _ (Za5 hq2 k0 (by decide))),Zae (Zae h.ev hb (by decide) _ _) k0 (by decide) _ _,Zae (Zae h.br hb (by decide) _ _) k0 (by decide) _ _,Zae (Zae h.ad hb (by decide) _ _) k0 (by decide) _ _,Zae (Zae h.da hb (by decide) _ _) k0 (by decide) _ _,Zae (Zae h.ct hb (by decide) _ _) k0 (by decide) _ _,Zae (Zae h.th hb (by decide) _ _) k0 (by decide) _ _,
  ⟨q,by rw [hq,List.length_set],k1,hB⟩,h.a1,h.a2,h.a3⟩
end Zcg
structure Zem (B1:Nat) (w w':World):Prop where
 size:w.heap.size<=w'.heap.size
 keep:∀ b,B1<=b->b<w.heap.size->w'.heap[b]?=w.heap[b]?
theorem Zem.trans {B1:Nat}{w w1 w2:World}(h:Zem B1 w w1)(k:Zem B1 w1 w2):Zem B1 w w2:=⟨Nat.le_trans h.size k.size,fun b h1 h2=>(k.keep b h1 (Nat.lt_of_lt_of_le h2 h.size)).trans (h.keep b h1 h2)⟩
theorem Zem.grew {B1 B:Nat}{w w1:World}{v v':Value}(hg:Zbh w w1 B v v')(hv:∀ b,v.ownBlock=some b->b<B1):Zem B1 w w1:=⟨hg.below.size,fun b h1 h2=>hg.keep b h2 (fun e=>by have:=hv b e;omega)⟩
theorem Zem.set {B1 q:Nat}(w:World)(i:Nat)(u:Value)(hq:q<B1):Zem B1 w (w.setCell ⟨q,i,none⟩ u):=⟨by simp,fun b h1 _=>Below.heap_setCell w _ _ _ (fun e=>by simp only at e;omega)⟩
theorem Zgg {w w1:World}{B:Nat}{t:TypeId}{z n:Nat}{v:Value}{cs:List Value}(h:w.ownsRow B t z v n cs)(ha:Zem B w w1):w1.ownsRow B t z v n cs:=
 Zb7 h fun b hb=>by
  obtain⟨_,k,hB⟩:=Zdi h hb;exact ha.keep b hB (Zd5 h hb)
theorem Za7.above {w w':World}{B g:Nat}{S:Zgk}{r:Rn}{V:Zd8}(h:Za7 w B g S r V)(ha:Zem B w w'):Za7 w' B g S r V:=
 ⟨(ha.keep g h.hg h.blk.lt).trans h.blk,h.hg,(by obtain⟨q,h1,h2,h3⟩:=h.regs;exact⟨q,h1,(ha.keep q h3 h2.lt).trans h2,h3⟩),Zgg h.evs ha,Zgg h.bars ha,Zgg h.addr ha,Zgg h.data ha,Zgg h.hang ha,h.a1,h.a2,h.a3⟩
theorem Zcg.lt {w:World}{B O:Nat}{L:Zpu}{V:Ztj}(h:Zcg w B O L V):(∀ b,V.ev.ownBlock=some b->b<w.heap.size)/\(∀ b,V.br.ownBlock=some b->b<w.heap.size)/\(∀ b,V.ad.ownBlock=some b->b<w.heap.size)/\(∀ b,V.da.ownBlock=some b->b<w.heap.size)/\(∀ b,V.ct.ownBlock=some b->b<w.heap.size):=
 ⟨fun _ e=>Zd5 h.ev e,fun _ e=>Zd5 h.br e,fun _ e=>Zd5 h.ad e,fun _ e=>Zd5 h.da e,fun _ e=>Zd5 h.ct e⟩
theorem Zgw {α:Type}{E:Enc α}{t:TypeId}{B:Nat}{w:World}{v:Value}{l:List α}(h:Zxk E t B w v l)(hl:l.length<=1000000):E.Own t B w v l:=by
 obtain⟨q,rfl,hb,hq⟩:=h;refine⟨E.flat_len l,.inr ⟨q,l.length,(E.flat l).toArray,rfl,hq,hb,Nat.le_refl _,by unfold maxLen;omega,?_,?_⟩⟩
 ·rw [List.size_toArray,E.flat_len]
 ·rw [<- E.flat_len,List.take_length]
theorem Zix:∀ l:List Th,Za1 l=Zuo.flat l
 | []=>rfl
 | x :: r=>by
  rw [Enc.flat_cons,<- Zix r];rfl
def Za2:Zeb->Int
 | .num _=>1
 | .adr _=>2
 | .rd _=>3
 | .non=>4
def Zcf (f:Nat):Zeb->Int
 | .num n=>n
 | .adr _=>0
 | .rd i=>((f+i:Nat):Int)
 | .non=>0
def Zce:Zeb->Nm
 | .adr s=>s
 | _=>[]
abbrev Zdw (f:Nat):Enc Rg:=⟨4,fun x=>[.int .i64 (Za2 x.h),.int .i64 (Zcf f x.h),.string ⟨(Zce x.h).toArray⟩,.int .u64 ((x.on<<<f:Nat):Int)],fun _=>rfl,ω,fun x u h=>by simp at h;rcases h with rfl | rfl | rfl | rfl <;> rfl⟩
theorem Z19 (f:Nat):(Zdw f).Elem 141 135 40:=⟨Tryz.underlying135,.agg #[.int .i64 0,.int .i64 0,.string ⟨#[]⟩,.int .u64 0],κ,rfl⟩
abbrev Za6 (f:Nat)(x:Rg):Value:=.agg #[.int .i64 (Za2 x.h),.int .i64 (Zcf f x.h),.string ⟨(Zce x.h).toArray⟩,.int .u64 ((x.on<<<f:Nat):Int)]
structure Sl where
 A:Option Addr
 n:Nat
 c:Nat
abbrev Sl.v (s:Sl):Value:=.slice s.A s.n s.c
theorem Zlr {w:World}{B:Nat}{t:TypeId}{z n:Nat}{v:Value}{cs:List Value}(h:w.ownsRow B t z v n cs):∃ s:Sl,v=s.v/\s.n=n:=by
 obtain⟨A,cap,e⟩:=Zbe h;exact⟨⟨A,n,cap⟩,e,rfl⟩
theorem Zv7 {w:World}{B:Nat}{t:TypeId}{z n:Nat}{s:Sl}{cs:List Value}(h:w.ownsRow B t z s.v n cs):s.n=n:=by
 obtain⟨A,cap,e⟩:=Zbe h;simp only [Sl.v,Value.slice.injEq] at e;exact e.2.1
structure Zn4 where
 lo:Sl
 ini:Sl
 ev:Sl
 br:Sl
 ad:Sl
 da:Sl
 ct:Sl
 th:Sl
 en:Sl
abbrev Zzw (V:Zn4):Value:=.agg #[V.lo.v,V.ini.v,V.ev.v,V.br.v,V.ad.v,V.da.v,V.ct.v,V.th.v,V.en.v]
abbrev Z01 (V:Zn4):Array Value:=#[V.lo.v,V.ini.v,V.ev.v,V.br.v,V.ad.v,V.da.v,V.ct.v,V.th.v,V.en.v]
structure RrV where
 rg:Sl
 ev:Sl
 br:Sl
 ad:Sl
 da:Sl
 ct:Sl
structure RrS where
 T:Tst
 iv:Sl
 cv:Sl
 kv:Sl
 C:Cx
 lo:Sl
 ini:Sl
 th:Sl
 en:Sl
 a:Tr
abbrev Zv3 (S:RrS)(V:RrV):Value:=Zzw ⟨S.lo,S.ini,V.ev,V.br,V.ad,V.da,V.ct,S.th,S.en⟩
abbrev rrC (S:RrS)(r:Rn)(fl:Bool)(V:RrV):Array Value:=#[.int .i64 S.T.arch,.string ⟨S.T.name.toArray⟩,.string ⟨S.T.cycle.toArray⟩,S.iv.v,S.cv.v,.int .i64 S.T.q,.int .i64 S.T.k,.int .i64 S.T.t,.int .i64 S.T.r,.string ⟨S.T.l.toArray⟩,.int .i64 S.T.v,S.kv.v,
 .int .i64 (S.C.th:Int),V.rg.v,.int .u64 ((r.ctrl<<<S.C.ahead:Nat):Int),S.lo.v,S.ini.v,V.ev.v,V.br.v,V.ad.v,V.da.v,V.ct.v,S.th.v,S.en.v,.bool fl,.bool r.full]
abbrev rrV (S:RrS)(r:Rn)(fl:Bool)(V:RrV):Value:=.agg (rrC S r fl V)
structure Zbf (B:Nat) (w w':World):Prop where
 below:Below B w w'
 keep:∀ b t cs,Blk w b t cs->t≠225->t≠169->t≠175->Blk w' b t cs
theorem Zbf.size {B:Nat}{w w':World}(h:Zbf B w w'):w.heap.size<=w'.heap.size:=h.below.size
theorem Zbf.refl (B:Nat)(w:World):Zbf B w w:=⟨Below.refl _ _,fun _ _ _ h _ _ _=>h⟩
theorem Zbf.trans {B:Nat}{w w1 w2:World}(h:Zbf B w w1)(k:Zbf B w1 w2):Zbf B w w2:=
 ⟨h.below.trans k.below,fun b t cs hb h1 h2 h3=>k.keep b t cs (h.keep b t cs hb h1 h2 h3) h1 h2 h3⟩
theorem Zbf.of_below {B:Nat}{w w':World}(h:Below w.heap.size w w')(hB:B<=w.heap.size):Zbf B w w':=
 ⟨h.mono hB,fun _ _ _ hb _ _ _=>hb.go h⟩
theorem Zbf.grew {B B2:Nat}{w w1:World}{t:TypeId}{z n:Nat}{v v':Value}{cs:List Value}(ho:w.ownsRow B2 t z v n cs)(ht:t = 225\/t = 169\/t = 175)(hg:Zbh w w1 B v v'):Zbf B w w1:=
 ⟨hg.below,fun b t2 ds hb h1 h2 h3=>Zax hb ho (by rcases ht with e | e | e <;> rw [e] <;> first | exact Ne.symm h1 | exact Ne.symm h2 | exact Ne.symm h3) hg⟩
theorem Zbf.set {B:Nat}{w w1:World}(h:Zbf B w w1){g:Nat}(hg:w.heap.size<=g)(hB:B<=w.heap.size)(i:Nat)(u:Value):Zbf B w (w1.setCell ⟨g,i,none⟩ u):=
 ⟨h.below.setCell (p:=⟨g,i,none⟩) (Nat.le_trans hB hg) u,fun b t cs hb h1 h2 h3=>(h.keep b t cs hb h1 h2 h3).far (p:=⟨g,i,none⟩) (by have:=hb.lt;simp only [ne_eq];omega) u⟩
theorem Zbf.below' {B:Nat}{w w1 w2:World}(h:Zbf B w w1)(hb:Below w1.heap.size w1 w2)(hB:B<=w.heap.size):Zbf B w w2:=h.trans (Zbf.of_below hb (Nat.le_trans hB h.size))
theorem Zbf.drew {B:Nat}{w w1:World}(h:Zbf B w w1):Zbf B w w1.drew:=⟨h.below.drew,h.keep⟩
theorem Zbf.own {B B2:Nat}{w w1:World}(hk:Zbf B w w1){t:TypeId}{z n:Nat}{v:Value}{cs:List Value}(ho:w.ownsRow B2 t z v n cs)(h1:t≠225)(h2:t≠169)(h3:t≠175):w1.ownsRow B2 t z v n cs:=
 Zb7 ho fun b hb=>by
  obtain⟨cur,hc,_⟩:=Zdi ho hb;rw [hc];exact hk.keep b t cur hc h1 h2 h3
structure Zba (w:World) (B:Nat) (S:RrS) (r:Rn) (V:RrV):Prop where
 hB:B<=w.heap.size
 lo:Zc1.Own 9 B w S.lo.v S.C.locs
 rg:(Zdw S.C.ahead).Own 141 B w V.rg.v r.regs
 ev:Zq8.Own 225 B w V.ev.v (S.a.evs++r.evs)
 br:Zoe.Own 169 B w V.br.v (S.a.bars++r.bars)
 ad:Zbj.Own 175 B w V.ad.v (S.a.addr++r.addr.map (shP S.C.ahead))
 da:Zbj.Own 175 B w V.da.v (S.a.data++r.data.map (shP S.C.ahead))
 ct:Zbj.Own 175 B w V.ct.v (S.a.hang++r.hang.map (shP S.C.ahead))
 a1:Zfz V.ad.v V.da.v
 a2:Zfz V.ad.v V.ct.v
 a3:Zfz V.da.v V.ct.v
namespace Zba
variable {w w' w1:World} {B:Nat} {S:RrS} {r:Rn} {V:RrV} {v':Sl}
theorem below (h:Zba w B S r V)(hb:Below w.heap.size w w'):Zba w' B S r V:=
 ⟨Nat.le_trans h.hB hb.size,Zah h.lo hb,Zah h.rg hb,Zah h.ev hb,Zah h.br hb,Zah h.ad hb,Zah h.da hb,Zah h.ct hb,h.a1,h.a2,h.a3⟩
theorem drew (h:Zba w B S r V):Zba w.drew B S r V:=⟨h.hB,h.lo,h.rg,h.ev,h.br,h.ad,h.da,h.ct,h.a1,h.a2,h.a3⟩
theorem set (h:Zba w B S r V){g:Nat}{cs:Array Value}(hg:Blk w g 137 cs)(i:Nat)(u:Value):Zba (w.setCell ⟨g,i,none⟩ u) B S r V:=
 ⟨by simpa [World.setCell] using h.hB,Zae h.lo hg (by decide) _ _,Zae h.rg hg (by decide) _ _,Zae h.ev hg (by decide) _ _,Zae h.br hg (by decide) _ _,Zae h.ad hg (by decide) _ _,Zae h.da hg (by decide) _ _,Zae h.ct hg (by decide) _ _,h.a1,h.a2,h.a3⟩
theorem evG (h:Zba w B S r V){l:List Evt}(hg:Zbh w w1 B V.ev.v v'.v)(ho:Zq8.Own 225 B w1 v'.v (S.a.evs++l)):Zba w1 B S { r with evs:=l } { V with ev:=v' }:=
 ⟨Nat.le_trans h.hB hg.below.size,Zaj h.lo h.ev (by decide) hg,Zaj h.rg h.ev (by decide) hg,ho,Zaj h.br h.ev (by decide) hg,Zaj h.ad h.ev (by decide) hg,Zaj h.da h.ev (by decide) hg,Zaj h.ct h.ev (by decide) hg,h.a1,h.a2,h.a3⟩
theorem brG (h:Zba w B S r V){l:List Br}(hg:Zbh w w1 B V.br.v v'.v)(ho:Zoe.Own 169 B w1 v'.v (S.a.bars++l)):Zba w1 B S { r with bars:=l } { V with br:=v' }:=
 ⟨Nat.le_trans h.hB hg.below.size,Zaj h.lo h.br (by decide) hg,Zaj h.rg h.br (by decide) hg,Zaj h.ev h.br (by decide) hg,ho,Zaj h.ad h.br (by decide) hg,Zaj h.da h.br (by decide) hg,Zaj h.ct h.br (by decide) hg,h.a1,h.a2,h.a3⟩
theorem adG (h:Zba w B S r V){l:List (Int×Int)}(hg:Zbh w w1 B V.ad.v v'.v)(ho:Zbj.Own 175 B w1 v'.v (S.a.addr++l.map (shP S.C.ahead))):Zba w1 B S { r with addr:=l } { V with ad:=v' }:=
 ⟨Nat.le_trans h.hB hg.below.size,Zaj h.lo h.ad (by decide) hg,Zaj h.rg h.ad (by decide) hg,Zaj h.ev h.ad (by decide) hg,Zaj h.br h.ad (by decide) hg,ho,Zbc h.da h.a1.symm hg,Zbc h.ct h.a2.symm hg,(h.a1.symm.grew h.da hg).symm,(h.a2.symm.grew h.ct hg).symm,h.a3⟩
theorem daG (h:Zba w B S r V){l:List (Int×Int)}(hg:Zbh w w1 B V.da.v v'.v)(ho:Zbj.Own 175 B w1 v'.v (S.a.data++l.map (shP S.C.ahead))):Zba w1 B S { r with data:=l } { V with da:=v' }:=
 ⟨Nat.le_trans h.hB hg.below.size,Zaj h.lo h.da (by decide) hg,Zaj h.rg h.da (by decide) hg,Zaj h.ev h.da (by decide) hg,Zaj h.br h.da (by decide) hg,Zbc h.ad h.a1 hg,ho,Zbc h.ct h.a3.symm hg,h.a1.grew h.ad hg,h.a2,(h.a3.symm.grew h.ct hg).symm⟩
theorem ctG (h:Zba w B S r V){l:List (Int×Int)}(hg:Zbh w w1 B V.ct.v v'.v)(ho:Zbj.Own 175 B w1 v'.v (S.a.hang++l.map (shP S.C.ahead))):Zba w1 B S { r with hang:=l } { V with ct:=v' }:=
 ⟨Nat.le_trans h.hB hg.below.size,Zaj h.lo h.ct (by decide) hg,Zaj h.rg h.ct (by decide) hg,Zaj h.ev h.ct (by decide) hg,Zaj h.br h.ct (by decide) hg,Zbc h.ad h.a2 hg,Zbc h.da h.a3 hg,ho,h.a1,h.a2.grew h.ad hg,h.a3.grew h.da hg⟩
theorem rgG (h:Zba w B S r V){l:List Rg}(ho:(Zdw S.C.ahead).Own 141 B w v'.v l):Zba w B S { r with regs:=l } { V with rg:=v' }:=
 ⟨h.hB,h.lo,ho,h.ev,h.br,h.ad,h.da,h.ct,h.a1,h.a2,h.a3⟩
theorem ctrl (h:Zba w B S r V)(c:Nat):Zba w B S { r with ctrl:=c } V:=⟨h.hB,h.lo,h.rg,h.ev,h.br,h.ad,h.da,h.ct,h.a1,h.a2,h.a3⟩
theorem full (h:Zba w B S r V)(c:Bool):Zba w B S { r with full:=c } V:=⟨h.hB,h.lo,h.rg,h.ev,h.br,h.ad,h.da,h.ct,h.a1,h.a2,h.a3⟩
end Zba
def Ze1 (B:Nat)(S:RrS)(r:Rn)(fl:Bool)(w:World)(e:Ending)(w':World):Prop:=∃ V,e=.returned (rrV S r fl V)/\Zba w' B S r V/\Zbf B w w'
section
def Zpp:Zeb->Int
 | .rd i=>(i:Int)
 | _=>0
def Zov:Zeb->Bool
 | .rd _=>true
 | _=>false
theorem taT (w:World):∀ h:Zeb,(Instr.typeAssert (Zai h) 161 173 true).run Tryz.prog w=.ok (.tuple #[.int .i64 (Zpp h),.bool (Zov h)]) w
 | .num _=>Z6q _ w
 | .adr _=>Z6o _ w
 | .rd _=>Z6r _ w
 | .non=>Z6p _ w
def Zup (o:Option (Int×Int)):Value:=match o with
 | some p=>.tuple #[.agg #[.int .i64 p.1,.int .i64 p.2],.bool true]
 | none=>.tuple #[.agg #[.int .i64 0,.int .i64 0],.bool false]
section
set_option maxHeartbeats 4000000
set_option maxRecDepth 100000
variable {w0 w:World} {g nr k:Nat} {S:Zgk} {r:Rn} {V:Zd8}
theorem Z9b (d first:Nat)(x:Rg)(hfi:first<=64)(hx0:∀ i,x.h=.rd i->i<=64)(hR:Za7 w w0.heap.size g S r V)(hx:r.regs[d]?=some x) :
  Calls Tryz.prog 46 #[.pointer (some ⟨g,0,none⟩),.int .i64 (d:Int),.int .i64 (first:Int)] w (RB w (Zup (Zsh first x.h))):=by
 obtain⟨q,hvr,hqb,hqB⟩:=hR.regs;have hdl:=(List.getElem?_eq_some_iff.1 hx).1;obtain⟨c0,c1,c2,c3,c4⟩:=Zb0 hqb hx;have k14:w.cell? ⟨g,14,none⟩=some (.slice (some ⟨q,0,none⟩) r.regs.length r.regs.length):=by rw [<- hvr];exact hR.blk.cell 14
 have hqw:=hqb.lt;have hgw:g<w.heap.size:=hR.blk.lt;obtain⟨xh,xo⟩:=x;simp only at hx0 c0 ⊢;cases xh with
 | num n=>
  have q1:=fun w=>taN w (.num n)
  have q2:=fun w=>taT w (.num n)
  simp only [Zne,Zmr,Zpp,Zov] at q1 q2;go_enter Tryz.func46,Tryz.ntmps46
  go_wp2_with fail
  have z0:=Zbq w #[.int .i64 1,.int .i64 n] 130 (0,0) 0;have z1:=Zbq w #[.int .i64 1,.int .i64 n] 130 (0,0) 1;refine bodyPost_ret (v:=.tuple #[.agg #[.int .i64 1,.int .i64 n],.bool true]) (by simp [results,Tryz.results46,go_sem,z0,z1]) rfl ⟨rfl,Zad _ _⟩
 | rd i=>
  have q1:=fun w=>taN w (.rd i)
  have q2:=fun w=>taT w (.rd i)
  simp only [Zne,Zmr,Zpp,Zov] at q1 q2;have hi4:(i:Int)<=64:=by have:=hx0 i rfl;omega
  go_enter Tryz.func46,Tryz.ntmps46
  go_wp2_with fail
  have z0:=Zbq w #[.int .i64 2,.int .i64 ((first:Int)+(i:Int))] 130 (0,0) 0;have z1:=Zbq w #[.int .i64 2,.int .i64 ((first:Int)+(i:Int))] 130 (0,0) 1;refine bodyPost_ret (v:=.tuple #[.agg #[.int .i64 2,.int .i64 ((first:Int)+(i:Int))],.bool true]) (by simp [results,Tryz.results46,go_sem,z0,z1]) rfl ⟨by simp [Zsh,Zup],Zad _ _⟩
 | adr s=>
  have q1:=fun w=>taN w (.adr s)
  have q2:=fun w=>taT w (.adr s)
  exact m_20
 | non=>
  have q1:=fun w=>taN w .non
  have q2:=fun w=>taT w .non
  exact m_20
end
end
section
def Zc6:Zeb->Bool
 | .num n=>decide (n=0)
 | _=>false
def Zow:Zeb->Bool
 | .num _=>true
 | _=>false
section
set_option maxHeartbeats 4000000
set_option maxRecDepth 100000
theorem Zh7 (f:Nat)(x:Rg)(w:World):Calls Tryz.prog 198 #[Za6 f x] w (RB w (.bool (Zc6 x.h))):=by
 obtain⟨h,on⟩:=x;cases h with
 | num n=>
  simp only [Za6,Za2,Zcf,Zce];have HB:=Zh (Zad w (.cells #[.int .i64 1,.int .i64 n,.string ⟨#[]⟩,.int .u64 ((on<<<f:Nat):Int)] 141 (0,0)));by_cases hn:n=0
  ·have e1:Zc6 (.num n)=true:=by simp [Zc6,hn]
   rw [e1];subst hn;exact m_77
  ·have e1:Zc6 (.num n)=false:=by simp [Zc6,hn]
   have e2:(n == 0)=false:=by simpa using hn
   rw [e1];exact m_77
 | adr s=>
  simp only [Za6,Za2,Zcf,Zce,Zc6];have HB:=Zh (Zad w (.cells #[.int .i64 2,.int .i64 0,.string ⟨s.toArray⟩,.int .u64 ((on<<<f:Nat):Int)] 141 (0,0)));exact m_77
 | rd i=>
  simp only [Za6,Za2,Zcf,Zce,Zc6];have HB:=Zh (Zad w (.cells #[.int .i64 3,.int .i64 ((f+i:Nat):Int),.string ⟨#[]⟩,.int .u64 ((on<<<f:Nat):Int)] 141 (0,0)));exact m_77
 | non=>
  simp only [Za6,Za2,Zcf,Zce,Zc6];have HB:=Zh (Zad w (.cells #[.int .i64 4,.int .i64 0,.string ⟨#[]⟩,.int .u64 ((on<<<f:Nat):Int)] 141 (0,0)));exact m_77
theorem Z8p (n:Int)(w:World):Calls Tryz.prog 199 #[.int .i64 n] w fun e w'=>e=.returned (.int .i64 (IntKind.i32.wrap n))/\w=w':=by
 go_enter Tryz.func199,Tryz.ntmps199
 go_wp2_with fail
 go_ret;exact⟨Zak (by unfold wrap64 RowKit.wrap32 IntKind.wrap;simp [IntKind.bits,IntKind.signed];omega),rfl⟩
theorem Z4z (f:Nat)(x:Rg)(w:World):Calls Tryz.prog 53 #[Za6 f x] w (RB w (Zup (Zsh f x.h))):=by
 obtain⟨h,on⟩:=x;cases h with
 | num n=>
  simp only [Za6,Za2,Zcf,Zce,Zsh,Zup];have HB:=Zh (Zad w (.cells #[.int .i64 1,.int .i64 n,.string ⟨#[]⟩,.int .u64 ((on<<<f:Nat):Int)] 141 (0,0)));go_enter Tryz.func53,Tryz.ntmps53
  go_wp2_with fail
  refine bodyPost_ret (v:=.tuple #[.agg #[.int .i64 1,.int .i64 n],.bool true]) (by simp [results,Tryz.results53,go_sem, *]) rfl ?_;exact m_66
 | adr s=>
  simp only [Za6,Za2,Zcf,Zce,Zsh,Zup];have HB:=Zh (Zad w (.cells #[.int .i64 2,.int .i64 0,.string ⟨s.toArray⟩,.int .u64 ((on<<<f:Nat):Int)] 141 (0,0)));exact m_22
 | rd i=>
  simp only [Za6,Za2,Zcf,Zce,Zsh,Zup];have HB:=Zh (Zad w (.cells #[.int .i64 3,.int .i64 ((f+i:Nat):Int),.string ⟨#[]⟩,.int .u64 ((on<<<f:Nat):Int)] 141 (0,0)));go_enter Tryz.func53,Tryz.ntmps53
  go_wp2_with fail
  refine bodyPost_ret (v:=.tuple #[.agg #[.int .i64 2,.int .i64 ((f+i:Nat):Int)],.bool true]) (by simp [results,Tryz.results53,go_sem, *]) rfl ?_;exact m_66
 | non=>
  simp only [Za6,Za2,Zcf,Zce,Zsh,Zup];have HB:=Zh (Zad w (.cells #[.int .i64 4,.int .i64 0,.string ⟨#[]⟩,.int .u64 ((on<<<f:Nat):Int)] 141 (0,0)));exact m_22
theorem Z47 {l:List Nm}{s x:Nm}{i:Nat}(hi:i<l.idxOf s)(hx:l[i]?=some x):(x == s)=false:=by
 obtain⟨h1,rfl⟩:=List.getElem?_eq_some_iff.1 hx;have:=List.not_of_lt_findIdx (p:=(· == s)) (xs:=l) hi;simpa using this
theorem Zlv (V:Zn4)(l:List Nm)(s:Nm)(w:World)(h:Zc1.At w V.lo.A l)(hn:V.lo.n=l.length)(hl:l.length<=64)(hs:s∈l):Calls Tryz.prog 50 #[Zzw V,.string ⟨s.toArray⟩] w (RB w (.int .i64 ((l.idxOf s:Nat):Int))):=by
 simp only [Zzw,Sl.v];obtain⟨Al,cl,hA⟩:∃ A c,V.lo=⟨A,l.length,c⟩:=⟨V.lo.A,V.lo.c,by rw [<- hn]⟩;rw [hA] at h;simp only at h;rw [hA];simp only;have hk:=List.idxOf_lt_length_of_mem hs;obtain⟨j,hj⟩:∃ j,l.idxOf s=j:=⟨_,rfl⟩;rw [hj] at hk ⊢;have HJ:=Zh hj;have HE:=Zh (show l[j]?=some s by rw [<- hj,List.getElem?_eq_getElem (by rw [hj];exact hk)];simp);have HA:=Zh h;have HB0:=Zh (Zad w (.cells #[.slice Al l.length cl,V.ini.v,V.ev.v,V.br.v,V.ad.v,V.da.v,V.ct.v,V.th.v,V.en.v] 87 (0,0)));have HTB:=Zh (Blk.new w 87 #[.slice Al l.length cl,V.ini.v,V.ev.v,V.br.v,V.ad.v,V.da.v,V.ct.v,V.th.v,V.en.v]);go_enter Tryz.func50,Tryz.ntmps50
 go_wp2_with fail
 go_loopw [5] (fun v wr=>∃ i:Nat,i<=j/\v=.int .i64 i/\Below w.heap.size w wr/\Blk wr w.heap.size 87 #[.slice Al l.length cl,V.ini.v,V.ev.v,V.br.v,V.ad.v,V.da.v,V.ct.v,V.th.v,V.en.v]) (fun v _=>j - (intOf v).toNat)
 case atStart=>exact⟨0,Nat.zero_le _,rfl,HB0.o,HTB.o⟩
 case round=>
  obtain⟨i,hi,rfl,hb,ht⟩:=hrel;have HB:=Zh hb;have HT:=Zh ht;have k0:=ht.k0;have hii:(0:Int)<=(i:Int):=ω;have hij:(i:Int)<(l.length:Int):=ω;by_cases hlt:i<j
  ·obtain⟨x,hx⟩:∃ x,l[i]?=some x:=⟨_,List.getElem?_eq_getElem ω⟩;obtain⟨b,o,rfl,hc⟩:=HA.o i x hx;have c0:wr.cell? ⟨b,o+i,none⟩=some (.string ⟨x.toArray⟩):=Zac (by have:=hc 0 _ rfl;rwa [show o+i*Zc1.size+0=o+i by show o+i*1+0=o+i;omega] at this) HB.o;have e1:(x == s)=false:=Z47 (by rw [HJ.o];exact hlt) hx
   go_wp2_with fail
   go_roundw
   case rel=>exact⟨i+1,ω,by go_num,HB.o,HT.o⟩
   case measure=>exact msr
  ·have hij2:i=j:=ω;subst hij2;obtain⟨b,o,rfl,hc⟩:=HA.o i s HE.o;have c0:wr.cell? ⟨b,o+i,none⟩=some (.string ⟨s.toArray⟩):=Zac (by have:=hc 0 _ rfl;rwa [show o+i*Zc1.size+0=o+i by show o+i*1+0=o+i;omega] at this) HB.o
   go_wp2_with fail
   go_ret;exact⟨rfl,HB.o⟩
theorem Zkg (a i k:Nat):Zbm a i (k+1)=if a.testBit k then Zbm a i k++[((k:Int),(i:Int))] else Zbm a i k:=by
 unfold Zbm;rw [Zdb]
 split <;> simp
theorem Zu0 (s:Sl)(l:List (Int×Int))(a i B:Nat)(w:World)(ha:a<18446744073709551616)(hl:l.length<=1000000)(hB:B<=w.heap.size)(h:Zbj.Own 175 B w s.v l) :
  Calls Tryz.prog 245 #[s.v,.int .u64 (a:Int),.int .i64 (i:Int)] w fun e w'=>∃ s':Sl,e=.returned s'.v/\Zbj.Own 175 B w' s'.v (l++Zbm a i 64)/\Zbh w w' B s.v s'.v:=by
 have HV0:=Zh h;have HG0:=Zh (Zbh.refl w B s.v);simp only [Sl.v];clear h;go_enter Tryz.func245,Tryz.ntmps245
 go_wp2_with fail
 go_loopw [7,0] (fun ii vv wr=>∃ (k:Nat) (s':Sl),k<=64/\ii=.int .i64 k/\vv=s'.v/\Zbj.Own 175 B wr s'.v (l++Zbm a i k)/\Zbh w wr B s.v s'.v) (fun ii _ _=>64 - (intOf ii).toNat)
 case atStart=>exact⟨0,s,Nat.zero_le _,rfl,rfl,by simpa [Zbm,Zdd] using HV0.o,HG0.o⟩
 case round=>
  obtain⟨k,s',hk,rfl,rfl,hv,hg⟩:=hrel;obtain⟨q,hq⟩:∃ q,l++Zbm a i k=q:=⟨_,rfl⟩;have HQ:=Zh hq;have hql:q.length<=1000064:=by
   have:=Zlu a i k;rw [<- hq,List.length_append];omega
  rw [hq] at hv;have HV:=Zh hv;have HG:=Zh hg;have hzr:=hg.below.size;clear hv hg hq HV0 HG0;simp only [Sl.v];by_cases hlt:k<64
  ·have hkl:(k:Int)<64:=ω;have hq:((a:Int) / (2:Int) ^ k)=((a / 2 ^ k:Nat):Int):=by simp
   have hlt2:a / 2 ^ k<18446744073709551616:=Nat.lt_of_le_of_lt (Nat.div_le_self _ _) ha;have hb:=Zn7 hlt2;rw [<- hq] at hb;have hbm:=Ztw a k;cases hbt:a.testBit k with
   | true=>
    have hb1:bits .and .u64 ((a:Int) / (2:Int) ^ k) 1=1:=by rw [hb];rw [hbt] at hbm;simp at hbm;simp [hbm]
    have HS:=Zh (show q++[((k:Int),(i:Int))]=l++Zbm a i (k+1) by rw [Zkg,hbt,<- HQ.o];simp);have HPA:=Zh (Zni wr ((k:Int),(i:Int)));have HB1:=Zh (Zad wr (.cells #[.int .i64 (k:Int),.int .i64 (i:Int)] 175 (0,0)));clear hq hb hbm hbt
    go_wp2_with (at_builtin;refine Enc.appW Zp6 _ rfl (.tmp 18) (.tmp 22) rfl [((k:Int),(i:Int))] B q _ wr.heap.size 0 1 rfl rfl HPA.o (HV.o.below HB1.o) (by simp;omega) (by simp;omega) (by simp;omega) ?_;intro v' w3 hown3 hg3;obtain⟨s3,rfl,_⟩:=Zlr hown3;have HO3:=Zh hown3;have HG3:=Zh hg3;clear hown3 hg3)
    go_roundw
    case rel=>exact⟨k+1,s3,ω,by go_num,rfl,by rw [<- HS.o];exact HO3.o,HG.o.trans ((Zbh.of_below HB1.o ω).trans HG3.o)⟩
    case measure=>exact msr
   | false=>
    have hb1:bits .and .u64 ((a:Int) / (2:Int) ^ k) 1=0:=by rw [hb];rw [hbt] at hbm;simp at hbm;simp [hbm]
    have HS:=Zh (show q=l++Zbm a i (k+1) by rw [Zkg,hbt,<- HQ.o];rfl);clear hq hb hbm hbt
    go_wp2_with fail
    go_roundw
    case rel=>exact⟨k+1,s',ω,by go_num,rfl,by rw [<- HS.o];exact HV.o,HG.o⟩
    case measure=>exact msr
  ·have hk64:k=64:=ω;subst hk64
   go_wp2_with fail
   go_ret;exact⟨s',rfl,by rw [HQ.o];exact HV.o,HG.o⟩
end
end
theorem Z1f (w:World)(t:TypeId)(c:Array Value)(n:Nat)(hn:w.heap.size=n):Blk (w.alloc (.cells c t (0,0))) n t c:=by rw [<- hn];exact Blk.new w t c
theorem Z65 {P:World->Prop}(w:World)(t:TypeId)(c:Array Value)(h:∀ W,Blk W w.heap.size t c->W.heap.size=w.heap.size+1->Below w.heap.size w W->P W):P (w.alloc (.cells c t (0,0))):=
 h _ (Blk.new w t c) (by simp) (Zad w _)
theorem Z31 {P:World->Prop}(w:World)(t1 t2:TypeId)(c1 c2:Array Value)(h:∀ W,Blk W w.heap.size t1 c1->Blk W (w.heap.size+1) t2 c2->W.heap.size=w.heap.size+2->Below w.heap.size w W->P W):P ((w.alloc (.cells c1 t1 (0,0))).alloc (.cells c2 t2 (0,0))):=
 h _ ((Blk.new w t1 c1).alloc _) (Z1f _ t2 c2 _ (by simp)) (by simp) (Zau w _ _)
theorem Zhf {P:World->Prop}(w:World)(t1 t2 t3:TypeId)(c1 c2 c3:Array Value)(h:∀ W,Blk W w.heap.size t1 c1->Blk W (w.heap.size+1) t2 c2->Blk W (w.heap.size+1+1) t3 c3->W.heap.size=w.heap.size+3->Below w.heap.size w W->P W):P (((w.alloc (.cells c1 t1 (0,0))).alloc (.cells c2 t2 (0,0))).alloc (.cells c3 t3 (0,0))):=
 h _ (((Blk.new w t1 c1).alloc _).alloc _) (Blk.alloc (Z1f _ t2 c2 _ (by simp)) _) (Z1f _ t3 c3 _ (by simp)) (by simp) ((Zau w _ _).trans ((Zad _ _).mono (by simp;omega)))
theorem Blk.row {w:World}{q:Nat}{t:TypeId}{z:Array Value}(h:Blk w q t z)(c:Array Value):Blk (w.setRow q c) q t c:=setRow_heap w q z c t (0,0) h
theorem Blk.farRow {w:World}{g q:Nat}{t:TypeId}{z:Array Value}(h:Blk w g t z)(hne:g≠q)(c:Array Value):Blk (w.setRow q c) g t z:=(setRow_other w q g c hne).trans h
theorem Ziv {P:Program}{fn:Func}{rp:Nat}{T:TypeId}{tmps:Array Value}{W:World}{v:Value}{q:Nat}(hr:fn.results=#[.cell rp T])(hb:tmps.getD rp undef=.pointer (some ⟨q,0,none⟩))(hl:(loadVar T ⟨q,0,none⟩).run P W=.ok v W):(results fn tmps).run P W=.ok v W:=by
 have hb':tmps[rp]?.getD undef=.pointer (some ⟨q,0,none⟩):=by rw [<- hb];simp
 simp [results,hr,hb',asAddr,hl]
theorem Zat {P:Program}{ops:Array Oper}{l:List Oper}{a:Act}{W:World}{Q:Exit->Act->World->Prop}(h:wpList P ops Q l a W):wpList P ops Q l a W:=h
theorem Zfw {P:Program}{c:Code}{a:Act}{W:World}{Q:Exit->Act->World->Prop}(h:c.wp P Q a W):c.wp P Q a W:=h
theorem Zaz {P:Program}{ops:Array Oper}{rest:List Oper}{o:Oper}{a:Act}{W:World}{Q:Exit->Act->World->Prop}(T:TypeId)(tp g:Nat){t:TypeId}{c:Array Value}{d:TypeDesc}
  (h1:o.op=.load T (.tmp tp)) (g1:o.guard=none) (hg:Blk W g t c) (hu:P.underlying T=some d) (hd:(match d with | .struct _ | .array _ _=>true | _=>false)=true) (hi:(P.info? T).map (·.size)=some c.size)
  (ha:a.tmps.getD tp undef=.pointer (some ⟨g,0,none⟩)) (hK:wpList P ops Q rest (a.put o.dst (.agg c)) W):wpList P ops Q (o :: rest) a W:=
 wpList_plain g1 fun K1 hK1=>by
  unfold Oper.wp execOp;simp only [h1,Act.eval,ha,Instr.loadAt,Instr.sureAddr,Sem.run_bind,Sem.run_pure,Result.andThen_ok,run_loadVar_row W g t T c (0,0) d hg hu hd hi];exact hK1 _ _ hK
theorem Zar {P:Program}{ops:Array Oper}{rest:List Oper}{o:Oper}{a:Act}{W:World}{Q:Exit->Act->World->Prop}(T:TypeId)(tp vp q:Nat){t:TypeId}{c z:Array Value}
  (h1:o.op=.store T (.tmp tp) (.tmp vp)) (g1:o.guard=none) (e1:o.dst=none) (hq:Blk W q t z) (hz:z.size=c.size) (hi:(P.info? T).map (·.size)=some c.size) (hone:c.all (·.oneCell')=true)
  (ha:a.tmps.getD tp undef=.pointer (some ⟨q,0,none⟩)) (hv:a.tmps.getD vp undef=.agg c) (hK:wpList P ops Q rest a (W.setRow q c)):wpList P ops Q (o :: rest) a W:=
 wpList_plain g1 fun K1 hK1=>by
  unfold Oper.wp execOp;simp only [h1,Act.eval,ha,hv,Instr.storeAt,Instr.sureAddr,Sem.run_bind,Sem.run_pure,Result.andThen_ok,run_storeVar_row W q t T z c hq hi hz hone];have h:=hK1 _ _ hK;simpa [Oper.upon,Act.put,e1] using h
theorem Zi0 {P:Program}{o:Oper}{a:Act}{W:World}{K:Act->World->Prop}{Q:Exit->Act->World->Prop}(T:TypeId)(tp vp q:Nat){t:TypeId}{c z:Array Value}
  (h1:o.op=.store T (.tmp tp) (.tmp vp)) (e1:o.dst=none) (hq:Blk W q t z) (hz:z.size=c.size) (hi:(P.info? T).map (·.size)=some c.size) (hone:c.all (·.oneCell')=true)
  (ha:a.tmps.getD tp undef=.pointer (some ⟨q,0,none⟩)) (hv:a.tmps.getD vp undef=.agg c) (h:K a (W.setRow q c)):o.wp P a W K Q:=by
 unfold Oper.wp execOp;simp only [h1,Act.eval,ha,hv,Instr.storeAt,Instr.sureAddr,Sem.run_bind,Sem.run_pure,Result.andThen_ok,run_storeVar_row W q t T z c hq hi hz hone];simpa [Oper.upon,Act.put,e1] using h
theorem Zbv {P:Program}{fn:Func}{R:Ending->World->Prop}{a:Act}{W:World}(T:TypeId)(rp q:Nat){t:TypeId}{c:Array Value}{d:TypeDesc}
  (hr:fn.results=#[.cell rp T]) (hq:Blk W q t c) (hu:P.underlying T=some d) (hd:(match d with | .struct _ | .array _ _=>true | _=>false)=true) (hi:(P.info? T).map (·.size)=some c.size)
  (hb:a.tmps.getD rp undef=.pointer (some ⟨q,0,none⟩)) (hdf:a.defers=[]) (h:R (.returned (.agg c)) W):bodyPost P fn R .ret a W:=
 ⟨hdf,_,Ziv hr hb (run_loadVar_row W q t T c (0,0) d hq hu hd hi),h⟩
theorem Znn {P:Program}{fn:Func}{rp sl:Nat}{T:TypeId}{tmps:Array Value}{W:World}{v:Value}{q:Nat}(hr:fn.results=#[.cell rp T,.tmp sl])(hb:tmps.getD rp undef=.pointer (some ⟨q,0,none⟩))(hl:(loadVar T ⟨q,0,none⟩).run P W=.ok v W):(results fn tmps).run P W=.ok (.tuple #[v,tmps.getD sl undef]) W:=by
 have hb':tmps[rp]?.getD undef=.pointer (some ⟨q,0,none⟩):=by rw [<- hb];simp
 simp [results,hr,hb',asAddr,hl]
theorem Zgv {P:Program}{fn:Func}{R:Ending->World->Prop}{a:Act}{W:World}(T:TypeId)(rp q sl:Nat){t:TypeId}{c:Array Value}{d:TypeDesc}{u:Value}
  (hr:fn.results=#[.cell rp T,.tmp sl]) (hq:Blk W q t c) (hu:P.underlying T=some d) (hd:(match d with | .struct _ | .array _ _=>true | _=>false)=true) (hi:(P.info? T).map (·.size)=some c.size)
  (hb:a.tmps.getD rp undef=.pointer (some ⟨q,0,none⟩)) (hv:a.tmps.getD sl undef=u) (hdf:a.defers=[]) (h:R (.returned (.tuple #[.agg c,u])) W):bodyPost P fn R .ret a W:=
 ⟨hdf,_,Znn hr hb (run_loadVar_row W q t T c (0,0) d hq hu hd hi),by rw [hv];exact h⟩
theorem Zcm {P:Program}{fn:Func}{R:Ending->World->Prop}{a:Act}{W:World}(i j:Nat)(hr:fn.results=#[.tmp i,.tmp j])(hdf:a.defers=[])(h:R (.returned (.tuple #[a.tmps.getD i undef,a.tmps.getD j undef])) W):bodyPost P fn R .ret a W:=
 ⟨hdf,_,by simp [results,hr],h⟩
theorem Zay {P:Program}{a:Act}{o:Oper}{T:TypeId}{x:Operand}{A:Addr}{v:Value}{w:World}(h1:o.op=.load T x)(ha:a.eval x=.pointer (some A))(hl:(loadVar T A).run P w=.ok v w):(execOp a.eval o).run P w=.ok (.value v) w:=by
 unfold execOp;simp only [h1,ha,Instr.loadAt,Instr.sureAddr,Sem.run_bind,Sem.run_pure,Result.andThen_ok,hl]
theorem Zx6 {P:Program}(fn:Func){R:Ending->World->Prop}{a:Act}{W:World}{Q:Exit->Act->World->Prop}{id:Nat}{o1 o2:Oper}(T:TypeId)(tp rp d1 g q:Nat){t t2:TypeId}{c z:Array Value}{d:TypeDesc}
  (h1:o1.op=.load T (.tmp tp)) (g1:o1.guard=none) (e1:o1.dst=some d1) (h2:o2.op=.store T (.tmp rp) (.tmp d1)) (g2:o2.guard=none) (e2:o2.dst=none) (hr:fn.results=#[.cell rp T])
  (hg:Blk W g t c) (hq:Blk W q t2 z) (hz:z.size=c.size) (hu:P.underlying T=some d) (hd:(match d with | .struct _ | .array _ _=>true | _=>false)=true) (hi:(P.info? T).map (·.size)=some c.size) (hone:c.all (·.oneCell')=true)
  (ha:a.tmps.getD tp undef=.pointer (some ⟨g,0,none⟩)) (hb:a.tmps.getD rp undef=.pointer (some ⟨q,0,none⟩)) (hne:rp≠d1) (hlt:d1<a.tmps.size) (hdf:a.defers=[])
  (hQ:∀ a' W',bodyPost P fn R .ret a' W'->Q .ret a' W') (h:R (.returned (.agg c)) (W.setRow q c)):(Code.seq (.region id #[o1,o2] false) .ret).wp P Q a W:=by
 apply wp_seq_k;intro K hK;have hl:(loadVar T ⟨g,0,none⟩).run P W=.ok (.agg c) W:=run_loadVar_row W g t T c (0,0) d hg hu hd hi;have hs:(storeVar T ⟨q,0,none⟩ (.agg c)).run P W=.ok () (W.setRow q c):=run_storeVar_row W q t2 T z c hq hi hz hone;have hl2:(loadVar T ⟨q,0,none⟩).run P (W.setRow q c)=.ok (.agg c) (W.setRow q c):=run_loadVar_row _ q t2 T c (0,0) d (hq.row c) hu hd hi;refine wp_region_lit (l:=[o1,o2]) (wpList_plain g1 fun K1 hK1=>?_);unfold Oper.wp execOp;simp only [h1,Act.eval,ha,Instr.loadAt,Instr.sureAddr,Sem.run_bind,Sem.run_pure,Result.andThen_ok,hl];refine hK1 _ _ (wpList_plain g2 fun K2 hK2=>?_);have ev:(a.put o1.dst (.agg c)).tmps.getD d1 undef=.agg c:=by
  rw [e1];simp [Act.put,hlt]
 have er:(a.put o1.dst (.agg c)).tmps.getD rp undef=.pointer (some ⟨q,0,none⟩):=by
  rw [e1,<- hb];simp [Act.put,Array.getElem?_setIfInBounds_ne (Ne.symm hne)]
 unfold Oper.wp execOp;simp only [h2,Act.eval,ev,er,Instr.storeAt,Instr.sureAddr,Sem.run_bind,Sem.run_pure,Result.andThen_ok,hs];refine hK2 _ _ (wpList_nil (hK _ _ (wp_ret (hQ _ _ ⟨?_,_,Ziv hr ?_ hl2,h⟩))))
 ·rw [e1,e2];exact hdf
 ·rw [e2];exact er
section
set_option maxHeartbeats 4000000
set_option maxRecDepth 100000
theorem Z2s {op:Int}(h8:op=8\/op=9\/op=10):∀ {a:Zeb},Zqc a->Zc0 op a (.num 0)=a
 | .num x,h=>by
  show Zeb.num (opN op x 0)=_;rcases h8 with rfl | rfl | rfl
  ·rw [show opN 8 x 0=bits .or .i64 x 0 from rfl,Zv2 h]
  ·rw [show opN 9 x 0=bits .xor .i64 x 0 from rfl,Ztf h]
  ·rw [show opN 10 x 0=IntKind.i32.wrap (x+0) from rfl,Int.add_zero,wrap32 h]
 | .adr _,_=>rfl
 | .rd _,_=>rfl
 | .non,_=>rfl
theorem Z2r {op:Int}(h8:op=8\/op=9\/op=10):∀ {b:Zeb},Zqc b->Zc0 op (.num 0) b=b
 | .num x,h=>by
  show Zeb.num (opN op 0 x)=_;rcases h8 with rfl | rfl | rfl
  ·rw [show opN 8 0 x=bits .or .i64 0 x from rfl,Zxd h]
  ·rw [show opN 9 0 x=bits .xor .i64 0 x from rfl,Zth h]
  ·rw [show opN 10 0 x=IntKind.i32.wrap (0+x) from rfl,Int.zero_add,wrap32 h]
 | .adr _,_=>rfl
 | .rd _,_=>rfl
 | .non,_=>rfl
theorem Z2o {op:Int}:∀ {a b:Zeb},Zow a=false->Zc6 b=false->Zc0 op a b=.non
 | .num _,_,h,_=>by cases h
 | .adr _,.num y,_,h=>by simp only [Zc6,decide_eq_false_iff_not] at h;simp [Zc0,h]
 | .rd _,.num y,_,h=>by simp only [Zc6,decide_eq_false_iff_not] at h;simp [Zc0,h]
 | .non,.num y,_,h=>by simp only [Zc6,decide_eq_false_iff_not] at h;simp [Zc0,h]
 | .adr _,.adr _,_,_=>rfl
 | .adr _,.rd _,_,_=>rfl
 | .adr _,.non,_,_=>rfl
 | .rd _,.adr _,_,_=>rfl
 | .rd _,.rd _,_,_=>rfl
 | .rd _,.non,_,_=>rfl
 | .non,.adr _,_,_=>rfl
 | .non,.rd _,_,_=>rfl
 | .non,.non,_,_=>rfl
theorem Z2p {op:Int}:∀ {a b:Zeb},Zow b=false->Zc6 a=false->Zc0 op a b=.non
 | _,.num _,h,_=>by cases h
 | .num x,.adr _,_,h=>by simp only [Zc6,decide_eq_false_iff_not] at h;simp [Zc0,h]
 | .num x,.rd _,_,h=>by simp only [Zc6,decide_eq_false_iff_not] at h;simp [Zc0,h]
 | .num x,.non,_,h=>by simp only [Zc6,decide_eq_false_iff_not] at h;simp [Zc0,h]
 | .adr _,.adr _,_,_=>rfl
 | .adr _,.rd _,_,_=>rfl
 | .adr _,.non,_,_=>rfl
 | .rd _,.adr _,_,_=>rfl
 | .rd _,.rd _,_,_=>rfl
 | .rd _,.non,_,_=>rfl
 | .non,.adr _,_,_=>rfl
 | .non,.rd _,_,_=>rfl
 | .non,.non,_,_=>rfl
theorem Zmt:∀ {a:Zeb},Zow a=false->Za2 a≠1
 | .num _,h=>by cases h
 | .adr _,_=>by show (2:Int)≠1;decide
 | .rd _,_=>by show (3:Int)≠1;decide
 | .non,_=>by show (4:Int)≠1;decide
theorem Zy0 (f:Nat)(op:Int)(ha:Zeb)(oa ob:Nat)(w:World)(h1:oa<<<f<18446744073709551616)(h2:ob<<<f<18446744073709551616) :
  Calls Tryz.prog 142 #[.int .i64 op,Za6 f ⟨ha,oa⟩,Za6 f ⟨.num 0,ob⟩] w fun e w'=>e=.returned (Za6 f ⟨ha,oa|||ob⟩)/\Below w.heap.size w w':=by
 have HZA:=Zh (fun w=>Zh7 f ⟨ha,oa⟩ w);have HZB:=Zh (fun w=>Zh7 f ⟨(.num 0),ob⟩ w);have hor:=Zcw h1 h2;have hsh:=Zh2 oa ob f;simp only [Za6,hsh] at *;clear h1 h2 hsh;generalize oa<<<f=A at *;generalize ob<<<f=E at *;generalize A|||E=C at *
 go_enter Tryz.func142,Tryz.ntmps142;apply wp_seq_k;intro K hK;have HK:=Zh hK;clear hK
 go_wp2_with fail
 refine Zhf (P:=fun X=>K _ X) w _ _ _ _ _ _ ?_;intro W b0 b1 b2 hz hbW;refine HK.o _ _ ?_;clear HK K;have HA:=Zh b0;have HB:=Zh b1;have HO:=Zh b2;have HW:=Zh hbW;have hzW:w.heap.size+1+1<W.heap.size:=ω;have hzW1:w.heap.size+1<W.heap.size:=ω;have hzW0:w.heap.size<W.heap.size:=ω;clear b0 b1 b2 hz hbW;have a0:=HA.o.cm 0;have a1:=HA.o.cm 1;have a2:=HA.o.cm 2;have a3:=HA.o.cm 3;have b0:=HB.o.cm 0;have b1:=HB.o.cm 1;have b2:=HB.o.cm 2;have b3:=HB.o.cm 3
 go_wp2_with (go_at_call 198;refine Hid.o ?_)
 refine Zh ?_;refine (HZB.o _).mono ?_;rintro e w1 ⟨he,hb1⟩;simp only [Zc6,decide_true] at he;subst he;dsimp only;have hb2:=Zab (Zad W (.cells #[.int .i64 4,.int .i64 0,.string ⟨#[]⟩,.int .u64 0] 141 (0,0))) hb1;have HL1:=Zh ((Blk.new W 141 #[.int .i64 4,.int .i64 0,.string ⟨#[]⟩,.int .u64 0]).go hb1);have HA1:=Zh (HA.o.go hb2);have HB1:=Zh (HB.o.go hb2);have HO1:=Zh (HO.o.go hb2);have HW1:=Zh (Zab HW.o hb2);have hw1:=hb2.size;clear HA HB HO HW hb1 hb2 a0 a1 a2 a3 b0 b1 b2 b3;have a0:=HA1.o.cm 0;have a1:=HA1.o.cm 1;have a2:=HA1.o.cm 2;have a3:=HA1.o.cm 3;have b0:=HB1.o.cm 0;have b1:=HB1.o.cm 1;have b2:=HB1.o.cm 2;have b3:=HB1.o.cm 3;have HA9:=Zh (HA1.o.farRow (show w.heap.size≠W.heap.size by omega) #[.int .i64 (Za2 ha),.int .i64 (Zcf f ha),.string ⟨(Zce ha).toArray⟩,.int .u64 ((A:Nat):Int)]);have HB9:=Zh (HB1.o.farRow (show w.heap.size+1≠W.heap.size by omega) #[.int .i64 (Za2 ha),.int .i64 (Zcf f ha),.string ⟨(Zce ha).toArray⟩,.int .u64 ((A:Nat):Int)]);have HL9:=Zh (HL1.o.row #[.int .i64 (Za2 ha),.int .i64 (Zcf f ha),.string ⟨(Zce ha).toArray⟩,.int .u64 ((A:Nat):Int)])
 have HLf:Hid (Blk ((w1.setRow W.heap.size #[.int .i64 (Za2 ha),.int .i64 (Zcf f ha),.string ⟨(Zce ha).toArray⟩,.int .u64 ((A:Nat):Int)]).setCell ⟨W.heap.size,3,none⟩ (.int .u64 ((C:Nat):Int))) W.heap.size 141 #[.int .i64 (Za2 ha),.int .i64 (Zcf f ha),.string ⟨(Zce ha).toArray⟩,.int .u64 ((C:Nat):Int)]):=Zh (HL9.o.set_ 3 _);have HOf:=Zh ((HO1.o.farRow (show w.heap.size+1+1≠W.heap.size by omega) #[.int .i64 (Za2 ha),.int .i64 (Zcf f ha),.string ⟨(Zce ha).toArray⟩,.int .u64 ((A:Nat):Int)]).far (p:=⟨W.heap.size,3,none⟩) (show w.heap.size+1+1≠W.heap.size by omega) (.int .u64 ((C:Nat):Int)));have HWf:=Zh ((below_setRow HW1.o (show w.heap.size<=W.heap.size by omega) #[.int .i64 (Za2 ha),.int .i64 (Zcf f ha),.string ⟨(Zce ha).toArray⟩,.int .u64 ((A:Nat):Int)]).setCell (p:=⟨W.heap.size,3,none⟩) (show w.heap.size<=W.heap.size by omega) (.int .u64 ((C:Nat):Int)));have y3:=HA9.o.cell 3;have z3:=HB9.o.cell 3;have l3:=HL9.o.cell 3;have fl:=HL9.o.frozen 3;simp only [List.getElem?_toArray,List.getElem?_cons_succ,List.getElem?_cons_zero] at y3 z3 l3;clear a0 a1 a2 a3 b0 b1 b2 b3
 repeat (first | ((with_reducible refine Zat ?_);refine Zaz 141 4 w.heap.size rfl rfl HA1.o Tryz.underlying141 rfl κ rfl ?_) | ((with_reducible refine Zat ?_);refine Zar 141 7 12 W.heap.size rfl rfl rfl HL1.o (by rfl) κ κ rfl rfl ?_) | ((with_reducible refine Zat ?_);refine Zaz 141 7 W.heap.size rfl rfl HLf.o Tryz.underlying141 rfl κ rfl ?_) | ((with_reducible refine Zat ?_);refine Zar 141 6 77 (w.heap.size+1+1) rfl rfl rfl HOf.o (by rfl) κ κ rfl rfl ?_) | go_step)
 refine Zbv 141 6 (w.heap.size+1+1) rfl (HOf.o.row _) Tryz.underlying141 rfl κ rfl rfl ?_;exact⟨rfl,below_setRow HWf.o (show w.heap.size<=w.heap.size+1+1 by omega) _⟩
theorem Zy1 (f:Nat)(op:Int)(hb:Zeb)(hzb:Zc6 hb=false)(oa ob:Nat)(w:World)(h1:oa<<<f<18446744073709551616)(h2:ob<<<f<18446744073709551616) :
  Calls Tryz.prog 142 #[.int .i64 op,Za6 f ⟨.num 0,oa⟩,Za6 f ⟨hb,ob⟩] w fun e w'=>e=.returned (Za6 f ⟨hb,oa|||ob⟩)/\Below w.heap.size w w':=by
 have HZA:=Zh (fun w=>Zh7 f ⟨(.num 0),oa⟩ w);have HZB:=Zh (fun w=>Zh7 f ⟨hb,ob⟩ w);have hor:=Zcw h1 h2;have hsh:=Zh2 oa ob f;simp only [Za6,hsh] at *;clear h1 h2 hsh;generalize oa<<<f=A at *;generalize ob<<<f=E at *;generalize A|||E=C at *
 go_enter Tryz.func142,Tryz.ntmps142;apply wp_seq_k;intro K hK;have HK:=Zh hK;clear hK
 go_wp2_with fail
 refine Zhf (P:=fun X=>K _ X) w _ _ _ _ _ _ ?_;intro W b0 b1 b2 hz hbW;refine HK.o _ _ ?_;clear HK K;have HA:=Zh b0;have HB:=Zh b1;have HO:=Zh b2;have HW:=Zh hbW;have hzW:w.heap.size+1+1<W.heap.size:=ω;have hzW1:w.heap.size+1<W.heap.size:=ω;have hzW0:w.heap.size<W.heap.size:=ω;clear b0 b1 b2 hz hbW;have a0:=HA.o.cm 0;have a1:=HA.o.cm 1;have a2:=HA.o.cm 2;have a3:=HA.o.cm 3;have b0:=HB.o.cm 0;have b1:=HB.o.cm 1;have b2:=HB.o.cm 2;have b3:=HB.o.cm 3
 go_wp2_with (go_at_call 198;refine Hid.o ?_)
 refine Zh ?_;refine (HZB.o _).mono ?_;rintro e w1 ⟨he,hb1⟩;simp only [hzb] at he;subst he;dsimp only;have hb2:=Zab (Zad W (.cells #[.int .i64 4,.int .i64 0,.string ⟨#[]⟩,.int .u64 0] 141 (0,0))) hb1;have HL1:=Zh ((Blk.new W 141 #[.int .i64 4,.int .i64 0,.string ⟨#[]⟩,.int .u64 0]).go hb1);have HA1:=Zh (HA.o.go hb2);have HB1:=Zh (HB.o.go hb2);have HO1:=Zh (HO.o.go hb2);have HW1:=Zh (Zab HW.o hb2);have hw1:=hb2.size;clear HA HB HO HW hb1 hb2 a0 a1 a2 a3 b0 b1 b2 b3;have a0:=HA1.o.cm 0;have a1:=HA1.o.cm 1;have a2:=HA1.o.cm 2;have a3:=HA1.o.cm 3;have b0:=HB1.o.cm 0;have b1:=HB1.o.cm 1;have b2:=HB1.o.cm 2;have b3:=HB1.o.cm 3
 go_wp2_with (go_at_call 198;refine Hid.o ?_)
 refine Zh ?_;refine (HZA.o _).mono ?_;rintro e w2 ⟨he,hb1⟩;simp only [Zc6,decide_true] at he;subst he;dsimp only;have HL2:=Zh (HL1.o.go hb1);have HA2:=Zh (HA1.o.go hb1);have HB2:=Zh (HB1.o.go hb1);have HO2:=Zh (HO1.o.go hb1);have HW2:=Zh (Zab HW1.o hb1);have hw2:=hb1.size;clear HL1 HA1 HB1 HO1 HW1 hb1 a0 a1 a2 a3 b0 b1 b2 b3;have HA9:=Zh (HA2.o.farRow (show w.heap.size≠W.heap.size by omega) #[.int .i64 (Za2 hb),.int .i64 (Zcf f hb),.string ⟨(Zce hb).toArray⟩,.int .u64 ((E:Nat):Int)]);have HB9:=Zh (HB2.o.farRow (show w.heap.size+1≠W.heap.size by omega) #[.int .i64 (Za2 hb),.int .i64 (Zcf f hb),.string ⟨(Zce hb).toArray⟩,.int .u64 ((E:Nat):Int)]);have HL9:=Zh (HL2.o.row #[.int .i64 (Za2 hb),.int .i64 (Zcf f hb),.string ⟨(Zce hb).toArray⟩,.int .u64 ((E:Nat):Int)]);have HLf:Hid (Blk ((w2.setRow W.heap.size #[.int .i64 (Za2 hb),.int .i64 (Zcf f hb),.string ⟨(Zce hb).toArray⟩,.int .u64 ((E:Nat):Int)]).setCell ⟨W.heap.size,3,none⟩ (.int .u64 ((C:Nat):Int))) W.heap.size 141 #[.int .i64 (Za2 hb),.int .i64 (Zcf f hb),.string ⟨(Zce hb).toArray⟩,.int .u64 ((C:Nat):Int)]):=Zh (HL9.o.set_ 3 _);have HOf:=Zh ((HO2.o.farRow (show w.heap.size+1+1≠W.heap.size by omega) #[.int .i64 (Za2 hb),.int .i64 (Zcf f hb),.string ⟨(Zce hb).toArray⟩,.int .u64 ((E:Nat):Int)]).far (p:=⟨W.heap.size,3,none⟩) (show w.heap.size+1+1≠W.heap.size by omega) (.int .u64 ((C:Nat):Int)))
 have HWf:=Zh ((below_setRow HW2.o (show w.heap.size<=W.heap.size by omega) #[.int .i64 (Za2 hb),.int .i64 (Zcf f hb),.string ⟨(Zce hb).toArray⟩,.int .u64 ((E:Nat):Int)]).setCell (p:=⟨W.heap.size,3,none⟩) (show w.heap.size<=W.heap.size by omega) (.int .u64 ((C:Nat):Int)));have y3:=HA9.o.cell 3;have z3:=HB9.o.cell 3;have l3:=HL9.o.cell 3;have fl:=HL9.o.frozen 3;simp only [List.getElem?_toArray,List.getElem?_cons_succ,List.getElem?_cons_zero] at y3 z3 l3
 repeat (first | ((with_reducible refine Zat ?_);refine Zaz 141 5 (w.heap.size+1) rfl rfl HB2.o Tryz.underlying141 rfl κ rfl ?_) | ((with_reducible refine Zat ?_);refine Zar 141 7 16 W.heap.size rfl rfl rfl HL2.o (by rfl) κ κ rfl rfl ?_) | ((with_reducible refine Zat ?_);refine Zaz 141 7 W.heap.size rfl rfl HLf.o Tryz.underlying141 rfl κ rfl ?_) | ((with_reducible refine Zat ?_);refine Zar 141 6 77 (w.heap.size+1+1) rfl rfl rfl HOf.o (by rfl) κ κ rfl rfl ?_) | go_step)
 refine Zbv 141 6 (w.heap.size+1+1) rfl (HOf.o.row _) Tryz.underlying141 rfl κ rfl rfl ?_;exact⟨rfl,below_setRow HWf.o (show w.heap.size<=w.heap.size+1+1 by omega) _⟩
theorem Zy2 (f:Nat)(op:Int)(ha hb:Zeb)(hka:Zow ha=false)(hzb:Zc6 hb=false)(oa ob:Nat)(w:World)(h1:oa<<<f<18446744073709551616)(h2:ob<<<f<18446744073709551616) :
  Calls Tryz.prog 142 #[.int .i64 op,Za6 f ⟨ha,oa⟩,Za6 f ⟨hb,ob⟩] w fun e w'=>e=.returned (Za6 f ⟨.non,oa|||ob⟩)/\Below w.heap.size w w':=by
 have hza:Zc6 ha=false:=by
  cases ha with
  | num n=>cases hka
  | adr s=>rfl
  | rd i=>rfl
  | non=>rfl
 have hk1:=Zmt hka;have hk2:¬ Za2 ha=1:=hk1;have hk3:(Za2 ha != 1)=true:=by simpa using hk1
 have hk4:decide (Za2 ha=1)=false:=by simpa using hk1
 have HZA:=Zh (fun w=>Zh7 f ⟨ha,oa⟩ w);have HZB:=Zh (fun w=>Zh7 f ⟨hb,ob⟩ w);have hor:=Zcw h1 h2;have hsh:=Zh2 oa ob f;simp only [Za6,hsh] at *;clear h1 h2 hsh;generalize oa<<<f=A at *;generalize ob<<<f=E at *;generalize A|||E=C at *
 go_enter Tryz.func142,Tryz.ntmps142;apply wp_seq_k;intro K hK;have HK:=Zh hK;clear hK
 go_wp2_with fail
 refine Zhf (P:=fun X=>K _ X) w _ _ _ _ _ _ ?_;intro W b0 b1 b2 hz hbW;refine HK.o _ _ ?_;clear HK K;have HA:=Zh b0;have HB:=Zh b1;have HO:=Zh b2;have HW:=Zh hbW;have hzW:w.heap.size+1+1<W.heap.size:=ω;have hzW1:w.heap.size+1<W.heap.size:=ω;have hzW0:w.heap.size<W.heap.size:=ω;clear b0 b1 b2 hz hbW;have a0:=HA.o.cm 0;have a1:=HA.o.cm 1;have a2:=HA.o.cm 2;have a3:=HA.o.cm 3;have b0:=HB.o.cm 0;have b1:=HB.o.cm 1;have b2:=HB.o.cm 2;have b3:=HB.o.cm 3
 go_wp2_with (go_at_call 198;refine Hid.o ?_)
 refine Zh ?_;refine (HZB.o _).mono ?_;rintro e w1 ⟨he,hb1⟩;simp only [hzb] at he;subst he;dsimp only;have hb2:=Zab (Zad W (.cells #[.int .i64 4,.int .i64 0,.string ⟨#[]⟩,.int .u64 0] 141 (0,0))) hb1;have HL1:=Zh ((Blk.new W 141 #[.int .i64 4,.int .i64 0,.string ⟨#[]⟩,.int .u64 0]).go hb1);have HA1:=Zh (HA.o.go hb2);have HB1:=Zh (HB.o.go hb2);have HO1:=Zh (HO.o.go hb2);have HW1:=Zh (Zab HW.o hb2);have hw1:=hb2.size;clear HA HB HO HW hb1 hb2 a0 a1 a2 a3 b0 b1 b2 b3;have a0:=HA1.o.cm 0;have a1:=HA1.o.cm 1;have a2:=HA1.o.cm 2;have a3:=HA1.o.cm 3;have b0:=HB1.o.cm 0;have b1:=HB1.o.cm 1;have b2:=HB1.o.cm 2;have b3:=HB1.o.cm 3
 go_wp2_with (go_at_call 198;refine Hid.o ?_)
 refine Zh ?_;refine (HZA.o _).mono ?_;rintro e w2 ⟨he,hb1⟩;simp only [hza] at he;subst he;dsimp only;have HL2:=Zh (HL1.o.go hb1);have HA2:=Zh (HA1.o.go hb1);have HB2:=Zh (HB1.o.go hb1);have HO2:=Zh (HO1.o.go hb1);have HW2:=Zh (Zab HW1.o hb1);have hw2:=hb1.size;clear HL1 HA1 HB1 HO1 HW1 hb1 a0 a1 a2 a3 b0 b1 b2 b3;have HLf:Hid (Blk (w2.setCell ⟨W.heap.size,3,none⟩ (.int .u64 ((C:Nat):Int))) W.heap.size 141 #[.int .i64 4,.int .i64 0,.string ⟨#[]⟩,.int .u64 ((C:Nat):Int)]):=Zh (HL2.o.set_ 3 _);have HOf:=Zh (HO2.o.far (p:=⟨W.heap.size,3,none⟩) (show w.heap.size+1+1≠W.heap.size by omega) (.int .u64 ((C:Nat):Int)));have HWf:=Zh (HW2.o.setCell (p:=⟨W.heap.size,3,none⟩) (show w.heap.size<=W.heap.size by omega) (.int .u64 ((C:Nat):Int)));have y3:=HA2.o.cm 3;have z3:=HB2.o.cm 3;have l3:=HL2.o.cm 3;have fl:=HL2.o.frozen 3;have a0:=HA2.o.cm 0;have b0:=HB2.o.cm 0
 repeat (first | ((with_reducible refine Zat ?_);refine Zar 141 7 12 W.heap.size rfl rfl rfl HL2.o (by rfl) κ κ rfl rfl ?_) | ((with_reducible refine Zat ?_);refine Zaz 141 7 W.heap.size rfl rfl HLf.o Tryz.underlying141 rfl κ rfl ?_) | ((with_reducible refine Zat ?_);refine Zar 141 6 77 (w.heap.size+1+1) rfl rfl rfl HOf.o (by rfl) κ κ rfl rfl ?_) | go_step)
 refine Zbv 141 6 (w.heap.size+1+1) rfl (HOf.o.row _) Tryz.underlying141 rfl κ rfl rfl ?_;exact⟨rfl,below_setRow HWf.o (show w.heap.size<=w.heap.size+1+1 by omega) _⟩
theorem Zy3 (f:Nat)(op:Int)(x:Int)(hb:Zeb)(hzx:Zc6 (.num x)=false)(hkb:Zow hb=false)(oa ob:Nat)(w:World)(h1:oa<<<f<18446744073709551616)(h2:ob<<<f<18446744073709551616) :
  Calls Tryz.prog 142 #[.int .i64 op,Za6 f ⟨.num x,oa⟩,Za6 f ⟨hb,ob⟩] w fun e w'=>e=.returned (Za6 f ⟨.non,oa|||ob⟩)/\Below w.heap.size w w':=by
 have hzb:Zc6 hb=false:=by
  cases hb with
  | num n=>cases hkb
  | adr s=>rfl
  | rd i=>rfl
  | non=>rfl
 have hk1:=Zmt hkb;have hk2:¬ Za2 hb=1:=hk1;have hk3:(Za2 hb != 1)=true:=by simpa using hk1
 have hk4:decide (Za2 hb=1)=false:=by simpa using hk1
 have HZA:=Zh (fun w=>Zh7 f ⟨(.num x),oa⟩ w);have HZB:=Zh (fun w=>Zh7 f ⟨hb,ob⟩ w);have hor:=Zcw h1 h2;have hsh:=Zh2 oa ob f;simp only [Za6,hsh] at *;clear h1 h2 hsh;generalize oa<<<f=A at *;generalize ob<<<f=E at *;generalize A|||E=C at *
 go_enter Tryz.func142,Tryz.ntmps142;apply wp_seq_k;intro K hK;have HK:=Zh hK;clear hK
 go_wp2_with fail
 refine Zhf (P:=fun X=>K _ X) w _ _ _ _ _ _ ?_;intro W b0 b1 b2 hz hbW;refine HK.o _ _ ?_;clear HK K;have HA:=Zh b0;have HB:=Zh b1;have HO:=Zh b2;have HW:=Zh hbW;have hzW:w.heap.size+1+1<W.heap.size:=ω;have hzW1:w.heap.size+1<W.heap.size:=ω;have hzW0:w.heap.size<W.heap.size:=ω;clear b0 b1 b2 hz hbW;have a0:=HA.o.cm 0;have a1:=HA.o.cm 1;have a2:=HA.o.cm 2;have a3:=HA.o.cm 3;have b0:=HB.o.cm 0;have b1:=HB.o.cm 1;have b2:=HB.o.cm 2;have b3:=HB.o.cm 3
 go_wp2_with (go_at_call 198;refine Hid.o ?_)
 refine Zh ?_;refine (HZB.o _).mono ?_;rintro e w1 ⟨he,hb1⟩;simp only [hzb] at he;subst he;dsimp only;have hb2:=Zab (Zad W (.cells #[.int .i64 4,.int .i64 0,.string ⟨#[]⟩,.int .u64 0] 141 (0,0))) hb1;have HL1:=Zh ((Blk.new W 141 #[.int .i64 4,.int .i64 0,.string ⟨#[]⟩,.int .u64 0]).go hb1);have HA1:=Zh (HA.o.go hb2);have HB1:=Zh (HB.o.go hb2);have HO1:=Zh (HO.o.go hb2);have HW1:=Zh (Zab HW.o hb2);have hw1:=hb2.size;clear HA HB HO HW hb1 hb2 a0 a1 a2 a3 b0 b1 b2 b3;have a0:=HA1.o.cm 0;have a1:=HA1.o.cm 1;have a2:=HA1.o.cm 2;have a3:=HA1.o.cm 3;have b0:=HB1.o.cm 0;have b1:=HB1.o.cm 1;have b2:=HB1.o.cm 2;have b3:=HB1.o.cm 3
 go_wp2_with (go_at_call 198;refine Hid.o ?_)
 refine Zh ?_;refine (HZA.o _).mono ?_;rintro e w2 ⟨he,hb1⟩;simp only [hzx] at he;subst he;dsimp only;have HL2:=Zh (HL1.o.go hb1);have HA2:=Zh (HA1.o.go hb1);have HB2:=Zh (HB1.o.go hb1);have HO2:=Zh (HO1.o.go hb1);have HW2:=Zh (Zab HW1.o hb1);have hw2:=hb1.size;clear HL1 HA1 HB1 HO1 HW1 hb1 a0 a1 a2 a3 b0 b1 b2 b3;have HLf:Hid (Blk (w2.setCell ⟨W.heap.size,3,none⟩ (.int .u64 ((C:Nat):Int))) W.heap.size 141 #[.int .i64 4,.int .i64 0,.string ⟨#[]⟩,.int .u64 ((C:Nat):Int)]):=Zh (HL2.o.set_ 3 _);have HOf:=Zh (HO2.o.far (p:=⟨W.heap.size,3,none⟩) (show w.heap.size+1+1≠W.heap.size by omega) (.int .u64 ((C:Nat):Int)));have HWf:=Zh (HW2.o.setCell (p:=⟨W.heap.size,3,none⟩) (show w.heap.size<=W.heap.size by omega) (.int .u64 ((C:Nat):Int)));have y3:=HA2.o.cm 3;have z3:=HB2.o.cm 3;have l3:=HL2.o.cm 3;have fl:=HL2.o.frozen 3;have a0:=HA2.o.cm 0;have b0:=HB2.o.cm 0
 repeat (first | ((with_reducible refine Zat ?_);refine Zar 141 7 12 W.heap.size rfl rfl rfl HL2.o (by rfl) κ κ rfl rfl ?_) | ((with_reducible refine Zat ?_);refine Zaz 141 7 W.heap.size rfl rfl HLf.o Tryz.underlying141 rfl κ rfl ?_) | ((with_reducible refine Zat ?_);refine Zar 141 6 77 (w.heap.size+1+1) rfl rfl rfl HOf.o (by rfl) κ κ rfl rfl ?_) | go_step)
 refine Zbv 141 6 (w.heap.size+1+1) rfl (HOf.o.row _) Tryz.underlying141 rfl κ rfl rfl ?_;exact⟨rfl,below_setRow HWf.o (show w.heap.size<=w.heap.size+1+1 by omega) _⟩
theorem Zy5 (f:Nat)(x y:Int)(hx:Zdl x)(hy:Zdl y)(hzx:Zc6 (.num x)=false)(hzy:Zc6 (.num y)=false)(oa ob:Nat)(w:World)(h1:oa<<<f<18446744073709551616)(h2:ob<<<f<18446744073709551616) :
  Calls Tryz.prog 142 #[.int .i64 9,Za6 f ⟨.num x,oa⟩,Za6 f ⟨.num y,ob⟩] w fun e w'=>e=.returned (Za6 f ⟨.num (bits .xor .i64 x y),oa|||ob⟩)/\Below w.heap.size w w':=by
 have h4:=Zte hx hy;have h6:wrap64 (bits .xor .i64 x y)=bits .xor .i64 x y:=by rw [h4.1];exact Zgj h4.2
 clear h4 hx hy;have HZA:=Zh (fun w=>Zh7 f ⟨(.num x),oa⟩ w);have HZB:=Zh (fun w=>Zh7 f ⟨(.num y),ob⟩ w);have hor:=Zcw h1 h2;have hsh:=Zh2 oa ob f;simp only [Za6,hsh] at *;clear h1 h2 hsh;generalize oa<<<f=A at *;generalize ob<<<f=E at *;generalize A|||E=C at *
 go_enter Tryz.func142,Tryz.ntmps142;apply wp_seq_k;intro K hK;have HK:=Zh hK;clear hK
 go_wp2_with fail
 refine Zhf (P:=fun X=>K _ X) w _ _ _ _ _ _ ?_;intro W b0 b1 b2 hz hbW;refine HK.o _ _ ?_;clear HK K;have HA:=Zh b0;have HB:=Zh b1;have HO:=Zh b2;have HW:=Zh hbW;have hzW:w.heap.size+1+1<W.heap.size:=ω;have hzW1:w.heap.size+1<W.heap.size:=ω;have hzW0:w.heap.size<W.heap.size:=ω;clear b0 b1 b2 hz hbW;have a0:=HA.o.cm 0;have a1:=HA.o.cm 1;have a2:=HA.o.cm 2;have a3:=HA.o.cm 3;have b0:=HB.o.cm 0;have b1:=HB.o.cm 1;have b2:=HB.o.cm 2;have b3:=HB.o.cm 3
 go_wp2_with (go_at_call 198;refine Hid.o ?_)
 refine Zh ?_;refine (HZB.o _).mono ?_;rintro e w1 ⟨he,hb1⟩;simp only [hzy] at he;subst he;dsimp only;have hb2:=Zab (Zad W (.cells #[.int .i64 4,.int .i64 0,.string ⟨#[]⟩,.int .u64 0] 141 (0,0))) hb1;have HL1:=Zh ((Blk.new W 141 #[.int .i64 4,.int .i64 0,.string ⟨#[]⟩,.int .u64 0]).go hb1);have HA1:=Zh (HA.o.go hb2);have HB1:=Zh (HB.o.go hb2);have HO1:=Zh (HO.o.go hb2);have HW1:=Zh (Zab HW.o hb2);have hw1:=hb2.size;clear HA HB HO HW hb1 hb2 a0 a1 a2 a3 b0 b1 b2 b3;have a0:=HA1.o.cm 0;have a1:=HA1.o.cm 1;have a2:=HA1.o.cm 2;have a3:=HA1.o.cm 3;have b0:=HB1.o.cm 0;have b1:=HB1.o.cm 1;have b2:=HB1.o.cm 2;have b3:=HB1.o.cm 3
 go_wp2_with (go_at_call 198;refine Hid.o ?_)
 refine Zh ?_;refine (HZA.o _).mono ?_;rintro e w2 ⟨he,hb1⟩;simp only [hzx] at he;subst he;dsimp only;have HL2:=Zh (HL1.o.go hb1);have HA2:=Zh (HA1.o.go hb1);have HB2:=Zh (HB1.o.go hb1);have HO2:=Zh (HO1.o.go hb1);have HW2:=Zh (Zab HW1.o hb1);have hw2:=hb1.size;clear HL1 HA1 HB1 HO1 HW1 hb1 a0 a1 a2 a3 b0 b1 b2 b3;have HA9:=Zh (HA2.o.farRow (show w.heap.size≠W.heap.size by omega) #[.int .i64 1,.int .i64 (bits .xor .i64 x y),.string ⟨#[]⟩,.int .u64 0]);have HB9:=Zh (HB2.o.farRow (show w.heap.size+1≠W.heap.size by omega) #[.int .i64 1,.int .i64 (bits .xor .i64 x y),.string ⟨#[]⟩,.int .u64 0]);have HL9:=Zh (HL2.o.row #[.int .i64 1,.int .i64 (bits .xor .i64 x y),.string ⟨#[]⟩,.int .u64 0]);have HLf:Hid (Blk ((w2.setRow W.heap.size #[.int .i64 1,.int .i64 (bits .xor .i64 x y),.string ⟨#[]⟩,.int .u64 0]).setCell ⟨W.heap.size,3,none⟩ (.int .u64 ((C:Nat):Int))) W.heap.size 141 #[.int .i64 1,.int .i64 (bits .xor .i64 x y),.string ⟨#[]⟩,.int .u64 ((C:Nat):Int)]):=Zh (HL9.o.set_ 3 _);have HOf:=Zh ((HO2.o.farRow (show w.heap.size+1+1≠W.heap.size by omega) #[.int .i64 1,.int .i64 (bits .xor .i64 x y),.string ⟨#[]⟩,.int .u64 0]).far (p:=⟨W.heap.size,3,none⟩) (show w.heap.size+1+1≠W.heap.size by omega) (.int .u64 ((C:Nat):Int)))
 have HWf:=Zh ((below_setRow HW2.o (show w.heap.size<=W.heap.size by omega) #[.int .i64 1,.int .i64 (bits .xor .i64 x y),.string ⟨#[]⟩,.int .u64 0]).setCell (p:=⟨W.heap.size,3,none⟩) (show w.heap.size<=W.heap.size by omega) (.int .u64 ((C:Nat):Int)));have y3:=HA9.o.cell 3;have z3:=HB9.o.cell 3;have l3:=HL9.o.cell 3;have fl:=HL9.o.frozen 3;simp only [List.getElem?_toArray,List.getElem?_cons_succ,List.getElem?_cons_zero] at y3 z3 l3;have a0:=HA2.o.cm 0;have b0:=HB2.o.cm 0;have a1:w2.cell? ⟨w.heap.size,1,none⟩=some (.int .i64 x):=HA2.o.cell 1;have b1:w2.cell? ⟨w.heap.size+1,1,none⟩=some (.int .i64 y):=HB2.o.cell 1
 repeat (first | ((with_reducible refine Zat ?_);refine Zar 141 7 55 W.heap.size rfl rfl rfl HL2.o (by rfl) κ κ rfl rfl ?_) | ((with_reducible refine Zat ?_);refine Zaz 141 7 W.heap.size rfl rfl HLf.o Tryz.underlying141 rfl κ rfl ?_) | ((with_reducible refine Zat ?_);refine Zar 141 6 77 (w.heap.size+1+1) rfl rfl rfl HOf.o (by rfl) κ κ rfl rfl ?_) | go_step)
 refine Zbv 141 6 (w.heap.size+1+1) rfl (HOf.o.row _) Tryz.underlying141 rfl κ rfl rfl ?_;exact⟨rfl,below_setRow HWf.o (show w.heap.size<=w.heap.size+1+1 by omega) _⟩
theorem Zy4 (f:Nat)(x y:Int)(hx:Zdl x)(hy:Zdl y)(hzx:Zc6 (.num x)=false)(hzy:Zc6 (.num y)=false)(oa ob:Nat)(w:World)(h1:oa<<<f<18446744073709551616)(h2:ob<<<f<18446744073709551616) :
  Calls Tryz.prog 142 #[.int .i64 8,Za6 f ⟨.num x,oa⟩,Za6 f ⟨.num y,ob⟩] w fun e w'=>e=.returned (Za6 f ⟨.num (bits .or .i64 x y),oa|||ob⟩)/\Below w.heap.size w w':=by
 have h4:=Z34 hx hy;have h6:wrap64 (bits .or .i64 x y)=bits .or .i64 x y:=by rw [h4.1];exact Zgj h4.2
 clear h4 hx hy;have HZA:=Zh (fun w=>Zh7 f ⟨(.num x),oa⟩ w);have HZB:=Zh (fun w=>Zh7 f ⟨(.num y),ob⟩ w);have hor:=Zcw h1 h2;have hsh:=Zh2 oa ob f;simp only [Za6,hsh] at *;clear h1 h2 hsh;generalize oa<<<f=A at *;generalize ob<<<f=E at *;generalize A|||E=C at *
 go_enter Tryz.func142,Tryz.ntmps142;apply wp_seq_k;intro K hK;have HK:=Zh hK;clear hK
 go_wp2_with fail
 refine Zhf (P:=fun X=>K _ X) w _ _ _ _ _ _ ?_;intro W b0 b1 b2 hz hbW;refine HK.o _ _ ?_;clear HK K;have HA:=Zh b0;have HB:=Zh b1;have HO:=Zh b2;have HW:=Zh hbW;have hzW:w.heap.size+1+1<W.heap.size:=ω;have hzW1:w.heap.size+1<W.heap.size:=ω;have hzW0:w.heap.size<W.heap.size:=ω;clear b0 b1 b2 hz hbW;have a0:=HA.o.cm 0;have a1:=HA.o.cm 1;have a2:=HA.o.cm 2;have a3:=HA.o.cm 3;have b0:=HB.o.cm 0;have b1:=HB.o.cm 1;have b2:=HB.o.cm 2;have b3:=HB.o.cm 3
 go_wp2_with (go_at_call 198;refine Hid.o ?_)
 refine Zh ?_;refine (HZB.o _).mono ?_;rintro e w1 ⟨he,hb1⟩;simp only [hzy] at he;subst he;dsimp only;have hb2:=Zab (Zad W (.cells #[.int .i64 4,.int .i64 0,.string ⟨#[]⟩,.int .u64 0] 141 (0,0))) hb1;have HL1:=Zh ((Blk.new W 141 #[.int .i64 4,.int .i64 0,.string ⟨#[]⟩,.int .u64 0]).go hb1);have HA1:=Zh (HA.o.go hb2);have HB1:=Zh (HB.o.go hb2);have HO1:=Zh (HO.o.go hb2);have HW1:=Zh (Zab HW.o hb2);have hw1:=hb2.size;clear HA HB HO HW hb1 hb2 a0 a1 a2 a3 b0 b1 b2 b3;have a0:=HA1.o.cm 0;have a1:=HA1.o.cm 1;have a2:=HA1.o.cm 2;have a3:=HA1.o.cm 3;have b0:=HB1.o.cm 0;have b1:=HB1.o.cm 1;have b2:=HB1.o.cm 2;have b3:=HB1.o.cm 3
 go_wp2_with (go_at_call 198;refine Hid.o ?_)
 refine Zh ?_;refine (HZA.o _).mono ?_;rintro e w2 ⟨he,hb1⟩;simp only [hzx] at he;subst he;dsimp only;have HL2:=Zh (HL1.o.go hb1);have HA2:=Zh (HA1.o.go hb1);have HB2:=Zh (HB1.o.go hb1);have HO2:=Zh (HO1.o.go hb1);have HW2:=Zh (Zab HW1.o hb1);have hw2:=hb1.size;clear HL1 HA1 HB1 HO1 HW1 hb1 a0 a1 a2 a3 b0 b1 b2 b3;have HA9:=Zh (HA2.o.farRow (show w.heap.size≠W.heap.size by omega) #[.int .i64 1,.int .i64 (bits .or .i64 x y),.string ⟨#[]⟩,.int .u64 0]);have HB9:=Zh (HB2.o.farRow (show w.heap.size+1≠W.heap.size by omega) #[.int .i64 1,.int .i64 (bits .or .i64 x y),.string ⟨#[]⟩,.int .u64 0]);have HL9:=Zh (HL2.o.row #[.int .i64 1,.int .i64 (bits .or .i64 x y),.string ⟨#[]⟩,.int .u64 0]);have HLf:Hid (Blk ((w2.setRow W.heap.size #[.int .i64 1,.int .i64 (bits .or .i64 x y),.string ⟨#[]⟩,.int .u64 0]).setCell ⟨W.heap.size,3,none⟩ (.int .u64 ((C:Nat):Int))) W.heap.size 141 #[.int .i64 1,.int .i64 (bits .or .i64 x y),.string ⟨#[]⟩,.int .u64 ((C:Nat):Int)]):=Zh (HL9.o.set_ 3 _);have HOf:=Zh ((HO2.o.farRow (show w.heap.size+1+1≠W.heap.size by omega) #[.int .i64 1,.int .i64 (bits .or .i64 x y),.string ⟨#[]⟩,.int .u64 0]).far (p:=⟨W.heap.size,3,none⟩) (show w.heap.size+1+1≠W.heap.size by omega) (.int .u64 ((C:Nat):Int)))
 have HWf:=Zh ((below_setRow HW2.o (show w.heap.size<=W.heap.size by omega) #[.int .i64 1,.int .i64 (bits .or .i64 x y),.string ⟨#[]⟩,.int .u64 0]).setCell (p:=⟨W.heap.size,3,none⟩) (show w.heap.size<=W.heap.size by omega) (.int .u64 ((C:Nat):Int)));have y3:=HA9.o.cell 3;have z3:=HB9.o.cell 3;have l3:=HL9.o.cell 3;have fl:=HL9.o.frozen 3;simp only [List.getElem?_toArray,List.getElem?_cons_succ,List.getElem?_cons_zero] at y3 z3 l3;have a0:=HA2.o.cm 0;have b0:=HB2.o.cm 0;have a1:w2.cell? ⟨w.heap.size,1,none⟩=some (.int .i64 x):=HA2.o.cell 1;have b1:w2.cell? ⟨w.heap.size+1,1,none⟩=some (.int .i64 y):=HB2.o.cell 1
 repeat (first | ((with_reducible refine Zat ?_);refine Zar 141 7 70 W.heap.size rfl rfl rfl HL2.o (by rfl) κ κ rfl rfl ?_) | ((with_reducible refine Zat ?_);refine Zaz 141 7 W.heap.size rfl rfl HLf.o Tryz.underlying141 rfl κ rfl ?_) | ((with_reducible refine Zat ?_);refine Zar 141 6 77 (w.heap.size+1+1) rfl rfl rfl HOf.o (by rfl) κ κ rfl rfl ?_) | go_step)
 refine Zbv 141 6 (w.heap.size+1+1) rfl (HOf.o.row _) Tryz.underlying141 rfl κ rfl rfl ?_;exact⟨rfl,below_setRow HWf.o (show w.heap.size<=w.heap.size+1+1 by omega) _⟩
theorem Zvm (f:Nat)(x y:Int)(hx:Zdl x)(hy:Zdl y)(hzx:Zc6 (.num x)=false)(hzy:Zc6 (.num y)=false)(oa ob:Nat)(w:World)(h1:oa<<<f<18446744073709551616)(h2:ob<<<f<18446744073709551616) :
  Calls Tryz.prog 142 #[.int .i64 10,Za6 f ⟨.num x,oa⟩,Za6 f ⟨.num y,ob⟩] w fun e w'=>e=.returned (Za6 f ⟨.num (IntKind.i32.wrap (x+y)),oa|||ob⟩)/\Below w.heap.size w w':=by
 have h6:wrap64 (x+y)=x+y:=by unfold Zdl at hx hy;simp [wrap64];omega
 have HWR:=Zh (fun w=>Z8p (x+y) w);rw [show IntKind.i32.wrap (x+y)=RowKit.wrap32 (x+y) by unfold IntKind.wrap;simp [RowKit.wrap32,IntKind.bits,IntKind.signed];omega];clear hx hy;have HZA:=Zh (fun w=>Zh7 f ⟨(.num x),oa⟩ w);have HZB:=Zh (fun w=>Zh7 f ⟨(.num y),ob⟩ w);have hor:=Zcw h1 h2;have hsh:=Zh2 oa ob f;simp only [Za6,hsh] at *;clear h1 h2 hsh;generalize oa<<<f=A at *;generalize ob<<<f=E at *;generalize A|||E=C at *
 go_enter Tryz.func142,Tryz.ntmps142;apply wp_seq_k;intro K hK;have HK:=Zh hK;clear hK
 go_wp2_with fail
 refine Zhf (P:=fun X=>K _ X) w _ _ _ _ _ _ ?_;intro W b0 b1 b2 hz hbW;refine HK.o _ _ ?_;clear HK K;have HA:=Zh b0;have HB:=Zh b1;have HO:=Zh b2;have HW:=Zh hbW;have hzW:w.heap.size+1+1<W.heap.size:=ω;have hzW1:w.heap.size+1<W.heap.size:=ω;have hzW0:w.heap.size<W.heap.size:=ω;clear b0 b1 b2 hz hbW;have a0:=HA.o.cm 0;have a1:=HA.o.cm 1;have a2:=HA.o.cm 2;have a3:=HA.o.cm 3;have b0:=HB.o.cm 0;have b1:=HB.o.cm 1;have b2:=HB.o.cm 2;have b3:=HB.o.cm 3
 go_wp2_with (go_at_call 198;refine Hid.o ?_)
 refine Zh ?_;refine (HZB.o _).mono ?_;rintro e w1 ⟨he,hb1⟩;simp only [hzy] at he;subst he;dsimp only;have hb2:=Zab (Zad W (.cells #[.int .i64 4,.int .i64 0,.string ⟨#[]⟩,.int .u64 0] 141 (0,0))) hb1;have HL1:=Zh ((Blk.new W 141 #[.int .i64 4,.int .i64 0,.string ⟨#[]⟩,.int .u64 0]).go hb1);have HA1:=Zh (HA.o.go hb2);have HB1:=Zh (HB.o.go hb2);have HO1:=Zh (HO.o.go hb2);have HW1:=Zh (Zab HW.o hb2);have hw1:=hb2.size;clear HA HB HO HW hb1 hb2 a0 a1 a2 a3 b0 b1 b2 b3;have a0:=HA1.o.cm 0;have a1:=HA1.o.cm 1;have a2:=HA1.o.cm 2;have a3:=HA1.o.cm 3;have b0:=HB1.o.cm 0;have b1:=HB1.o.cm 1;have b2:=HB1.o.cm 2;have b3:=HB1.o.cm 3
 go_wp2_with (go_at_call 198;refine Hid.o ?_)
 refine Zh ?_;refine (HZA.o _).mono ?_;rintro e w2 ⟨he,hb1⟩;simp only [hzx] at he;subst he;dsimp only;have HL2:=Zh (HL1.o.go hb1);have HA2:=Zh (HA1.o.go hb1);have HB2:=Zh (HB1.o.go hb1);have HO2:=Zh (HO1.o.go hb1);have HW2:=Zh (Zab HW1.o hb1);have hw2:=hb1.size;clear HL1 HA1 HB1 HO1 HW1 hb1 a0 a1 a2 a3 b0 b1 b2 b3;have HA9:=Zh (HA2.o.farRow (show w.heap.size≠W.heap.size by omega) #[.int .i64 1,.int .i64 (RowKit.wrap32 (x+y)),.string ⟨#[]⟩,.int .u64 0]);have HB9:=Zh (HB2.o.farRow (show w.heap.size+1≠W.heap.size by omega) #[.int .i64 1,.int .i64 (RowKit.wrap32 (x+y)),.string ⟨#[]⟩,.int .u64 0]);have HL9:=Zh (HL2.o.row #[.int .i64 1,.int .i64 (RowKit.wrap32 (x+y)),.string ⟨#[]⟩,.int .u64 0]);have HLf:Hid (Blk ((w2.setRow W.heap.size #[.int .i64 1,.int .i64 (RowKit.wrap32 (x+y)),.string ⟨#[]⟩,.int .u64 0]).setCell ⟨W.heap.size,3,none⟩ (.int .u64 ((C:Nat):Int))) W.heap.size 141 #[.int .i64 1,.int .i64 (RowKit.wrap32 (x+y)),.string ⟨#[]⟩,.int .u64 ((C:Nat):Int)]):=Zh (HL9.o.set_ 3 _);have HOf:=Zh ((HO2.o.farRow (show w.heap.size+1+1≠W.heap.size by omega) #[.int .i64 1,.int .i64 (RowKit.wrap32 (x+y)),.string ⟨#[]⟩,.int .u64 0]).far (p:=⟨W.heap.size,3,none⟩) (show w.heap.size+1+1≠W.heap.size by omega) (.int .u64 ((C:Nat):Int)))
 have HWf:=Zh ((below_setRow HW2.o (show w.heap.size<=W.heap.size by omega) #[.int .i64 1,.int .i64 (RowKit.wrap32 (x+y)),.string ⟨#[]⟩,.int .u64 0]).setCell (p:=⟨W.heap.size,3,none⟩) (show w.heap.size<=W.heap.size by omega) (.int .u64 ((C:Nat):Int)));have y3:=HA9.o.cell 3;have z3:=HB9.o.cell 3;have l3:=HL9.o.cell 3;have fl:=HL9.o.frozen 3;simp only [List.getElem?_toArray,List.getElem?_cons_succ,List.getElem?_cons_zero] at y3 z3 l3;have a0:=HA2.o.cm 0;have b0:=HB2.o.cm 0;have a1:w2.cell? ⟨w.heap.size,1,none⟩=some (.int .i64 x):=HA2.o.cell 1;have b1:w2.cell? ⟨w.heap.size+1,1,none⟩=some (.int .i64 y):=HB2.o.cell 1
 go_wp2_with (go_at_call 199;refine Hid.o ?_)
 refine Zh ?_;refine (HWR.o _).mono ?_;rintro e w3 ⟨rfl,rfl⟩;dsimp only
 repeat (first | ((with_reducible refine Zat ?_);refine Zar 141 7 36 W.heap.size rfl rfl rfl HL2.o (by rfl) κ κ rfl rfl ?_) | ((with_reducible refine Zat ?_);refine Zaz 141 7 W.heap.size rfl rfl HLf.o Tryz.underlying141 rfl κ rfl ?_) | ((with_reducible refine Zat ?_);refine Zar 141 6 77 (w.heap.size+1+1) rfl rfl rfl HOf.o (by rfl) κ κ rfl rfl ?_) | go_step)
 refine Zbv 141 6 (w.heap.size+1+1) rfl (HOf.o.row _) Tryz.underlying141 rfl κ rfl rfl ?_;exact⟨rfl,below_setRow HWf.o (show w.heap.size<=w.heap.size+1+1 by omega) _⟩
theorem Zvl (f:Nat)(op:Int)(h8:op=8\/op=9\/op=10)(a b:Rg)(ha:Zqc a.h)(hb:Zqc b.h)(w:World)(h1:a.on<<<f<18446744073709551616)(h2:b.on<<<f<18446744073709551616) :
  Calls Tryz.prog 142 #[.int .i64 op,Za6 f a,Za6 f b] w fun e w'=>e=.returned (Za6 f ⟨Zc0 op a.h b.h,a.on|||b.on⟩)/\Below w.heap.size w w':=by
 obtain⟨ha',oa⟩:=a;obtain⟨hb',ob⟩:=b;simp only at ha hb h1 h2 ⊢;cases hzb:Zc6 hb' with
 | true=>
  cases hb' with
  | num y=>
   have hy:y=0:=by simpa [Zc6] using hzb
   subst hy;rw [Z2s h8 ha];exact Zy0 f op ha' oa ob w h1 h2
  | adr s=>cases hzb
  | rd i=>cases hzb
  | non=>cases hzb
 | false=>
  cases hza:Zc6 ha' with
  | true=>
   cases ha' with
   | num x=>
    have hx:x=0:=by simpa [Zc6] using hza
    subst hx;rw [Z2r h8 hb];exact Zy1 f op hb' hzb oa ob w h1 h2
   | adr s=>cases hza
   | rd i=>cases hza
   | non=>cases hza
  | false=>
   cases hka:Zow ha' with
   | false=>
    rw [Z2o hka hzb];exact Zy2 f op ha' hb' hka hzb oa ob w h1 h2
   | true=>
    cases ha' with
    | num x=>
     cases hkb:Zow hb' with
     | false=>
      rw [Z2p hkb hza];exact Zy3 f op x hb' hza hkb oa ob w h1 h2
     | true=>
      cases hb' with
      | num y=>
       rcases h8 with rfl | rfl | rfl
       ·exact Zy4 f x y ha hb hza hzb oa ob w h1 h2
       ·exact Zy5 f x y ha hb hza hzb oa ob w h1 h2
       ·exact Zvm f x y ha hb hza hzb oa ob w h1 h2
      | adr s=>cases hkb
      | rd i=>cases hkb
      | non=>cases hkb
    | adr s=>cases hka
    | rd i=>cases hka
    | non=>cases hka
end
section
structure Zen (S:RrS):Prop where
 ahead:S.C.ahead=S.a.evs.length
 l1:S.a.addr.length<=100000
 l2:S.a.data.length<=100000
 l3:S.a.hang.length<=100000
 l4:S.a.bars.length<=8192
 few:S.C.locs.length<=64
theorem Zbk (S:RrS)(r:Rn)(fl:Bool)(V:RrV):(rrC S r fl V).all (·.oneCell')=true:=by simp [rrC,Value.oneCell']
theorem Zqn (w:World)(g:Nat)(cs:Array Value):(w.setRow g cs).heap.size=w.heap.size:=by simp [World.setRow]
theorem Zcp {w:World}{B q:Nat}{t T:TypeId}{z n:Nat}{v:Value}{cs:List Value}{zz:Array Value}(h:w.ownsRow B t z v n cs)(hq:Blk w q T zz)(hne:t≠T)(c:Array Value):(w.setRow q c).ownsRow B t z v n cs:=
 Zb7 h fun b hb=>setRow_other w q b c fun e=>Zc2 h hq hne (by rw [hb,e])
theorem Zba.row {w:World}{B q:Nat}{S:RrS}{r:Rn}{V:RrV}{z:Array Value}(h:Zba w B S r V)(hq:Blk w q 137 z)(c:Array Value):Zba (w.setRow q c) B S r V:=
 ⟨by rw [Zqn];exact h.hB,Zcp h.lo hq (by decide) c,Zcp h.rg hq (by decide) c,Zcp h.ev hq (by decide) c,Zcp h.br hq (by decide) c,Zcp h.ad hq (by decide) c,Zcp h.da hq (by decide) c,Zcp h.ct hq (by decide) c,h.a1,h.a2,h.a3⟩
theorem Zbf.row {B:Nat}{w W:World}(h:Zbf B w W)(hB:B<=w.heap.size){q:Nat}(hq:w.heap.size<=q)(c:Array Value):Zbf B w (W.setRow q c):=
 ⟨below_setRow h.below (Nat.le_trans hB hq) c,fun b t cs hb h1 h2 h3=>(h.keep b t cs hb h1 h2 h3).farRow (by have:=hb.lt;omega) c⟩
structure Zb2 (w W:World) (B g q:Nat) (S:RrS) (r:Rn) (fl:Bool) (V:RrV):Prop where
 ref:Zba W B S r V
 keep:Zbf B w W
 hB:B<=w.heap.size
 blk:Blk W g 137 (rrC S r fl V)
 out:∃ z,Blk W q 137 z/\z.size=26
 hg:w.heap.size<=g
 hq:w.heap.size<=q
 ne:q≠g
namespace Zb2
variable {w W W1:World} {B g q:Nat} {S:RrS} {r r':Rn} {fl:Bool} {V V':RrV} {s:Sl}
theorem below (h:Zb2 w W B g q S r fl V)(hb:Below W.heap.size W W1):Zb2 w W1 B g q S r fl V:=
 ⟨h.ref.below hb,h.keep.below' hb h.hB,h.hB,h.blk.go hb,h.out.imp fun _ hz=>⟨hz.1.go hb,hz.2⟩,h.hg,h.hq,h.ne⟩
theorem drew (h:Zb2 w W B g q S r fl V):Zb2 w W.drew B g q S r fl V:=
 ⟨h.ref.drew,h.keep.drew,h.hB,h.blk,h.out,h.hg,h.hq,h.ne⟩
theorem put_ {t:TypeId}{z n i:Nat}{v:Value}{cs:List Value}(h:Zb2 w W B g q S r fl V)(ho:W.ownsRow B t z v n cs)(ht:t = 225\/t = 169\/t = 175)(hg:Zbh W W1 B v s.v)(hr:Zba W1 B S r' V')(hc:(rrC S r fl V).setIfInBounds i s.v=rrC S r' fl V'):Zb2 w (W1.setCell ⟨g,i,none⟩ s.v) B g q S r' fl V':=by
 have hne:t≠137:=by rcases ht with rfl | rfl | rfl <;> decide
 have hb:=Zax h.blk ho hne hg;obtain⟨z,hz,hzs⟩:=h.out;exact⟨hr.set hb i _,(h.keep.trans (Zbf.grew ho ht hg)).set h.hg h.hB i _,h.hB,by rw [<- hc];exact hb.set_ i _,⟨z,(Zax hz ho hne hg).far (p:=⟨g,i,none⟩) h.ne _,hzs⟩,h.hg,h.hq,h.ne⟩
theorem ev {l:List Evt}(h:Zb2 w W B g q S r fl V)(hg:Zbh W W1 B V.ev.v s.v)(ho:Zq8.Own 225 B W1 s.v (S.a.evs++l)):Zb2 w (W1.setCell ⟨g,17,none⟩ s.v) B g q S { r with evs:=l } fl { V with ev:=s }:=
 h.put_ h.ref.ev (Or.inl rfl) hg (h.ref.evG hg ho) rfl
theorem br {l:List Br}(h:Zb2 w W B g q S r fl V)(hg:Zbh W W1 B V.br.v s.v)(ho:Zoe.Own 169 B W1 s.v (S.a.bars++l)):Zb2 w (W1.setCell ⟨g,18,none⟩ s.v) B g q S { r with bars:=l } fl { V with br:=s }:=
 h.put_ h.ref.br (Or.inr (Or.inl rfl)) hg (h.ref.brG hg ho) rfl
theorem ad {l:List (Int×Int)}(h:Zb2 w W B g q S r fl V)(hg:Zbh W W1 B V.ad.v s.v)(ho:Zbj.Own 175 B W1 s.v (S.a.addr++l.map (shP S.C.ahead))):Zb2 w (W1.setCell ⟨g,19,none⟩ s.v) B g q S { r with addr:=l } fl { V with ad:=s }:=
 h.put_ h.ref.ad (Or.inr (Or.inr rfl)) hg (h.ref.adG hg ho) rfl
theorem da {l:List (Int×Int)}(h:Zb2 w W B g q S r fl V)(hg:Zbh W W1 B V.da.v s.v)(ho:Zbj.Own 175 B W1 s.v (S.a.data++l.map (shP S.C.ahead))):Zb2 w (W1.setCell ⟨g,20,none⟩ s.v) B g q S { r with data:=l } fl { V with da:=s }:=
 h.put_ h.ref.da (Or.inr (Or.inr rfl)) hg (h.ref.daG hg ho) rfl
theorem ct {l:List (Int×Int)}(h:Zb2 w W B g q S r fl V)(hg:Zbh W W1 B V.ct.v s.v)(ho:Zbj.Own 175 B W1 s.v (S.a.hang++l.map (shP S.C.ahead))):Zb2 w (W1.setCell ⟨g,21,none⟩ s.v) B g q S { r with hang:=l } fl { V with ct:=s }:=
 h.put_ h.ref.ct (Or.inr (Or.inr rfl)) hg (h.ref.ctG hg ho) rfl
theorem one_ {i:Nat}{u:Value}(h:Zb2 w W B g q S r fl V){fl':Bool}(hr:Zba W B S r' V')(hc:(rrC S r fl V).setIfInBounds i u=rrC S r' fl' V'):Zb2 w (W.setCell ⟨g,i,none⟩ u) B g q S r' fl' V':=by
 obtain⟨z,hz,hzs⟩:=h.out;exact⟨hr.set h.blk i _,h.keep.set h.hg h.hB i _,h.hB,by rw [<- hc];exact h.blk.set_ i _,⟨z,hz.far (p:=⟨g,i,none⟩) h.ne _,hzs⟩,h.hg,h.hq,h.ne⟩
theorem full (h:Zb2 w W B g q S r fl V):Zb2 w (W.setCell ⟨g,25,none⟩ (.bool true)) B g q S { r with full:=true } fl V:=h.one_ (h.ref.full true) rfl
theorem flow (h:Zb2 w W B g q S r fl V):Zb2 w (W.setCell ⟨g,24,none⟩ (.bool true)) B g q S r true V:=h.one_ h.ref rfl
theorem ctrl (h:Zb2 w W B g q S r fl V)(c:Nat):Zb2 w (W.setCell ⟨g,14,none⟩ (.int .u64 ((c<<<S.C.ahead:Nat):Int))) B g q S { r with ctrl:=c } fl V:=h.one_ (h.ref.ctrl c) rfl
theorem regs {l:List Rg}(h:Zb2 w W B g q S r fl V)(ho:(Zdw S.C.ahead).Own 141 B W s.v l):Zb2 w (W.setCell ⟨g,13,none⟩ s.v) B g q S { r with regs:=l } fl { V with rg:=s }:=h.one_ (h.ref.rgG ho) rfl
theorem row (h:Zb2 w W B g q S r fl V){fl':Bool}(hr:Zba W1 B S r' V')(hk:Zbf B W W1):Zb2 w (W1.setRow g (rrC S r' fl' V')) B g q S r' fl' V':=by
 obtain⟨z,hz,hzs⟩:=h.out;have hb:=hk.keep _ _ _ h.blk (by decide) (by decide) (by decide);have hz':=hk.keep _ _ _ hz (by decide) (by decide) (by decide);exact⟨hr.row hb _,(h.keep.trans hk).row h.hB h.hg _,h.hB,hb.row _,⟨z,hz'.farRow h.ne _,hzs⟩,h.hg,h.hq,h.ne⟩
theorem ret (h:Zb2 w W B g q S r fl V):Ze1 B S r fl w (.returned (.agg (rrC S r fl V))) (W.setRow q (rrC S r fl V)):=by
 obtain⟨z,hz,hzs⟩:=h.out;exact⟨V,rfl,h.ref.row hz _,h.keep.row h.hB h.hq _⟩
theorem out1 (h:Zb2 w W B g q S r fl V)(hk:Zbf B W W1):∃ z,Blk W1 q 137 z/\z.size=26:=by
 obtain⟨z,hz,hzs⟩:=h.out;exact⟨z,hk.keep _ _ _ hz (by decide) (by decide) (by decide),hzs⟩
theorem ret1 (h:Zb2 w W B g q S r fl V){fl':Bool}(hr:Zba W1 B S r' V')(hk:Zbf B W W1):Ze1 B S r' fl' w (.returned (.agg (rrC S r' fl' V'))) (W1.setRow q (rrC S r' fl' V')):=by
 obtain⟨z,hz,hzs⟩:=h.out1 hk;exact⟨V',rfl,hr.row hz _,(h.keep.trans hk).row h.hB h.hq _⟩
end Zb2
theorem Zcn (fn:Func){a:Act}{Q:Exit->Act->World->Prop}{id:Nat}{o1 o2:Oper}(tp rp d1:Nat){w W:World}{B g q:Nat}{S:RrS}{r:Rn}{fl:Bool}{V:RrV}
  (h1:o1.op=.load 137 (.tmp tp)) (g1:o1.guard=none) (e1:o1.dst=some d1) (h2:o2.op=.store 137 (.tmp rp) (.tmp d1)) (g2:o2.guard=none) (e2:o2.dst=none) (hr:fn.results=#[.cell rp 137])
  (hU:Zb2 w W B g q S r fl V) (ha:a.tmps.getD tp undef=.pointer (some ⟨g,0,none⟩)) (hb:a.tmps.getD rp undef=.pointer (some ⟨q,0,none⟩)) (hne:rp≠d1) (hlt:d1<a.tmps.size) (hdf:a.defers=[])
  (hQ:∀ a' W',bodyPost Tryz.prog fn (Ze1 B S r fl w) .ret a' W'->Q .ret a' W'):(Code.seq (.region id #[o1,o2] false) .ret).wp Tryz.prog Q a W:=by
 obtain⟨z,hz,hzs⟩:=hU.out;exact Zx6 fn 137 tp rp d1 g q h1 g1 e1 h2 g2 e2 hr hU.blk hz hzs Tryz.underlying137 rfl κ (Zbk _ _ _ _) ha hb hne hlt hdf hQ hU.ret
theorem Zeu {w:World}{g:Nat}{S:RrS}{r:Rn}{fl:Bool}{V:RrV}(h:Blk w g 137 (rrC S r fl V)):(loadVar 137 ⟨g,0,none⟩).run Tryz.prog w=.ok (rrV S r fl V) w:=
 run_loadVar_row w g 137 137 (rrC S r fl V) (0,0) _ h Tryz.underlying137 rfl κ
theorem Zkj {w:World}{g:Nat}{S:RrS}{r:Rn}{fl:Bool}{V:RrV}(h:Blk w g 137 (rrC S r fl V)):(loadVar 87 ⟨g,15,none⟩).run Tryz.prog w=.ok (Zv3 S V) w:=
 run_loadVar_mid w g 15 87 [S.lo.v,S.ini.v,V.ev.v,V.br.v,V.ad.v,V.da.v,V.ct.v,S.th.v,S.en.v] _ (World.rangeAt_of_block h 15 9) Tryz.underlying87 rfl κ
theorem Zdx {w:World}{q f:Nat}{l:List Rg}(h:(Zdw f).At w (some ⟨q,0,none⟩) l){i:Nat}{x:Rg}(hx:l[i]?=some x):(loadVar 141 ⟨q,i*4,none⟩).run Tryz.prog w=.ok (Za6 f x) w:=by
 refine run_loadVar_mid w q (i*4) 141 [.int .i64 (Za2 x.h),.int .i64 (Zcf f x.h),.string ⟨(Zce x.h).toArray⟩,.int .u64 ((x.on<<<f:Nat):Int)] _ (fun j v hj=>?_) Tryz.underlying141 rfl κ;obtain⟨b,o,e,hc⟩:=h i x hx;simp only [Option.some.injEq,Addr.mk.injEq,and_true] at e;obtain⟨rfl,rfl⟩:=e;have:=hc j v hj
 rwa [Nat.zero_add] at this
set_option maxHeartbeats 4000000
set_option maxRecDepth 100000
theorem Zp7 (B:Nat)(S:RrS)(r:Rn)(V:RrV)(x:Evt)(on da:Nat)(w:World)(hR:Zba w B S r V)(hen:V.ev.n=S.C.ahead+r.evs.length)(hfull:64<=S.C.ahead+r.evs.length) :
  Calls Tryz.prog 197 #[rrV S r false V,.agg #[.int .i64 x.th,.int .i64 x.pl,.int .i64 x.dr,.int .i64 x.lc,.int .i64 x.vl,.int .i64 x.rg],.int .u64 ((on<<<S.C.ahead:Nat):Int),.int .u64 ((da<<<S.C.ahead:Nat):Int)] w (Ze1 B S { r with full:=true } false w):=by
 have HR:=Zh hR;obtain⟨c,hc⟩:∃ c,c=rrC S r false V:=⟨_,rfl⟩;rw [show rrV S r false V=.agg c by rw [hc]];have HC:=Zh hc;clear hc;go_enter Tryz.func197,Tryz.ntmps197;apply wp_seq_k;intro K hK;have HK:=Zh hK;clear hK hR
 go_wp2_with fail
 refine Zhf (P:=fun X=>K _ X) w _ _ _ _ _ _ ?_;intro W b0 b1 b2 hz hbW;refine HK.o _ _ ?_;rw [HC.o] at b0;have HU:Hid (Zb2 w W B w.heap.size (w.heap.size+1+1) S r false V):=Zh ⟨HR.o.below hbW,Zbf.of_below hbW HR.o.hB,HR.o.hB,b0,⟨_,b2,rfl⟩,Nat.le_refl _,ω,ω⟩;have HN:=Zh hen;have k17:W.cell? ⟨w.heap.size,17,none⟩=some (.slice V.ev.A (S.C.ahead+r.evs.length) V.ev.c):=by rw [<- HN.o];exact HU.o.blk.cell 17
 have k25:=HU.o.blk.cm 25;have f25:=HU.o.blk.frozen 25;have HV:=Zh HU.o.full
 repeat (first | ((with_reducible refine Zfw ?_);refine Zcn Tryz.f197 4 8 17 rfl rfl rfl rfl rfl rfl rfl HV.o rfl rfl (by decide) (of_decide_eq_true rfl) rfl (fun _ _ h=>h)) | go_step)
theorem Zp8 (B:Nat)(S:RrS)(hS:Zen S)(r:Rn)(V:RrV)(x:Evt)(on da:Nat)(w:World)(hR:Zba w B S r V)(hon:on<2 ^ r.evs.length)(hda:da<2 ^ r.evs.length)(hct:r.ctrl<2 ^ r.evs.length)(l1:r.addr.length<=100000)(l2:r.data.length<=100000)(l3:r.hang.length<=100000)(hroom:¬ 64<=S.C.ahead+r.evs.length) :
  Calls Tryz.prog 197 #[rrV S r false V,.agg #[.int .i64 x.th,.int .i64 x.pl,.int .i64 x.dr,.int .i64 x.lc,.int .i64 x.vl,.int .i64 x.rg],.int .u64 ((on<<<S.C.ahead:Nat):Int),.int .u64 ((da<<<S.C.ahead:Nat):Int)] w
   (Ze1 B S { r with evs:=r.evs++[{ x with th:=(S.C.th:Int) }],addr:=r.addr++Zbm on r.evs.length 64,data:=r.data++Zbm da r.evs.length 64,hang:=r.hang++Zbm r.ctrl r.evs.length 64 } false w):=by
 have HR:=Zh hR;obtain⟨n,hn⟩:∃ n,S.C.ahead+r.evs.length=n:=⟨_,rfl⟩;have hen:V.ev.n=n:=by rw [Zv7 hR.ev,List.length_append,<- hS.ahead,hn]
 have hlen:(S.a.evs++r.evs).length=n:=by rw [List.length_append,<- hS.ahead,hn]
 have hni:(n:Int)<64:=ω;have P1:=Zh (Zgh (i:=r.evs.length) hon (show S.C.ahead+r.evs.length<=64 by omega));have P2:=Zh (Zgh (i:=r.evs.length) hda (show S.C.ahead+r.evs.length<=64 by omega));have P3:=Zh (Zgh (i:=r.evs.length) hct (show S.C.ahead+r.evs.length<=64 by omega));have U1:=Zh (Zh1 hon (show S.C.ahead+r.evs.length<=64 by omega));have U2:=Zh (Zh1 hda (show S.C.ahead+r.evs.length<=64 by omega));have U3:=Zh (Zh1 hct (show S.C.ahead+r.evs.length<=64 by omega));rw [hn] at P1 P2 P3;generalize on<<<S.C.ahead=on' at *;generalize da<<<S.C.ahead=da' at *;have HS:=Zh hS;obtain⟨c,hc⟩:∃ c,c=rrC S r false V:=⟨_,rfl⟩;rw [show rrV S r false V=.agg c by rw [hc]];have HC:=Zh hc;clear hc hR hon hda hct hS hn;go_enter Tryz.func197,Tryz.ntmps197;apply wp_seq_k;intro K hK;have HK:=Zh hK;clear hK
 go_wp2_with fail
 refine Zhf (P:=fun X=>K _ X) w _ _ _ _ _ _ ?_;intro W b0 b1 b2 hz hbW;refine HK.o _ _ ?_;clear HK K;rw [HC.o] at b0;have HU:Hid (Zb2 w W B w.heap.size (w.heap.size+1+1) S r false V):=Zh ⟨HR.o.below hbW,Zbf.of_below hbW HR.o.hB,HR.o.hB,b0,⟨_,b2,rfl⟩,Nat.le_refl _,ω,ω⟩;have HE:=Zh b1;have HBW:=Zh hbW;have hzW:w.heap.size<W.heap.size:=ω;clear b0 b1 b2 hbW hz HC;have k12:=HU.o.blk.cm 12;have k17:W.cell? ⟨w.heap.size,17,none⟩=some (.slice V.ev.A n V.ev.c):=by rw [<- hen];exact HU.o.blk.cell 17
 obtain⟨e0,e1,e2,e3,e4,e5⟩:=HE.o.c6;have fe:=HE.o.frozen 0
 go_wp2_with (at_builtin;refine Hid.o ?_)
 have hb1:=Zad (W.setCell ⟨w.heap.size+1,0,none⟩ (.int .i64 (S.C.th:Int))) (.cells #[.int .i64 (S.C.th:Int),.int .i64 x.pl,.int .i64 x.dr,.int .i64 x.lc,.int .i64 x.vl,.int .i64 x.rg] 225 (0,0));have hb2:=(HBW.o.setCell (p:=⟨w.heap.size+1,0,none⟩) (by simp) (.int .i64 (S.C.th:Int))).trans (hb1.mono (by simpa [World.setCell] using Nat.le_of_lt hzW));have HV:=Zh (show Zb2 w _ B w.heap.size (w.heap.size+1+1) S r false V from⟨HR.o.below hb2,Zbf.of_below hb2 HU.o.hB,HU.o.hB,(HU.o.blk.far (p:=⟨w.heap.size+1,0,none⟩) (by simp) _).go hb1,HU.o.out.imp fun _ h=>⟨(h.1.far (p:=⟨w.heap.size+1,0,none⟩) (by simp) _).go hb1,h.2⟩,Nat.le_refl _,ω,ω⟩);clear hb1 hb2 HU k17 k12 e0 e1 e2 e3 e4 e5 fe HE;have HA:=Zh (Z0j (W.setCell ⟨w.heap.size+1,0,none⟩ (.int .i64 (S.C.th:Int))) (S.C.th:Int) x.pl x.dr x.lc x.vl x.rg);rw [show (W.setCell ⟨w.heap.size+1,0,none⟩ (.int .i64 (S.C.th:Int))).heap.size=W.heap.size by simp [World.setCell]] at HA;refine Zh ?_;refine Enc.appW Z18 _ rfl (.tmp 23) (.tmp 25) rfl [⟨(S.C.th:Int),x.pl,x.dr,x.lc,x.vl,x.rg⟩] B (S.a.evs++r.evs) (.slice V.ev.A n V.ev.c) W.heap.size 0 1 rfl rfl HA.o (by rw [<- hen];exact HV.o.ref.ev) (by simp only [hlen,List.length_singleton];omega) (by simp only [hlen,List.length_singleton];omega) HV.o.ref.hB ?_;intro v' w4 ho4 hg4;obtain⟨s4,rfl,hs4⟩:=Zlr ho4;clear hs4;rw [List.append_assoc] at ho4;have HU:=Zh (HV.o.ev (by rw [<- hen] at hg4;exact hg4) ho4)
 have hb4:=Zax HV.o.blk HV.o.ref.ev (by decide) (by rw [<- hen] at hg4;exact hg4);have k17:w4.cell? ⟨w.heap.size,17,none⟩=some (.slice V.ev.A n V.ev.c):=by rw [<- hen];exact hb4.cell 17
 have f17:=hb4.frozen 17;have k19:w4.cell? ⟨w.heap.size,19,none⟩=some V.ad.v:=hb4.cell 19;clear HR HBW HV HA ho4 hg4 hb4 hzW
 go_wp2_with (go_at_call 245;refine Hid.o ?_)
 refine Zh ?_;refine (Zu0 V.ad _ _ n B _ U1.out (by have:=HS.o.l1;rw [List.length_append,List.length_map];dsimp only;omega) HU.o.ref.hB HU.o.ref.ad).mono ?_;rintro e w6 ⟨s6,rfl,ho6,hg6⟩;dsimp only at ho6;rw [List.append_assoc,P1.out,<- List.map_append] at ho6;have hb6:=Zax HU.o.blk HU.o.ref.ad (by decide) hg6;have HU2:=Zh (HU.o.ad hg6 ho6);clear HU;have HU:=HU2;clear HU2;have k19:w6.cell? ⟨w.heap.size,19,none⟩=some V.ad.v:=hb6.cell 19;have f19:=hb6.frozen 19;clear ho6 hg6 k17 f17;have k20:w6.cell? ⟨w.heap.size,20,none⟩=some V.da.v:=hb6.cell 20;clear hb6
 go_wp2_with (go_at_call 245;refine Hid.o ?_)
 refine Zh ?_;refine (Zu0 V.da _ _ n B _ U2.out (by have:=HS.o.l2;rw [List.length_append,List.length_map];dsimp only;omega) HU.o.ref.hB HU.o.ref.da).mono ?_;rintro e w6 ⟨s6,rfl,ho6,hg6⟩;dsimp only at ho6;rw [List.append_assoc,P2.out,<- List.map_append] at ho6;have hb6:=Zax HU.o.blk HU.o.ref.da (by decide) hg6;have HU2:=Zh (HU.o.da hg6 ho6);have HU:=HU2;have k20:w6.cell? ⟨w.heap.size,20,none⟩=some V.da.v:=hb6.cell 20;have f20:=hb6.frozen 20;clear ho6 hg6 k19 f19;have k21:w6.cell? ⟨w.heap.size,21,none⟩=some V.ct.v:=hb6.cell 21;have k14:=hb6.cm 14;clear hb6
 go_wp2_with (go_at_call 245;refine Hid.o ?_)
 refine Zh ?_;refine (Zu0 V.ct _ _ n B _ U3.out (by have:=HS.o.l3;rw [List.length_append,List.length_map];dsimp only;omega) HU.o.ref.hB HU.o.ref.ct).mono ?_;rintro e w6 ⟨s6,rfl,ho6,hg6⟩;dsimp only at ho6;rw [List.append_assoc,P3.out,<- List.map_append] at ho6;have hb6:=Zax HU.o.blk HU.o.ref.ct (by decide) hg6;have HU2:=Zh (HU.o.ct hg6 ho6);clear HU;have HU:=HU2;clear HU2;have k21:w6.cell? ⟨w.heap.size,21,none⟩=some V.ct.v:=hb6.cell 21;have f21:=hb6.frozen 21;clear ho6 hg6 k20 f20 k14;clear hb6;dsimp only
 repeat (first | ((with_reducible refine Zfw ?_);refine Zcn Tryz.f197 4 8 54 rfl rfl rfl rfl rfl rfl rfl HU.o rfl rfl (by decide) (of_decide_eq_true rfl) rfl (fun _ _ h=>h)) | go_step)
theorem Z0i (B:Nat)(S:RrS)(hS:Zen S)(r:Rn)(V:RrV)(nr k:Nat)(hI:Inv S.C nr k r)(hfl:r.full=false)(pl:Nat)(dr lc vl rg:Int)(loc:Nm)(on da:Nat)(hlc:lc=((S.C.locs.idxOf loc:Nat):Int))(hon:Rds r.evs on)(hda:Rds r.evs da)(w:World)(hR:Zba w B S r V) :
  Calls Tryz.prog 197 #[rrV S r false V,.agg #[.int .i64 0,.int .i64 (pl:Int),.int .i64 dr,.int .i64 lc,.int .i64 vl,.int .i64 rg],.int .u64 ((on<<<S.C.ahead:Nat):Int),.int .u64 ((da<<<S.C.ahead:Nat):Int)] w
   (Ze1 B S (Zi4 (Zi5 S.C r pl dr loc vl rg on) da r.evs.length) false w):=by
 subst hlc;have h1:=hI.addr.len;have h2:=hI.data.len;have h3:=hI.hang.len;by_cases h:64<=S.C.ahead+r.evs.length
 ·rw [Zc7 h,show Zi4 { r with full:=true } da r.evs.length={ r with full:=true } from if_pos rfl];exact Zp7 B S r V ⟨0,pl,dr,(S.C.locs.idxOf loc:Nat),vl,rg⟩ on da w hR (by rw [Zv7 hR.ev,List.length_append,<- hS.ahead]) h
 ·rw [Zc8 h];have:=Zp8 B S hS r V ⟨0,pl,dr,(S.C.locs.idxOf loc:Nat),vl,rg⟩ on da w hR hon.lt hda.lt hI.ctrl.lt ω ω ω h;have e:Zi4 { r with evs:=r.evs++[Zsi S.C pl dr loc vl rg],addr:=r.addr++Zbm on r.evs.length 64,hang:=r.hang++Zbm r.ctrl r.evs.length 64 } da r.evs.length={ r with evs:=r.evs++[Zsi S.C pl dr loc vl rg],addr:=r.addr++Zbm on r.evs.length 64,data:=r.data++Zbm da r.evs.length 64,hang:=r.hang++Zbm r.ctrl r.evs.length 64 }:=
   if_neg (by show ¬ r.full=true;rw [hfl];decide)
  rw [e];exact this
end
end Go.Proofs.YtgjefdaaihgliaaGreatDoor
namespace Go.Proofs.YtgjefdaaihgliaaGreatDoor
open Go.RowKit
open Go.Sort
open Go.Sort (sorted_unique_holds flatK size_flatK get_flatK HoldsK Holds putRow mapBlock putCells grow onCells)
def okP (p:Int×Int):Prop:=(0<=p.1/\p.1<=4096)/\0<=p.2/\p.2<=4096
abbrev VP:={ p:Int×Int // okP p }
instance Z8y:Inhabited VP:=⟨⟨(0,0),by unfold okP;omega⟩⟩
def Zfm (x:VP):List Value:=[.int .i64 x.1.1,.int .i64 x.1.2]
def cfP (x y:VP):Int:=if x.1.1=y.1.1 then x.1.2 - y.1.2 else x.1.1 - y.1.1
theorem Zm1 (x y:VP):ltOf cfP x y=true↔Zrm x.1 y.1:=by
 unfold ltOf cfP Zrm;by_cases h:x.1.1=y.1.1
 ·simp [h];omega
 ·simp [h];omega
theorem Z1j:SWO (ltOf cfP) where
 irrefl x:=by
  rw [Bool.eq_false_iff];intro h;rw [Zm1] at h;unfold Zrm at h;omega
 trans x y z h k:=by
  rw [Zm1] at h k ⊢;unfold Zrm at *;omega
 ntrans x y z h k:=by
  rw [Bool.eq_false_iff,ne_eq,Zm1] at h k ⊢;unfold Zrm at *;omega
theorem Zr9 {x:Int}(h1:-4096<=x)(h2:x<=4096):IntKind.i64.wrap x=x:=by
 unfold IntKind.wrap;simp [IntKind.bits,IntKind.signed];omega
section
set_option maxHeartbeats 4000000
set_option maxRecDepth 100000
theorem Z7r (a b c d:Int)(h1:0<=a/\a<=4096)(h2:0<=b/\b<=4096)(h3:0<=c/\c<=4096)(h4:0<=d/\d<=4096)(w:World) :
  Calls Tryz.prog 79 #[.agg #[.int .i64 a,.int .i64 b],.agg #[.int .i64 c,.int .i64 d]] w fun e w'=>e=.returned (.int .i64 (if a=c then b - d else a - c))/\∃ q os',w'=Sort.grow (w.drewN q) os':=by
 have HG:=Zh (Zrd w (.cells #[.int .i64 a,.int .i64 b] 175 (0,0)) (.cells #[.int .i64 c,.int .i64 d] 175 (0,0)));obtain⟨h1a,h1b⟩:=h1;obtain⟨h2a,h2b⟩:=h2;obtain⟨h3a,h3b⟩:=h3;obtain⟨h4a,h4b⟩:=h4;by_cases he:a=c
 ·rw [if_pos he];subst he;have hw:IntKind.i64.wrap (b - d)=b - d:=Zr9 ω ω;exact m_86
 ·rw [if_neg he];have hw:IntKind.i64.wrap (a - c)=a - c:=Zr9 ω ω;exact m_86
end
theorem Zx3 (blk off size:Nat)(w:World):CmpLays Tryz.prog 79 #[] Zfm 2 cfP blk off size w:=fun m os dk _ x y=>by
 obtain⟨⟨a,b⟩,h1,h2⟩:=x;obtain⟨⟨c,d⟩,h3,h4⟩:=y;exact Z7r a b c d h1 h2 h3 h4 _
def Ztb:(L:List (Int×Int))->(∀ x∈L,okP x)->List VP
 | [],_=>[]
 | x :: r,h=>⟨x,h x (by simp)⟩ :: Ztb r (fun y hy=>h y (by simp [hy]))
theorem Zjn:∀ (L:List (Int×Int)) (h:∀ x∈L,okP x),(Ztb L h).map Subtype.val=L
 | [],_=>rfl
 | x :: r,h=>by
  show x :: (Ztb r _).map Subtype.val=x :: r;rw [Zjn r]
theorem Zr7 (L:List (Int×Int))(h:∀ x∈L,okP x):(Ztb L h).length=L.length:=by
 have:=congrArg List.length (Zjn L h);simpa using this
theorem Zyf {l:List (Int×Int)}{t:Nat}(ht:t<l.length*2):(Zbj.flat l)[t]?=(Zbj.enc (l.getD (t / 2) (0,0)))[t % 2]?:=by
 have h1:t / 2<l.length:=ω;have h2:=Zbj.flat_at (List.getElem?_eq_getElem h1) (show t % 2<Zbj.size by show t % 2<2;omega);rw [show t / 2*Zbj.size+t % 2=t by show t / 2*2+t % 2=t;omega] at h2;rw [h2];simp [List.getD,h1]
theorem Zuw (d:Array VP):(flatK Zfm 2 d).toList=Zbj.flat (d.toList.map Subtype.val):=by
 apply List.ext_getElem?;intro t;have hl:(Zbj.flat (d.toList.map Subtype.val)).length=d.size*2:=by rw [Zbj.flat_len];simp
 have hs:=size_flatK Zfm 2 d;by_cases ht:t<d.size*2
 ·rw [Zyf (by simpa using ht),Array.getElem?_toList,Array.getElem?_eq_getElem (by rw [hs];exact ht)];have h1:=get_flatK Zfm 2 d t ht;rw [getElem!_pos (flatK Zfm 2 d) t (by rw [hs];exact ht)] at h1;rw [h1];have h2:t / 2<d.size:=ω;rw [getElem!_pos d (t / 2) h2];have h3:(d.toList.map Subtype.val).getD (t / 2) (0,0)=d[t / 2].1:=by simp [List.getD,h2]
  rw [h3];have h4:t % 2=0\/t % 2=1:=ω;rcases h4 with h4 | h4 <;> rw [h4] <;> rfl
 ·rw [List.getElem?_eq_none (by rw [Array.length_toList,hs];omega),List.getElem?_eq_none (by rw [hl];omega)]
theorem Zwa (d:List Value)(cur:Array Value)(h:d.length<=cur.size):(putCells id 0 d.toArray cur).toList.take d.length=d:=by
 apply List.ext_getElem?;intro i;rw [List.getElem?_take];by_cases hi:i<d.length
 ·rw [if_pos hi,List.getElem?_eq_getElem hi];exact m_76
 ·rw [if_neg hi,List.getElem?_eq_none ω]
theorem Zs4 {w:World}{g n:Nat}{t:TypeId}{cur:Array Value}{os:Array Obj}{d:Array VP}(h:w.heap[g]?=some (.cells cur t (0,0))):(sortWorldK Zfm 2 w g 0 n d os).heap[g]?=some (.cells (putCells id 0 (flatK Zfm 2 d) cur) t (0,0)):=by
 have hlt:=(Array.getElem?_eq_some_iff.1 h).1;have h2:(mapBlock (Sort.ahead w n) g (putCells id 0 (flatK Zfm 2 d))).heap[g]?=some (.cells (putCells id 0 (flatK Zfm 2 d) cur) t (0,0)):=by
  simp only [mapBlock,Array.getElem?_modify];rw [if_pos trivial];show (w.heap[g]?).map _=_;rw [h];rfl
 exact (Sort.heap_grow_old _ _ (by simp [putRowK,putRow,mapBlock,Sort.ahead];exact hlt)).trans h2
theorem Zqr {w:World}{g n B:Nat}{d:Array VP}{os:Array Obj}(hB:B<=g)(hg:g<w.heap.size):Below B w (sortWorldK Zfm 2 w g 0 n d os):=
 ⟨rfl,rfl,rfl,by show w.heap.size<=((w.heap.modify g _)++os).size;simp,fun i hi=>by
  have hlt:i<w.heap.size:=ω;have h2:(mapBlock (Sort.ahead w n) g (putCells id 0 (flatK Zfm 2 d))).heap[i]?=w.heap[i]?:=by
   simp only [mapBlock,Array.getElem?_modify];rw [if_neg ω];rfl
  exact (Sort.heap_grow_old _ _ (by simp [putRowK,putRow,mapBlock,Sort.ahead];exact hlt)).trans h2⟩
theorem Z45 {w:World}{B g cap:Nat}{l:List (Int×Int)}(hv:∀ p∈l,okP p)(ho:Zbj.Own 175 B w (.slice (some ⟨g,0,none⟩) l.length cap) l):HoldsK Zfm 2 w g 0 (Ztb l hv).toArray:=by
 intro j hj;have hsz:(Ztb l hv).toArray.size=l.length:=by simp [Zr7]
 rw [size_flatK,hsz] at hj;refine⟨?_,by rw [Nat.zero_add];exact ho.frozenAt j⟩;have h2:(flatK Zfm 2 (Ztb l hv).toArray).toList=Zbj.flat l:=by
  rw [Zuw];show Zbj.flat ((Ztb l hv).map Subtype.val)=_;rw [Zjn]
 rw [Nat.zero_add,ho.cellAt j hj,<- h2,Array.getElem?_toList,Array.getElem?_eq_getElem (by rw [size_flatK,hsz];exact hj),getElem!_pos _ j (by rw [size_flatK,hsz];exact hj)];rfl
theorem sortPr (v:Value)(l l2:List (Int×Int))(B:Nat)(w:World)(h:Zbj.Own 175 B w v l)(hl:l.length<=1000000)(hv:∀ p∈l,okP p)(hnd:l.Nodup)(h2:l2.Pairwise Zrm)(hm:∀ x,x∈l2↔x∈l) :
  Calls Tryz.prog 78 #[v,.func (.func 79) #[] #[]] w fun e w'=>e=.returned (.tuple #[])/\Zbj.Own 175 B w' v l2/\Below B w w':=by
 obtain⟨A,cap,rfl⟩:=h.shp;have eg:∀ args w,(callFunc 79 args).run Tryz.prog w=.ok (.enter 79 args) w:=enters_of Tryz.func79 κ rfl;rcases h.2 with ⟨e,h0⟩ | ⟨g,cap',cur,e,h1,h3,h4,h5,h6,h7⟩
 ·have hl0:l=[]:=List.length_eq_zero_iff.1 h0;subst hl0;have hl2:l2=[]:=List.eq_nil_iff_forall_not_mem.2 fun x hx=>by have:=(hm x).1 hx;cases this
  subst hl2;refine (AnyF.slices_SortFunc_none Tryz.sortPr A cap _ w).mono fun e w' ⟨h1,h2⟩=>⟨h1,?_,?_⟩
  ·subst h2;exact h
  ·rw [h2];exact Below.refl _ _
 ·simp only [Value.slice.injEq,true_and] at e;obtain⟨rfl,rfl⟩:=e;have hH:=Z45 hv h;have hlt:=(Array.getElem?_eq_some_iff.1 h3).1;have hsz:(Ztb l hv).toArray.size=l.length:=by simp [Zr7]
  have hs:=AnyQ.slices_SortFunc Tryz.sortPr 2 Tryz.isAgg175 Tryz.sizeOf175 Zfm (fun _=>rfl) (fun x v hv=>by simp [Zfm] at hv;rcases hv with rfl | rfl <;> rfl) cfP Z1j 79 #[] g 0 cap (Ztb l hv).toArray w eg (Zx3 g 0 _ w) hH hlt ω;rw [hsz] at hs;refine hs.mono ?_;rintro e w' ⟨rfl,d',n,os,hP,hSo,rfl⟩;have hd:d'.size=l.length:=hP.1.trans hsz;have hperm:(d'.toList.map Subtype.val).Perm l:=by
   obtain⟨_,_,hp⟩:=hP;have e1:d'.extract 0 l.length=d':=by rw [<- hd];exact Array.extract_size
   have e2:(Ztb l hv).toArray.extract 0 l.length=(Ztb l hv).toArray:=by rw [<- hsz];exact Array.extract_size
   rw [e1,e2] at hp;have:=hp.map Subtype.val
   rwa [show ((Ztb l hv).toArray.toList).map Subtype.val=l from Zjn l hv] at this
  have heq:d'.toList.map Subtype.val=l2:=by
   refine Zkd ?_ h2 (fun x=>by rw [hperm.mem_iff,hm]);rw [List.pairwise_iff_getElem];intro i j hi hj hij;have hi':i<d'.size:=by simpa using hi
   have hj':j<d'.size:=by simpa using hj
   have h8:=hSo i j (Nat.zero_le _) hij ω;rw [getElem!_pos d' i hi',getElem!_pos d' j hj',Bool.eq_false_iff,ne_eq,Zm1] at h8;simp only [List.getElem_map,Array.getElem_toList];have hne:d'[i].1≠d'[j].1:=fun e=>by
    have hn2:=hperm.nodup_iff.2 hnd;have:=(List.getElem_inj (h₀:=hi) (h₁:=hj) hn2).1 (by simpa using e);omega
   unfold Zrm at *;have:¬ (d'[i].1.1=d'[j].1.1/\d'[i].1.2=d'[j].1.2):=fun e=>hne (Prod.ext e.1 e.2)
   omega
  have hl2:l2.length=l.length:=by rw [<- heq,List.length_map,Array.length_toList,hd]
  refine⟨rfl,?_,Zqr h1 hlt⟩;show World.ownsRow _ B 175 2 _ l2.length (Zbj.flat l2);have hf:(flatK Zfm 2 d').toList=Zbj.flat l2:=by rw [Zuw,heq]
  have hfl:(Zbj.flat l2).length=l.length*2:=by rw [Zbj.flat_len,hl2]
  refine⟨by rw [Zbj.flat_len],Or.inr ⟨g,cap,_,by rw [hl2],h1,Zs4 h3,by rw [hl2];exact h4,h5,by simp [putCells];exact h6,?_⟩⟩;have hp:=Zwa (Zbj.flat l2) cur (by rw [hfl,h6];exact Nat.mul_le_mul_right 2 h4);rw [<- hf] at hp ⊢;rw [show (flatK Zfm 2 d').toList.toArray=flatK Zfm 2 d' from by simp] at hp;rw [show l2.length*2=(flatK Zfm 2 d').toList.length from by rw [hf,hfl,hl2]];exact hp
end Go.Proofs.YtgjefdaaihgliaaGreatDoor
namespace Go.Proofs.YtgjefdaaihgliaaGreatDoor
open Go.RowKit
structure Zxl (w:World) (L:Zpu) (V:Zn4):Prop where
 lo:Zc1.At w V.lo.A L.lo
 nlo:V.lo.n=L.lo.length
 ini:Zde.At w V.ini.A L.ini
 nini:V.ini.n=L.ini.length
 ev:Zq8.At w V.ev.A L.a.evs
 nev:V.ev.n=L.a.evs.length
 br:Zoe.At w V.br.A L.a.bars
 nbr:V.br.n=L.a.bars.length
 ad:Zbj.At w V.ad.A L.a.addr
 nad:V.ad.n=L.a.addr.length
 da:Zbj.At w V.da.A L.a.data
 nda:V.da.n=L.a.data.length
 ct:Zbj.At w V.ct.A L.a.hang
 nct:V.ct.n=L.a.hang.length
 th:Zpv w V.th.A L.th
 nth:V.th.n=L.th.length
 en:Zbj.At w V.en.A L.a.ends
 nen:V.en.n=L.a.ends.length
theorem Zpv.go {w w':World}{A:Option Addr}{T:List Th}(h:Zpv w A T)(hb:Below w.heap.size w w'):Zpv w' A T:=fun i x hx=>by
 obtain⟨b,o,e,c0,c1,c2⟩:=h i x hx;exact⟨b,o,e,Zac c0 hb,Zac c1 hb,Zac c2 hb⟩
theorem Zwh {α:Type}{E:Enc α}{t:TypeId}{B:Nat}{w:World}{v:Value}{l:List α}(h:Zxk E t B w v l):∃ s:Sl,v=s.v/\s.n=l.length/\E.At w s.A l:=by
 obtain⟨q,rfl,hb,_⟩:=h;refine⟨⟨some ⟨q,0,none⟩,l.length,l.length⟩,rfl,rfl,fun i x hx=>⟨q,0,rfl,fun j u hu=>?_⟩⟩;have hj:j<E.size:=by have:=(List.getElem?_eq_some_iff.1 hu).1;rwa [E.len] at this
 rw [Nat.zero_add,hb.cell,List.getElem?_toArray,E.flat_at hx hj];exact hu
theorem Zha {α:Type}{E:Enc α}{t:TypeId}{B:Nat}{w:World}{v:Value}{l:List α}(h:E.Own t B w v l):∃ s:Sl,v=s.v/\s.n=l.length/\E.At w s.A l:=by
 obtain⟨A,cap,e,hat,_⟩:=h.at_;exact⟨⟨A,l.length,cap⟩,e,rfl,hat⟩
theorem Zcg.trc {w:World}{B O:Nat}{L:Zpu}{V:Ztj}(h:Zcg w B O L V):∃ V':Zn4,(.agg #[V.lo,V.ini,V.ev,V.br,V.ad,V.da,V.ct,V.th,V.en]:Value)=Zzw V'/\Zxl w L V':=by
 obtain⟨lo,ini,ev,br,ad,da,ct,th,en⟩:=V;obtain⟨s1,h1,n1,a1⟩:=Zha h.lo;obtain⟨s2,h2,n2,a2⟩:=Zwh h.ini;obtain⟨s3,h3,n3,a3⟩:=Zha h.ev;obtain⟨s4,h4,n4,a4⟩:=Zha h.br;obtain⟨s5,h5,n5,a5⟩:=Zha h.ad;obtain⟨s6,h6,n6,a6⟩:=Zha h.da;obtain⟨s7,h7,n7,a7⟩:=Zha h.ct;obtain⟨A8,c8,h8,a8⟩:=Zet h.th;obtain⟨s9,h9,n9,a9⟩:=Zwh h.en;simp only at h1 h2 h3 h4 h5 h6 h7 h8 h9;subst h1 h2 h3 h4 h5 h6 h7 h8 h9;exact⟨⟨s1,s2,s3,s4,s5,s6,s7,⟨A8,L.th.length,c8⟩,s9⟩,rfl,⟨a1,n1,a2,n2,a3,n3,a4,n4,a5,n5,a6,n6,a7,n7,a8,rfl,a9,n9⟩⟩
theorem Z56 {w:World}{A:Option Addr}{l:List (Int×Int)}(h:Zbj.At w A l){i:Nat}{x:Int×Int}(hx:l[i]?=some x):∃ b o,A=some ⟨b,o,none⟩/\w.cell? ⟨b,o+i*2,none⟩=some (.int .i64 x.1)/\w.cell? ⟨b,o+i*2+1,none⟩=some (.int .i64 x.2):=by
 obtain⟨b,o,e,hc⟩:=h i x hx;exact⟨b,o,e,hc 0 _ rfl,hc 1 _ rfl⟩
theorem Z5f {T:Tst}(hE:Zbb T=0){t:Nat}{c:List Ins}(hc:T.code[t]?=some c)(hr:isR T=true):(Zfi c).1=0:=by
 obtain⟨_,_,ha,hcod,_⟩:=Za0 hE;obtain⟨_,hthr⟩:=(Zca hcod).2.2 t c hc;obtain⟨_,hlnk⟩:=Zkm hthr;rcases Zho ha with ⟨e1,e2⟩ | ⟨e1,e2⟩
 ·rw [e2] at hr;cases hr
 ·exact hlnk e1
theorem Z22 {T:Tst}(hE:Zbb T=0){t k:Nat}{c:List Ins}{x:Ins}(hc:T.code[t]?=some c)(hx:c[k]?=some x)(h11:x.op=11):isR T=true:=by
 obtain⟨_,_,ha,hcod,_⟩:=Za0 hE;obtain⟨_,hthr⟩:=(Zca hcod).2.2 t c hc;obtain⟨hok,_⟩:=Zkm hthr;have hox:=hok x (List.mem_of_getElem? hx);rcases Zho ha with ⟨e1,e2⟩ | ⟨e1,e2⟩
 ·exfalso;unfold okX at hox;rw [if_pos e1] at hox;unfold Zqe Zfo at hox;rw [h11] at hox;simp at hox
 ·exact e2
end Go.Proofs.YtgjefdaaihgliaaGreatDoor
