/- Layer 15: the trace that is being put down, in memory. -/
import Derived.Test.YtdfmcfppoohckaaGreatDoorTm33

namespace Go.Proofs.YtdfmcfppoohckaaGreatDoor
open Go.RowKit
def Zxx {α:Type}(E:Enc α)(t:TypeId)(B:Nat)(w:World)(v:Value)(l:List α):Prop:=∃ q,v=.slice (some ⟨q,0,none⟩) l.length l.length/\Blk w q t (E.flat l).toArray/\B<=q
theorem Zxx.keep {α:Type}{E:Enc α}{t:TypeId}{w w1:World}{B:Nat}{v:Value}{l:List α}(h:Zxx E t B w v l)(hk:∀ q,Blk w q t (E.flat l).toArray->w1.heap[q]?=w.heap[q]?):Zxx E t B w1 v l:=by
 obtain⟨q,h1,h2,h3⟩:=h;exact⟨q,h1,(hk q h2).trans h2,h3⟩
structure Zs2 where
 lo:Value
 ini:Value
 ev:Value
 br:Value
 ad:Value
 da:Value
 ct:Value
 th:Value
 en:Value
structure Ze2 where
 lo:List Nm
 ini:List Int
 th:List Th
 a:Tr
structure Zb3 (w:World) (B O:Nat) (L:Ze2) (V:Zs2):Prop where
 blk:Blk w O 41 #[V.lo,V.ini,V.ev,V.br,V.ad,V.da,V.ct,V.th,V.en]
 hO:B<=O
 lo:Zcy.Own 9 B w V.lo L.lo
 ini:Zxx Zfd 3 B w V.ini L.ini
 ev:Zqm.Own 54 B w V.ev L.a.evs
 br:Zmq.Own 123 B w V.br L.a.bars
 ad:Zbf.Own 129 B w V.ad L.a.addr
 da:Zbf.Own 129 B w V.da L.a.data
 ct:Zbf.Own 129 B w V.ct L.a.hang
 th:w.ownsRow B 25 3 V.th L.th.length (Zay L.th)
 en:Zxx Zbf 76 B w V.en L.a.ends
 a1:Zgy V.ad V.da
 a2:Zgy V.ad V.ct
 a3:Zgy V.da V.ct
namespace Zb3
variable {w w' w1:World} {B O:Nat} {L:Ze2} {V:Zs2} {v':Value}
theorem drew (h:Zb3 w B O L V):Zb3 w.drew B O L V:=⟨h.blk,h.hO,h.lo,h.ini,h.ev,h.br,h.ad,h.da,h.ct,h.th,h.en,h.a1,h.a2,h.a3⟩
theorem below (h:Zb3 w B O L V)(hb:Below w.heap.size w w'):Zb3 w' B O L V:=
 ⟨h.blk.go hb,h.hO,Zav h.lo hb,h.ini.keep (fun _ hq=>hb.block _ hq.lt),Zav h.ev hb,Zav h.br hb,Zav h.ad hb,Zav h.da hb,Zav h.ct hb,Zav h.th hb,h.en.keep (fun _ hq=>hb.block _ hq.lt),h.a1,h.a2,h.a3⟩
theorem ev_ (h:Zb3 w B O L V){l:List Evt}(hg:Zbm w w1 B V.ev v')(ho:Zqm.Own 54 B w1 v' l):Zb3 (w1.setCell ⟨O,2,none⟩ v') B O { L with a:={ L.a with evs:=l } } { V with ev:=v' }:=by
 have hb1:=Zat h.blk h.ev (by decide) hg;exact⟨hb1.set_ 2 _,h.hO,Zaf (Zaj h.lo h.ev (by decide) hg) hb1 (by decide) _ _,h.ini.keep (fun _ hq=>(Below.heap_setCell w1 _ _ _ (Za4 hq h.blk (by decide))).trans (hg.keep _ hq.lt (Zcm h.ev hq (by decide)))),Zaf ho hb1 (by decide) _ _,Zaf (Zaj h.br h.ev (by decide) hg) hb1 (by decide) _ _,Zaf (Zaj h.ad h.ev (by decide) hg) hb1 (by decide) _ _,Zaf (Zaj h.da h.ev (by decide) hg) hb1 (by decide) _ _,Zaf (Zaj h.ct h.ev (by decide) hg) hb1 (by decide) _ _,Zaf (Zaj h.th h.ev (by decide) hg) hb1 (by decide) _ _,h.en.keep (fun _ hq=>(Below.heap_setCell w1 _ _ _ (Za4 hq h.blk (by decide))).trans (hg.keep _ hq.lt (Zcm h.ev hq (by decide)))),h.a1,h.a2,h.a3⟩
theorem br_ (h:Zb3 w B O L V){l:List Br}(hg:Zbm w w1 B V.br v')(ho:Zmq.Own 123 B w1 v' l):Zb3 (w1.setCell ⟨O,3,none⟩ v') B O { L with a:={ L.a with bars:=l } } { V with br:=v' }:=by
 have hb1:=Zat h.blk h.br (by decide) hg;exact⟨hb1.set_ 3 _,h.hO,Zaf (Zaj h.lo h.br (by decide) hg) hb1 (by decide) _ _,h.ini.keep (fun _ hq=>(Below.heap_setCell w1 _ _ _ (Za4 hq h.blk (by decide))).trans (hg.keep _ hq.lt (Zcm h.br hq (by decide)))),Zaf (Zaj h.ev h.br (by decide) hg) hb1 (by decide) _ _,Zaf ho hb1 (by decide) _ _,Zaf (Zaj h.ad h.br (by decide) hg) hb1 (by decide) _ _,Zaf (Zaj h.da h.br (by decide) hg) hb1 (by decide) _ _,Zaf (Zaj h.ct h.br (by decide) hg) hb1 (by decide) _ _,Zaf (Zaj h.th h.br (by decide) hg) hb1 (by decide) _ _,h.en.keep (fun _ hq=>(Below.heap_setCell w1 _ _ _ (Za4 hq h.blk (by decide))).trans (hg.keep _ hq.lt (Zcm h.br hq (by decide)))),h.a1,h.a2,h.a3⟩
theorem ad_ (h:Zb3 w B O L V){l:List (Int×Int)}(hg:Zbm w w1 B V.ad v')(ho:Zbf.Own 129 B w1 v' l):Zb3 (w1.setCell ⟨O,4,none⟩ v') B O { L with a:={ L.a with addr:=l } } { V with ad:=v' }:=by
 have hb1:=Zat h.blk h.ad (by decide) hg;exact⟨hb1.set_ 4 _,h.hO,Zaf (Zaj h.lo h.ad (by decide) hg) hb1 (by decide) _ _,h.ini.keep (fun _ hq=>(Below.heap_setCell w1 _ _ _ (Za4 hq h.blk (by decide))).trans (hg.keep _ hq.lt (Zcm h.ad hq (by decide)))),Zaf (Zaj h.ev h.ad (by decide) hg) hb1 (by decide) _ _,Zaf (Zaj h.br h.ad (by decide) hg) hb1 (by decide) _ _,Zaf ho hb1 (by decide) _ _,Zaf (Zbd h.da h.a1.symm hg) hb1 (by decide) _ _,Zaf (Zbd h.ct h.a2.symm hg) hb1 (by decide) _ _,Zaf (Zaj h.th h.ad (by decide) hg) hb1 (by decide) _ _,h.en.keep (fun _ hq=>(Below.heap_setCell w1 _ _ _ (Za4 hq h.blk (by decide))).trans (hg.keep _ hq.lt (Zcm h.ad hq (by decide)))),(h.a1.symm.grew h.da hg).symm,(h.a2.symm.grew h.ct hg).symm,h.a3⟩
theorem da_ (h:Zb3 w B O L V){l:List (Int×Int)}(hg:Zbm w w1 B V.da v')(ho:Zbf.Own 129 B w1 v' l):Zb3 (w1.setCell ⟨O,5,none⟩ v') B O { L with a:={ L.a with data:=l } } { V with da:=v' }:=by
 have hb1:=Zat h.blk h.da (by decide) hg;exact⟨hb1.set_ 5 _,h.hO,Zaf (Zaj h.lo h.da (by decide) hg) hb1 (by decide) _ _,h.ini.keep (fun _ hq=>(Below.heap_setCell w1 _ _ _ (Za4 hq h.blk (by decide))).trans (hg.keep _ hq.lt (Zcm h.da hq (by decide)))),Zaf (Zaj h.ev h.da (by decide) hg) hb1 (by decide) _ _,Zaf (Zaj h.br h.da (by decide) hg) hb1 (by decide) _ _,Zaf (Zbd h.ad h.a1 hg) hb1 (by decide) _ _,Zaf ho hb1 (by decide) _ _,Zaf (Zbd h.ct h.a3.symm hg) hb1 (by decide) _ _,Zaf (Zaj h.th h.da (by decide) hg) hb1 (by decide) _ _,h.en.keep (fun _ hq=>(Below.heap_setCell w1 _ _ _ (Za4 hq h.blk (by decide))).trans (hg.keep _ hq.lt (Zcm h.da hq (by decide)))),h.a1.grew h.ad hg,h.a2,(h.a3.symm.grew h.ct hg).symm⟩
theorem ct_ (h:Zb3 w B O L V){l:List (Int×Int)}(hg:Zbm w w1 B V.ct v')(ho:Zbf.Own 129 B w1 v' l):Zb3 (w1.setCell ⟨O,6,none⟩ v') B O { L with a:={ L.a with hang:=l } } { V with ct:=v' }:=by
 have hb1:=Zat h.blk h.ct (by decide) hg;exact⟨hb1.set_ 6 _,h.hO,Zaf (Zaj h.lo h.ct (by decide) hg) hb1 (by decide) _ _,h.ini.keep (fun _ hq=>(Below.heap_setCell w1 _ _ _ (Za4 hq h.blk (by decide))).trans (hg.keep _ hq.lt (Zcm h.ct hq (by decide)))),Zaf (Zaj h.ev h.ct (by decide) hg) hb1 (by decide) _ _,Zaf (Zaj h.br h.ct (by decide) hg) hb1 (by decide) _ _,Zaf (Zbd h.ad h.a2 hg) hb1 (by decide) _ _,Zaf (Zbd h.da h.a3 hg) hb1 (by decide) _ _,Zaf ho hb1 (by decide) _ _,Zaf (Zaj h.th h.ct (by decide) hg) hb1 (by decide) _ _,h.en.keep (fun _ hq=>(Below.heap_setCell w1 _ _ _ (Za4 hq h.blk (by decide))).trans (hg.keep _ hq.lt (Zcm h.ct hq (by decide)))),h.a1,h.a2.grew h.ad hg,h.a3.grew h.da hg⟩
end Zb3
theorem Zou (l:List Int)(i:Nat)(n:Int)(h:i<l.length):(Zfd.flat l).toArray.setIfInBounds i (.int .i64 n)=(Zfd.flat (l.set i n)).toArray:=by
 apply Array.ext';apply List.ext_getElem?;intro m;have hl:(Zfd.flat l).length=l.length*1:=Zfd.flat_len l;rw [show ((Zfd.flat (l.set i n)).toArray.toList)=Zfd.flat (l.set i n) from rfl,Zet Zfd l i n m h];simp only [Array.toList_setIfInBounds,List.getElem?_set];show _=if i*1<=m/\m<i*1+1 then _ else _
 by_cases hm:m=i
 ·subst hm;rw [if_pos rfl,if_pos ω,if_pos ω];show _=(Zfd.enc n)[m - m*1]?;rw [show m - m*1=0 by omega];rfl
 ·rw [if_neg (Ne.symm hm),if_neg ω]
theorem Zov (l:List (Int×Int))(i:Nat)(x:Int×Int)(h:i<l.length):(((Zbf.flat l).toArray.setIfInBounds (i*2) (.int .i64 x.1)).setIfInBounds (i*2+1) (.int .i64 x.2))=(Zbf.flat (l.set i x)).toArray:=by
 apply Array.ext';apply List.ext_getElem?;intro m;have hl:(Zbf.flat l).length=l.length*2:=Zbf.flat_len l;rw [show ((Zbf.flat (l.set i x)).toArray.toList)=Zbf.flat (l.set i x) from rfl,Zet Zbf l i x m h];simp only [Array.toList_setIfInBounds,List.getElem?_set,List.length_set];show _=if i*2<=m/\m<i*2+2 then _ else _
 by_cases h0:m=i*2
 ·subst h0;rw [if_neg ω,if_pos rfl,if_pos (by rw [hl];omega),if_pos ω];show _=(Zbf.enc x)[i*2 - i*2]?;rw [Nat.sub_self];rfl
 ·by_cases h1:m=i*2+1
  ·subst h1;rw [if_pos rfl,if_pos (by rw [hl];omega),if_pos ω];show _=(Zbf.enc x)[i*2+1 - i*2]?;rw [show i*2+1 - i*2=1 by omega];rfl
  ·rw [if_neg (fun e=>h1 e.symm),if_neg (fun e=>h0 e.symm),if_neg ω]
namespace Zb3
variable {w w' w1:World} {B O:Nat} {L:Ze2} {V:Zs2} {v':Value}
theorem en_ (h:Zb3 w B O L V){i q:Nat}{x:Int×Int}(hi:i<L.a.ends.length)(hq:V.en=.slice (some ⟨q,0,none⟩) L.a.ends.length L.a.ends.length):Zb3 ((w.setCell ⟨q,i*2,none⟩ (.int .i64 x.1)).setCell ⟨q,i*2+1,none⟩ (.int .i64 x.2)) B O { L with a:={ L.a with ends:=L.a.ends.set i x } } V:=by
 obtain⟨q',e,hb,hB⟩:=h.en;rw [hq] at e;simp only [Value.slice.injEq,Option.some.injEq,Addr.mk.injEq,and_true] at e;obtain⟨rfl,_⟩:=e;have k0:=hb.set_ (i*2) (.int .i64 x.1);have k1:=k0.set_ (i*2+1) (.int .i64 x.2);rw [Zov _ _ _ hi] at k1;exact⟨(h.blk.far (Za4 h.blk hb (by decide)) _).far (Za4 h.blk hb (by decide)) _,h.hO,Zaf (Zaf h.lo hb (by decide) _ _) k0 (by decide) _ _,(h.ini.keep (fun _ hq2=>Below.heap_setCell w _ _ _ (Za4 hq2 hb (by decide)))).keep (fun _ hq2=>Below.heap_setCell _ _ _ _ (Za4 hq2 k0 (by decide))),Zaf (Zaf h.ev hb (by decide) _ _) k0 (by decide) _ _,Zaf (Zaf h.br hb (by decide) _ _) k0 (by decide) _ _,Zaf (Zaf h.ad hb (by decide) _ _) k0 (by decide) _ _,Zaf (Zaf h.da hb (by decide) _ _) k0 (by decide) _ _,Zaf (Zaf h.ct hb (by decide) _ _) k0 (by decide) _ _,Zaf (Zaf h.th hb (by decide) _ _) k0 (by decide) _ _,
  ⟨q,by rw [hq,List.length_set],k1,hB⟩,h.a1,h.a2,h.a3⟩
end Zb3
structure Zen (B1:Nat) (w w':World):Prop where
 size:w.heap.size<=w'.heap.size
 keep:∀ b,B1<=b->b<w.heap.size->w'.heap[b]?=w.heap[b]?
theorem Zen.trans {B1:Nat}{w w1 w2:World}(h:Zen B1 w w1)(k:Zen B1 w1 w2):Zen B1 w w2:=⟨Nat.le_trans h.size k.size,fun b h1 h2=>(k.keep b h1 (Nat.lt_of_lt_of_le h2 h.size)).trans (h.keep b h1 h2)⟩
theorem Zen.grew {B1 B:Nat}{w w1:World}{v v':Value}(hg:Zbm w w1 B v v')(hv:∀ b,v.ownBlock=some b->b<B1):Zen B1 w w1:=⟨hg.below.size,fun b h1 h2=>hg.keep b h2 (fun e=>by have:=hv b e;omega)⟩
theorem Zen.set {B1 q:Nat}(w:World)(i:Nat)(u:Value)(hq:q<B1):Zen B1 w (w.setCell ⟨q,i,none⟩ u):=⟨by simp,fun b h1 _=>Below.heap_setCell w _ _ _ (fun e=>by simp only at e;omega)⟩
theorem Zgf {w w1:World}{B:Nat}{t:TypeId}{z n:Nat}{v:Value}{cs:List Value}(h:w.ownsRow B t z v n cs)(ha:Zen B w w1):w1.ownsRow B t z v n cs:=
 Zex h fun b hb=>by
  obtain⟨_,k,hB⟩:=Zg1 h hb;exact ha.keep b hB (Zfh h hb)
theorem Za0.above {w w':World}{B g:Nat}{S:Zgk}{r:Rn}{V:Zd6}(h:Za0 w B g S r V)(ha:Zen B w w'):Za0 w' B g S r V:=
 ⟨(ha.keep g h.hg h.blk.lt).trans h.blk,h.hg,(by obtain⟨q,h1,h2,h3⟩:=h.regs;exact⟨q,h1,(ha.keep q h3 h2.lt).trans h2,h3⟩),Zgf h.evs ha,Zgf h.bars ha,Zgf h.addr ha,Zgf h.data ha,Zgf h.hang ha,h.a1,h.a2,h.a3⟩
theorem Zb3.lt {w:World}{B O:Nat}{L:Ze2}{V:Zs2}(h:Zb3 w B O L V):(∀ b,V.ev.ownBlock=some b->b<w.heap.size)/\(∀ b,V.br.ownBlock=some b->b<w.heap.size)/\(∀ b,V.ad.ownBlock=some b->b<w.heap.size)/\(∀ b,V.da.ownBlock=some b->b<w.heap.size)/\(∀ b,V.ct.ownBlock=some b->b<w.heap.size):=
 ⟨fun _ e=>Zfh h.ev e,fun _ e=>Zfh h.br e,fun _ e=>Zfh h.ad e,fun _ e=>Zfh h.da e,fun _ e=>Zfh h.ct e⟩
section
def Zp1:Zd8->Int
 | .rd i=>(i:Int)
 | _=>0
def Zo7:Zd8->Bool
 | .rd _=>true
 | _=>false
theorem taT (w:World):∀ h:Zd8,(Instr.typeAssert (Zah h) 112 127 true).run Tryz.prog w=.ok (.tuple #[.int .i64 (Zp1 h),.bool (Zo7 h)]) w
 | .num _=>Z6a _ w
 | .adr _=>Z58 _ w
 | .rd _=>Z6b _ w
 | .non=>Z59 _ w
def Zu7 (o:Option (Int×Int)):Value:=match o with
 | some p=>.tuple #[.agg #[.int .i64 p.1,.int .i64 p.2],.bool true]
 | none=>.tuple #[.agg #[.int .i64 0,.int .i64 0],.bool false]
section
set_option maxHeartbeats 4000000
set_option maxRecDepth 100000
variable {w0 w:World} {g nr k:Nat} {S:Zgk} {r:Rn} {V:Zd6}
theorem Z73 (d first:Nat)(x:Rg)(hfi:first<=64)(hx0:∀ i,x.h=.rd i->i<=64)(hR:Za0 w w0.heap.size g S r V)(hx:r.regs[d]?=some x) :
  Calls Tryz.prog 17 #[.pointer (some ⟨g,0,none⟩),.int .i64 (d:Int),.int .i64 (first:Int)] w (RB w (Zu7 (Zp6 first x.h))):=by
 obtain⟨q,hvr,hqb,hqB⟩:=hR.regs;have hdl:=(List.getElem?_eq_some_iff.1 hx).1;have hi1:(0:Int)<=(d:Int):=ω;have hi2:(d:Int)<(r.regs.length:Int):=ω;obtain⟨c0,c1,c2,c3,c4⟩:=Zbq hqb hx;have k14:w.cell? ⟨g,14,none⟩=some (.slice (some ⟨q,0,none⟩) r.regs.length r.regs.length):=by rw [<- hvr];exact hR.blk.cell 14
 have hqw:=hqb.lt;have hgw:g<w.heap.size:=hR.blk.lt;obtain⟨xh,xo⟩:=x;simp only at hx0 c0 ⊢;cases xh with
 | num n=>
  have q1:=fun w=>taN w (.num n)
  have q2:=fun w=>taT w (.num n)
  simp only [Znl,Zmy,Zp1,Zo7] at q1 q2;go_enter Tryz.func17,Tryz.ntmps17
  go_wp2_with fail
  have z0:=Zb2 w #[.int .i64 1,.int .i64 n] 76 (0,0) 0;have z1:=Zb2 w #[.int .i64 1,.int .i64 n] 76 (0,0) 1;refine bodyPost_ret (v:=.tuple #[.agg #[.int .i64 1,.int .i64 n],.bool true]) (by simp [results,Tryz.results17,go_sem,z0,z1]) rfl ⟨rfl,Zad _ _⟩
 | rd i=>
  have q1:=fun w=>taN w (.rd i)
  have q2:=fun w=>taT w (.rd i)
  simp only [Znl,Zmy,Zp1,Zo7] at q1 q2;have hi3:(0:Int)<=(i:Int):=ω;have hi4:(i:Int)<=64:=by have:=hx0 i rfl;omega
  have hi5:(first:Int)<=64:=ω;go_enter Tryz.func17,Tryz.ntmps17
  go_wp2_with fail
  have z0:=Zb2 w #[.int .i64 2,.int .i64 ((first:Int)+(i:Int))] 76 (0,0) 0;have z1:=Zb2 w #[.int .i64 2,.int .i64 ((first:Int)+(i:Int))] 76 (0,0) 1;refine bodyPost_ret (v:=.tuple #[.agg #[.int .i64 2,.int .i64 ((first:Int)+(i:Int))],.bool true]) (by simp [results,Tryz.results17,go_sem,z0,z1]) rfl ⟨by simp [Zp6,Zu7],Zad _ _⟩
 | adr s=>
  have q1:=fun w=>taN w (.adr s)
  have q2:=fun w=>taT w (.adr s)
  exact m_42
 | non=>
  have q1:=fun w=>taN w .non
  have q2:=fun w=>taT w .non
  exact m_42
end
end
end Go.Proofs.YtdfmcfppoohckaaGreatDoor
namespace Go.Proofs.YtdfmcfppoohckaaGreatDoor
open Go.RowKit
open Go.Sort
open Go.Sort (sorted_unique_holds flatK size_flatK get_flatK HoldsK Holds putRow mapBlock putCells grow onCells)
def okP (p:Int×Int):Prop:=(0<=p.1/\p.1<=4096)/\0<=p.2/\p.2<=4096
abbrev VP:={ p:Int×Int // okP p }
instance Z7s:Inhabited VP:=⟨⟨(0,0),by unfold okP;omega⟩⟩
def Zfr (x:VP):List Value:=[.int .i64 x.1.1,.int .i64 x.1.2]
def cfP (x y:VP):Int:=if x.1.1=y.1.1 then x.1.2 - y.1.2 else x.1.1 - y.1.1
theorem Zm8 (x y:VP):ltOf cfP x y=true↔Zjo x.1 y.1:=by
 unfold ltOf cfP Zjo;by_cases h:x.1.1=y.1.1
 ·simp [h];omega
 ·simp [h];omega
theorem Z1z:SWO (ltOf cfP) where
 irrefl x:=by
  rw [Bool.eq_false_iff];intro h;rw [Zm8] at h;unfold Zjo at h;omega
 trans x y z h k:=by
  rw [Zm8] at h k ⊢;unfold Zjo at *;omega
 ntrans x y z h k:=by
  rw [Bool.eq_false_iff,ne_eq,Zm8] at h k ⊢;unfold Zjo at *;omega
theorem Zs0 {x:Int}(h1:-4096<=x)(h2:x<=4096):IntKind.i64.wrap x=x:=by
 unfold IntKind.wrap;simp [IntKind.bits,IntKind.signed];omega
section
set_option maxHeartbeats 4000000
set_option maxRecDepth 100000
theorem Z6z (a b c d:Int)(h1:0<=a/\a<=4096)(h2:0<=b/\b<=4096)(h3:0<=c/\c<=4096)(h4:0<=d/\d<=4096)(w:World) :
  Calls Tryz.prog 63 #[.agg #[.int .i64 a,.int .i64 b],.agg #[.int .i64 c,.int .i64 d]] w fun e w'=>e=.returned (.int .i64 (if a=c then b - d else a - c))/\∃ q os',w'=Sort.grow (w.drewN q) os':=by
 have HG:=Zh (Zrz w (.cells #[.int .i64 a,.int .i64 b] 129 (0,0)) (.cells #[.int .i64 c,.int .i64 d] 129 (0,0)));obtain⟨h1a,h1b⟩:=h1;obtain⟨h2a,h2b⟩:=h2;obtain⟨h3a,h3b⟩:=h3;obtain⟨h4a,h4b⟩:=h4;by_cases he:a=c
 ·rw [if_pos he];subst he;have hw:IntKind.i64.wrap (b - d)=b - d:=Zs0 ω ω;exact m_126
 ·rw [if_neg he];have hw:IntKind.i64.wrap (a - c)=a - c:=Zs0 ω ω;exact m_126
end
theorem Zym (blk off size:Nat)(w:World):CmpLays Tryz.prog 63 #[] Zfr 2 cfP blk off size w:=fun m os dk _ x y=>by
 obtain⟨⟨a,b⟩,h1,h2⟩:=x;obtain⟨⟨c,d⟩,h3,h4⟩:=y;exact Z6z a b c d h1 h2 h3 h4 _
def Ztz:(L:List (Int×Int))->(∀ x∈L,okP x)->List VP
 | [],_=>[]
 | x :: r,h=>⟨x,h x (by simp)⟩ :: Ztz r (fun y hy=>h y (by simp [hy]))
theorem Zjy:∀ (L:List (Int×Int)) (h:∀ x∈L,okP x),(Ztz L h).map Subtype.val=L
 | [],_=>rfl
 | x :: r,h=>by
  show x :: (Ztz r _).map Subtype.val=x :: r;rw [Zjy r]
theorem Zsx (L:List (Int×Int))(h:∀ x∈L,okP x):(Ztz L h).length=L.length:=by
 have:=congrArg List.length (Zjy L h);simpa using this
theorem Zy4 {l:List (Int×Int)}{t:Nat}(ht:t<l.length*2):(Zbf.flat l)[t]?=(Zbf.enc (l.getD (t / 2) (0,0)))[t % 2]?:=by
 have h1:t / 2<l.length:=ω;have h2:=Zbf.flat_at (List.getElem?_eq_getElem h1) (show t % 2<Zbf.size by show t % 2<2;omega);rw [show t / 2*Zbf.size+t % 2=t by show t / 2*2+t % 2=t;omega] at h2;rw [h2];simp [List.getD,h1]
theorem Zvf (d:Array VP):(flatK Zfr 2 d).toList=Zbf.flat (d.toList.map Subtype.val):=by
 apply List.ext_getElem?;intro t;have hl:(Zbf.flat (d.toList.map Subtype.val)).length=d.size*2:=by rw [Zbf.flat_len];simp
 have hs:=size_flatK Zfr 2 d;by_cases ht:t<d.size*2
 ·rw [Zy4 (by simpa using ht),Array.getElem?_toList,Array.getElem?_eq_getElem (by rw [hs];exact ht)];have h1:=get_flatK Zfr 2 d t ht;rw [getElem!_pos (flatK Zfr 2 d) t (by rw [hs];exact ht)] at h1;rw [h1];have h2:t / 2<d.size:=ω;rw [getElem!_pos d (t / 2) h2];have h3:(d.toList.map Subtype.val).getD (t / 2) (0,0)=d[t / 2].1:=by simp [List.getD,h2]
  rw [h3];have h4:t % 2=0\/t % 2=1:=ω;rcases h4 with h4 | h4 <;> rw [h4] <;> rfl
 ·rw [List.getElem?_eq_none (by rw [Array.length_toList,hs];omega),List.getElem?_eq_none (by rw [hl];omega)]
theorem Zwr (d:List Value)(cur:Array Value)(h:d.length<=cur.size):(putCells id 0 d.toArray cur).toList.take d.length=d:=by
 apply List.ext_getElem?;intro i;rw [List.getElem?_take];by_cases hi:i<d.length
 ·rw [if_pos hi,List.getElem?_eq_getElem hi];exact m_116
 ·rw [if_neg hi,List.getElem?_eq_none ω]
theorem Ztt {w:World}{g n:Nat}{t:TypeId}{cur:Array Value}{os:Array Obj}{d:Array VP}(h:w.heap[g]?=some (.cells cur t (0,0))):(sortWorldK Zfr 2 w g 0 n d os).heap[g]?=some (.cells (putCells id 0 (flatK Zfr 2 d) cur) t (0,0)):=by
 have hlt:=(Array.getElem?_eq_some_iff.1 h).1;have h2:(mapBlock (Sort.ahead w n) g (putCells id 0 (flatK Zfr 2 d))).heap[g]?=some (.cells (putCells id 0 (flatK Zfr 2 d) cur) t (0,0)):=by
  simp only [mapBlock,Array.getElem?_modify];rw [if_pos trivial];show (w.heap[g]?).map _=_;rw [h];rfl
 exact (Sort.heap_grow_old _ _ (by simp [putRowK,putRow,mapBlock,Sort.ahead];exact hlt)).trans h2
theorem Zq9 {w:World}{g n B:Nat}{d:Array VP}{os:Array Obj}(hB:B<=g)(hg:g<w.heap.size):Below B w (sortWorldK Zfr 2 w g 0 n d os):=
 ⟨rfl,rfl,rfl,by show w.heap.size<=((w.heap.modify g _)++os).size;simp,fun i hi=>by
  have hlt:i<w.heap.size:=ω;have h2:(mapBlock (Sort.ahead w n) g (putCells id 0 (flatK Zfr 2 d))).heap[i]?=w.heap[i]?:=by
   simp only [mapBlock,Array.getElem?_modify];rw [if_neg ω];rfl
  exact (Sort.heap_grow_old _ _ (by simp [putRowK,putRow,mapBlock,Sort.ahead];exact hlt)).trans h2⟩
theorem Z41 {w:World}{B g cap:Nat}{l:List (Int×Int)}(hv:∀ p∈l,okP p)(ho:Zbf.Own 129 B w (.slice (some ⟨g,0,none⟩) l.length cap) l):HoldsK Zfr 2 w g 0 (Ztz l hv).toArray:=by
 intro j hj;have hsz:(Ztz l hv).toArray.size=l.length:=by simp [Zsx]
 rw [size_flatK,hsz] at hj;refine⟨?_,by rw [Nat.zero_add];exact ho.frozenAt j⟩;have h2:(flatK Zfr 2 (Ztz l hv).toArray).toList=Zbf.flat l:=by
  rw [Zvf];show Zbf.flat ((Ztz l hv).map Subtype.val)=_;rw [Zjy]
 rw [Nat.zero_add,ho.cellAt j hj,<- h2,Array.getElem?_toList,Array.getElem?_eq_getElem (by rw [size_flatK,hsz];exact hj),getElem!_pos _ j (by rw [size_flatK,hsz];exact hj)];rfl
theorem sortPr (v:Value)(l l2:List (Int×Int))(B:Nat)(w:World)(h:Zbf.Own 129 B w v l)(hl:l.length<=1000000)(hv:∀ p∈l,okP p)(hnd:l.Nodup)(h2:l2.Pairwise Zjo)(hm:∀ x,x∈l2↔x∈l) :
  Calls Tryz.prog 62 #[v,.func (.func 63) #[] #[]] w fun e w'=>e=.returned (.tuple #[])/\Zbf.Own 129 B w' v l2/\Below B w w':=by
 obtain⟨A,cap,rfl⟩:=h.shp;have eg:∀ args w,(callFunc 63 args).run Tryz.prog w=.ok (.enter 63 args) w:=enters_of Tryz.func63 κ rfl;rcases h.2 with ⟨e,h0⟩ | ⟨g,cap',cur,e,h1,h3,h4,h5,h6,h7⟩
 ·have hl0:l=[]:=List.length_eq_zero_iff.1 h0;subst hl0;have hl2:l2=[]:=List.eq_nil_iff_forall_not_mem.2 fun x hx=>by have:=(hm x).1 hx;cases this
  subst hl2;refine (AnyF.slices_SortFunc_none Tryz.sortPr A cap _ w).mono fun e w' ⟨h1,h2⟩=>⟨h1,?_,?_⟩
  ·subst h2;exact h
  ·rw [h2];exact Below.refl _ _
 ·simp only [Value.slice.injEq,true_and] at e;obtain⟨rfl,rfl⟩:=e;have hH:=Z41 hv h;have hlt:=(Array.getElem?_eq_some_iff.1 h3).1;have hsz:(Ztz l hv).toArray.size=l.length:=by simp [Zsx]
  have hs:=AnyQ.slices_SortFunc Tryz.sortPr 2 Tryz.isAgg129 Tryz.sizeOf129 Zfr (fun _=>rfl) (fun x v hv=>by simp [Zfr] at hv;rcases hv with rfl | rfl <;> rfl) cfP Z1z 63 #[] g 0 cap (Ztz l hv).toArray w eg (Zym g 0 _ w) hH hlt ω;rw [hsz] at hs;refine hs.mono ?_;rintro e w' ⟨rfl,d',n,os,hP,hSo,rfl⟩;have hd:d'.size=l.length:=hP.1.trans hsz;have hperm:(d'.toList.map Subtype.val).Perm l:=by
   obtain⟨_,_,hp⟩:=hP;have e1:d'.extract 0 l.length=d':=by rw [<- hd];exact Array.extract_size
   have e2:(Ztz l hv).toArray.extract 0 l.length=(Ztz l hv).toArray:=by rw [<- hsz];exact Array.extract_size
   rw [e1,e2] at hp;have:=hp.map Subtype.val
   rwa [show ((Ztz l hv).toArray.toList).map Subtype.val=l from Zjy l hv] at this
  have heq:d'.toList.map Subtype.val=l2:=by
   refine Zkj ?_ h2 (fun x=>by rw [hperm.mem_iff,hm]);rw [List.pairwise_iff_getElem];intro i j hi hj hij;have hi':i<d'.size:=by simpa using hi
   have hj':j<d'.size:=by simpa using hj
   have h8:=hSo i j (Nat.zero_le _) hij ω;rw [getElem!_pos d' i hi',getElem!_pos d' j hj',Bool.eq_false_iff,ne_eq,Zm8] at h8;simp only [List.getElem_map,Array.getElem_toList];have hne:d'[i].1≠d'[j].1:=fun e=>by
    have hn2:=hperm.nodup_iff.2 hnd;have:=(List.getElem_inj (h₀:=hi) (h₁:=hj) hn2).1 (by simpa using e);omega
   unfold Zjo at *;have:¬ (d'[i].1.1=d'[j].1.1/\d'[i].1.2=d'[j].1.2):=fun e=>hne (Prod.ext e.1 e.2)
   omega
  have hl2:l2.length=l.length:=by rw [<- heq,List.length_map,Array.length_toList,hd]
  refine⟨rfl,?_,Zq9 h1 hlt⟩;show World.ownsRow _ B 129 2 _ l2.length (Zbf.flat l2);have hf:(flatK Zfr 2 d').toList=Zbf.flat l2:=by rw [Zvf,heq]
  have hfl:(Zbf.flat l2).length=l.length*2:=by rw [Zbf.flat_len,hl2]
  refine⟨by rw [Zbf.flat_len],Or.inr ⟨g,cap,_,by rw [hl2],h1,Ztt h3,by rw [hl2];exact h4,h5,by simp [putCells];exact h6,?_⟩⟩;have hp:=Zwr (Zbf.flat l2) cur (by rw [hfl,h6];exact Nat.mul_le_mul_right 2 h4);rw [<- hf] at hp ⊢;rw [show (flatK Zfr 2 d').toList.toArray=flatK Zfr 2 d' from by simp] at hp;rw [show l2.length*2=(flatK Zfr 2 d').toList.length from by rw [hf,hfl,hl2]];exact hp
end Go.Proofs.YtdfmcfppoohckaaGreatDoor
namespace Go.Proofs.YtdfmcfppoohckaaGreatDoor
open Go.RowKit
section
theorem Zs5 {w:World}{A:Option Addr}{l:List (Int×Int)}(h:Zbf.At w A l){i:Nat}{x:Int×Int}(hx:l[i]?=some x):∃ b o,A=some ⟨b,o,none⟩/\w.cell? ⟨b,o+i*2,none⟩=some (.int .i64 x.1)/\w.cell? ⟨b,o+i*2+1,none⟩=some (.int .i64 x.2):=by
 obtain⟨b,o,e,hc⟩:=h i x hx;exact⟨b,o,e,hc 0 _ rfl,hc 1 _ rfl⟩
theorem Ze3.moved {evs:List Evt}{n f:Nat}{l:List (Int×Int)}(h:Ze3 evs n l)(hf:f+n<=64) :
  (∀ p∈l.map (shP f),okP p)/\(l.map (shP f)).Nodup/\(Zf0 (l.map (shP f))).Pairwise Zjo/\(∀ x,x∈Zf0 (l.map (shP f))↔x∈l.map (shP f))/\(∀ p∈l.map (shP f),(f:Int)<=p.1/\p.1<((f+n:Nat):Int)):=by
 have hin:∀ p∈l.map (shP f),∃ i j:Nat,p=(((f+i:Nat):Int),((f+j:Nat):Int))/\i<j/\j<n:=fun p hp=>by
  obtain⟨q,hq,rfl⟩:=List.mem_map.1 hp;obtain⟨i,j,rfl,h1,_,h3⟩:=h.at_ q hq;exact⟨i,j,by simp [shP],h1,h3⟩
 have hord:(l.map (shP f)).Pairwise Z1c:=by
  rw [List.pairwise_map];exact h.ord.imp fun hpq=>by
   unfold Z1c shP at *;simp only;omega
 refine⟨fun p hp=>?_,?_,Zmi hord 64,fun x=>?_,fun p hp=>?_⟩
 ·obtain⟨i,j,rfl,h1,h2⟩:=hin p hp;unfold okP;simp only;omega
 ·refine hord.imp fun {p q} hpq e=>?_
  subst e;unfold Z1c at hpq;omega
 ·rw [Zf7];refine⟨fun h=>h.1,fun h=>⟨h,?_⟩⟩;obtain⟨i,j,rfl,h1,h2⟩:=hin x h;exact⟨f+i,ω,rfl⟩
 ·obtain⟨i,j,rfl,h1,h2⟩:=hin p hp;simp only;omega
section
set_option maxHeartbeats 4000000
set_option maxRecDepth 100000
theorem Zv9 (A:Option Addr)(cap n f:Nat)(evs:List Evt)(l:List (Int×Int))(w:World)(h:Zbf.At w A l)(hok:Ze3 evs n l)(hf:f+n<=64)(_hcap:l.length<=cap) :
  Calls Tryz.prog 18 #[.slice A l.length cap,.int .i64 (f:Int)] w fun e w'=>∃ v,e=.returned v/\Zbf.Own 129 w.heap.size w' v (Zf0 (l.map (shP f)))/\Below w.heap.size w w':=by
 have HA:=Zh h;have hlen:=hok.len;have hm:=hok.moved hf;have HM:=Zh hm;have hin:∀ p∈l,(0<=p.1/\p.1<=64)/\0<=p.2/\p.2<=64:=fun p hp=>by
  obtain⟨i,j,rfl,h1,_,h3⟩:=hok.at_ p hp;simp only;omega
 have HIN:=Zh hin;have hll:l.length<=4096:=ω;go_enter Tryz.func18,Tryz.ntmps18
 go_wp2_with fail
 go_loopw [10,5] (fun ii vv wr=>∃ k:Nat,k<=l.length/\ii=.int .i64 k/\Zbf.Own 129 w.heap.size wr vv ((l.take k).map (shP f))/\Below w.heap.size w wr) (fun ii _ _=>l.length - (intOf ii).toNat)
 case atStart=>exact⟨0,Nat.zero_le _,rfl,Enc.Own.nil _ _ _,Below.refl _ _⟩
 case round=>
  obtain⟨k,hk,rfl,hv,hb⟩:=hrel;obtain⟨q,hq⟩:∃ q,(l.take k).map (shP f)=q:=⟨_,rfl⟩;have HQ:=Zh hq;rw [hq] at hv;have hql:q.length<=4096:=by rw [<- hq];simp;omega
  obtain⟨A3,n3,c3,rfl⟩:=Zb8 hv;have HV:=Zh hv;have HB:=Zh hb;have hzr:=hb.size;by_cases hlt:k<l.length
  ·have ex:=List.getElem?_eq_getElem hlt;obtain⟨x,hx⟩:∃ x,l[k]=x:=⟨_,rfl⟩;rw [hx] at ex;obtain⟨b,o,rfl,c0,c1⟩:=Zs5 (HA.o.below HB.o) ex;have hxi:=HIN.o x (List.mem_of_getElem? ex);obtain⟨⟨x1,x2⟩,x3,x4⟩:=hxi;have hfi:(0:Int)<=(f:Int):=ω;have hfj:(f:Int)<=64:=ω;have hki:(k:Int)<(l.length:Int):=ω;have HS:=Zh (show q++[((f:Int)+x.1,(f:Int)+x.2)]=(l.take (k+1)).map (shP f) by
    obtain⟨h1,h2⟩:=List.getElem?_eq_some_iff.1 ex;rw [<- HQ.o,List.take_succ_eq_append_getElem h1,h2];simp [shP])
   have HP1:=Zh (Zad wr (.cells #[.int .i64 x.1,.int .i64 x.2] 129 (0,0)));have HPA:=Zh (Zi7 (wr.alloc (.cells #[.int .i64 x.1,.int .i64 x.2] 129 (0,0))) ((f:Int)+x.1,(f:Int)+x.2));have HP2:=Zh (Zao wr (.cells #[.int .i64 x.1,.int .i64 x.2] 129 (0,0)) (.cells #[.int .i64 ((f:Int)+x.1),.int .i64 ((f:Int)+x.2)] 129 (0,0)));have hz2:(wr.alloc (.cells #[.int .i64 x.1,.int .i64 x.2] 129 (0,0))).heap.size=wr.heap.size+1:=by simp
   rw [hz2] at HPA
   go_wp2_with (at_builtin;refine Enc.appW Zmp _ rfl (.tmp 14) (.tmp 24) rfl [((f:Int)+x.1,(f:Int)+x.2)] w.heap.size q _ (wr.heap.size+1) 0 1 rfl rfl HPA.o (HV.o.below HP2.o) (by simp;omega) (by simp;omega) (by simp;omega) ?_;intro v' w3 hown3 hg3;have HO3:=Zh hown3;have HG3:=Zh hg3;clear hown3 hg3)
   go_roundw
   case rel=>exact⟨k+1,ω,by go_num,by rw [<- HS.o];exact HO3.o,HB.o.trans ((HP2.o.mono hzr).trans HG3.o.below)⟩
   case measure=>exact msr
  ·have hqe:q=l.map (shP f):=by rw [<- HQ.o,List.take_of_length_le ω]
   subst hqe;have hki:¬ (k:Int)<(l.length:Int):=ω
   go_wp2_with (go_at_call 62;refine (sortPr _ (l.map (shP f)) (Zf0 (l.map (shP f))) w.heap.size _ HV.o ω HM.o.1 HM.o.2.1 HM.o.2.2.1 HM.o.2.2.2.1).mono ?_;rintro e w4 ⟨rfl,hown4,hb4⟩;have HO4:=Zh hown4;have HB4:=Zh hb4;clear hown4 hb4)
   go_ret;exact⟨_,rfl,HO4.o,HB.o.trans HB4.o⟩
end
end
end Go.Proofs.YtdfmcfppoohckaaGreatDoor
