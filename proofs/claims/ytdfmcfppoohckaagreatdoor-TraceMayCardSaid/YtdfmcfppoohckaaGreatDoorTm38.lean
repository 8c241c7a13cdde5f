/- Layer 15: the reference's runner in memory: a value, its rows in blocks of the call's own. -/
import Derived.Test.YtdfmcfppoohckaaGreatDoorTm34
import Derived.Test.YtdfmcfppoohckaaGreatDoorTm37

namespace Go.Proofs.YtdfmcfppoohckaaGreatDoor
open Go.RowKit
theorem Blk.cm{w:World}{b:Nat}{t:TypeId}{cs:Array Value}(h:Blk w b t cs)(i:Nat){v:Value}{l:List Value}(hv:cs.toList.drop i=v::l:=by rfl):w.cell? ⟨b,i,none⟩=some v:=by
 rw [h.cell,<-Array.getElem?_toList,<-List.head?_drop,hv]
 rfl
def Zax:Zd8->Int
 | .num _=>1
 | .adr _=>2
 | .rd _=>3
 | .non=>4
def Zb6 (f:Nat):Zd8->Int
 | .num n=>n
 | .adr _=>0
 | .rd i=>((f+i:Nat):Int)
 | .non=>0
def Zb5:Zd8->Nm
 | .adr s=>s
 | _=>[]
abbrev Zdj (f:Nat):Enc Rg:=⟨4,fun x=>[.int .i64 (Zax x.h),.int .i64 (Zb6 f x.h),.string ⟨(Zb5 x.h).toArray⟩,.int .u64 ((x.on<<<f:Nat):Int)],fun _=>rfl,ω,fun x u h=>by simp at h;rcases h with rfl | rfl | rfl | rfl <;> rfl⟩
theorem Zyv (f:Nat):(Zdj f).Elem 87 81 40:=⟨Tryz.underlying81,.agg #[.int .i64 0,.int .i64 0,.string ⟨#[]⟩,.int .u64 0],κ,rfl⟩
abbrev Za2 (f:Nat)(x:Rg):Value:=.agg #[.int .i64 (Zax x.h),.int .i64 (Zb6 f x.h),.string ⟨(Zb5 x.h).toArray⟩,.int .u64 ((x.on<<<f:Nat):Int)]
structure Sl where
 A:Option Addr
 n:Nat
 c:Nat
abbrev Sl.v (s:Sl):Value:=.slice s.A s.n s.c
theorem Zd7 {w:World}{B:Nat}{t:TypeId}{z n:Nat}{v:Value}{cs:List Value}(h:w.ownsRow B t z v n cs):∃ s:Sl,v=s.v/\s.n=n:=by
 obtain⟨A,cap,e⟩:=Zbx h;exact⟨⟨A,n,cap⟩,e,rfl⟩
theorem Zpm {w:World}{B:Nat}{t:TypeId}{z n:Nat}{s:Sl}{cs:List Value}(h:w.ownsRow B t z s.v n cs):s.n=n:=by
 obtain⟨A,cap,e⟩:=Zbx h;simp only [Sl.v,Value.slice.injEq] at e;exact e.2.1
structure Ze5 where
 lo:Sl
 ini:Sl
 ev:Sl
 br:Sl
 ad:Sl
 da:Sl
 ct:Sl
 th:Sl
 en:Sl
abbrev Zd4 (V:Ze5):Value:=.agg #[V.lo.v,V.ini.v,V.ev.v,V.br.v,V.ad.v,V.da.v,V.ct.v,V.th.v,V.en.v]
abbrev Zjb (V:Ze5):Array Value:=#[V.lo.v,V.ini.v,V.ev.v,V.br.v,V.ad.v,V.da.v,V.ct.v,V.th.v,V.en.v]
structure RrV where
 rg:Sl
 ev:Sl
 br:Sl
 ad:Sl
 da:Sl
 ct:Sl
structure RrS where
 T:Tst
 iv:Sl
 cv:Sl
 kv:Sl
 C:Cx
 lo:Sl
 ini:Sl
 th:Sl
 en:Sl
 a:Tr
abbrev Zwk (S:RrS)(V:RrV):Value:=Zd4 ⟨S.lo,S.ini,V.ev,V.br,V.ad,V.da,V.ct,S.th,S.en⟩
abbrev rrC (S:RrS)(r:Rn)(fl:Bool)(V:RrV):Array Value:=#[.int .i64 S.T.arch,.string ⟨S.T.name.toArray⟩,.string ⟨S.T.cycle.toArray⟩,S.iv.v,S.cv.v,.int .i64 S.T.q,.int .i64 S.T.k,.int .i64 S.T.t,.int .i64 S.T.r,.string ⟨S.T.l.toArray⟩,.int .i64 S.T.v,S.kv.v,
 .int .i64 (S.C.th:Int),V.rg.v,.int .u64 ((r.ctrl<<<S.C.ahead:Nat):Int),S.lo.v,S.ini.v,V.ev.v,V.br.v,V.ad.v,V.da.v,V.ct.v,S.th.v,S.en.v,.bool fl,.bool r.full]
abbrev rrV (S:RrS)(r:Rn)(fl:Bool)(V:RrV):Value:=.agg (rrC S r fl V)
structure Zba (B:Nat) (w w':World):Prop where
 below:Below B w w'
 keep:∀ b t cs,Blk w b t cs->t≠54->t≠123->t≠129->Blk w' b t cs
theorem Zba.size {B:Nat}{w w':World}(h:Zba B w w'):w.heap.size<=w'.heap.size:=h.below.size
theorem Zba.refl (B:Nat)(w:World):Zba B w w:=⟨Below.refl _ _,fun _ _ _ h _ _ _=>h⟩
theorem Zba.trans {B:Nat}{w w1 w2:World}(h:Zba B w w1)(k:Zba B w1 w2):Zba B w w2:=
 ⟨h.below.trans k.below,fun b t cs hb h1 h2 h3=>k.keep b t cs (h.keep b t cs hb h1 h2 h3) h1 h2 h3⟩
theorem Zba.of_below {B:Nat}{w w':World}(h:Below w.heap.size w w')(hB:B<=w.heap.size):Zba B w w':=
 ⟨h.mono hB,fun _ _ _ hb _ _ _=>hb.go h⟩
theorem Zba.grew {B B2:Nat}{w w1:World}{t:TypeId}{z n:Nat}{v v':Value}{cs:List Value}(ho:w.ownsRow B2 t z v n cs)(ht:t = 54\/t = 123\/t = 129)(hg:Zbm w w1 B v v'):Zba B w w1:=
 ⟨hg.below,fun b t2 ds hb h1 h2 h3=>Zat hb ho (by rcases ht with e | e | e <;> rw [e] <;> first | exact Ne.symm h1 | exact Ne.symm h2 | exact Ne.symm h3) hg⟩
theorem Zba.set {B:Nat}{w w1:World}(h:Zba B w w1){g:Nat}(hg:w.heap.size<=g)(hB:B<=w.heap.size)(i:Nat)(u:Value):Zba B w (w1.setCell ⟨g,i,none⟩ u):=
 ⟨h.below.setCell (p:=⟨g,i,none⟩) (Nat.le_trans hB hg) u,fun b t cs hb h1 h2 h3=>(h.keep b t cs hb h1 h2 h3).far (p:=⟨g,i,none⟩) (by have:=hb.lt;simp only [ne_eq];omega) u⟩
theorem Zba.below' {B:Nat}{w w1 w2:World}(h:Zba B w w1)(hb:Below w1.heap.size w1 w2)(hB:B<=w.heap.size):Zba B w w2:=h.trans (Zba.of_below hb (Nat.le_trans hB h.size))
theorem Zba.drew {B:Nat}{w w1:World}(h:Zba B w w1):Zba B w w1.drew:=⟨h.below.drew,h.keep⟩
theorem Zba.own {B B2:Nat}{w w1:World}(hk:Zba B w w1){t:TypeId}{z n:Nat}{v:Value}{cs:List Value}(ho:w.ownsRow B2 t z v n cs)(h1:t≠54)(h2:t≠123)(h3:t≠129):w1.ownsRow B2 t z v n cs:=
 Zex ho fun b hb=>by
  obtain⟨cur,hc,_⟩:=Zg1 ho hb;rw [hc];exact hk.keep b t cur hc h1 h2 h3
structure Za7 (w:World) (B:Nat) (S:RrS) (r:Rn) (V:RrV):Prop where
 hB:B<=w.heap.size
 lo:Zcy.Own 9 B w S.lo.v S.C.locs
 rg:(Zdj S.C.ahead).Own 87 B w V.rg.v r.regs
 ev:Zqm.Own 54 B w V.ev.v (S.a.evs++r.evs)
 br:Zmq.Own 123 B w V.br.v (S.a.bars++r.bars)
 ad:Zbf.Own 129 B w V.ad.v (S.a.addr++r.addr.map (shP S.C.ahead))
 da:Zbf.Own 129 B w V.da.v (S.a.data++r.data.map (shP S.C.ahead))
 ct:Zbf.Own 129 B w V.ct.v (S.a.hang++r.hang.map (shP S.C.ahead))
 a1:Zgy V.ad.v V.da.v
 a2:Zgy V.ad.v V.ct.v
 a3:Zgy V.da.v V.ct.v
namespace Za7
variable {w w' w1:World} {B:Nat} {S:RrS} {r:Rn} {V:RrV} {v':Sl}
theorem below (h:Za7 w B S r V)(hb:Below w.heap.size w w'):Za7 w' B S r V:=
 ⟨Nat.le_trans h.hB hb.size,Zav h.lo hb,Zav h.rg hb,Zav h.ev hb,Zav h.br hb,Zav h.ad hb,Zav h.da hb,Zav h.ct hb,h.a1,h.a2,h.a3⟩
theorem drew (h:Za7 w B S r V):Za7 w.drew B S r V:=⟨h.hB,h.lo,h.rg,h.ev,h.br,h.ad,h.da,h.ct,h.a1,h.a2,h.a3⟩
theorem set (h:Za7 w B S r V){g:Nat}{cs:Array Value}(hg:Blk w g 83 cs)(i:Nat)(u:Value):Za7 (w.setCell ⟨g,i,none⟩ u) B S r V:=
 ⟨by simpa [World.setCell] using h.hB,Zaf h.lo hg (by decide) _ _,Zaf h.rg hg (by decide) _ _,Zaf h.ev hg (by decide) _ _,Zaf h.br hg (by decide) _ _,Zaf h.ad hg (by decide) _ _,Zaf h.da hg (by decide) _ _,Zaf h.ct hg (by decide) _ _,h.a1,h.a2,h.a3⟩
theorem evG (h:Za7 w B S r V){l:List Evt}(hg:Zbm w w1 B V.ev.v v'.v)(ho:Zqm.Own 54 B w1 v'.v (S.a.evs++l)):Za7 w1 B S { r with evs:=l } { V with ev:=v' }:=
 ⟨Nat.le_trans h.hB hg.below.size,Zaj h.lo h.ev (by decide) hg,Zaj h.rg h.ev (by decide) hg,ho,Zaj h.br h.ev (by decide) hg,Zaj h.ad h.ev (by decide) hg,Zaj h.da h.ev (by decide) hg,Zaj h.ct h.ev (by decide) hg,h.a1,h.a2,h.a3⟩
theorem brG (h:Za7 w B S r V){l:List Br}(hg:Zbm w w1 B V.br.v v'.v)(ho:Zmq.Own 123 B w1 v'.v (S.a.bars++l)):Za7 w1 B S { r with bars:=l } { V with br:=v' }:=
 ⟨Nat.le_trans h.hB hg.below.size,Zaj h.lo h.br (by decide) hg,Zaj h.rg h.br (by decide) hg,Zaj h.ev h.br (by decide) hg,ho,Zaj h.ad h.br (by decide) hg,Zaj h.da h.br (by decide) hg,Zaj h.ct h.br (by decide) hg,h.a1,h.a2,h.a3⟩
theorem adG (h:Za7 w B S r V){l:List (Int×Int)}(hg:Zbm w w1 B V.ad.v v'.v)(ho:Zbf.Own 129 B w1 v'.v (S.a.addr++l.map (shP S.C.ahead))):Za7 w1 B S { r with addr:=l } { V with ad:=v' }:=
 ⟨Nat.le_trans h.hB hg.below.size,Zaj h.lo h.ad (by decide) hg,Zaj h.rg h.ad (by decide) hg,Zaj h.ev h.ad (by decide) hg,Zaj h.br h.ad (by decide) hg,ho,Zbd h.da h.a1.symm hg,Zbd h.ct h.a2.symm hg,(h.a1.symm.grew h.da hg).symm,(h.a2.symm.grew h.ct hg).symm,h.a3⟩
theorem daG (h:Za7 w B S r V){l:List (Int×Int)}(hg:Zbm w w1 B V.da.v v'.v)(ho:Zbf.Own 129 B w1 v'.v (S.a.data++l.map (shP S.C.ahead))):Za7 w1 B S { r with data:=l } { V with da:=v' }:=
 ⟨Nat.le_trans h.hB hg.below.size,Zaj h.lo h.da (by decide) hg,Zaj h.rg h.da (by decide) hg,Zaj h.ev h.da (by decide) hg,Zaj h.br h.da (by decide) hg,Zbd h.ad h.a1 hg,ho,Zbd h.ct h.a3.symm hg,h.a1.grew h.ad hg,h.a2,(h.a3.symm.grew h.ct hg).symm⟩
theorem ctG (h:Za7 w B S r V){l:List (Int×Int)}(hg:Zbm w w1 B V.ct.v v'.v)(ho:Zbf.Own 129 B w1 v'.v (S.a.hang++l.map (shP S.C.ahead))):Za7 w1 B S { r with hang:=l } { V with ct:=v' }:=
 ⟨Nat.le_trans h.hB hg.below.size,Zaj h.lo h.ct (by decide) hg,Zaj h.rg h.ct (by decide) hg,Zaj h.ev h.ct (by decide) hg,Zaj h.br h.ct (by decide) hg,Zbd h.ad h.a2 hg,Zbd h.da h.a3 hg,ho,h.a1,h.a2.grew h.ad hg,h.a3.grew h.da hg⟩
theorem rgG (h:Za7 w B S r V){l:List Rg}(ho:(Zdj S.C.ahead).Own 87 B w v'.v l):Za7 w B S { r with regs:=l } { V with rg:=v' }:=
 ⟨h.hB,h.lo,ho,h.ev,h.br,h.ad,h.da,h.ct,h.a1,h.a2,h.a3⟩
theorem ctrl (h:Za7 w B S r V)(c:Nat):Za7 w B S { r with ctrl:=c } V:=⟨h.hB,h.lo,h.rg,h.ev,h.br,h.ad,h.da,h.ct,h.a1,h.a2,h.a3⟩
theorem full (h:Za7 w B S r V)(c:Bool):Za7 w B S { r with full:=c } V:=⟨h.hB,h.lo,h.rg,h.ev,h.br,h.ad,h.da,h.ct,h.a1,h.a2,h.a3⟩
end Za7
def Ze4 (B:Nat)(S:RrS)(r:Rn)(fl:Bool)(w:World)(e:Ending)(w':World):Prop:=∃ V,e=.returned (rrV S r fl V)/\Za7 w' B S r V/\Zba B w w'
structure Zc1 (w:World) (L:Ze2) (V:Ze5):Prop where
 lo:Zcy.At w V.lo.A L.lo
 nlo:V.lo.n=L.lo.length
 ini:Zfd.At w V.ini.A L.ini
 nini:V.ini.n=L.ini.length
 ev:Zqm.At w V.ev.A L.a.evs
 nev:V.ev.n=L.a.evs.length
 br:Zmq.At w V.br.A L.a.bars
 nbr:V.br.n=L.a.bars.length
 ad:Zbf.At w V.ad.A L.a.addr
 nad:V.ad.n=L.a.addr.length
 da:Zbf.At w V.da.A L.a.data
 nda:V.da.n=L.a.data.length
 ct:Zbf.At w V.ct.A L.a.hang
 nct:V.ct.n=L.a.hang.length
 th:Zqa w V.th.A L.th
 nth:V.th.n=L.th.length
 en:Zbf.At w V.en.A L.a.ends
 nen:V.en.n=L.a.ends.length
theorem Zqa.go {w w':World}{A:Option Addr}{T:List Th}(h:Zqa w A T)(hb:Below w.heap.size w w'):Zqa w' A T:=fun i x hx=>by
 obtain⟨b,o,e,c0,c1,c2⟩:=h i x hx;exact⟨b,o,e,Zac c0 hb,Zac c1 hb,Zac c2 hb⟩
theorem Zc1.below {w w':World}{L:Ze2}{V:Ze5}(h:Zc1 w L V)(hb:Below w.heap.size w w'):Zc1 w' L V:=
 ⟨h.lo.below hb,h.nlo,h.ini.below hb,h.nini,h.ev.below hb,h.nev,h.br.below hb,h.nbr,h.ad.below hb,h.nad,h.da.below hb,h.nda,h.ct.below hb,h.nct,h.th.go hb,h.nth,h.en.below hb,h.nen⟩
theorem Znw {α:Type}{E:Enc α}{t:TypeId}{B:Nat}{w:World}{v:Value}{l:List α}(h:Zxx E t B w v l):∃ s:Sl,v=s.v/\s.n=l.length/\E.At w s.A l:=by
 obtain⟨q,rfl,hb,_⟩:=h;refine⟨⟨some ⟨q,0,none⟩,l.length,l.length⟩,rfl,rfl,fun i x hx=>⟨q,0,rfl,fun j u hu=>?_⟩⟩;have hj:j<E.size:=by have:=(List.getElem?_eq_some_iff.1 hu).1;rwa [E.len] at this
 rw [Nat.zero_add,hb.cell,List.getElem?_toArray,E.flat_at hx hj];exact hu
theorem Zha {α:Type}{E:Enc α}{t:TypeId}{B:Nat}{w:World}{v:Value}{l:List α}(h:E.Own t B w v l):∃ s:Sl,v=s.v/\s.n=l.length/\E.At w s.A l:=by
 obtain⟨A,cap,e,hat,_⟩:=h.at_;exact⟨⟨A,l.length,cap⟩,e,rfl,hat⟩
theorem Zb3.trc {w:World}{B O:Nat}{L:Ze2}{V:Zs2}(h:Zb3 w B O L V):∃ V':Ze5,(.agg #[V.lo,V.ini,V.ev,V.br,V.ad,V.da,V.ct,V.th,V.en]:Value)=Zd4 V'/\Zc1 w L V':=by
 obtain⟨lo,ini,ev,br,ad,da,ct,th,en⟩:=V;obtain⟨s1,h1,n1,a1⟩:=Zha h.lo;obtain⟨s2,h2,n2,a2⟩:=Znw h.ini;obtain⟨s3,h3,n3,a3⟩:=Zha h.ev;obtain⟨s4,h4,n4,a4⟩:=Zha h.br;obtain⟨s5,h5,n5,a5⟩:=Zha h.ad;obtain⟨s6,h6,n6,a6⟩:=Zha h.da;obtain⟨s7,h7,n7,a7⟩:=Zha h.ct;obtain⟨A8,c8,h8,a8⟩:=Zey h.th;obtain⟨s9,h9,n9,a9⟩:=Znw h.en;simp only at h1 h2 h3 h4 h5 h6 h7 h8 h9;subst h1 h2 h3 h4 h5 h6 h7 h8 h9;exact⟨⟨s1,s2,s3,s4,s5,s6,s7,⟨A8,L.th.length,c8⟩,s9⟩,rfl,⟨a1,n1,a2,n2,a3,n3,a4,n4,a5,n5,a6,n6,a7,n7,a8,rfl,a9,n9⟩⟩
theorem Zc6 {w:World}{A:Option Addr}{l:List Evt}(h:Zqm.At w A l){i:Nat}{x:Evt}(hx:l[i]?=some x):∃ b o,A=some ⟨b,o,none⟩/\w.cell? ⟨b,o+i*6,none⟩=some (.int .i64 x.th)/\w.cell? ⟨b,o+i*6+1,none⟩=some (.int .i64 x.pl)/\w.cell? ⟨b,o+i*6+2,none⟩=some (.int .i64 x.dr)/\w.cell? ⟨b,o+i*6+3,none⟩=some (.int .i64 x.lc)/\w.cell? ⟨b,o+i*6+4,none⟩=some (.int .i64 x.vl)/\w.cell? ⟨b,o+i*6+5,none⟩=some (.int .i64 x.rg):=by
 obtain⟨b,o,e,hc⟩:=h i x hx;exact⟨b,o,e,hc 0 _ rfl,hc 1 _ rfl,hc 2 _ rfl,hc 3 _ rfl,hc 4 _ rfl,hc 5 _ rfl⟩
theorem Zog {w:World}{A:Option Addr}{l:List Br}(h:Zmq.At w A l){i:Nat}{x:Br}(hx:l[i]?=some x):∃ b o,A=some ⟨b,o,none⟩/\w.cell? ⟨b,o+i*3,none⟩=some (.int .i64 x.th)/\w.cell? ⟨b,o+i*3+1,none⟩=some (.int .i64 x.pl)/\w.cell? ⟨b,o+i*3+2,none⟩=some (.int .i64 x.fe):=by
 obtain⟨b,o,e,hc⟩:=h i x hx;exact⟨b,o,e,hc 0 _ rfl,hc 1 _ rfl,hc 2 _ rfl⟩
theorem Zg2 {w:World}{A:Option Addr}{l:List (Int×Int)}(h:Zbf.At w A l){i:Nat}{x:Int×Int}(hx:l[i]?=some x):∃ b o,A=some ⟨b,o,none⟩/\w.cell? ⟨b,o+i*2,none⟩=some (.int .i64 x.1)/\w.cell? ⟨b,o+i*2+1,none⟩=some (.int .i64 x.2):=by
 obtain⟨b,o,e,hc⟩:=h i x hx;exact⟨b,o,e,hc 0 _ rfl,hc 1 _ rfl⟩
theorem Zsb {l:Nm}(h:Zbb l=true):l.length<=32:=by
 cases l with
 | nil=>simp
 | cons c r=>simp only [Zbb,Bool.and_eq_true,decide_eq_true_eq] at h;simp only [List.length_cons];omega
theorem Zps {l:List Nm}(h:Zj0 l){i:Nat}{x y:Nm}(hx:l[i]?=some x)(hy:l[i+1]?=some y):ltN x y=true:=by
 obtain⟨h1,rfl⟩:=List.getElem?_eq_some_iff.1 hx;obtain⟨h2,rfl⟩:=List.getElem?_eq_some_iff.1 hy;exact List.pairwise_iff_getElem.1 h i (i+1) h1 h2 (Nat.lt_succ_self i)
def Zri (a p b q:Int):Prop:=a<b\/(a=b/\p<q)
structure Z6k (n:Nat) (e:Evt):Prop where
 th:0<=e.th/\e.th<16
 pl:0<=e.pl/\e.pl<256
 lc:0<=e.lc/\e.lc<n
 vl:Zew e.vl=true
 rg:0<=e.rg/\e.rg<=31
 dr:(e.dr=1/\e.vl=0)\/(e.dr=2/\e.rg=0)
structure Z6j (b:Br):Prop where
 th:0<=b.th/\b.th<16
 pl:0<=b.pl/\b.pl<256
 fe:1<=b.fe/\b.fe<=11
structure Zhi (evs:List Evt) (wr:Bool) (p:Int×Int):Prop where
 at_:∃ (i j:Nat) (x y:Evt),p=((i:Int),(j:Int))/\i<j/\evs[i]?=some x/\evs[j]?=some y/\x.dr=1/\x.th=y.th/\(wr=true->y.dr=2)
def ThO (a b:Th):Prop:=if a.1=-1\/b.1=-1 then a.1≠-1\/(b.1=-1/\ltN a.2.2 b.2.2=true) else (a.1<b.1\/(a.1=b.1/\a.2.1<b.2.1))
def Zk0 (L:Ze2)(x:Th)(e:Int×Int):Prop:=
 (x.1=-1/\x.2.1=0/\x.2.2∈L.lo/\e.1=3/\e.2=((L.lo.idxOf x.2.2:Nat):Int))\/
 (0<=x.1/\x.1<16/\0<=x.2.1/\x.2.1<=31/\x.2.2=[]/\((e.1=1/\Zew e.2=true)\/(e.1=2/\∃ (i:Nat) (y:Evt),e.2=(i:Int)/\L.a.evs[i]?=some y/\y.dr=1/\y.th=x.1)))
structure Zc5 (L:Ze2):Prop where
 nlo:L.lo.length<=64
 nini:L.ini.length=L.lo.length
 name:∀ x∈L.lo,Zbb x=true
 str:Zj0 L.lo
 num:∀ n∈L.ini,Zew n=true
 nev:L.a.evs.length<=64
 ev:∀ e∈L.a.evs,Z6k L.lo.length e
 evo:∀ (i:Nat) x y,L.a.evs[i]?=some x->L.a.evs[i+1]?=some y->Zri x.th x.pl y.th y.pl
 nbr:L.a.bars.length<=4096
 br:∀ b∈L.a.bars,Z6j b
 bro:∀ (i:Nat) x y,L.a.bars[i]?=some x->L.a.bars[i+1]?=some y->Zri x.th x.pl y.th y.pl
 bre:∀ b∈L.a.bars,∀ e∈L.a.evs,e.th=b.th->e.pl≠b.pl
 ad:∀ p∈L.a.addr,Zhi L.a.evs false p
 ado:∀ (i:Nat) x y,L.a.addr[i]?=some x->L.a.addr[i+1]?=some y->Zjo x y
 da:∀ p∈L.a.data,Zhi L.a.evs true p
 dao:∀ (i:Nat) x y,L.a.data[i]?=some x->L.a.data[i+1]?=some y->Zjo x y
 ct:∀ p∈L.a.hang,Zhi L.a.evs false p
 cto:∀ (i:Nat) x y,L.a.hang[i]?=some x->L.a.hang[i+1]?=some y->Zjo x y
 nen:L.a.ends.length=L.th.length
 nth:L.th.length<=1024
 tho:∀ (i:Nat) x y,L.th[i]?=some x->L.th[i+1]?=some y->ThO x y
 en:∀ (i:Nat) x e,L.th[i]?=some x->L.a.ends[i]?=some e->Zk0 L x e
abbrev Zjn:Enc Nat:=⟨1,fun n=>[.int .u64 (n:Int)],fun _=>rfl,ω,fun _ u h=>by simp at h;subst h;rfl⟩
def Zns (m:List Nat)(p:Int×Int):List Nat:=m.set p.1.toNat ((m[p.1.toNat]?).getD 0|||2 ^ p.2.toNat)
def Zp8 (n:Nat)(l:List (Int×Int)):List Nat:=l.foldl Zns (List.replicate n 0)
theorem Znt (m:List Nat)(p:Int×Int):(Zns m p).length=m.length:=by simp [Zns]
theorem Zz2 (l:List (Int×Int)):∀ m:List Nat,(l.foldl Zns m).length=m.length:=by
 induction l with
 | nil=>intro m;rfl
 | cons p l ih=>intro m;rw [List.foldl_cons,ih,Znt]
theorem Zsn (n:Nat)(l:List (Int×Int)):(Zp8 n l).length=n:=by unfold Zp8;rw [Zz2];simp
theorem Zz3 (_n:Nat)(l:List (Int×Int))(hl:∀ p∈l,0<=p.2/\p.2<64):∀ m:List Nat,(∀ x∈m,x<18446744073709551616)->∀ x∈l.foldl Zns m,x<18446744073709551616:=by
 induction l with
 | nil=>intro m hm;exact hm
 | cons p l ih=>
  intro m hm;rw [List.foldl_cons];refine ih (fun q hq=>hl q (List.mem_cons_of_mem _ hq)) _ (fun x hx=>?_);unfold Zns at hx;rcases List.mem_or_eq_of_mem_set hx with h | rfl
  ·exact hm x h
  ·have h1:=hl p List.mem_cons_self;have h2:(m[p.1.toNat]?).getD 0<2 ^ 64:=by
    cases h:m[p.1.toNat]? with
    | none=>simp
    | some y=>simpa using hm y (List.mem_of_getElem? h)
   have h3:2 ^ p.2.toNat<2 ^ 64:=Nat.pow_lt_pow_right ω ω;simpa using Nat.or_lt_two_pow h2 h3
def Zjd (hold:Evt->Evt->Bool)(i:Nat)(a:Evt):Nat->List Evt->List (Int×Int)
 | _,[]=>[]
 | j,b :: bs=>(if a.th=b.th/\a.pl<b.pl/\hold a b=true then [((i:Int),(j:Int))] else [])++Zjd hold i a (j+1) bs
def btw (hold:Evt->Evt->Bool)(evs:List Evt):Nat->List Evt->List (Int×Int)
 | _,[]=>[]
 | i,a :: cs=>Zjd hold i a 0 evs++btw hold evs (i+1) cs
theorem Zrk (hold:Evt->Evt->Bool)(i:Nat)(a:Evt):∀ (l:List Evt) (j:Nat),(Zjd hold i a j l).length<=l.length
 | [],_=>by simp [Zjd]
 | b :: bs,j=>by
  have:=Zrk hold i a bs (j+1);unfold Zjd;rw [List.length_append,List.length_cons]
  split <;> simp <;> omega
theorem Zrl (hold:Evt->Evt->Bool)(i:Nat)(a:Evt):∀ (l:List Evt) (j:Nat) (p:Int×Int),p∈Zjd hold i a j l↔∃ (m:Nat) (b:Evt),l[m]?=some b/\p=((i:Int),((j+m:Nat):Int))/\a.th=b.th/\a.pl<b.pl/\hold a b=true
 | [],_,p=>by simp [Zjd]
 | b :: bs,j,p=>by
  unfold Zjd;rw [List.mem_append,Zrl hold i a bs (j+1) p]
  constructor
  ·rintro (h | ⟨m,c,hc,rfl,h⟩)
   ·split at h
    ·rename_i hc;rw [List.mem_singleton] at h;exact⟨0,b,rfl,by rw [h];simp,hc⟩
    ·cases h
   ·exact⟨m+1,c,by simpa using hc,by congr 2;omega,h⟩
  ·rintro⟨m,c,hc,rfl,h⟩;cases m with
   | zero=>
    left
    simp only [List.getElem?_cons_zero,Option.some.injEq] at hc;subst hc;rw [if_pos h];simp
   | succ m=>
    right
    exact⟨m,c,by simpa using hc,by congr 2;omega,h⟩
theorem Zis (hold:Evt->Evt->Bool)(evs:List Evt):∀ (l:List Evt) (i:Nat) (p:Int×Int),p∈btw hold evs i l↔∃ (m n:Nat) (a b:Evt),l[m]?=some a/\evs[n]?=some b/\p=(((i+m:Nat):Int),(n:Int))/\a.th=b.th/\a.pl<b.pl/\hold a b=true
 | [],_,p=>by simp [btw]
 | a :: cs,i,p=>by
  unfold btw;rw [List.mem_append,Zrl hold i a evs 0 p,Zis hold evs cs (i+1) p]
  constructor
  ·rintro (⟨m,b,hb,rfl,h⟩ | ⟨m,n,c,b,hc,hb,rfl,h⟩)
   ·exact⟨0,m,a,b,rfl,hb,by simp,h⟩
   ·exact⟨m+1,n,c,b,by simpa using hc,hb,by congr 2;omega,h⟩
  ·rintro⟨m,n,c,b,hc,hb,rfl,h⟩;cases m with
   | zero=>
    left
    simp only [List.getElem?_cons_zero,Option.some.injEq] at hc;subst hc;exact⟨n,b,hb,by simp,h⟩
   | succ m=>
    right
    exact⟨m,n,c,b,by simpa using hc,hb,by congr 2;omega,h⟩
theorem Zqc (hold:Evt->Evt->Bool)(evs:List Evt):∀ (l:List Evt) (i:Nat),(btw hold evs i l).length<=l.length*evs.length
 | [],_=>by simp [btw]
 | a :: cs,i=>by
  have h1:=Zrk hold i a evs 0;have h2:=Zqc hold evs cs (i+1);unfold btw;rw [List.length_append,List.length_cons,Nat.succ_mul];omega
def Zke (ord:Int->Int->Int->Bool)(bars:List Br)(a b:Evt):Bool:=bars.any fun x=>decide (x.th=a.th)&&decide (a.pl<x.pl)&&decide (x.pl<b.pl)&&ord x.fe a.dr b.dr
section
set_option maxHeartbeats 4000000
set_option maxRecDepth 100000
theorem Zwp (a b:Int)(w:World)(h1:0<=a/\a<16)(h2:0<=b/\b<256):Calls Tryz.prog 82 #[.int .i64 a,.int .i64 b] w fun e w'=>e=.returned (.bool true)/\w=w':=by
 obtain⟨h1a,h1b⟩:=h1;obtain⟨h2a,h2b⟩:=h2;go_enter Tryz.func82,Tryz.ntmps82
 go_wp2_with fail
 go_ret;exact⟨rfl,rfl⟩
theorem Zr9 (L:Ze2)(V:Ze5)(w:World)(h:Zc1 w L V)(G:Zc5 L):Calls Tryz.prog 30 #[Zd4 V] w (RB w (.bool true)):=by
 obtain⟨⟨Al,nl,cl⟩,⟨Ai,ni,ci⟩,⟨Ae,ne,ce⟩,⟨Ab,nb,cb⟩,⟨Aa,na,ca⟩,⟨Ad,nd,cd⟩,⟨Ac,nc,cc⟩,⟨At,nt,ct⟩,⟨Ax,nx,cx⟩⟩:=V;simp only [Zd4,Sl.v];have HT:=Zh h;have hn1:=Zh (show nl=L.lo.length from h.nlo);have hn2:=Zh (show ni=L.ini.length from h.nini);have hn3:=Zh (show ne=L.a.evs.length from h.nev);have hn4:=Zh (show nb=L.a.bars.length from h.nbr);have hn8:=Zh (show nt=L.th.length from h.nth);have hn9:=Zh (show nx=L.a.ends.length from h.nen);have HB0:=Zh (Zad w (.cells #[.slice Al nl cl,.slice Ai ni ci,.slice Ae ne ce,.slice Ab nb cb,.slice Aa na ca,.slice Ad nd cd,.slice Ac nc cc,.slice At nt ct,.slice Ax nx cx] 41 (0,0)));have HTB:=Zh (Blk.new w 41 #[.slice Al nl cl,.slice Ai ni ci,.slice Ae ne ce,.slice Ab nb cb,.slice Aa na ca,.slice Ad nd cd,.slice Ac nc cc,.slice At nt ct,.slice Ax nx cx]);have hl1:nl<=64:=by rw [hn1.o];exact G.nlo
 have hl2:ni=nl:=by rw [hn1.o,hn2.o];exact G.nini
 have HG:=Zh G;subst hl2;clear h G;go_enter Tryz.func30,Tryz.ntmps30
 go_wp2_with fail
 go_loopw [21] (fun v wr=>∃ i:Nat,i<=ni/\v=.int .i64 i/\Below w.heap.size w wr/\Blk wr w.heap.size 41 #[.slice Al ni cl,.slice Ai ni ci,.slice Ae ne ce,.slice Ab nb cb,.slice Aa na ca,.slice Ad nd cd,.slice Ac nc cc,.slice At nt ct,.slice Ax nx cx]) (fun v _=>ni - (intOf v).toNat)
 case atStart=>exact⟨0,Nat.zero_le _,rfl,HB0.o,HTB.o⟩
 case round=>
  obtain⟨i,hi,rfl,hb,ht⟩:=hrel;have HB:=Zh hb;have HK:=Zh ht;have k0:=ht.k0;have k1:=ht.k1;have hii:(0:Int)<=(i:Int):=ω;clear hb ht HB0 HTB;by_cases hlt:i<ni
  ·have hij:(i:Int)<(ni:Int):=ω;obtain⟨x,hx⟩:∃ x,L.lo[i]?=some x:=⟨_,List.getElem?_eq_getElem (by rw [<- hn1.o];omega)⟩;obtain⟨y,hy⟩:∃ y,L.ini[i]?=some y:=⟨_,List.getElem?_eq_getElem (by rw [<- hn2.o];omega)⟩;obtain⟨b,o,eA,hc⟩:=HT.o.lo i x hx;simp only at eA;subst eA;obtain⟨b2,o2,eA,hc2⟩:=HT.o.ini i y hy;simp only at eA;subst eA;have c0:wr.cell? ⟨b,o+i,none⟩=some (.string ⟨x.toArray⟩):=Zac (by have:=hc 0 _ rfl;rwa [show o+i*Zcy.size+0=o+i by show o+i*1+0=o+i;omega] at this) HB.o;have c1:wr.cell? ⟨b2,o2+i,none⟩=some (.int .i64 y):=Zac (by have:=hc2 0 _ rfl;rwa [show o2+i*Zfd.size+0=o2+i by show o2+i*1+0=o2+i;omega] at this) HB.o;have hnm:=HG.o.name x (List.mem_of_getElem? hx);have HNM:=Zh (fun (y:World)=>show Calls Tryz.prog 80 #[.string ⟨x.toArray⟩] y fun e w'=>e=.returned (.bool true)/\y=w' by
    have h1:x.length<=9223372036854775807:=by have:=Zsb hnm;omega
    have:=Z69 ⟨x.toArray⟩ y (show x.toArray.size<=_ by simpa using h1);rw [show (ByteArray.mk x.toArray).data.toList=x from rfl,hnm] at this;exact this)
   have hnu:=HG.o.num y (List.mem_of_getElem? hy);have HNU:=Zh (fun (z:World)=>show Calls Tryz.prog 81 #[.int .i64 y] z fun e w'=>e=.returned (.bool true)/\z=w' by
    have:=Z7a z y;rw [hnu] at this;exact this)
   by_cases h0:i=0
   ·subst h0;simp only [Nat.add_zero] at c0 c1;clear hc hc2 hx hy hnm hnu hii
    go_wp2_with first | (go_at_call 80;refine (HNM.o _).mono ?_;rintro e w' ⟨rfl,rfl⟩) | (go_at_call 81;refine (HNU.o _).mono ?_;rintro e w' ⟨rfl,rfl⟩)
    go_roundw
    case rel=>exact⟨0+1,ω,by go_num,HB.o,HK.o⟩
    case measure=>exact msr
   ·obtain⟨j,hji⟩:∃ j,i=j+1:=⟨i - 1,ω⟩;obtain⟨x',hx'⟩:∃ x,L.lo[j]?=some x:=⟨_,List.getElem?_eq_getElem (by rw [<- hn1.o];omega)⟩;have hls:Op.bytesLess x' x=true:=by rw [Zc8];exact Zps HG.o.str hx' (by rw [<- hji];exact hx)
    have hc':=HT.o.lo j x' hx';obtain⟨b3,o3,eA,hc3⟩:=hc';simp only [Option.some.injEq,Addr.mk.injEq,and_true] at eA;obtain⟨rfl,rfl⟩:=eA;have c2:wr.cell? ⟨b,o+j,none⟩=some (.string ⟨x'.toArray⟩):=Zac (by have:=hc3 0 _ rfl;rwa [show o+j*Zcy.size+0=o+j by show o+j*1+0=o+j;omega] at this) HB.o;have hjj:(0:Int)<(i:Int):=ω;have hjm:(i:Int) - 1=(j:Int):=ω;have hj0:(0:Int)<=(j:Int):=ω;have hjl:(j:Int)<(ni:Int):=ω;clear hji hc hc2 hc3 hx hy hx' hnm hnu
    go_wp2_with first | (go_at_call 80;refine (HNM.o _).mono ?_;rintro e w' ⟨rfl,rfl⟩) | (go_at_call 81;refine (HNU.o _).mono ?_;rintro e w' ⟨rfl,rfl⟩)
    go_roundw
    case rel=>exact⟨i+1,ω,by go_num,HB.o,HK.o⟩
    case measure=>exact msr
  ·have hij:¬ (i:Int)<(ni:Int):=ω
   go_wp2_with fail
   go_ret;exact⟨rfl,HB.o⟩
end
theorem Z4n {r r':Rn}{c:List Ins}{k n:Nat}{x:Ins}(hk:k<c.length)(hl:Zhv c k x<c.length)(h:brL r c k x=some (r',n)):n<=c.length:=by
 unfold brL at h;simp only [] at h
 split at h
 ·split at h
  ·cases h
  ·simp only [Option.some.injEq,Prod.mk.injEq] at h;omega
 ·simp only [Option.some.injEq,Prod.mk.injEq] at h;obtain⟨_,h2⟩:=h;cases hu:Zan (rgA r x.a).h (rgA r x.b).h <;> rw [hu] at h2 <;> simp at h2 <;> omega
theorem Zsr {C:Cx}{nr:Nat}{r:Rn}{c:List Ins}{k:Nat}{x:Ins}{p:Rn×Nat}(hk:c[k]?=some x)(hv:Zoe C nr c k x)(h:Zbh C r c k x=some p):p.2<=c.length:=by
 have hkl:=(List.getElem?_eq_some_iff.1 hk).1;unfold Zbh at h
 split at h
 ·obtain⟨a,_,rfl⟩:=Option.map_eq_some_iff.1 h;simp;omega
 split at h
 ·obtain⟨a,_,rfl⟩:=Option.map_eq_some_iff.1 h;simp;omega
 split at h
 ·simp only [Option.some.injEq] at h;subst h;simp;omega
 split at h
 ·simp only [Option.some.injEq] at h;subst h;simp;omega
 split at h
 ·simp only [Option.some.injEq] at h;subst h;simp;omega
 split at h
 ·simp only [Option.some.injEq] at h;subst h;simp;omega
 split at h
 ·obtain⟨a,_,rfl⟩:=Option.map_eq_some_iff.1 h;simp;omega
 split at h
 ·simp only [Option.some.injEq] at h;subst h;simp;omega
 split at h
 ·rename_i h11;obtain⟨r',n⟩:=p;exact Z4n hkl (hv.lab h11) h
 ·simp only [Option.some.injEq] at h;subst h;simp;omega
theorem Zmv {C:Cx}{nr:Nat}{c:List Ins}(hval:∀ k x,c[k]?=some x->Zoe C nr c k x):∀ (n k:Nat) (r r':Rn),c.length - k<=n->k<=c.length->Inv C nr k r->goL C c k r=some r'->Inv C nr c.length r':=by
 intro n
 induction n with
 | zero=>
  intro k r r' hn hk hI hg;rw [Zg7 ω] at hg;exact m_145
 | succ n ih=>
  intro k r r' hn hk hI hg;by_cases hkl:k<c.length
  ·have hx:=List.getElem?_eq_getElem hkl;cases hf:r.full with
   | true=>
    rw [Zhr hf] at hg;exact m_145
   | false=>
    cases hs:Zbh C r c k c[k] with
    | none=>rw [Zhs hx hf hs] at hg;cases hg
    | some p=>
     rw [Zht hx hf hs] at hg;have hgt:=Zgx hs;exact ih p.2 p.1 r' ω (Zsr hx (hval k _ hx) hs) (hI.step (hval k _ hx) hs) hg
  ·rw [Zg7 ω] at hg;exact m_145
theorem Zx2 (k nr:Nat)(init:List Ini):(Zx1 k nr init).length=nr:=by
 unfold Zx1;have key:∀ (l:List Ini) (L:List Rg),(l.foldl (Zf2 k) L).length=L.length:=by
  intro l
  induction l with
  | nil=>intro L;rfl
  | cons x l ih=>intro L;rw [List.foldl_cons,ih];unfold Zf2;split <;> simp
 rw [key,List.length_replicate]
theorem Zx3 {P:Rg->Prop}(k nr:Nat)(init:List Ini)(h0:P ⟨.num 0,0⟩)(h:∀ x∈init,x.th=(k:Int)->P (Zp7 x)):∀ y∈Zx1 k nr init,P y:=by
 unfold Zx1;have key:∀ (l:List Ini) (L:List Rg),(∀ x∈l,x.th=(k:Int)->P (Zp7 x))->(∀ y∈L,P y)->∀ y∈l.foldl (Zf2 k) L,P y:=by
  intro l
  induction l with
  | nil=>intro L _ hL;exact hL
  | cons x l ih=>
   intro L hl hL;rw [List.foldl_cons];refine ih _ (fun x hx=>hl x (List.mem_cons_of_mem _ hx)) (fun y hy=>?_);unfold Zf2 at hy
   split at hy
   ·rename_i hth;rcases List.mem_or_eq_of_mem_set hy with h1 | rfl
    ·exact hL y h1
    ·exact hl x List.mem_cons_self hth
   ·exact hL y hy
 exact key init _ h (fun y hy=>by rw [List.eq_of_mem_replicate hy];exact h0)
theorem Z2s {T:Tst}(hE:Za6 T=0){C:Cx}(hC:C.locs=Zaq T)(hahead:C.ahead<=64)(k:Nat):Inv C (Zfg (isR T)) 0 (rn0 (isR T) T.init k):=by
 refine⟨Zx3 _ _ _ ⟨show Zc7 0 by unfold Zc7;omega,Rds.zero _⟩ (fun x hx hth=>?_),Zx2 _ _ _,Rds.zero _,by simpa [rn0] using hahead,Nat.le_refl _,⟨List.Pairwise.nil,(fun p hp=>by cases hp),Nat.zero_le _⟩,⟨List.Pairwise.nil,(fun p hp=>by cases hp),Nat.zero_le _⟩,⟨List.Pairwise.nil,(fun p hp=>by cases hp),Nat.zero_le _⟩,(fun p hp=>by cases hp)⟩;have hr:=(Zly hE hx).reg ω;unfold Zp7
 split
 ·rename_i hv;exact⟨hr.2.2.1 hv,Rds.zero _⟩
 ·rename_i hv;exact⟨by show x.vl∈C.locs;rw [hC];exact hr.2.2.2 hv,Rds.zero _⟩
theorem Zsc:∀ (l m:List (Int×Int)),l.Nodup->(∀ x∈l,x∈m)->l.length<=m.length
 | [],_,_,_=>Nat.zero_le _
 | x :: l,m,hn,hs=>by
  have hx:=hs x List.mem_cons_self;have hn2:=List.nodup_cons.1 hn;have h1:=Zsc l (m.erase x) hn2.2 (fun y hy=>by
   have hne:y≠x:=fun e=>hn2.1 (e ▸ hy)
   exact (List.mem_erase_of_ne hne).2 (hs y (List.mem_cons_of_mem _ hy)))
  have h2:=List.length_erase_of_mem hx;have h3:=List.length_pos_of_mem hx;simp only [List.length_cons];omega
theorem Zgm (evs:List Evt)(n f:Nat)(l:List (Int×Int))(h:Ze3 evs n l)(hf:f+n<=64):(Zf0 (l.map (shP f))).length<=4096:=by
 obtain⟨_,hnd,hpw,hmem,_⟩:=h.moved hf;have hnd2:(Zf0 (l.map (shP f))).Nodup:=hpw.imp (fun {a b} hab e=>by subst e;unfold Zjo at hab;omega);have h1:=Zsc _ _ hnd2 (fun x hx=>(hmem x).1 hx);have h2:=h.len;rw [List.length_map] at h1;omega
theorem Zud {a k t r:Int}{l:List UInt8}{v:Int}{n:Nat}(h:Zf4 a k t r l v n=true):∀ x∈atL k t r l,Za9 a x.1 x.2.1 x.2.2=true:=by
 intro x hx;unfold atL at hx
 split at hx
 ·rename_i h2;exact m_122
 ·simp at hx
theorem Zir {a:Int}:∀ f:Fr,okF a f->∀ x∈Za1 f,Za9 a x.1 x.2.1 x.2.2=true
 | .nil,_,x,hx=>by simp [Za1] at hx
 | .cons k t r l v kids rest,h,x,hx=>by
  simp only [Za1,List.mem_append] at hx;rcases hx with (hx | hx) | hx
  ·exact Zud h.1 x hx
  ·exact Zir kids h.2.1 x hx
  ·exact Zir rest h.2.2 x hx
theorem Zpu {T:Tst}(hE:Za6 T=0){x:Th}(hx:x∈Za5 T):Za9 T.arch x.1 x.2.1 x.2.2=true:=by
 obtain⟨_,_,_,h1,h2,_⟩:=Zol (Za8 hE).2.2.2.2.2.1;unfold Za5 Zk4 at hx
 split at hx
 ·rcases List.mem_append.1 (Zsw _ x hx) with h | h
  ·exact Zud h1 x h
  ·exact Zir _ h2 x h
 ·cases hx
theorem Zrc {T:Tst}(hE:Za6 T=0){x:Th}(hx:x∈Za5 T)(h1:x.1≠-1):0<=x.1/\0<=x.2.1/\x.2.1<Zfg (isR T):=by
 have h:=Zpu hE hx;unfold Za9 at h;rw [if_neg h1] at h;simp only [Bool.and_eq_true,decide_eq_true_eq] at h;have ha:=(Za8 hE).2.2.1;refine⟨h.1.1.1.1,h.1.1.2,?_⟩;have h2:=h.1.2;rcases Zln ha with ⟨e1,e2⟩ | ⟨e1,e2⟩
 ·rw [e2];unfold regs at h2;rw [if_pos e1] at h2;exact h2
 ·rw [e2];unfold regs at h2;rw [if_neg ω] at h2;exact h2
theorem Zrb {T:Tst}(hE:Za6 T=0){x:Th}(hx:x∈Za5 T)(h1:x.1=-1):x.2.2∈Zaq T:=by
 have h:=Zpu hE hx;unfold Za9 at h;rw [if_pos h1] at h;simp only [Bool.and_eq_true] at h;unfold Zaq;rw [Zfe];refine⟨?_,Zhy h.2⟩;unfold Zel;rw [List.mem_append,List.mem_append];exact Or.inr (Or.inr (List.mem_map.2 ⟨x,hx,rfl⟩))
structure Zxq (nt k:Nat) (a:Tr):Prop where
 evs:a.evs.length<=64
 bars:a.bars.length<=256*k
 addr:a.addr.length<=4096*k
 data:a.data.length<=4096*k
 hang:a.hang.length<=4096*k
 ends : a.ends.length = nt
theorem Z0i (T:Tst):Zxq (Za5 T).length 0 (tr0 (Za5 T)):=⟨by simp [tr0],by simp [tr0],by simp [tr0],by simp [tr0],by simp [tr0],by simp [tr0]⟩
theorem Zxq.join {nt k nr m:Nat}{a:Tr}{C:Cx}{r:Rn}{es:List (Int×Int)}(h:Zxq nt k a)(hC:C.ahead=a.evs.length)(hI:Inv C nr m r)(hm:m<=256)(he:es.length=nt):Zxq nt (k+1) (Zg8 a r es):=by
 have h1:=hI.room;have h2:=hI.bars;have h3:=Zgm _ _ a.evs.length _ hI.addr ω;have h4:=Zgm _ _ a.evs.length _ hI.data ω;have h5:=Zgm _ _ a.evs.length _ hI.hang ω;have:=h.bars;have:=h.addr;have:=h.data;have:=h.hang;exact⟨by simp [Zg8];omega,by simp [Zg8];omega,by simp [Zg8];omega,by simp [Zg8];omega,by simp [Zg8];omega,he⟩
theorem Zja (risc:Bool)(locs:List Nm)(init:List Ini)(ths:List Th)(k:Nat)(c:List Ins)(cs:List (List Ins))(a:Tr):Zgh risc locs init ths k (c :: cs) a=match Zrd risc locs init ths k c a with
  | .error e=>.error (e,k)
  | .ok a'=>Zgh risc locs init ths (k+1) cs a':=rfl
def Z7u (T:Tst):Except (Int×Nat) Tr->Except (Int×Nat) Tr
 | .error e=>.error e
 | .ok a=>.ok { a with ends:=Zjt (Zaq T) 0 (Za5 T) a.ends }
theorem Zku {T:Tst}(hE:Za6 T=0){X:Except (Int×Nat) Tr}(h:Zgh (isR T) (Zaq T) T.init (Za5 T) 0 T.code (tr0 (Za5 T))=X):Zcv T=Z7u T X:=by
 subst h;unfold Zcv;rw [if_neg (by simp [hE])];rfl
section
variable {risc:Bool} {locs:List Nm} {init:List Ini} {ths:List Th} {k f:Nat} {c:List Ins} {cs cs':List (List Ins)} {a a':Tr} {X:Except (Int×Nat) Tr} {e:Int} {r:Rn} {es:List (Int×Int)}
theorem Ze0 (h:Zgh risc locs init ths k cs a=X)(hd:cs=c :: cs')(he:Zrd risc locs init ths k c a=.error e):X=.error (e,k):=by
 subst h hd;rw [Zja,he]
theorem Zxc (h:Zgh risc locs init ths k cs a=X)(hd:cs=c :: cs')(he:Zrd risc locs init ths k c a=.ok a'):Zgh risc locs init ths (k+1) cs' a'=X:=by
 subst h hd;rw [Zja,he]
theorem Zpy (hf:a.evs.length=f)(h:goL ⟨k,risc,f,locs⟩ c 0 (rn0 risc init k)=none):Zrd risc locs init ths k c a=.error 150:=by
 subst hf;unfold Zrd Z37;rw [h]
theorem Zpx (hf:a.evs.length=f)(h:goL ⟨k,risc,f,locs⟩ c 0 (rn0 risc init k)=some r)(hr:r.full=true):Zrd risc locs init ths k c a=.error 2:=by
 subst hf;unfold Zrd Z37;rw [h];simp [hr]
theorem Zih (hf:a.evs.length=f)(h:goL ⟨k,risc,f,locs⟩ c 0 (rn0 risc init k)=some r)(hr:r.full=false)(he:Zdk k f r 0 ths a.ends=none):Zrd risc locs init ths k c a=.error 150:=by
 subst hf;unfold Zrd Z37;rw [h];simp [hr,he]
theorem Zxa (hf:a.evs.length=f)(h:goL ⟨k,risc,f,locs⟩ c 0 (rn0 risc init k)=some r)(hr:r.full=false)(he:Zdk k f r 0 ths a.ends=some es):Zrd risc locs init ths k c a=.ok (Zg8 a r es):=by
 subst hf;unfold Zrd Z37;rw [h];simp [hr,he]
end
theorem Zkb (l:List Int):Zbo l=(Zfd.flat l).toArray:=by
 unfold Zbo Enc.flat
 induction l with
 | nil=>rfl
 | cons x l ih=>simp_all
theorem Z66 (n:Nat):madeCells #[.int .i64 0,.int .i64 0] (n*2)=(Zbf.flat (List.replicate n ((0:Int),(0:Int)))).toArray:=by
 apply Array.ext';apply List.ext_getElem?;intro m;have hl:(Zbf.flat (List.replicate n ((0:Int),(0:Int)))).length=n*2:=by rw [Zbf.flat_len,List.length_replicate]
 by_cases hm:m<n*2
 ·have h1:m / 2<n:=ω;have h2:(List.replicate n ((0:Int),(0:Int)))[m / 2]?=some (0,0):=by simp [h1]
  have h3:=Zbf.flat_at h2 (show m % 2<2 by omega);rw [show m / 2*Zbf.size+m % 2=m by show m / 2*2+m % 2=m;omega] at h3;rw [show (Zbf.flat (List.replicate n ((0:Int),(0:Int)))).toArray.toList=Zbf.flat (List.replicate n ((0:Int),(0:Int))) from rfl,h3];unfold madeCells;have hc:m % 2=0\/m % 2=1:=ω;rcases hc with hc | hc <;> simp [hc,hm]
 ·rw [List.getElem?_eq_none (by simp [madeCells];omega),List.getElem?_eq_none (by simp [hl];omega)]
theorem Z44:(Tryz.prog.info? 76).map (fun i=>(i.zero,i.size,i.bytes))=some (some (.agg #[.int .i64 0,.int .i64 0]),2,16):=by kernel_rfl
theorem Zv7 (n:Nat)(hn:n<=1024)(w:World):(Instr.makeSlice 39 (.int .i64 (n:Int)) (.int .i64 (n:Int))).run Tryz.prog w=.ok (.slice (some ⟨w.heap.size,0,none⟩) n n) (w.alloc (.cells (Zbf.flat (List.replicate n ((0:Int),(0:Int)))).toArray 76 (0,0))):=by
 obtain⟨i0,hi,hz0,hz1,hz2⟩:=Zda Z44;have h:=run_make (P:=Tryz.prog) w 39 76 i0 _ Tryz.underlying39 hi hz0 .i64 .i64 (n:Int) (n:Int) ω (Int.le_refl _) (by rw [hz2];omega) ω;rw [h,hz1];simp only [Int.toNat_natCast];rw [show (Value.agg #[.int .i64 0,.int .i64 0]).cells=#[.int .i64 0,.int .i64 0] from rfl,Z66]
theorem Enc.appO {α:Type}{E:Enc α}{T S:TypeId}{bytes:Nat}(hE:E.Elem T S bytes){ops:Array Oper}{rest:List Oper}{o:Oper}{a:Act}{Q:Exit->Act->World->Prop}(V:World)
  (hg:o.guard=none) (s x:Operand) (hop:o.op=Op.call { callee:=Callee.builtin Builtin.append,args:=#[s,x],argTypes:=#[S,S] })
  (ys:List α) (B B2:Nat) (l:List α) (v vx:Value) (hs:a.eval s=v) (hx:a.eval x=vx)
  (hys:E.Own T B2 V vx ys) (hown:E.Own T B V v l) (b1:l.length+ys.length<=1152921504606846976) (b3:(l.length+ys.length)*bytes<=140737488355328) (hB:B<=V.heap.size)
  (hK:∀ v' w1,E.Own T B w1 v' (l++ys)->Zbm V w1 B v v'->wpList Tryz.prog ops Q rest (a.put o.dst v') w1) :
  wpList Tryz.prog ops Q (o :: rest) a V:=by
 obtain⟨A,cap,e1,hat,_,_⟩:=hys.at_;rcases hys.2 with ⟨e,h0⟩ | ⟨g,c,cur,e,_⟩
 ·have hy:ys=[]:=List.length_eq_zero_iff.1 h0;subst hy;obtain⟨z,hz,hzs⟩:=hE.info;obtain⟨i0,hi,hz0,hz1,hz2⟩:=Zda hz;refine wpList_append_own_none hg s x S hop B T i0 E.size hE.sl hi v l.length (E.flat l) hs hown (by rw [hx,e]) (hK v V ?_ (Zbm.refl _ _ _));rw [List.append_nil];exact hown
 ·rw [e1] at e;simp only [Value.slice.injEq,true_and] at e;obtain⟨rfl,_⟩:=e;exact Enc.appW hE V hg s x hop ys B l v g 0 cap hs (by rw [hx,e1]) hat hown b1 b3 hB hK
theorem Zhp {w:World}{q i:Nat}{m:List (Int×Int)}{x:Int×Int}(h:Blk w q 76 (Zbf.flat m).toArray)(hx:m[i]?=some x):w.cell? ⟨q,i*2,none⟩=some (.int .i64 x.1)/\w.cell? ⟨q,i*2+1,none⟩=some (.int .i64 x.2):=by
 have h0:=Zbf.flat_at hx (show 0<Zbf.size by show 0<2;omega);have h1:=Zbf.flat_at hx (show 1<Zbf.size by show 1<2;omega);refine⟨?_,?_⟩
 ·rw [h.cell];rw [show i*Zbf.size+0=i*2 by show i*2+0=i*2;omega] at h0;simpa using h0
 ·rw [h.cell];rw [show i*Zbf.size+1=i*2+1 from rfl] at h1;simpa using h1
theorem Zb3.en_blk {w:World}{B O:Nat}{L:Ze2}{V:Zs2}(h:Zb3 w B O L V){q n:Nat}(hq:V.en=.slice (some ⟨q,0,none⟩) n n):Blk w q 76 (Zbf.flat L.a.ends).toArray/\B<=q:=by
 obtain⟨q',e,hb,hB⟩:=h.en;rw [hq] at e;simp only [Value.slice.injEq,Option.some.injEq,Addr.mk.injEq,and_true] at e;obtain⟨rfl,_⟩:=e;exact⟨hb,hB⟩
theorem Zb3.off {w:World}{B O q:Nat}{L:Ze2}{V:Zs2}{cs:Array Value}(h:Zb3 w B O L V)(hq:Blk w q 41 cs)(hne:O≠q)(i:Nat)(u:Value):Zb3 (w.setCell ⟨q,i,none⟩ u) B O L V:=
 ⟨h.blk.far hne u,h.hO,Zaf h.lo hq (by decide) _ _,h.ini.keep (fun _ hq2=>Below.heap_setCell w _ _ _ (Za4 hq2 hq (by decide))),Zaf h.ev hq (by decide) _ _,Zaf h.br hq (by decide) _ _,Zaf h.ad hq (by decide) _ _,Zaf h.da hq (by decide) _ _,Zaf h.ct hq (by decide) _ _,Zaf h.th hq (by decide) _ _,h.en.keep (fun _ hq2=>Below.heap_setCell w _ _ _ (Za4 hq2 hq (by decide))),h.a1,h.a2,h.a3⟩
theorem Zb3.off9 {w:World}{B O q:Nat}{L:Ze2}{V:Zs2}{cs:Array Value}(h:Zb3 w B O L V)(hq:Blk w q 41 cs)(hne:O≠q)(u0 u1 u2 u3 u4 u5 u6 u7 u8:Value) :
  Zb3 (((((((((w.setCell ⟨q,0,none⟩ u0).setCell ⟨q,1,none⟩ u1).setCell ⟨q,2,none⟩ u2).setCell ⟨q,3,none⟩ u3).setCell ⟨q,4,none⟩ u4).setCell ⟨q,5,none⟩ u5).setCell ⟨q,6,none⟩ u6).setCell ⟨q,7,none⟩ u7).setCell ⟨q,8,none⟩ u8) B O L V:=by
 have k1:=hq.set_ 0 u0;have k2:=k1.set_ 1 u1;have k3:=k2.set_ 2 u2;have k4:=k3.set_ 3 u3;have k5:=k4.set_ 4 u4;have k6:=k5.set_ 5 u5;have k7:=k6.set_ 6 u6;have k8:=k7.set_ 7 u7;exact ((((((((h.off hq hne 0 u0).off k1 hne 1 u1).off k2 hne 2 u2).off k3 hne 3 u3).off k4 hne 4 u4).off k5 hne 5 u5).off k6 hne 6 u6).off k7 hne 7 u7).off k8 hne 8 u8
structure Ze7 (w:World) (Bk:Nat) (wq:World) (O g:Nat) (S:Zgk) (r:Rn) (V8:Zd6) (L:Ze2) (V:Zs2) (tc:Array Value):Prop where
 out:Zb3 wq w.heap.size O L V
 run:Za0 wq Bk g S r V8
 tst:Blk wq w.heap.size 32 tc
 nil:Blk wq (w.heap.size+1) 41 #[.slice none 0 0,.slice none 0 0,.slice none 0 0,.slice none 0 0,.slice none 0 0,.slice none 0 0,.slice none 0 0,.slice none 0 0,.slice none 0 0]
 bel:Below w.heap.size w wq
 hO:w.heap.size+1<O
 hk:O<Bk
namespace Ze7
variable {w wq w1:World} {Bk O g:Nat} {S:Zgk} {r:Rn} {V8:Zd6} {L:Ze2} {V:Zs2} {tc:Array Value} {v':Value}
theorem below (h:Ze7 w Bk wq O g S r V8 L V tc)(hb:Below wq.heap.size wq w1):Ze7 w Bk w1 O g S r V8 L V tc:=
 ⟨h.out.below hb,h.run.below hb,h.tst.go hb,h.nil.go hb,Zaa h.bel hb,h.hO,h.hk⟩
theorem drew (h:Ze7 w Bk wq O g S r V8 L V tc):Ze7 w Bk wq.drew O g S r V8 L V tc:=⟨h.out.drew,h.run.drew,h.tst,h.nil,h.bel.drew,h.hO,h.hk⟩
theorem put (h:Ze7 w Bk wq O g S r V8 L V tc){i q n:Nat}(x y:Int)(hn:L.a.ends.length=n)(hi:i<n)(hq:V.en=.slice (some ⟨q,0,none⟩) n n)(hqk:q<Bk) :
  Ze7 w Bk ((wq.setCell ⟨q,i*2,none⟩ (.int .i64 x)).setCell ⟨q,i*2+1,none⟩ (.int .i64 y)) O g S r V8 { L with a:={ L.a with ends:=L.a.ends.set i (x,y) } } V tc:=by
 subst hn;obtain⟨q',e,hb,hB⟩:=h.out.en;rw [hq] at e;simp only [Value.slice.injEq,Option.some.injEq,Addr.mk.injEq,and_true] at e;obtain⟨rfl,_⟩:=e;have hbel:=h.bel;exact⟨h.out.en_ (x:=(x,y)) hi hq,h.run.above ((Zen.set wq _ _ hqk).trans (Zen.set _ _ _ hqk)),(h.tst.far (Za4 h.tst hb (by decide)) _).far (Za4 h.tst hb (by decide)) _,(h.nil.far (Za4 h.nil hb (by decide)) _).far (Za4 h.nil hb (by decide)) _,
  (hbel.setCell (p:=⟨q,i*2,none⟩) hB _).setCell (p:=⟨q,i*2+1,none⟩) hB _,h.hO,h.hk⟩
theorem en_blk (h:Ze7 w Bk wq O g S r V8 L V tc){q n:Nat}(hq:V.en=.slice (some ⟨q,0,none⟩) n n):Blk wq q 76 (Zbf.flat L.a.ends).toArray:=by
 obtain⟨q',e,hb,hB⟩:=h.out.en;rw [hq] at e;simp only [Value.slice.injEq,Option.some.injEq,Addr.mk.injEq,and_true] at e;obtain⟨rfl,_⟩:=e;exact hb
theorem ev_ (h:Ze7 w Bk wq O g S r V8 L V tc)(hlt:∀ b,V.ev.ownBlock=some b->b<Bk){l:List Evt}(hg:Zbm wq w1 w.heap.size V.ev v')(ho:Zqm.Own 54 w.heap.size w1 v' l):Ze7 w Bk (w1.setCell ⟨O,2,none⟩ v') O g S r V8 { L with a:={ L.a with evs:=l } } { V with ev:=v' } tc:=
 ⟨h.out.ev_ hg ho,h.run.above ((Zen.grew hg hlt).trans (Zen.set w1 2 v' h.hk)),(Zat h.tst h.out.ev (by decide) hg).far (p:=⟨O,2,none⟩) (by have:=h.hO;simp only [ne_eq];omega) v',(Zat h.nil h.out.ev (by decide) hg).far (p:=⟨O,2,none⟩) (by have:=h.hO;simp only [ne_eq];omega) v',(h.bel.trans hg.below).setCell (p:=⟨O,2,none⟩) (by have:=h.hO;show w.heap.size<=O;omega) v',h.hO,h.hk⟩
theorem br_ (h:Ze7 w Bk wq O g S r V8 L V tc)(hlt:∀ b,V.br.ownBlock=some b->b<Bk){l:List Br}(hg:Zbm wq w1 w.heap.size V.br v')(ho:Zmq.Own 123 w.heap.size w1 v' l):Ze7 w Bk (w1.setCell ⟨O,3,none⟩ v') O g S r V8 { L with a:={ L.a with bars:=l } } { V with br:=v' } tc:=
 ⟨h.out.br_ hg ho,h.run.above ((Zen.grew hg hlt).trans (Zen.set w1 3 v' h.hk)),(Zat h.tst h.out.br (by decide) hg).far (p:=⟨O,3,none⟩) (by have:=h.hO;simp only [ne_eq];omega) v',(Zat h.nil h.out.br (by decide) hg).far (p:=⟨O,3,none⟩) (by have:=h.hO;simp only [ne_eq];omega) v',(h.bel.trans hg.below).setCell (p:=⟨O,3,none⟩) (by have:=h.hO;show w.heap.size<=O;omega) v',h.hO,h.hk⟩
theorem ad_ (h:Ze7 w Bk wq O g S r V8 L V tc)(hlt:∀ b,V.ad.ownBlock=some b->b<Bk){l:List (Int×Int)}(hg:Zbm wq w1 w.heap.size V.ad v')(ho:Zbf.Own 129 w.heap.size w1 v' l):Ze7 w Bk (w1.setCell ⟨O,4,none⟩ v') O g S r V8 { L with a:={ L.a with addr:=l } } { V with ad:=v' } tc:=
 ⟨h.out.ad_ hg ho,h.run.above ((Zen.grew hg hlt).trans (Zen.set w1 4 v' h.hk)),(Zat h.tst h.out.ad (by decide) hg).far (p:=⟨O,4,none⟩) (by have:=h.hO;simp only [ne_eq];omega) v',(Zat h.nil h.out.ad (by decide) hg).far (p:=⟨O,4,none⟩) (by have:=h.hO;simp only [ne_eq];omega) v',(h.bel.trans hg.below).setCell (p:=⟨O,4,none⟩) (by have:=h.hO;show w.heap.size<=O;omega) v',h.hO,h.hk⟩
theorem da_ (h:Ze7 w Bk wq O g S r V8 L V tc)(hlt:∀ b,V.da.ownBlock=some b->b<Bk){l:List (Int×Int)}(hg:Zbm wq w1 w.heap.size V.da v')(ho:Zbf.Own 129 w.heap.size w1 v' l):Ze7 w Bk (w1.setCell ⟨O,5,none⟩ v') O g S r V8 { L with a:={ L.a with data:=l } } { V with da:=v' } tc:=
 ⟨h.out.da_ hg ho,h.run.above ((Zen.grew hg hlt).trans (Zen.set w1 5 v' h.hk)),(Zat h.tst h.out.da (by decide) hg).far (p:=⟨O,5,none⟩) (by have:=h.hO;simp only [ne_eq];omega) v',(Zat h.nil h.out.da (by decide) hg).far (p:=⟨O,5,none⟩) (by have:=h.hO;simp only [ne_eq];omega) v',(h.bel.trans hg.below).setCell (p:=⟨O,5,none⟩) (by have:=h.hO;show w.heap.size<=O;omega) v',h.hO,h.hk⟩
theorem ct_ (h:Ze7 w Bk wq O g S r V8 L V tc)(hlt:∀ b,V.ct.ownBlock=some b->b<Bk){l:List (Int×Int)}(hg:Zbm wq w1 w.heap.size V.ct v')(ho:Zbf.Own 129 w.heap.size w1 v' l):Ze7 w Bk (w1.setCell ⟨O,6,none⟩ v') O g S r V8 { L with a:={ L.a with hang:=l } } { V with ct:=v' } tc:=
 ⟨h.out.ct_ hg ho,h.run.above ((Zen.grew hg hlt).trans (Zen.set w1 6 v' h.hk)),(Zat h.tst h.out.ct (by decide) hg).far (p:=⟨O,6,none⟩) (by have:=h.hO;simp only [ne_eq];omega) v',(Zat h.nil h.out.ct (by decide) hg).far (p:=⟨O,6,none⟩) (by have:=h.hO;simp only [ne_eq];omega) v',(h.bel.trans hg.below).setCell (p:=⟨O,6,none⟩) (by have:=h.hO;show w.heap.size<=O;omega) v',h.hO,h.hk⟩
end Ze7
theorem Z3e (f:Nat){n:Nat}{evs:List Evt}{l:List (Int×Int)}(h:Ze3 evs n l):∀ p∈l.map (shP f),(f:Int)<=p.1:=fun p hp=>by
 obtain⟨q,hq,rfl⟩:=List.mem_map.1 hp;obtain⟨i,j,rfl,_⟩:=h.at_ q hq;show (f:Int)<=(f:Int)+(i:Int);omega
theorem Z3f {f:Nat}{evs:List Evt}{l:List (Int×Int)}(h:Ze3 evs evs.length l):∀ p∈l.map (shP f),(f:Int)<=p.1/\p.1<(f:Int)+(evs.length:Int):=fun p hp=>by
 obtain⟨q,hq,rfl⟩:=List.mem_map.1 hp;obtain⟨i,j,rfl,_,hr,_⟩:=h.at_ q hq;have:=hr.lt;show (f:Int)<=(f:Int)+(i:Int)/\(f:Int)+(i:Int)<(f:Int)+(evs.length:Int);omega
structure Zod (k:Nat) (a' a:Tr):Prop where
 evs:a'.evs=a.evs
 bars:a'.bars=a.bars
 ends : a'.ends = a.ends
 addr:Zf0 a'.addr=a.addr
 data:Zf0 a'.data=a.data
 hang:Zf0 a'.hang=a.hang
 l1:∀ p∈a'.addr,0<=p.1/\p.1<(a.evs.length:Int)
 l2:∀ p∈a'.data,0<=p.1/\p.1<(a.evs.length:Int)
 l3:∀ p∈a'.hang,0<=p.1/\p.1<(a.evs.length:Int)
 n1:a'.addr.length<=4096*k
 n2:a'.data.length<=4096*k
 n3:a'.hang.length<=4096*k
theorem Z5u (ths:List Th):Zod 0 (tr0 ths) (tr0 ths):=by
 refine⟨rfl,rfl,rfl,?_,?_,?_,?_,?_,?_,?_,?_,?_⟩ <;> simp [tr0,Zfa]
def Z2t (a:Tr)(r:Rn)(es:List (Int×Int)):Tr:=
 ⟨a.evs++r.evs,a.bars++r.bars,a.addr++r.addr.map (shP a.evs.length),a.data++r.data.map (shP a.evs.length),a.hang++r.hang.map (shP a.evs.length),es⟩
theorem Zod.join {k m nr:Nat}{a' a:Tr}{r:Rn}{C:Cx}{es:List (Int×Int)}(h:Zod k a' a)(hC:C.ahead=a.evs.length)(hI:Inv C nr m r):Zod (k+1) (Z2t a' r es) (Zg8 a r es):=by
 refine⟨?_,?_,rfl,?_,?_,?_,?_,?_,?_,?_,?_,?_⟩
 ·show a'.evs++r.evs=a.evs++r.evs;rw [h.evs]
 ·show a'.bars++r.bars=a.bars++r.bars;rw [h.bars]
 ·show Zf0 (a'.addr++r.addr.map (shP a'.evs.length))=a.addr++Zf0 (r.addr.map (shP a.evs.length));rw [h.evs,Zmj (f:=a.evs.length) (fun p hp=>(h.l1 p hp).2) (Z3e _ hI.addr),h.addr]
 ·show Zf0 (a'.data++r.data.map (shP a'.evs.length))=a.data++Zf0 (r.data.map (shP a.evs.length));rw [h.evs,Zmj (f:=a.evs.length) (fun p hp=>(h.l2 p hp).2) (Z3e _ hI.data),h.data]
 ·show Zf0 (a'.hang++r.hang.map (shP a'.evs.length))=a.hang++Zf0 (r.hang.map (shP a.evs.length));rw [h.evs,Zmj (f:=a.evs.length) (fun p hp=>(h.l3 p hp).2) (Z3e _ hI.hang),h.hang]
 ·intro p hp;rcases List.mem_append.1 hp with h1 | h1
  ·have:=h.l1 p h1;exact m_135
  ·rw [h.evs] at h1;have:=Z3f hI.addr p h1;exact m_138
 ·intro p hp;rcases List.mem_append.1 hp with h1 | h1
  ·have:=h.l2 p h1;exact m_135
  ·rw [h.evs] at h1;have:=Z3f hI.data p h1;exact m_138
 ·intro p hp;rcases List.mem_append.1 hp with h1 | h1
  ·have:=h.l3 p h1;exact m_135
  ·rw [h.evs] at h1;have:=Z3f hI.hang p h1;exact m_138
 ·show (a'.addr++r.addr.map (shP a'.evs.length)).length<=_;have h1:=h.n1;have h2:=hI.addr.len;exact m_144
 ·show (a'.data++r.data.map (shP a'.evs.length)).length<=_;have h1:=h.n2;have h2:=hI.data.len;exact m_144
 ·show (a'.hang++r.hang.map (shP a'.evs.length)).length<=_;have h1:=h.n3;have h2:=hI.hang.len;exact m_144
end Go.Proofs.YtdfmcfppoohckaaGreatDoor
