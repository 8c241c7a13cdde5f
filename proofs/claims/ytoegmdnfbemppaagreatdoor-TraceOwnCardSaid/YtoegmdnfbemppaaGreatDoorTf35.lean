/- Layer 15: pairs of a thread counted from the start of all, in order: the program's moved. -/
import Derived.Test.YtoegmdnfbemppaaGreatDoorTf26
import Derived.Test.YtoegmdnfbemppaaGreatDoorTf34

namespace Go.Proofs.YtoegmdnfbemppaaGreatDoor
open Go.RowKit
open Go.Sort
open Go.Sort (sorted_unique_holds flatK size_flatK get_flatK HoldsK Holds putRow mapBlock putCells grow onCells)
def okP (p:Int×Int):Prop:=(0<=p.1/\p.1<=4096)/\0<=p.2/\p.2<=4096
abbrev VP:={ p:Int×Int // okP p }
instance Z6t:Inhabited VP:=⟨⟨(0,0),by unfold okP;omega⟩⟩
def Zfi (x:VP):List Value:=[.int .i64 x.1.1,.int .i64 x.1.2]
def cfP (x y:VP):Int:=if x.1.1=y.1.1 then x.1.2 - y.1.2 else x.1.1 - y.1.1
theorem Znn (x y:VP):ltOf cfP x y=true↔Zo6 x.1 y.1:=by
 unfold ltOf cfP Zo6
 by_cases h:x.1.1=y.1.1
 ·simp [h];omega
 ·simp [h];omega
theorem Z1u:SWO (ltOf cfP) where
 irrefl x:=by
  rw [Bool.eq_false_iff]
  intro h
  rw [Znn] at h
  unfold Zo6 at h
  omega
 trans x y z h k:=by
  rw [Znn] at h k ⊢
  unfold Zo6 at *
  omega
 ntrans x y z h k:=by
  rw [Bool.eq_false_iff,ne_eq,Znn] at h k ⊢
  unfold Zo6 at *
  omega
theorem Zq2 {x:Int}(h1:-4096<=x)(h2:x<=4096):IntKind.i64.wrap x=x:=by
 unfold IntKind.wrap
 simp [IntKind.bits,IntKind.signed]
 omega
section
set_option maxHeartbeats 4000000
set_option maxRecDepth 100000
theorem Z5u (a b c d:Int)(h1:0<=a/\a<=4096)(h2:0<=b/\b<=4096)(h3:0<=c/\c<=4096)(h4:0<=d/\d<=4096)(w:World) :
  Calls Tryz.prog 98 #[.agg #[.int .i64 a,.int .i64 b],.agg #[.int .i64 c,.int .i64 d]] w fun e w'=>e=.returned (.int .i64 (if a=c then b - d else a - c))/\∃ q os',w'=Sort.grow (w.drewN q) os':=by
 have HG:=Zh (Zq8 w (.cells #[.int .i64 a,.int .i64 b] 52 (0,0)) (.cells #[.int .i64 c,.int .i64 d] 52 (0,0)))
 obtain⟨h1a,h1b⟩:=h1
 obtain⟨h2a,h2b⟩:=h2
 obtain⟨h3a,h3b⟩:=h3
 obtain⟨h4a,h4b⟩:=h4
 by_cases he:a=c
 ·rw [if_pos he]
  subst he
  have hw:IntKind.i64.wrap (b - d)=b - d:=Zq2 (by omega) (by omega)
  exact m_127
 ·rw [if_neg he]
  have hw:IntKind.i64.wrap (a - c)=a - c:=Zq2 (by omega) (by omega)
  exact m_127
end
theorem Zw1 (blk off size:Nat)(w:World):CmpLays Tryz.prog 98 #[] Zfi 2 cfP blk off size w:=fun m os dk _ x y=>by
 obtain⟨⟨a,b⟩,h1,h2⟩:=x
 obtain⟨⟨c,d⟩,h3,h4⟩:=y
 exact Z5u a b c d h1 h2 h3 h4 _
def Zr9:(L:List (Int×Int))->(∀ x∈L,okP x)->List VP
 | [],_=>[]
 | x :: r,h=>⟨x,h x (by simp)⟩ :: Zr9 r (fun y hy=>h y (by simp [hy]))
theorem Zjb:∀ (L:List (Int×Int)) (h:∀ x∈L,okP x),(Zr9 L h).map Subtype.val=L
 | [],_=>rfl
 | x :: r,h=>by
  show x :: (Zr9 r _).map Subtype.val=x :: r
  rw [Zjb r]
theorem Zqr (L:List (Int×Int))(h:∀ x∈L,okP x):(Zr9 L h).length=L.length:=by
 have:=congrArg List.length (Zjb L h)
 simpa using this
theorem Zxl {l:List (Int×Int)}{t:Nat}(ht:t<l.length*2):(Zbg.flat l)[t]?=(Zbg.enc (l.getD (t / 2) (0,0)))[t % 2]?:=by
 have h1:t / 2<l.length:=by omega
 have h2:=Zbg.flat_at (List.getElem?_eq_getElem h1) (show t % 2<Zbg.size by show t % 2<2;omega)
 rw [show t / 2*Zbg.size+t % 2=t by show t / 2*2+t % 2=t;omega] at h2
 rw [h2]
 simp [List.getD,h1]
theorem Zwf (d:Array VP):(flatK Zfi 2 d).toList=Zbg.flat (d.toList.map Subtype.val):=by
 apply List.ext_getElem?
 intro t
 have hl:(Zbg.flat (d.toList.map Subtype.val)).length=d.size*2:=by rw [Zbg.flat_len];simp
 have hs:=size_flatK Zfi 2 d
 by_cases ht:t<d.size*2
 ·rw [Zxl (by simpa using ht),Array.getElem?_toList,Array.getElem?_eq_getElem (by rw [hs];exact ht)]
  have h1:=get_flatK Zfi 2 d t ht
  rw [getElem!_pos (flatK Zfi 2 d) t (by rw [hs];exact ht)] at h1
  rw [h1]
  have h2:t / 2<d.size:=by omega
  rw [getElem!_pos d (t / 2) h2]
  have h3:(d.toList.map Subtype.val).getD (t / 2) (0,0)=d[t / 2].1:=by simp [List.getD,h2]
  rw [h3]
  have h4:t % 2=0\/t % 2=1:=by omega
  rcases h4 with h4 | h4 <;> rw [h4] <;> rfl
 ·rw [List.getElem?_eq_none (by rw [Array.length_toList,hs];omega),List.getElem?_eq_none (by rw [hl];omega)]
theorem Zuo (d:List Value)(cur:Array Value)(h:d.length<=cur.size):(putCells id 0 d.toArray cur).toList.take d.length=d:=by
 apply List.ext_getElem?
 intro i
 rw [List.getElem?_take]
 by_cases hi:i<d.length
 ·rw [if_pos hi,List.getElem?_eq_getElem hi]
  exact m_118
 ·rw [if_neg hi,List.getElem?_eq_none (by omega)]
theorem Zsq {w:World}{g n:Nat}{t:TypeId}{cur:Array Value}{os:Array Obj}{d:Array VP}(h:w.heap[g]?=some (.cells cur t (0,0))):(sortWorldK Zfi 2 w g 0 n d os).heap[g]?=some (.cells (putCells id 0 (flatK Zfi 2 d) cur) t (0,0)):=by
 have hlt:=(Array.getElem?_eq_some_iff.1 h).1
 have h2:(mapBlock (Sort.ahead w n) g (putCells id 0 (flatK Zfi 2 d))).heap[g]?=some (.cells (putCells id 0 (flatK Zfi 2 d) cur) t (0,0)):=by
  simp only [mapBlock,Array.getElem?_modify]
  rw [if_pos trivial]
  show (w.heap[g]?).map _=_
  rw [h];rfl
 exact (Sort.heap_grow_old _ _ (by simp [putRowK,putRow,mapBlock,Sort.ahead];exact hlt)).trans h2
theorem Zpq {w:World}{g n B:Nat}{d:Array VP}{os:Array Obj}(hB:B<=g)(hg:g<w.heap.size):Below B w (sortWorldK Zfi 2 w g 0 n d os):=
 ⟨rfl,rfl,rfl,by show w.heap.size<=((w.heap.modify g _)++os).size;simp,fun i hi=>by
  have hlt:i<w.heap.size:=by omega
  have h2:(mapBlock (Sort.ahead w n) g (putCells id 0 (flatK Zfi 2 d))).heap[i]?=w.heap[i]?:=by
   simp only [mapBlock,Array.getElem?_modify]
   rw [if_neg (by omega)]
   rfl
  exact (Sort.heap_grow_old _ _ (by simp [putRowK,putRow,mapBlock,Sort.ahead];exact hlt)).trans h2⟩
theorem Z4t {w:World}{B g cap:Nat}{l:List (Int×Int)}(hv:∀ p∈l,okP p)(ho:Zbg.Own 52 B w (.slice (some ⟨g,0,none⟩) l.length cap) l):HoldsK Zfi 2 w g 0 (Zr9 l hv).toArray:=by
 intro j hj
 have hsz:(Zr9 l hv).toArray.size=l.length:=by simp [Zqr]
 rw [size_flatK,hsz] at hj
 refine⟨?_,by rw [Nat.zero_add];exact ho.frozenAt j⟩
 have h2:(flatK Zfi 2 (Zr9 l hv).toArray).toList=Zbg.flat l:=by
  rw [Zwf]
  show Zbg.flat ((Zr9 l hv).map Subtype.val)=_
  rw [Zjb]
 rw [Nat.zero_add,ho.cellAt j hj,<- h2,Array.getElem?_toList,Array.getElem?_eq_getElem (by rw [size_flatK,hsz];exact hj),getElem!_pos _ j (by rw [size_flatK,hsz];exact hj)]
 rfl
theorem sortPr (v:Value)(l l2:List (Int×Int))(B:Nat)(w:World)(h:Zbg.Own 52 B w v l)(hl:l.length<=1000000)(hv:∀ p∈l,okP p)(hnd:l.Nodup)(h2:l2.Pairwise Zo6)(hm:∀ x,x∈l2↔x∈l) :
  Calls Tryz.prog 97 #[v,.func (.func 98) #[] #[]] w fun e w'=>e=.returned (.tuple #[])/\Zbg.Own 52 B w' v l2/\Below B w w':=by
 obtain⟨A,cap,rfl⟩:=h.shp
 have eg:∀ args w,(callFunc 98 args).run Tryz.prog w=.ok (.enter 98 args) w:=enters_of Tryz.func98 (by kernel_rfl) rfl
 rcases h.2 with ⟨e,h0⟩ | ⟨g,cap',cur,e,h1,h3,h4,h5,h6,h7⟩
 ·have hl0:l=[]:=List.length_eq_zero_iff.1 h0
  subst hl0
  have hl2:l2=[]:=List.eq_nil_iff_forall_not_mem.2 fun x hx=>by have:=(hm x).1 hx;cases this
  subst hl2
  refine (AnyF.slices_SortFunc_none Tryz.sortPr A cap _ w).mono fun e w' ⟨h1,h2⟩=>⟨h1,?_,?_⟩
  ·subst h2;exact h
  ·rw [h2];exact Below.refl _ _
 ·simp only [Value.slice.injEq,true_and] at e
  obtain⟨rfl,rfl⟩:=e
  have hH:=Z4t hv h
  have hlt:=(Array.getElem?_eq_some_iff.1 h3).1
  have hsz:(Zr9 l hv).toArray.size=l.length:=by simp [Zqr]
  have hs:=AnyQ.slices_SortFunc Tryz.sortPr 2 Tryz.isAgg52 Tryz.sizeOf52 Zfi (fun _=>rfl) (fun x v hv=>by simp [Zfi] at hv;rcases hv with rfl | rfl <;> rfl) cfP Z1u 98 #[] g 0 cap (Zr9 l hv).toArray w eg (Zw1 g 0 _ w) hH hlt (by omega)
  rw [hsz] at hs
  refine hs.mono ?_
  rintro e w' ⟨rfl,d',n,os,hP,hSo,rfl⟩
  have hd:d'.size=l.length:=hP.1.trans hsz
  have hperm:(d'.toList.map Subtype.val).Perm l:=by
   obtain⟨_,_,hp⟩:=hP
   have e1:d'.extract 0 l.length=d':=by rw [<- hd];exact Array.extract_size
   have e2:(Zr9 l hv).toArray.extract 0 l.length=(Zr9 l hv).toArray:=by rw [<- hsz];exact Array.extract_size
   rw [e1,e2] at hp
   have:=hp.map Subtype.val
   rwa [show ((Zr9 l hv).toArray.toList).map Subtype.val=l from Zjb l hv] at this
  have heq:d'.toList.map Subtype.val=l2:=by
   refine Zjz ?_ h2 (fun x=>by rw [hperm.mem_iff,hm])
   rw [List.pairwise_iff_getElem]
   intro i j hi hj hij
   have hi':i<d'.size:=by simpa using hi
   have hj':j<d'.size:=by simpa using hj
   have h8:=hSo i j (Nat.zero_le _) hij (by omega)
   rw [getElem!_pos d' i hi',getElem!_pos d' j hj',Bool.eq_false_iff,ne_eq,Znn] at h8
   simp only [List.getElem_map,Array.getElem_toList]
   have hne:d'[i].1≠d'[j].1:=fun e=>by
    have hn2:=hperm.nodup_iff.2 hnd
    have:=(List.getElem_inj (h₀:=hi) (h₁:=hj) hn2).1 (by simpa using e)
    omega
   unfold Zo6 at *
   have:¬ (d'[i].1.1=d'[j].1.1/\d'[i].1.2=d'[j].1.2):=fun e=>hne (Prod.ext e.1 e.2)
   omega
  have hl2:l2.length=l.length:=by rw [<- heq,List.length_map,Array.length_toList,hd]
  refine⟨rfl,?_,Zpq h1 hlt⟩
  show World.ownsRow _ B 52 2 _ l2.length (Zbg.flat l2)
  have hf:(flatK Zfi 2 d').toList=Zbg.flat l2:=by rw [Zwf,heq]
  have hfl:(Zbg.flat l2).length=l.length*2:=by rw [Zbg.flat_len,hl2]
  refine⟨by rw [Zbg.flat_len],Or.inr ⟨g,cap,_,by rw [hl2],h1,Zsq h3,by rw [hl2];exact h4,h5,by simp [putCells];exact h6,?_⟩⟩
  have hp:=Zuo (Zbg.flat l2) cur (by rw [hfl,h6];exact Nat.mul_le_mul_right 2 h4)
  rw [<- hf] at hp ⊢
  rw [show (flatK Zfi 2 d').toList.toArray=flatK Zfi 2 d' from by simp] at hp
  rw [show l2.length*2=(flatK Zfi 2 d').toList.length from by rw [hf,hfl,hl2]]
  exact hp
end Go.Proofs.YtoegmdnfbemppaaGreatDoor
namespace Go.Proofs.YtoegmdnfbemppaaGreatDoor
open Go.RowKit
section
theorem Zs0 {w:World}{A:Option Addr}{l:List (Int×Int)}(h:Zbg.At w A l){i:Nat}{x:Int×Int}(hx:l[i]?=some x):∃ b o,A=some ⟨b,o,none⟩/\w.cell? ⟨b,o+i*2,none⟩=some (.int .i64 x.1)/\w.cell? ⟨b,o+i*2+1,none⟩=some (.int .i64 x.2):=by
 obtain⟨b,o,e,hc⟩:=h i x hx
 exact⟨b,o,e,hc 0 _ rfl,hc 1 _ rfl⟩
theorem Zfk.moved {evs:List Evt}{n f:Nat}{l:List (Int×Int)}(h:Zfk evs n l)(hf:f+n<=64) :
  (∀ p∈l.map (shP f),okP p)/\(l.map (shP f)).Nodup/\(Zf2 (l.map (shP f))).Pairwise Zo6/\(∀ x,x∈Zf2 (l.map (shP f))↔x∈l.map (shP f))/\(∀ p∈l.map (shP f),(f:Int)<=p.1/\p.1<((f+n:Nat):Int)):=by
 have hin:∀ p∈l.map (shP f),∃ i j:Nat,p=(((f+i:Nat):Int),((f+j:Nat):Int))/\i<j/\j<n:=fun p hp=>by
  obtain⟨q,hq,rfl⟩:=List.mem_map.1 hp
  obtain⟨i,j,rfl,h1,_,h3⟩:=h.at_ q hq
  exact⟨i,j,by simp [shP],h1,h3⟩
 have hord:(l.map (shP f)).Pairwise Z24:=by
  rw [List.pairwise_map]
  exact h.ord.imp fun hpq=>by
   unfold Z24 shP at *
   simp only
   omega
 refine⟨fun p hp=>?_,?_,Zq4 hord 64,fun x=>?_,fun p hp=>?_⟩
 ·obtain⟨i,j,rfl,h1,h2⟩:=hin p hp
  unfold okP
  simp only
  omega
 ·refine hord.imp fun {p q} hpq e=>?_
  subst e
  unfold Z24 at hpq
  omega
 ·rw [Zj9]
  refine⟨fun h=>h.1,fun h=>⟨h,?_⟩⟩
  obtain⟨i,j,rfl,h1,h2⟩:=hin x h
  exact⟨f+i,by omega,rfl⟩
 ·obtain⟨i,j,rfl,h1,h2⟩:=hin p hp
  simp only
  omega
section
set_option maxHeartbeats 4000000
set_option maxRecDepth 100000
theorem Zu6 (A:Option Addr)(cap n f:Nat)(evs:List Evt)(l:List (Int×Int))(w:World)(h:Zbg.At w A l)(hok:Zfk evs n l)(hf:f+n<=64)(_hcap:l.length<=cap) :
  Calls Tryz.prog 35 #[.slice A l.length cap,.int .i64 (f:Int)] w fun e w'=>∃ v,e=.returned v/\Zbg.Own 52 w.heap.size w' v (Zf2 (l.map (shP f)))/\Below w.heap.size w w':=by
 have HA:=Zh h
 have hlen:=hok.len
 have hm:=hok.moved hf
 have HM:=Zh hm
 have hin:∀ p∈l,(0<=p.1/\p.1<=64)/\0<=p.2/\p.2<=64:=fun p hp=>by
  obtain⟨i,j,rfl,h1,_,h3⟩:=hok.at_ p hp
  simp only
  omega
 have HIN:=Zh hin
 have hll:l.length<=4096:=by omega
 clear h hok hm hin hlen
 go_enter Tryz.func35,Tryz.ntmps35
 go_wp2_with fail
 go_loopw [10,5] (fun ii vv wr=>∃ k:Nat,k<=l.length/\ii=.int .i64 k/\Zbg.Own 52 w.heap.size wr vv ((l.take k).map (shP f))/\Below w.heap.size w wr) (fun ii _ _=>l.length - (intOf ii).toNat)
 case atStart=>exact⟨0,Nat.zero_le _,rfl,Enc.Own.nil _ _ _,Below.refl _ _⟩
 case round=>
  obtain⟨k,hk,rfl,hv,hb⟩:=hrel
  obtain⟨q,hq⟩:∃ q,(l.take k).map (shP f)=q:=⟨_,rfl⟩
  have HQ:=Zh hq
  rw [hq] at hv
  have hql:q.length<=4096:=by rw [<- hq];simp;omega
  clear hq
  obtain⟨A3,n3,c3,rfl⟩:=Zca hv
  have HV:=Zh hv
  have HB:=Zh hb
  have hzr:=hb.size
  clear hv hb
  by_cases hlt:k<l.length
  ·have ex:=List.getElem?_eq_getElem hlt
   obtain⟨x,hx⟩:∃ x,l[k]=x:=⟨_,rfl⟩
   rw [hx] at ex
   obtain⟨b,o,rfl,c0,c1⟩:=Zs0 (HA.out.below HB.out) ex
   have hxi:=HIN.out x (List.mem_of_getElem? ex)
   obtain⟨⟨x1,x2⟩,x3,x4⟩:=hxi
   have hfi:(0:Int)<=(f:Int):=by omega
   have hfj:(f:Int)<=64:=by omega
   have hki:(k:Int)<(l.length:Int):=by omega
   have HS:=Zh (show q++[((f:Int)+x.1,(f:Int)+x.2)]=(l.take (k+1)).map (shP f) by
    obtain⟨h1,h2⟩:=List.getElem?_eq_some_iff.1 ex
    rw [<- HQ.out,List.take_succ_eq_append_getElem h1,h2];simp [shP])
   have HP1:=Zh (Zad wr (.cells #[.int .i64 x.1,.int .i64 x.2] 52 (0,0)))
   have HPA:=Zh (Zj5 (wr.alloc (.cells #[.int .i64 x.1,.int .i64 x.2] 52 (0,0))) ((f:Int)+x.1,(f:Int)+x.2))
   have HP2:=Zh (Zap wr (.cells #[.int .i64 x.1,.int .i64 x.2] 52 (0,0)) (.cells #[.int .i64 ((f:Int)+x.1),.int .i64 ((f:Int)+x.2)] 52 (0,0)))
   have hz2:(wr.alloc (.cells #[.int .i64 x.1,.int .i64 x.2] 52 (0,0))).heap.size=wr.heap.size+1:=by simp
   rw [hz2] at HPA
   clear hx ex hz2
   go_wp2_with (at_builtin;refine Enc.appW Zor _ rfl (.tmp 14) (.tmp 24) rfl [((f:Int)+x.1,(f:Int)+x.2)] w.heap.size q _ (wr.heap.size+1) 0 1 rfl rfl HPA.out (HV.out.below HP2.out) (by simp;omega) (by simp;omega) (by simp;omega) ?_;intro v' w3 hown3 hg3;have HO3:=Zh hown3;have HG3:=Zh hg3;clear hown3 hg3)
   go_roundw
   case rel=>exact⟨k+1,by omega,by go_num,by rw [<- HS.out];exact HO3.out,HB.out.trans ((HP2.out.mono hzr).trans HG3.out.below)⟩
   case measure=>simp [intOf];omega
  ·have hqe:q=l.map (shP f):=by rw [<- HQ.out,List.take_of_length_le (by omega)]
   subst hqe
   have hki:¬ (k:Int)<(l.length:Int):=by omega
   go_wp2_with (go_at_call 97;refine (sortPr _ (l.map (shP f)) (Zf2 (l.map (shP f))) w.heap.size _ HV.out (by omega) HM.out.1 HM.out.2.1 HM.out.2.2.1 HM.out.2.2.2.1).mono ?_;rintro e w4 ⟨rfl,hown4,hb4⟩;have HO4:=Zh hown4;have HB4:=Zh hb4;clear hown4 hb4)
   go_ret
   exact⟨_,rfl,HO4.out,HB.out.trans HB4.out⟩
end
end
theorem Z41 {r r':Rn}{c:List Ins}{k n:Nat}{x:Ins}(hk:k<c.length)(hl:Zhc c k x<c.length)(h:brL r c k x=some (r',n)):n<=c.length:=by
 unfold brL at h
 simp only [] at h
 split at h
 ·split at h
  ·cases h
  ·simp only [Option.some.injEq,Prod.mk.injEq] at h;omega
 ·simp only [Option.some.injEq,Prod.mk.injEq] at h
  obtain⟨_,h2⟩:=h
  cases hu:Zak (rgA r x.a).h (rgA r x.b).h <;> rw [hu] at h2 <;> simp at h2 <;> omega
theorem Zy0 {C:Cx}{nr:Nat}{r:Rn}{c:List Ins}{k:Nat}{x:Ins}{p:Rn×Nat}(hk:c[k]?=some x)(hv:Zp7 C nr c k x)(h:Zbk C r c k x=some p):p.2<=c.length:=by
 have hkl:=(List.getElem?_eq_some_iff.1 hk).1
 unfold Zbk at h
 split at h
 ·obtain⟨a,_,rfl⟩:=Option.map_eq_some_iff.1 h;simp;omega
 split at h
 ·obtain⟨a,_,rfl⟩:=Option.map_eq_some_iff.1 h;simp;omega
 split at h
 ·simp only [Option.some.injEq] at h;subst h;simp;omega
 split at h
 ·simp only [Option.some.injEq] at h;subst h;simp;omega
 split at h
 ·simp only [Option.some.injEq] at h;subst h;simp;omega
 split at h
 ·simp only [Option.some.injEq] at h;subst h;simp;omega
 split at h
 ·obtain⟨a,_,rfl⟩:=Option.map_eq_some_iff.1 h;simp;omega
 split at h
 ·simp only [Option.some.injEq] at h;subst h;simp;omega
 split at h
 ·rename_i h11
  obtain⟨r',n⟩:=p
  exact Z41 hkl (hv.lab h11) h
 ·simp only [Option.some.injEq] at h;subst h;simp;omega
theorem Zmz {C:Cx}{nr:Nat}{c:List Ins}(hval:∀ k x,c[k]?=some x->Zp7 C nr c k x):∀ (n k:Nat) (r r':Rn),c.length - k<=n->k<=c.length->Inv C nr k r->goL C c k r=some r'->Inv C nr c.length r':=by
 intro n
 induction n with
 | zero=>
  intro k r r' hn hk hI hg
  rw [Zkc (by omega)] at hg
  exact m_145
 | succ n ih=>
  intro k r r' hn hk hI hg
  by_cases hkl:k<c.length
  ·have hx:=List.getElem?_eq_getElem hkl
   cases hf:r.full with
   | true=>
    rw [Zji hf] at hg
    exact m_145
   | false=>
    cases hs:Zbk C r c k c[k] with
    | none=>rw [Zjm hx hf hs] at hg;cases hg
    | some p=>
     rw [Zje hx hf hs] at hg
     have hgt:=Zjd hs
     exact ih p.2 p.1 r' (by omega) (Zy0 hx (hval k _ hx) hs) (hI.step (hval k _ hx) hs) hg
  ·rw [Zkc (by omega)] at hg
   exact m_145
theorem Zyl (k nr:Nat)(init:List Ini):(Zwr k nr init).length=nr:=by
 unfold Zwr
 have key:∀ (l:List Ini) (L:List Rg),(l.foldl (Zfr k) L).length=L.length:=by
  intro l
  induction l with
  | nil=>intro L;rfl
  | cons x l ih=>intro L;rw [List.foldl_cons,ih];unfold Zfr;split <;> simp
 rw [key,List.length_replicate]
theorem Zx1 {P:Rg->Prop}(k nr:Nat)(init:List Ini)(h0:P ⟨.num 0,0⟩)(h:∀ x∈init,x.th=(k:Int)->P (Zpm x)):∀ y∈Zwr k nr init,P y:=by
 unfold Zwr
 have key:∀ (l:List Ini) (L:List Rg),(∀ x∈l,x.th=(k:Int)->P (Zpm x))->(∀ y∈L,P y)->∀ y∈l.foldl (Zfr k) L,P y:=by
  intro l
  induction l with
  | nil=>intro L _ hL;exact hL
  | cons x l ih=>
   intro L hl hL
   rw [List.foldl_cons]
   refine ih _ (fun x hx=>hl x (List.mem_cons_of_mem _ hx)) (fun y hy=>?_)
   unfold Zfr at hy
   split at hy
   ·rename_i hth
    rcases List.mem_or_eq_of_mem_set hy with h1 | rfl
    ·exact hL y h1
    ·exact hl x List.mem_cons_self hth
   ·exact hL y hy
 exact key init _ h (fun y hy=>by rw [List.eq_of_mem_replicate hy];exact h0)
theorem Z26 {T:Tst}(hE:Za5 T=0){C:Cx}(hC:C.locs=Zas T)(hahead:C.ahead<=64)(k:Nat):Inv C (Zfz (isR T)) 0 (rn0 (isR T) T.init k):=by
 refine⟨Zx1 _ _ _ ⟨show Zdj 0 by unfold Zdj;omega,Rds.zero _⟩ (fun x hx hth=>?_),Zyl _ _ _,Rds.zero _,by simpa [rn0] using hahead,Nat.le_refl _,⟨List.Pairwise.nil,(fun p hp=>by cases hp),Nat.zero_le _⟩,⟨List.Pairwise.nil,(fun p hp=>by cases hp),Nat.zero_le _⟩,⟨List.Pairwise.nil,(fun p hp=>by cases hp),Nat.zero_le _⟩,(fun p hp=>by cases hp)⟩
 have hr:=(Znu hE hx).reg (by omega)
 unfold Zpm
 split
 ·rename_i hv
  exact⟨hr.2.2.1 hv,Rds.zero _⟩
 ·rename_i hv
  exact⟨by show x.vl∈C.locs;rw [hC];exact hr.2.2.2 hv,Rds.zero _⟩
theorem Zqs:∀ (l m:List (Int×Int)),l.Nodup->(∀ x∈l,x∈m)->l.length<=m.length
 | [],_,_,_=>Nat.zero_le _
 | x :: l,m,hn,hs=>by
  have hx:=hs x List.mem_cons_self
  have hn2:=List.nodup_cons.1 hn
  have h1:=Zqs l (m.erase x) hn2.2 (fun y hy=>by
   have hne:y≠x:=fun e=>hn2.1 (e ▸ hy)
   exact (List.mem_erase_of_ne hne).2 (hs y (List.mem_cons_of_mem _ hy)))
  have h2:=List.length_erase_of_mem hx
  have h3:=List.length_pos_of_mem hx
  simp only [List.length_cons]
  omega
theorem Zgn (evs:List Evt)(n f:Nat)(l:List (Int×Int))(h:Zfk evs n l)(hf:f+n<=64):(Zf2 (l.map (shP f))).length<=4096:=by
 obtain⟨_,hnd,hpw,hmem,_⟩:=h.moved hf
 have hnd2:(Zf2 (l.map (shP f))).Nodup:=hpw.imp (fun {a b} hab e=>by subst e;unfold Zo6 at hab;omega)
 have h1:=Zqs _ _ hnd2 (fun x hx=>(hmem x).1 hx)
 have h2:=h.len
 rw [List.length_map] at h1
 omega
theorem Zu1 {a k t r:Int}{l:List UInt8}{v:Int}{n:Nat}(h:Zfw a k t r l v n=true):∀ x∈atL k t r l,Zba a x.1 x.2.1 x.2.2=true:=by
 intro x hx
 unfold atL at hx
 split at hx
 ·rename_i h2
  exact m_125
 ·simp at hx
theorem Zib {a:Int}:∀ f:Fr,okF a f->∀ x∈Za2 f,Zba a x.1 x.2.1 x.2.2=true
 | .nil,_,x,hx=>by simp [Za2] at hx
 | .cons k t r l v kids rest,h,x,hx=>by
  simp only [Za2,List.mem_append] at hx
  rcases hx with (hx | hx) | hx
  ·exact Zu1 h.1 x hx
  ·exact Zib kids h.2.1 x hx
  ·exact Zib rest h.2.2 x hx
theorem Zz9 {T:Tst}(hE:Za5 T=0){x:Th}(hx:x∈Za8 T):Zba T.arch x.1 x.2.1 x.2.2=true:=by
 obtain⟨_,_,_,h1,h2,_⟩:=Zo8 (Zbe hE).2.2.2.2.2.1
 unfold Za8 Zlt at hx
 split at hx
 ·rcases List.mem_append.1 (Zqt _ x hx) with h | h
  ·exact Zu1 h1 x h
  ·exact Zib _ h2 x h
 ·cases hx
theorem Zt9 {T:Tst}(hE:Za5 T=0){x:Th}(hx:x∈Za8 T)(h1:x.1≠-1):0<=x.1/\0<=x.2.1/\x.2.1<Zfz (isR T):=by
 have h:=Zz9 hE hx
 unfold Zba at h
 rw [if_neg h1] at h
 simp only [Bool.and_eq_true,decide_eq_true_eq] at h
 have ha:=(Zbe hE).2.2.1
 refine⟨h.1.1.1.1,h.1.1.2,?_⟩
 have h2:=h.1.2
 rcases Zlb ha with ⟨e1,e2⟩ | ⟨e1,e2⟩
 ·rw [e2];unfold regs at h2;rw [if_pos e1] at h2;exact h2
 ·rw [e2];unfold regs at h2;rw [if_neg (by omega)] at h2;exact h2
theorem Zwh {T:Tst}(hE:Za5 T=0){x:Th}(hx:x∈Za8 T)(h1:x.1=-1):x.2.2∈Zas T:=by
 have h:=Zz9 hE hx
 unfold Zba at h
 rw [if_pos h1] at h
 simp only [Bool.and_eq_true] at h
 unfold Zas
 rw [Zgc]
 refine⟨?_,Zhe h.2⟩
 unfold Zel
 rw [List.mem_append,List.mem_append]
 exact Or.inr (Or.inr (List.mem_map.2 ⟨x,hx,rfl⟩))
structure Zwp (nt k:Nat) (a:Tr):Prop where
 evs:a.evs.length<=64
 bars:a.bars.length<=256*k
 addr:a.addr.length<=4096*k
 data:a.data.length<=4096*k
 hang:a.hang.length<=4096*k
 ends : a.ends.length = nt
theorem Z1n (T:Tst):Zwp (Za8 T).length 0 (tr0 (Za8 T)):=⟨by simp [tr0],by simp [tr0],by simp [tr0],by simp [tr0],by simp [tr0],by simp [tr0]⟩
theorem Zwp.join {nt k nr m:Nat}{a:Tr}{C:Cx}{r:Rn}{es:List (Int×Int)}(h:Zwp nt k a)(hC:C.ahead=a.evs.length)(hI:Inv C nr m r)(hm:m<=256)(he:es.length=nt):Zwp nt (k+1) (Zh5 a r es):=by
 have h1:=hI.room
 have h2:=hI.bars
 have h3:=Zgn _ _ a.evs.length _ hI.addr (by omega)
 have h4:=Zgn _ _ a.evs.length _ hI.data (by omega)
 have h5:=Zgn _ _ a.evs.length _ hI.hang (by omega)
 have:=h.bars
 have:=h.addr
 have:=h.data
 have:=h.hang
 exact⟨by simp [Zh5];omega,by simp [Zh5];omega,by simp [Zh5];omega,by simp [Zh5];omega,by simp [Zh5];omega,he⟩
theorem Ziu (risc:Bool)(locs:List Nm)(init:List Ini)(ths:List Th)(k:Nat)(c:List Ins)(cs:List (List Ins))(a:Tr):Zhp risc locs init ths k (c :: cs) a=match Zrj risc locs init ths k c a with
  | .error e=>.error (e,k)
  | .ok a'=>Zhp risc locs init ths (k+1) cs a':=rfl
def Z6m (T:Tst):Except (Int×Nat) Tr->Except (Int×Nat) Tr
 | .error e=>.error e
 | .ok a=>.ok { a with ends:=Znv (Zas T) 0 (Za8 T) a.ends }
theorem Zj3 {T:Tst}(hE:Za5 T=0){X:Except (Int×Nat) Tr}(h:Zhp (isR T) (Zas T) T.init (Za8 T) 0 T.code (tr0 (Za8 T))=X):Zc8 T=Z6m T X:=by
 subst h
 unfold Zc8
 rw [if_neg (by simp [hE])]
 rfl
section
variable {risc:Bool} {locs:List Nm} {init:List Ini} {ths:List Th} {k f:Nat} {c:List Ins} {cs cs':List (List Ins)} {a a':Tr} {X:Except (Int×Nat) Tr} {e:Int} {r:Rn} {es:List (Int×Int)}
theorem Zen (h:Zhp risc locs init ths k cs a=X)(hd:cs=c :: cs')(he:Zrj risc locs init ths k c a=.error e):X=.error (e,k):=by
 subst h hd
 rw [Ziu,he]
theorem Zv5 (h:Zhp risc locs init ths k cs a=X)(hd:cs=c :: cs')(he:Zrj risc locs init ths k c a=.ok a'):Zhp risc locs init ths (k+1) cs' a'=X:=by
 subst h hd
 rw [Ziu,he]
theorem Zo3 (hf:a.evs.length=f)(h:goL ⟨k,risc,f,locs⟩ c 0 (rn0 risc init k)=none):Zrj risc locs init ths k c a=.error 150:=by
 subst hf
 unfold Zrj Z29
 rw [h]
theorem Zn5 (hf:a.evs.length=f)(h:goL ⟨k,risc,f,locs⟩ c 0 (rn0 risc init k)=some r)(hr:r.full=true):Zrj risc locs init ths k c a=.error 2:=by
 subst hf
 unfold Zrj Z29
 rw [h]
 simp [hr]
theorem Zhz (hf:a.evs.length=f)(h:goL ⟨k,risc,f,locs⟩ c 0 (rn0 risc init k)=some r)(hr:r.full=false)(he:Zd2 k f r 0 ths a.ends=none):Zrj risc locs init ths k c a=.error 150:=by
 subst hf
 unfold Zrj Z29
 rw [h]
 simp [hr,he]
theorem Ztw (hf:a.evs.length=f)(h:goL ⟨k,risc,f,locs⟩ c 0 (rn0 risc init k)=some r)(hr:r.full=false)(he:Zd2 k f r 0 ths a.ends=some es):Zrj risc locs init ths k c a=.ok (Zh5 a r es):=by
 subst hf
 unfold Zrj Z29
 rw [h]
 simp [hr,he]
end
def Zwz {α:Type}(E:Enc α)(t:TypeId)(B:Nat)(w:World)(v:Value)(l:List α):Prop:=∃ q,v=.slice (some ⟨q,0,none⟩) l.length l.length/\Blk w q t (E.flat l).toArray/\B<=q
theorem Zwz.keep {α:Type}{E:Enc α}{t:TypeId}{w w1:World}{B:Nat}{v:Value}{l:List α}(h:Zwz E t B w v l)(hk:∀ q,Blk w q t (E.flat l).toArray->w1.heap[q]?=w.heap[q]?):Zwz E t B w1 v l:=by
 obtain⟨q,h1,h2,h3⟩:=h
 exact⟨q,h1,(hk q h2).trans h2,h3⟩
structure Zsd where
 lo:Value
 ini:Value
 ev:Value
 br:Value
 ad:Value
 da:Value
 ct:Value
 th:Value
 en:Value
structure Zgv where
 lo:List Nm
 ini:List Int
 th:List Th
 a:Tr
structure Zb5 (w:World) (B O:Nat) (L:Zgv) (V:Zsd):Prop where
 blk:Blk w O 41 #[V.lo,V.ini,V.ev,V.br,V.ad,V.da,V.ct,V.th,V.en]
 hO:B<=O
 lo:Zcx.Own 9 B w V.lo L.lo
 ini:Zwz Zey 3 B w V.ini L.ini
 ev:Zp5.Own 50 B w V.ev L.a.evs
 br:Zm2.Own 79 B w V.br L.a.bars
 ad:Zbg.Own 52 B w V.ad L.a.addr
 da:Zbg.Own 52 B w V.da L.a.data
 ct:Zbg.Own 52 B w V.ct L.a.hang
 th:w.ownsRow B 25 3 V.th L.th.length (Zay L.th)
 en:Zwz Zbg 54 B w V.en L.a.ends
 a1:Zgs V.ad V.da
 a2:Zgs V.ad V.ct
 a3:Zgs V.da V.ct
namespace Zb5
variable {w w' w1:World} {B O:Nat} {L:Zgv} {V:Zsd} {v':Value}
theorem drew (h:Zb5 w B O L V):Zb5 w.drew B O L V:=⟨h.blk,h.hO,h.lo,h.ini,h.ev,h.br,h.ad,h.da,h.ct,h.th,h.en,h.a1,h.a2,h.a3⟩
theorem below (h:Zb5 w B O L V)(hb:Below w.heap.size w w'):Zb5 w' B O L V:=
 ⟨h.blk.go hb,h.hO,Zau h.lo hb,h.ini.keep (fun _ hq=>hb.block _ hq.lt),Zau h.ev hb,Zau h.br hb,Zau h.ad hb,Zau h.da hb,Zau h.ct hb,Zau h.th hb,h.en.keep (fun _ hq=>hb.block _ hq.lt),h.a1,h.a2,h.a3⟩
theorem ev_ (h:Zb5 w B O L V){l:List Evt}(hg:Zbn w w1 B V.ev v')(ho:Zp5.Own 50 B w1 v' l):Zb5 (w1.setCell ⟨O,2,none⟩ v') B O { L with a:={ L.a with evs:=l } } { V with ev:=v' }:=by
 have hb1:=Zat h.blk h.ev (by decide) hg
 exact⟨hb1.set_ 2 _,h.hO,Zaf (Zai h.lo h.ev (by decide) hg) hb1 (by decide) _ _,h.ini.keep (fun _ hq=>(Below.heap_setCell w1 _ _ _ (Zaz hq h.blk (by decide))).trans (hg.keep _ hq.lt (Zcj h.ev hq (by decide)))),Zaf ho hb1 (by decide) _ _,Zaf (Zai h.br h.ev (by decide) hg) hb1 (by decide) _ _,Zaf (Zai h.ad h.ev (by decide) hg) hb1 (by decide) _ _,Zaf (Zai h.da h.ev (by decide) hg) hb1 (by decide) _ _,Zaf (Zai h.ct h.ev (by decide) hg) hb1 (by decide) _ _,Zaf (Zai h.th h.ev (by decide) hg) hb1 (by decide) _ _,h.en.keep (fun _ hq=>(Below.heap_setCell w1 _ _ _ (Zaz hq h.blk (by decide))).trans (hg.keep _ hq.lt (Zcj h.ev hq (by decide)))),h.a1,h.a2,h.a3⟩
theorem br_ (h:Zb5 w B O L V){l:List Br}(hg:Zbn w w1 B V.br v')(ho:Zm2.Own 79 B w1 v' l):Zb5 (w1.setCell ⟨O,3,none⟩ v') B O { L with a:={ L.a with bars:=l } } { V with br:=v' }:=by
 have hb1:=Zat h.blk h.br (by decide) hg
 exact⟨hb1.set_ 3 _,h.hO,Zaf (Zai h.lo h.br (by decide) hg) hb1 (by decide) _ _,h.ini.keep (fun _ hq=>(Below.heap_setCell w1 _ _ _ (Zaz hq h.blk (by decide))).trans (hg.keep _ hq.lt (Zcj h.br hq (by decide)))),Zaf (Zai h.ev h.br (by decide) hg) hb1 (by decide) _ _,Zaf ho hb1 (by decide) _ _,Zaf (Zai h.ad h.br (by decide) hg) hb1 (by decide) _ _,Zaf (Zai h.da h.br (by decide) hg) hb1 (by decide) _ _,Zaf (Zai h.ct h.br (by decide) hg) hb1 (by decide) _ _,Zaf (Zai h.th h.br (by decide) hg) hb1 (by decide) _ _,h.en.keep (fun _ hq=>(Below.heap_setCell w1 _ _ _ (Zaz hq h.blk (by decide))).trans (hg.keep _ hq.lt (Zcj h.br hq (by decide)))),h.a1,h.a2,h.a3⟩
theorem ad_ (h:Zb5 w B O L V){l:List (Int×Int)}(hg:Zbn w w1 B V.ad v')(ho:Zbg.Own 52 B w1 v' l):Zb5 (w1.setCell ⟨O,4,none⟩ v') B O { L with a:={ L.a with addr:=l } } { V with ad:=v' }:=by
 have hb1:=Zat h.blk h.ad (by decide) hg
 exact⟨hb1.set_ 4 _,h.hO,Zaf (Zai h.lo h.ad (by decide) hg) hb1 (by decide) _ _,h.ini.keep (fun _ hq=>(Below.heap_setCell w1 _ _ _ (Zaz hq h.blk (by decide))).trans (hg.keep _ hq.lt (Zcj h.ad hq (by decide)))),Zaf (Zai h.ev h.ad (by decide) hg) hb1 (by decide) _ _,Zaf (Zai h.br h.ad (by decide) hg) hb1 (by decide) _ _,Zaf ho hb1 (by decide) _ _,Zaf (Zbc h.da h.a1.symm hg) hb1 (by decide) _ _,Zaf (Zbc h.ct h.a2.symm hg) hb1 (by decide) _ _,Zaf (Zai h.th h.ad (by decide) hg) hb1 (by decide) _ _,h.en.keep (fun _ hq=>(Below.heap_setCell w1 _ _ _ (Zaz hq h.blk (by decide))).trans (hg.keep _ hq.lt (Zcj h.ad hq (by decide)))),(h.a1.symm.grew h.da hg).symm,(h.a2.symm.grew h.ct hg).symm,h.a3⟩
theorem da_ (h:Zb5 w B O L V){l:List (Int×Int)}(hg:Zbn w w1 B V.da v')(ho:Zbg.Own 52 B w1 v' l):Zb5 (w1.setCell ⟨O,5,none⟩ v') B O { L with a:={ L.a with data:=l } } { V with da:=v' }:=by
 have hb1:=Zat h.blk h.da (by decide) hg
 exact⟨hb1.set_ 5 _,h.hO,Zaf (Zai h.lo h.da (by decide) hg) hb1 (by decide) _ _,h.ini.keep (fun _ hq=>(Below.heap_setCell w1 _ _ _ (Zaz hq h.blk (by decide))).trans (hg.keep _ hq.lt (Zcj h.da hq (by decide)))),Zaf (Zai h.ev h.da (by decide) hg) hb1 (by decide) _ _,Zaf (Zai h.br h.da (by decide) hg) hb1 (by decide) _ _,Zaf (Zbc h.ad h.a1 hg) hb1 (by decide) _ _,Zaf ho hb1 (by decide) _ _,Zaf (Zbc h.ct h.a3.symm hg) hb1 (by decide) _ _,Zaf (Zai h.th h.da (by decide) hg) hb1 (by decide) _ _,h.en.keep (fun _ hq=>(Below.heap_setCell w1 _ _ _ (Zaz hq h.blk (by decide))).trans (hg.keep _ hq.lt (Zcj h.da hq (by decide)))),h.a1.grew h.ad hg,h.a2,(h.a3.symm.grew h.ct hg).symm⟩
theorem ct_ (h:Zb5 w B O L V){l:List (Int×Int)}(hg:Zbn w w1 B V.ct v')(ho:Zbg.Own 52 B w1 v' l):Zb5 (w1.setCell ⟨O,6,none⟩ v') B O { L with a:={ L.a with hang:=l } } { V with ct:=v' }:=by
 have hb1:=Zat h.blk h.ct (by decide) hg
 exact⟨hb1.set_ 6 _,h.hO,Zaf (Zai h.lo h.ct (by decide) hg) hb1 (by decide) _ _,h.ini.keep (fun _ hq=>(Below.heap_setCell w1 _ _ _ (Zaz hq h.blk (by decide))).trans (hg.keep _ hq.lt (Zcj h.ct hq (by decide)))),Zaf (Zai h.ev h.ct (by decide) hg) hb1 (by decide) _ _,Zaf (Zai h.br h.ct (by decide) hg) hb1 (by decide) _ _,Zaf (Zbc h.ad h.a2 hg) hb1 (by decide) _ _,Zaf (Zbc h.da h.a3 hg) hb1 (by decide) _ _,Zaf ho hb1 (by decide) _ _,Zaf (Zai h.th h.ct (by decide) hg) hb1 (by decide) _ _,h.en.keep (fun _ hq=>(Below.heap_setCell w1 _ _ _ (Zaz hq h.blk (by decide))).trans (hg.keep _ hq.lt (Zcj h.ct hq (by decide)))),h.a1,h.a2.grew h.ad hg,h.a3.grew h.da hg⟩
end Zb5
theorem Zn2 (l:List Int)(i:Nat)(n:Int)(h:i<l.length):(Zey.flat l).toArray.setIfInBounds i (.int .i64 n)=(Zey.flat (l.set i n)).toArray:=by
 apply Array.ext'
 apply List.ext_getElem?
 intro m
 have hl:(Zey.flat l).length=l.length*1:=Zey.flat_len l
 rw [show ((Zey.flat (l.set i n)).toArray.toList)=Zey.flat (l.set i n) from rfl,Zeu Zey l i n m h]
 simp only [Array.toList_setIfInBounds,List.getElem?_set]
 show _=if i*1<=m/\m<i*1+1 then _ else _
 by_cases hm:m=i
 ·subst hm
  rw [if_pos rfl,if_pos (by omega),if_pos (by omega)]
  show _=(Zey.enc n)[m - m*1]?
  rw [show m - m*1=0 by omega];rfl
 ·rw [if_neg (Ne.symm hm),if_neg (by omega)]
theorem Zon (l:List (Int×Int))(i:Nat)(x:Int×Int)(h:i<l.length):(((Zbg.flat l).toArray.setIfInBounds (i*2) (.int .i64 x.1)).setIfInBounds (i*2+1) (.int .i64 x.2))=(Zbg.flat (l.set i x)).toArray:=by
 apply Array.ext'
 apply List.ext_getElem?
 intro m
 have hl:(Zbg.flat l).length=l.length*2:=Zbg.flat_len l
 rw [show ((Zbg.flat (l.set i x)).toArray.toList)=Zbg.flat (l.set i x) from rfl,Zeu Zbg l i x m h]
 simp only [Array.toList_setIfInBounds,List.getElem?_set,List.length_set]
 show _=if i*2<=m/\m<i*2+2 then _ else _
 by_cases h0:m=i*2
 ·subst h0
  rw [if_neg (by omega),if_pos rfl,if_pos (by rw [hl];omega),if_pos (by omega)]
  show _=(Zbg.enc x)[i*2 - i*2]?
  rw [Nat.sub_self];rfl
 ·by_cases h1:m=i*2+1
  ·subst h1
   rw [if_pos rfl,if_pos (by rw [hl];omega),if_pos (by omega)]
   show _=(Zbg.enc x)[i*2+1 - i*2]?
   rw [show i*2+1 - i*2=1 by omega];rfl
  ·rw [if_neg (fun e=>h1 e.symm),if_neg (fun e=>h0 e.symm),if_neg (by omega)]
namespace Zb5
variable {w w' w1:World} {B O:Nat} {L:Zgv} {V:Zsd} {v':Value}
theorem en_ (h:Zb5 w B O L V){i q:Nat}{x:Int×Int}(hi:i<L.a.ends.length)(hq:V.en=.slice (some ⟨q,0,none⟩) L.a.ends.length L.a.ends.length):Zb5 ((w.setCell ⟨q,i*2,none⟩ (.int .i64 x.1)).setCell ⟨q,i*2+1,none⟩ (.int .i64 x.2)) B O { L with a:={ L.a with ends:=L.a.ends.set i x } } V:=by
 obtain⟨q',e,hb,hB⟩:=h.en
 rw [hq] at e
 simp only [Value.slice.injEq,Option.some.injEq,Addr.mk.injEq,and_true] at e
 obtain⟨rfl,_⟩:=e
 have k0:=hb.set_ (i*2) (.int .i64 x.1)
 have k1:=k0.set_ (i*2+1) (.int .i64 x.2)
 rw [Zon _ _ _ hi] at k1
 exact⟨(h.blk.far (Zaz h.blk hb (by decide)) _).far (Zaz h.blk hb (by decide)) _,h.hO,Zaf (Zaf h.lo hb (by decide) _ _) k0 (by decide) _ _,(h.ini.keep (fun _ hq2=>Below.heap_setCell w _ _ _ (Zaz hq2 hb (by decide)))).keep (fun _ hq2=>Below.heap_setCell _ _ _ _ (Zaz hq2 k0 (by decide))),Zaf (Zaf h.ev hb (by decide) _ _) k0 (by decide) _ _,Zaf (Zaf h.br hb (by decide) _ _) k0 (by decide) _ _,Zaf (Zaf h.ad hb (by decide) _ _) k0 (by decide) _ _,Zaf (Zaf h.da hb (by decide) _ _) k0 (by decide) _ _,Zaf (Zaf h.ct hb (by decide) _ _) k0 (by decide) _ _,Zaf (Zaf h.th hb (by decide) _ _) k0 (by decide) _ _,
  ⟨q,by rw [hq,List.length_set],k1,hB⟩,h.a1,h.a2,h.a3⟩
end Zb5
structure Zei (B1:Nat) (w w':World):Prop where
 size:w.heap.size<=w'.heap.size
 keep:∀ b,B1<=b->b<w.heap.size->w'.heap[b]?=w.heap[b]?
theorem Zei.trans {B1:Nat}{w w1 w2:World}(h:Zei B1 w w1)(k:Zei B1 w1 w2):Zei B1 w w2:=⟨Nat.le_trans h.size k.size,fun b h1 h2=>(k.keep b h1 (Nat.lt_of_lt_of_le h2 h.size)).trans (h.keep b h1 h2)⟩
theorem Zei.grew {B1 B:Nat}{w w1:World}{v v':Value}(hg:Zbn w w1 B v v')(hv:∀ b,v.ownBlock=some b->b<B1):Zei B1 w w1:=⟨hg.below.size,fun b h1 h2=>hg.keep b h2 (fun e=>by have:=hv b e;omega)⟩
theorem Zei.set {B1 q:Nat}(w:World)(i:Nat)(u:Value)(hq:q<B1):Zei B1 w (w.setCell ⟨q,i,none⟩ u):=⟨by simp,fun b h1 _=>Below.heap_setCell w _ _ _ (fun e=>by simp only at e;omega)⟩
theorem Zf4 {w w1:World}{B:Nat}{t:TypeId}{z n:Nat}{v:Value}{cs:List Value}(h:w.ownsRow B t z v n cs)(ha:Zei B w w1):w1.ownsRow B t z v n cs:=
 Zep h fun b hb=>by
  obtain⟨_,k,hB⟩:=Zgt h hb
  exact ha.keep b hB (Ze3 h hb)
theorem Za1.above {w w':World}{B g:Nat}{S:Zgi}{r:Rn}{V:Zd3}(h:Za1 w B g S r V)(ha:Zei B w w'):Za1 w' B g S r V:=
 ⟨(ha.keep g h.hg h.blk.lt).trans h.blk,h.hg,(by obtain⟨q,h1,h2,h3⟩:=h.regs;exact⟨q,h1,(ha.keep q h3 h2.lt).trans h2,h3⟩),Zf4 h.evs ha,Zf4 h.bars ha,Zf4 h.addr ha,Zf4 h.data ha,Zf4 h.hang ha,h.a1,h.a2,h.a3⟩
theorem Zb5.lt {w:World}{B O:Nat}{L:Zgv}{V:Zsd}(h:Zb5 w B O L V):(∀ b,V.ev.ownBlock=some b->b<w.heap.size)/\(∀ b,V.br.ownBlock=some b->b<w.heap.size)/\(∀ b,V.ad.ownBlock=some b->b<w.heap.size)/\(∀ b,V.da.ownBlock=some b->b<w.heap.size)/\(∀ b,V.ct.ownBlock=some b->b<w.heap.size):=
 ⟨fun _ e=>Ze3 h.ev e,fun _ e=>Ze3 h.br e,fun _ e=>Ze3 h.ad e,fun _ e=>Ze3 h.da e,fun _ e=>Ze3 h.ct e⟩
theorem Zkf (l:List Int):Zbo l=(Zey.flat l).toArray:=by
 unfold Zbo Enc.flat
 induction l with
 | nil=>rfl
 | cons x l ih=>simp_all
theorem Z50 (n:Nat):madeCells #[.int .i64 0,.int .i64 0] (n*2)=(Zbg.flat (List.replicate n ((0:Int),(0:Int)))).toArray:=by
 apply Array.ext'
 apply List.ext_getElem?
 intro m
 have hl:(Zbg.flat (List.replicate n ((0:Int),(0:Int)))).length=n*2:=by rw [Zbg.flat_len,List.length_replicate]
 by_cases hm:m<n*2
 ·have h1:m / 2<n:=by omega
  have h2:(List.replicate n ((0:Int),(0:Int)))[m / 2]?=some (0,0):=by simp [h1]
  have h3:=Zbg.flat_at h2 (show m % 2<2 by omega)
  rw [show m / 2*Zbg.size+m % 2=m by show m / 2*2+m % 2=m;omega] at h3
  rw [show (Zbg.flat (List.replicate n ((0:Int),(0:Int)))).toArray.toList=Zbg.flat (List.replicate n ((0:Int),(0:Int))) from rfl,h3]
  unfold madeCells
  have hc:m % 2=0\/m % 2=1:=by omega
  rcases hc with hc | hc <;> simp [hc,hm]
 ·rw [List.getElem?_eq_none (by simp [madeCells];omega),List.getElem?_eq_none (by simp [hl];omega)]
theorem Z3r:(Tryz.prog.info? 54).map (fun i=>(i.zero,i.size,i.bytes))=some (some (.agg #[.int .i64 0,.int .i64 0]),2,16):=by kernel_rfl
theorem Ztb (n:Nat)(hn:n<=1024)(w:World):(Instr.makeSlice 39 (.int .i64 (n:Int)) (.int .i64 (n:Int))).run Tryz.prog w=.ok (.slice (some ⟨w.heap.size,0,none⟩) n n) (w.alloc (.cells (Zbg.flat (List.replicate n ((0:Int),(0:Int)))).toArray 54 (0,0))):=by
 obtain⟨i0,hi,hz0,hz1,hz2⟩:=Zc5 Z3r
 have h:=run_make (P:=Tryz.prog) w 39 54 i0 _ Tryz.underlying39 hi hz0 .i64 .i64 (n:Int) (n:Int) (by omega) (Int.le_refl _) (by rw [hz2];omega) (by omega)
 rw [h,hz1]
 simp only [Int.toNat_natCast]
 rw [show (Value.agg #[.int .i64 0,.int .i64 0]).cells=#[.int .i64 0,.int .i64 0] from rfl,Z50]
section
def Zoa:Zd6->Int
 | .rd i=>(i:Int)
 | _=>0
def Zo2:Zd6->Bool
 | .rd _=>true
 | _=>false
theorem taT (w:World):∀ h:Zd6,(Instr.typeAssert (Zag h) 161 171 true).run Tryz.prog w=.ok (.tuple #[.int .i64 (Zoa h),.bool (Zo2 h)]) w
 | .num _=>Z45 _ w
 | .adr _=>Z4w _ w
 | .rd _=>Z3s _ w
 | .non=>Z3j _ w
def Zun (o:Option (Int×Int)):Value:=match o with
 | some p=>.tuple #[.agg #[.int .i64 p.1,.int .i64 p.2],.bool true]
 | none=>.tuple #[.agg #[.int .i64 0,.int .i64 0],.bool false]
section
set_option maxHeartbeats 4000000
set_option maxRecDepth 100000
variable {w0 w:World} {g nr k:Nat} {S:Zgi} {r:Rn} {V:Zd3}
theorem Z68 (d first:Nat)(x:Rg)(hfi:first<=64)(hx0:∀ i,x.h=.rd i->i<=64)(hR:Za1 w w0.heap.size g S r V)(hx:r.regs[d]?=some x) :
  Calls Tryz.prog 34 #[.pointer (some ⟨g,0,none⟩),.int .i64 (d:Int),.int .i64 (first:Int)] w fun e w'=>e=.returned (Zun (Zr7 first x.h))/\Below w.heap.size w w':=by
 obtain⟨q,hvr,hqb,hqB⟩:=hR.regs
 have hdl:=(List.getElem?_eq_some_iff.1 hx).1
 have hi1:(0:Int)<=(d:Int):=by omega
 have hi2:(d:Int)<(r.regs.length:Int):=by omega
 obtain⟨c0,c1,c2,c3,c4⟩:=Zbq hqb hx
 have k14:w.cell? ⟨g,14,none⟩=some (.slice (some ⟨q,0,none⟩) r.regs.length r.regs.length):=by rw [<- hvr];exact hR.blk.cell 14
 have hqw:=hqb.lt
 have hgw:g<w.heap.size:=hR.blk.lt
 obtain⟨xh,xo⟩:=x
 simp only at hx0 c0 ⊢
 clear hR hqb hx c1 c2 c3 c4
 cases xh with
 | num n=>
  have q1:=fun w=>taN w (.num n)
  have q2:=fun w=>taT w (.num n)
  simp only [Znb,Zl5,Zoa,Zo2] at q1 q2
  go_enter Tryz.func34,Tryz.ntmps34
  go_wp2_with fail
  have z0:=Zb2 w #[.int .i64 1,.int .i64 n] 54 (0,0) 0
  have z1:=Zb2 w #[.int .i64 1,.int .i64 n] 54 (0,0) 1
  refine bodyPost_ret (v:=.tuple #[.agg #[.int .i64 1,.int .i64 n],.bool true]) (by simp [results,Tryz.results34,go_sem,z0,z1]) rfl ⟨rfl,Zad _ _⟩
 | rd i=>
  have q1:=fun w=>taN w (.rd i)
  have q2:=fun w=>taT w (.rd i)
  simp only [Znb,Zl5,Zoa,Zo2] at q1 q2
  have hi3:(0:Int)<=(i:Int):=by omega
  have hi4:(i:Int)<=64:=by have:=hx0 i rfl;omega
  have hi5:(first:Int)<=64:=by omega
  go_enter Tryz.func34,Tryz.ntmps34
  go_wp2_with fail
  have z0:=Zb2 w #[.int .i64 2,.int .i64 ((first:Int)+(i:Int))] 54 (0,0) 0
  have z1:=Zb2 w #[.int .i64 2,.int .i64 ((first:Int)+(i:Int))] 54 (0,0) 1
  refine bodyPost_ret (v:=.tuple #[.agg #[.int .i64 2,.int .i64 ((first:Int)+(i:Int))],.bool true]) (by simp [results,Tryz.results34,go_sem,z0,z1]) rfl ⟨by simp [Zr7,Zun],Zad _ _⟩
 | adr s=>
  have q1:=fun w=>taN w (.adr s)
  have q2:=fun w=>taT w (.adr s)
  exact m_42
 | non=>
  have q1:=fun w=>taN w .non
  have q2:=fun w=>taT w .non
  exact m_42
end
end
theorem Z2e (f:Nat){n:Nat}{evs:List Evt}{l:List (Int×Int)}(h:Zfk evs n l):∀ p∈l.map (shP f),(f:Int)<=p.1:=fun p hp=>by
 obtain⟨q,hq,rfl⟩:=List.mem_map.1 hp
 obtain⟨i,j,rfl,_⟩:=h.at_ q hq
 show (f:Int)<=(f:Int)+(i:Int)
 omega
theorem Z0u {f:Nat}{evs:List Evt}{l:List (Int×Int)}(h:Zfk evs evs.length l):∀ p∈l.map (shP f),(f:Int)<=p.1/\p.1<(f:Int)+(evs.length:Int):=fun p hp=>by
 obtain⟨q,hq,rfl⟩:=List.mem_map.1 hp
 obtain⟨i,j,rfl,_,hr,_⟩:=h.at_ q hq
 have:=hr.lt
 show (f:Int)<=(f:Int)+(i:Int)/\(f:Int)+(i:Int)<(f:Int)+(evs.length:Int)
 omega
structure Zpa (k:Nat) (a' a:Tr):Prop where
 evs:a'.evs=a.evs
 bars:a'.bars=a.bars
 ends : a'.ends = a.ends
 addr:Zf2 a'.addr=a.addr
 data:Zf2 a'.data=a.data
 hang:Zf2 a'.hang=a.hang
 l1:∀ p∈a'.addr,0<=p.1/\p.1<(a.evs.length:Int)
 l2:∀ p∈a'.data,0<=p.1/\p.1<(a.evs.length:Int)
 l3:∀ p∈a'.hang,0<=p.1/\p.1<(a.evs.length:Int)
 n1:a'.addr.length<=4096*k
 n2:a'.data.length<=4096*k
 n3:a'.hang.length<=4096*k
theorem Z4g (ths:List Th):Zpa 0 (tr0 ths) (tr0 ths):=by
 refine⟨rfl,rfl,rfl,?_,?_,?_,?_,?_,?_,?_,?_,?_⟩ <;> simp [tr0,Ze8]
def Z2v (a:Tr)(r:Rn)(es:List (Int×Int)):Tr:=
 ⟨a.evs++r.evs,a.bars++r.bars,a.addr++r.addr.map (shP a.evs.length),a.data++r.data.map (shP a.evs.length),a.hang++r.hang.map (shP a.evs.length),es⟩
theorem Zpa.join {k m nr:Nat}{a' a:Tr}{r:Rn}{C:Cx}{es:List (Int×Int)}(h:Zpa k a' a)(hC:C.ahead=a.evs.length)(hI:Inv C nr m r):Zpa (k+1) (Z2v a' r es) (Zh5 a r es):=by
 refine⟨?_,?_,rfl,?_,?_,?_,?_,?_,?_,?_,?_,?_⟩
 ·show a'.evs++r.evs=a.evs++r.evs
  rw [h.evs]
 ·show a'.bars++r.bars=a.bars++r.bars
  rw [h.bars]
 ·show Zf2 (a'.addr++r.addr.map (shP a'.evs.length))=a.addr++Zf2 (r.addr.map (shP a.evs.length))
  rw [h.evs,Zl9 (f:=a.evs.length) (fun p hp=>(h.l1 p hp).2) (Z2e _ hI.addr),h.addr]
 ·show Zf2 (a'.data++r.data.map (shP a'.evs.length))=a.data++Zf2 (r.data.map (shP a.evs.length))
  rw [h.evs,Zl9 (f:=a.evs.length) (fun p hp=>(h.l2 p hp).2) (Z2e _ hI.data),h.data]
 ·show Zf2 (a'.hang++r.hang.map (shP a'.evs.length))=a.hang++Zf2 (r.hang.map (shP a.evs.length))
  rw [h.evs,Zl9 (f:=a.evs.length) (fun p hp=>(h.l3 p hp).2) (Z2e _ hI.hang),h.hang]
 ·intro p hp
  rcases List.mem_append.1 hp with h1 | h1
  ·have:=h.l1 p h1
   exact m_137
  ·rw [h.evs] at h1
   have:=Z0u hI.addr p h1
   exact m_135
 ·intro p hp
  rcases List.mem_append.1 hp with h1 | h1
  ·have:=h.l2 p h1
   exact m_137
  ·rw [h.evs] at h1
   have:=Z0u hI.data p h1
   exact m_135
 ·intro p hp
  rcases List.mem_append.1 hp with h1 | h1
  ·have:=h.l3 p h1
   exact m_137
  ·rw [h.evs] at h1
   have:=Z0u hI.hang p h1
   exact m_135
 ·show (a'.addr++r.addr.map (shP a'.evs.length)).length<=_
  have h1:=h.n1
  have h2:=hI.addr.len
  exact m_144
 ·show (a'.data++r.data.map (shP a'.evs.length)).length<=_
  have h1:=h.n2
  have h2:=hI.data.len
  exact m_144
 ·show (a'.hang++r.hang.map (shP a'.evs.length)).length<=_
  have h1:=h.n3
  have h2:=hI.hang.len
  exact m_144
end Go.Proofs.YtoegmdnfbemppaaGreatDoor
