/- - -/
import Derived.Test.YtoegmdnfbemppaaGreatDoorTf36

namespace Go.Proofs.YtoegmdnfbemppaaGreatDoor
open Go.RowKit
abbrev Zft:Enc Bool:=⟨5,fun b=>[if b then .iface 159 (.int .i64 0) else .nilIface,.int .u64 0,.int .u64 0,.int .u64 0,.int .u64 0],fun _=>rfl,by omega,fun x u h=>by simp at h;rcases h with rfl | rfl;cases x <;> rfl;rfl⟩
def zl (i n:Nat):List Bool:=List.replicate i true++List.replicate (n - i) false
theorem Ztl {i n:Nat}(h:i<=n):(zl i n).length=n:=by simp [zl];omega
theorem Zzx {i n:Nat}(h:i<n):(zl i n).set i true=zl (i+1) n:=by
 unfold zl
 rw [List.set_append_right _ _ (by simp)]
 simp only [List.length_replicate,Nat.sub_self]
 rw [show n - i=(n - (i+1))+1 by omega,List.replicate_succ,List.set_cons_zero,List.replicate_succ',List.append_assoc]
 rfl
theorem Z3m {i n:Nat}(h:i<n):(zl i n)[i]?=some false:=by
 unfold zl
 rw [List.getElem?_append_right (by simp)]
 simp only [List.length_replicate,Nat.sub_self]
 rw [show n - i=(n - i - 1)+1 by omega,List.replicate_succ];rfl
theorem Zn4 (l:List Bool)(i:Nat)(h:i<l.length):(Zft.flat l).toArray.setIfInBounds (i*5) (.iface 159 (.int .i64 0))=(Zft.flat (l.set i true)).toArray:=by
 apply Array.ext'
 apply List.ext_getElem?
 intro m
 have hl:(Zft.flat l).length=l.length*5:=Zft.flat_len l
 rw [show ((Zft.flat (l.set i true)).toArray.toList)=Zft.flat (l.set i true) from rfl,Zeu Zft l i true m h]
 simp only [Array.toList_setIfInBounds,List.getElem?_set]
 show _=if i*5<=m/\m<i*5+5 then _ else _
 by_cases hm:i*5<=m/\m<i*5+5
 ·rw [if_pos hm]
  by_cases h0:m=i*5
  ·subst h0;simp [hl];omega
  ·rw [if_neg (by omega)]
   have hx:=Zft.flat_at (List.getElem?_eq_getElem h) (show m - i*5<5 by omega)
   rw [show i*Zft.size+(m - i*5)=m by show i*5+(m - i*5)=m;omega] at hx
   rw [hx]
   have hc:m - i*5=1\/m - i*5=2\/m - i*5=3\/m - i*5=4:=by omega
   show _=(Zft.enc true)[m - i*5]?
   rcases hc with hc | hc | hc | hc <;> rw [hc] <;> rfl
 ·rw [if_neg hm,if_neg (by omega)]
theorem Zli (n:Nat):Zft.flat (zl n n)=Zde.flat (List.replicate n ⟨.num 0,0⟩):=by
 unfold zl
 rw [Nat.sub_self,List.replicate_zero,List.append_nil]
 unfold Enc.flat
 rw [List.map_replicate,List.map_replicate]
 rfl
theorem Z5v (n:Nat):madeCells #[.nilIface,.int .u64 0,.int .u64 0,.int .u64 0,.int .u64 0] (n*5)=(Zft.flat (zl 0 n)).toArray:=by
 apply Array.ext'
 apply List.ext_getElem?
 intro m
 have hl:(Zft.flat (zl 0 n)).length=n*5:=by rw [Zft.flat_len,Ztl (Nat.zero_le n)]
 by_cases hm:m<n*5
 ·have h1:m / 5<n:=by omega
  have h2:(zl 0 n)[m / 5]?=some false:=by simp [zl,h1]
  have h3:=Zft.flat_at h2 (show m % 5<5 by omega)
  rw [show m / 5*Zft.size+m % 5=m by show m / 5*5+m % 5=m;omega] at h3
  rw [h3]
  unfold madeCells
  have hc:m % 5=0\/m % 5=1\/m % 5=2\/m % 5=3\/m % 5=4:=by omega
  rcases hc with hc | hc | hc | hc | hc <;> simp [hc,hm]
 ·rw [List.getElem?_eq_none (by simp [madeCells];omega),List.getElem?_eq_none (by simp [hl];omega)]
theorem Z4r:(Tryz.prog.info? 163).map (fun i=>(i.zero,i.size,i.bytes))=some (some (.agg #[.nilIface,.int .u64 0,.int .u64 0,.int .u64 0,.int .u64 0]),5,48):=by kernel_rfl
theorem Zvz (n:Nat)(hn:n<=1000)(w:World):(Instr.makeSlice 109 (.int .i64 (n:Int)) (.int .i64 (n:Int))).run Tryz.prog w=.ok (.slice (some ⟨w.heap.size,0,none⟩) n n) (w.alloc (.cells (Zft.flat (zl 0 n)).toArray 163 (0,0))):=by
 obtain⟨i0,hi,hz0,hz1,hz2⟩:=Zc5 Z4r
 have h:=run_make (P:=Tryz.prog) w 109 163 i0 _ Tryz.underlying109 hi hz0 .i64 .i64 (n:Int) (n:Int) (by omega) (Int.le_refl _) (by rw [hz2];omega) (by omega)
 rw [h,hz1]
 simp only [Int.toNat_natCast]
 rw [show (Value.agg #[.nilIface,.int .u64 0,.int .u64 0,.int .u64 0,.int .u64 0]).cells=#[.nilIface,.int .u64 0,.int .u64 0,.int .u64 0,.int .u64 0] from rfl,<- Z5v]
theorem Zup (l:List Rg)(i:Nat)(x:Rg)(h:l[i]?=some x)(v:Zd6):(Zde.flat l).toArray.setIfInBounds (i*5) (Zag v)=(Zde.flat (l.set i ⟨v,x.on⟩)).toArray:=by
 have hi:=(List.getElem?_eq_some_iff.1 h).1
 apply Array.ext'
 apply List.ext_getElem?
 intro m
 have hl:(Zde.flat l).length=l.length*5:=Zde.flat_len l
 rw [show ((Zde.flat (l.set i ⟨v,x.on⟩)).toArray.toList)=Zde.flat (l.set i ⟨v,x.on⟩) from rfl,Zeu Zde l i _ m hi]
 simp only [Array.toList_setIfInBounds,List.getElem?_set]
 show _=if i*5<=m/\m<i*5+5 then _ else _
 by_cases hm:i*5<=m/\m<i*5+5
 ·rw [if_pos hm]
  by_cases h0:m=i*5
  ·subst h0;simp [hl];omega
  ·rw [if_neg (by omega)]
   have hx:=Zde.flat_at h (show m - i*5<5 by omega)
   rw [show i*Zde.size+(m - i*5)=m by show i*5+(m - i*5)=m;omega] at hx
   rw [hx]
   have hc:m - i*5=1\/m - i*5=2\/m - i*5=3\/m - i*5=4:=by omega
   show _=(Zde.enc ⟨v,x.on⟩)[m - i*5]?
   rcases hc with hc | hc | hc | hc <;> rw [hc] <;> rfl
 ·rw [if_neg hm,if_neg (by omega)]
theorem Za1.has {w:World}{B g:Nat}{S:Zgi}{r:Rn}{V:Zd3}(h:Za1 w B g S r V){i q:Nat}{x:Rg}(hi:r.regs[i]?=some x)(hq:V.rg=.slice (some ⟨q,0,none⟩) r.regs.length r.regs.length)(v:Zd6) :
  Za1 (w.setCell ⟨q,i*5,none⟩ (Zag v)) B g S { r with regs:=r.regs.set i ⟨v,x.on⟩ } V:=by
 obtain⟨q',e,hb,hB⟩:=h.regs
 rw [hq] at e
 simp only [Value.slice.injEq,Option.some.injEq,Addr.mk.injEq,and_true] at e
 subst e
 have hgq:g≠q:=(Zaz hb h.blk (by decide)).symm
 have k1:=hb.set_ (i*5) (Zag v)
 rw [Zup r.regs i x hi v] at k1
 have ho:∀ {t:TypeId} {z n:Nat} {u:Value} {cs:List Value},w.ownsRow B t z u n cs->t≠163->(w.setCell ⟨q,i*5,none⟩ (Zag v)).ownsRow B t z u n cs:=fun h1 hne=>Zaf h1 hb hne _ _
 exact⟨h.blk.far hgq _,h.hg,⟨q,by rw [hq,List.length_set],k1,hB⟩,ho h.evs (by decide),ho h.bars (by decide),ho h.addr (by decide),ho h.data (by decide),ho h.hang (by decide),h.a1,h.a2,h.a3⟩
section
def Zcz:Zd6->Bool
 | .num n=>decide (n=0)
 | _=>false
def Zn3:Zd6->Bool
 | .num _=>true
 | _=>false
section
set_option maxHeartbeats 4000000
set_option maxRecDepth 100000
theorem Zhk (f:Nat)(x:Rg)(w:World):Calls Tryz.prog 246 #[Za3 f x] w fun e w'=>e=.returned (.bool (Zcz x.h))/\Below w.heap.size w w':=by
 obtain⟨h,on⟩:=x
 cases h with
 | num n=>
  simp only [Za3,Zax,Zb8,Zb7]
  have HB:=Zh (Zad w (.cells #[.int .i64 1,.int .i64 n,.string ⟨#[]⟩,.int .u64 ((on<<<f:Nat):Int)] 125 (0,0)))
  by_cases hn:n=0
  ·have e1:Zcz (.num n)=true:=by simp [Zcz,hn]
   rw [e1]
   subst hn
   exact m_117
  ·have e1:Zcz (.num n)=false:=by simp [Zcz,hn]
   have e2:(n == 0)=false:=by simpa using hn
   rw [e1]
   exact m_117
 | adr s=>
  simp only [Za3,Zax,Zb8,Zb7,Zcz]
  have HB:=Zh (Zad w (.cells #[.int .i64 2,.int .i64 0,.string ⟨s.toArray⟩,.int .u64 ((on<<<f:Nat):Int)] 125 (0,0)))
  exact m_117
 | rd i=>
  simp only [Za3,Zax,Zb8,Zb7,Zcz]
  have HB:=Zh (Zad w (.cells #[.int .i64 3,.int .i64 ((f+i:Nat):Int),.string ⟨#[]⟩,.int .u64 ((on<<<f:Nat):Int)] 125 (0,0)))
  exact m_117
 | non=>
  simp only [Za3,Zax,Zb8,Zb7,Zcz]
  have HB:=Zh (Zad w (.cells #[.int .i64 4,.int .i64 0,.string ⟨#[]⟩,.int .u64 ((on<<<f:Nat):Int)] 125 (0,0)))
  exact m_117
theorem Z58 (n:Int)(w:World):Calls Tryz.prog 247 #[.int .i64 n] w fun e w'=>e=.returned (.int .i64 (IntKind.i32.wrap n))/\w=w':=by
 go_enter Tryz.func247,Tryz.ntmps247
 go_wp2_with fail
 go_ret
 exact⟨Zah (by unfold wrap64 RowKit.wrap32 IntKind.wrap;simp [IntKind.bits,IntKind.signed];omega),rfl⟩
theorem Z5j (f:Nat)(x:Rg)(w:World):Calls Tryz.prog 40 #[Za3 f x] w fun e w'=>e=.returned (Zun (Zr7 f x.h))/\Below w.heap.size w w':=by
 obtain⟨h,on⟩:=x
 cases h with
 | num n=>
  simp only [Za3,Zax,Zb8,Zb7,Zr7,Zun]
  have HB:=Zh (Zad w (.cells #[.int .i64 1,.int .i64 n,.string ⟨#[]⟩,.int .u64 ((on<<<f:Nat):Int)] 125 (0,0)))
  go_enter Tryz.func40,Tryz.ntmps40
  go_wp2_with fail
  refine bodyPost_ret (v:=.tuple #[.agg #[.int .i64 1,.int .i64 n],.bool true]) (by simp [results,Tryz.results40,go_sem, *]) rfl ?_
  exact m_105
 | adr s=>
  simp only [Za3,Zax,Zb8,Zb7,Zr7,Zun]
  have HB:=Zh (Zad w (.cells #[.int .i64 2,.int .i64 0,.string ⟨s.toArray⟩,.int .u64 ((on<<<f:Nat):Int)] 125 (0,0)))
  exact m_49
 | rd i=>
  simp only [Za3,Zax,Zb8,Zb7,Zr7,Zun]
  have HB:=Zh (Zad w (.cells #[.int .i64 3,.int .i64 ((f+i:Nat):Int),.string ⟨#[]⟩,.int .u64 ((on<<<f:Nat):Int)] 125 (0,0)))
  go_enter Tryz.func40,Tryz.ntmps40
  go_wp2_with fail
  refine bodyPost_ret (v:=.tuple #[.agg #[.int .i64 2,.int .i64 ((f+i:Nat):Int)],.bool true]) (by simp [results,Tryz.results40,go_sem, *]) rfl ?_
  exact m_105
 | non=>
  simp only [Za3,Zax,Zb8,Zb7,Zr7,Zun]
  have HB:=Zh (Zad w (.cells #[.int .i64 4,.int .i64 0,.string ⟨#[]⟩,.int .u64 ((on<<<f:Nat):Int)] 125 (0,0)))
  exact m_49
theorem Z4c {l:List Nm}{s x:Nm}{i:Nat}(hi:i<l.idxOf s)(hx:l[i]?=some x):(x == s)=false:=by
 obtain⟨h1,rfl⟩:=List.getElem?_eq_some_iff.1 hx
 have:=List.not_of_lt_findIdx (p:=(· == s)) (xs:=l) hi
 simpa using this
theorem Zl0 (V:Zfl)(l:List Nm)(s:Nm)(w:World)(h:Zcx.At w V.lo.A l)(hn:V.lo.n=l.length)(hl:l.length<=64)(hs:s∈l):Calls Tryz.prog 37 #[Zgj V,.string ⟨s.toArray⟩] w fun e w'=>e=.returned (.int .i64 ((l.idxOf s:Nat):Int))/\Below w.heap.size w w':=by
 simp only [Zgj,Sl.v]
 obtain⟨Al,cl,hA⟩:∃ A c,V.lo=⟨A,l.length,c⟩:=⟨V.lo.A,V.lo.c,by rw [<- hn]⟩
 rw [hA] at h
 simp only at h
 rw [hA]
 simp only
 have hk:=List.idxOf_lt_length_of_mem hs
 obtain⟨j,hj⟩:∃ j,l.idxOf s=j:=⟨_,rfl⟩
 rw [hj] at hk ⊢
 have HJ:=Zh hj
 have HE:=Zh (show l[j]?=some s by rw [<- hj,List.getElem?_eq_getElem (by rw [hj];exact hk)];simp)
 have HA:=Zh h
 have HB0:=Zh (Zad w (.cells #[.slice Al l.length cl,V.ini.v,V.ev.v,V.br.v,V.ad.v,V.da.v,V.ct.v,V.th.v,V.en.v] 41 (0,0)))
 have HTB:=Zh (Blk.new w 41 #[.slice Al l.length cl,V.ini.v,V.ev.v,V.br.v,V.ad.v,V.da.v,V.ct.v,V.th.v,V.en.v])
 clear hj h hn hs hA
 go_enter Tryz.func37,Tryz.ntmps37
 go_wp2_with fail
 go_loopw [5] (fun v wr=>∃ i:Nat,i<=j/\v=.int .i64 i/\Below w.heap.size w wr/\Blk wr w.heap.size 41 #[.slice Al l.length cl,V.ini.v,V.ev.v,V.br.v,V.ad.v,V.da.v,V.ct.v,V.th.v,V.en.v]) (fun v _=>j - (intOf v).toNat)
 case atStart=>exact⟨0,Nat.zero_le _,rfl,HB0.out,HTB.out⟩
 case round=>
  obtain⟨i,hi,rfl,hb,ht⟩:=hrel
  have HB:=Zh hb
  have HT:=Zh ht
  have k0:wr.cell? ⟨w.heap.size,0,none⟩=some (.slice Al l.length cl):=ht.cell 0
  have hii:(0:Int)<=(i:Int):=by omega
  have hij:(i:Int)<(l.length:Int):=by omega
  clear hb ht HB0 HTB
  by_cases hlt:i<j
  ·obtain⟨x,hx⟩:∃ x,l[i]?=some x:=⟨_,List.getElem?_eq_getElem (by omega)⟩
   obtain⟨b,o,rfl,hc⟩:=HA.out i x hx
   have c0:wr.cell? ⟨b,o+i,none⟩=some (.string ⟨x.toArray⟩):=Zac (by have:=hc 0 _ rfl;rwa [show o+i*Zcx.size+0=o+i by show o+i*1+0=o+i;omega] at this) HB.out
   have e1:(x == s)=false:=Z4c (by rw [HJ.out];exact hlt) hx
   clear hc hx
   go_wp2_with fail
   go_roundw
   case rel=>exact⟨i+1,by omega,by go_num,HB.out,HT.out⟩
   case measure=>simp [intOf];omega
  ·have hij2:i=j:=by omega
   subst hij2
   obtain⟨b,o,rfl,hc⟩:=HA.out i s HE.out
   have c0:wr.cell? ⟨b,o+i,none⟩=some (.string ⟨s.toArray⟩):=Zac (by have:=hc 0 _ rfl;rwa [show o+i*Zcx.size+0=o+i by show o+i*1+0=o+i;omega] at this) HB.out
   clear hc
   go_wp2_with fail
   go_ret
   exact⟨rfl,HB.out⟩
theorem Zkl (a i k:Nat):Zbl a i (k+1)=if a.testBit k then Zbl a i k++[((k:Int),(i:Int))] else Zbl a i k:=by
 unfold Zbl
 rw [Zc9]
 split <;> simp
theorem Zu9 (s:Sl)(l:List (Int×Int))(a i B:Nat)(w:World)(ha:a<18446744073709551616)(hl:l.length<=1000000)(hB:B<=w.heap.size)(h:Zbg.Own 52 B w s.v l) :
  Calls Tryz.prog 298 #[s.v,.int .u64 (a:Int),.int .i64 (i:Int)] w fun e w'=>∃ s':Sl,e=.returned s'.v/\Zbg.Own 52 B w' s'.v (l++Zbl a i 64)/\Zbn w w' B s.v s'.v:=by
 have HV0:=Zh h
 have HG0:=Zh (Zbn.refl w B s.v)
 simp only [Sl.v]
 clear h
 go_enter Tryz.func298,Tryz.ntmps298
 go_wp2_with fail
 go_loopw [7,0] (fun ii vv wr=>∃ (k:Nat) (s':Sl),k<=64/\ii=.int .i64 k/\vv=s'.v/\Zbg.Own 52 B wr s'.v (l++Zbl a i k)/\Zbn w wr B s.v s'.v) (fun ii _ _=>64 - (intOf ii).toNat)
 case atStart=>exact⟨0,s,Nat.zero_le _,rfl,rfl,by simpa [Zbl,Zdd] using HV0.out,HG0.out⟩
 case round=>
  obtain⟨k,s',hk,rfl,rfl,hv,hg⟩:=hrel
  obtain⟨q,hq⟩:∃ q,l++Zbl a i k=q:=⟨_,rfl⟩
  have HQ:=Zh hq
  have hql:q.length<=1000064:=by
   have:=Zk5 a i k
   rw [<- hq,List.length_append];omega
  rw [hq] at hv
  have HV:=Zh hv
  have HG:=Zh hg
  have hzr:=hg.below.size
  clear hv hg hq HV0 HG0
  simp only [Sl.v]
  by_cases hlt:k<64
  ·have hkl:(k:Int)<64:=by omega
   have hq:((a:Int) / (2:Int) ^ k)=((a / 2 ^ k:Nat):Int):=by simp
   have hlt2:a / 2 ^ k<18446744073709551616:=Nat.lt_of_le_of_lt (Nat.div_le_self _ _) ha
   have hb:=Zod hlt2
   rw [<- hq] at hb
   have hbm:=Zvt a k
   cases hbt:a.testBit k with
   | true=>
    have hb1:bits .and .u64 ((a:Int) / (2:Int) ^ k) 1=1:=by rw [hb];rw [hbt] at hbm;simp at hbm;simp [hbm]
    have HS:=Zh (show q++[((k:Int),(i:Int))]=l++Zbl a i (k+1) by rw [Zkl,hbt,<- HQ.out];simp)
    have HPA:=Zh (Zj5 wr ((k:Int),(i:Int)))
    have HB1:=Zh (Zad wr (.cells #[.int .i64 (k:Int),.int .i64 (i:Int)] 52 (0,0)))
    clear hq hb hbm hbt
    go_wp2_with (at_builtin;refine Enc.appW Zor _ rfl (.tmp 18) (.tmp 22) rfl [((k:Int),(i:Int))] B q _ wr.heap.size 0 1 rfl rfl HPA.out (HV.out.below HB1.out) (by simp;omega) (by simp;omega) (by simp;omega) ?_;intro v' w3 hown3 hg3;obtain⟨s3,rfl,_⟩:=Zee hown3;have HO3:=Zh hown3;have HG3:=Zh hg3;clear hown3 hg3)
    go_roundw
    case rel=>exact⟨k+1,s3,by omega,by go_num,rfl,by rw [<- HS.out];exact HO3.out,HG.out.trans ((Zbn.of_below HB1.out (by omega)).trans HG3.out)⟩
    case measure=>simp [intOf];omega
   | false=>
    have hb1:bits .and .u64 ((a:Int) / (2:Int) ^ k) 1=0:=by rw [hb];rw [hbt] at hbm;simp at hbm;simp [hbm]
    have HS:=Zh (show q=l++Zbl a i (k+1) by rw [Zkl,hbt,<- HQ.out];rfl)
    clear hq hb hbm hbt
    go_wp2_with fail
    go_roundw
    case rel=>exact⟨k+1,s',by omega,by go_num,rfl,by rw [<- HS.out];exact HV.out,HG.out⟩
    case measure=>simp [intOf];omega
  ·have hk64:k=64:=by omega
   subst hk64
   go_wp2_with fail
   go_ret
   exact⟨s',rfl,by rw [HQ.out];exact HV.out,HG.out⟩
end
end
theorem Z2g (w:World)(t:TypeId)(c:Array Value)(n:Nat)(hn:w.heap.size=n):Blk (w.alloc (.cells c t (0,0))) n t c:=by rw [<- hn];exact Blk.new w t c
theorem Z25 {P:World->Prop}(w:World)(t:TypeId)(c:Array Value)(h:∀ W,Blk W w.heap.size t c->W.heap.size=w.heap.size+1->Below w.heap.size w W->P W):P (w.alloc (.cells c t (0,0))):=
 h _ (Blk.new w t c) (by simp) (Zad w _)
theorem Z5h {P:World->Prop}(w:World)(t1 t2:TypeId)(c1 c2:Array Value)(h:∀ W,Blk W w.heap.size t1 c1->Blk W (w.heap.size+1) t2 c2->W.heap.size=w.heap.size+2->Below w.heap.size w W->P W):P ((w.alloc (.cells c1 t1 (0,0))).alloc (.cells c2 t2 (0,0))):=
 h _ ((Blk.new w t1 c1).alloc _) (Z2g _ t2 c2 _ (by simp)) (by simp) (Zap w _ _)
theorem Zg5 {P:World->Prop}(w:World)(t1 t2 t3:TypeId)(c1 c2 c3:Array Value)(h:∀ W,Blk W w.heap.size t1 c1->Blk W (w.heap.size+1) t2 c2->Blk W (w.heap.size+1+1) t3 c3->W.heap.size=w.heap.size+3->Below w.heap.size w W->P W):P (((w.alloc (.cells c1 t1 (0,0))).alloc (.cells c2 t2 (0,0))).alloc (.cells c3 t3 (0,0))):=
 h _ (((Blk.new w t1 c1).alloc _).alloc _) (Blk.alloc (Z2g _ t2 c2 _ (by simp)) _) (Z2g _ t3 c3 _ (by simp)) (by simp) ((Zap w _ _).trans ((Zad _ _).mono (by simp;omega)))
theorem Blk.row {w:World}{q:Nat}{t:TypeId}{z:Array Value}(h:Blk w q t z)(c:Array Value):Blk (w.setRow q c) q t c:=setRow_heap w q z c t (0,0) h
theorem Blk.farRow {w:World}{g q:Nat}{t:TypeId}{z:Array Value}(h:Blk w g t z)(hne:g≠q)(c:Array Value):Blk (w.setRow q c) g t z:=(setRow_other w q g c hne).trans h
theorem Zix {P:Program}{fn:Func}{rp:Nat}{T:TypeId}{tmps:Array Value}{W:World}{v:Value}{q:Nat}(hr:fn.results=#[.cell rp T])(hb:tmps.getD rp undef=.pointer (some ⟨q,0,none⟩))(hl:(loadVar T ⟨q,0,none⟩).run P W=.ok v W):(results fn tmps).run P W=.ok v W:=by
 have hb':tmps[rp]?.getD undef=.pointer (some ⟨q,0,none⟩):=by rw [<- hb];simp
 simp [results,hr,hb',asAddr,hl]
theorem Zao {P:Program}{ops:Array Oper}{l:List Oper}{a:Act}{W:World}{Q:Exit->Act->World->Prop}(h:wpList P ops Q l a W):wpList P ops Q l a W:=h
theorem Zfp {P:Program}{c:Code}{a:Act}{W:World}{Q:Exit->Act->World->Prop}(h:c.wp P Q a W):c.wp P Q a W:=h
theorem Zaw {P:Program}{ops:Array Oper}{rest:List Oper}{o:Oper}{a:Act}{W:World}{Q:Exit->Act->World->Prop}(T:TypeId)(tp g:Nat){t:TypeId}{c:Array Value}{d:TypeDesc}
  (h1:o.op=.load T (.tmp tp)) (g1:o.guard=none) (hg:Blk W g t c) (hu:P.underlying T=some d) (hd:(match d with | .struct _ | .array _ _=>true | _=>false)=true) (hi:(P.info? T).map (·.size)=some c.size)
  (ha:a.tmps.getD tp undef=.pointer (some ⟨g,0,none⟩)) (hK:wpList P ops Q rest (a.put o.dst (.agg c)) W):wpList P ops Q (o :: rest) a W:=
 wpList_plain g1 fun K1 hK1=>by
  unfold Oper.wp execOp
  simp only [h1,Act.eval,ha,Instr.loadAt,Instr.sureAddr,Sem.run_bind,Sem.run_pure,Result.andThen_ok,run_loadVar_row W g t T c (0,0) d hg hu hd hi]
  exact hK1 _ _ hK
theorem Zam {P:Program}{ops:Array Oper}{rest:List Oper}{o:Oper}{a:Act}{W:World}{Q:Exit->Act->World->Prop}(T:TypeId)(tp vp q:Nat){t:TypeId}{c z:Array Value}
  (h1:o.op=.store T (.tmp tp) (.tmp vp)) (g1:o.guard=none) (e1:o.dst=none) (hq:Blk W q t z) (hz:z.size=c.size) (hi:(P.info? T).map (·.size)=some c.size) (hone:c.all (·.oneCell')=true)
  (ha:a.tmps.getD tp undef=.pointer (some ⟨q,0,none⟩)) (hv:a.tmps.getD vp undef=.agg c) (hK:wpList P ops Q rest a (W.setRow q c)):wpList P ops Q (o :: rest) a W:=
 wpList_plain g1 fun K1 hK1=>by
  unfold Oper.wp execOp
  simp only [h1,Act.eval,ha,hv,Instr.storeAt,Instr.sureAddr,Sem.run_bind,Sem.run_pure,Result.andThen_ok,run_storeVar_row W q t T z c hq hi hz hone]
  have h:=hK1 _ _ hK
  simpa [Oper.upon,Act.put,e1] using h
theorem Zi0 {P:Program}{o:Oper}{a:Act}{W:World}{K:Act->World->Prop}{Q:Exit->Act->World->Prop}(T:TypeId)(tp vp q:Nat){t:TypeId}{c z:Array Value}
  (h1:o.op=.store T (.tmp tp) (.tmp vp)) (e1:o.dst=none) (hq:Blk W q t z) (hz:z.size=c.size) (hi:(P.info? T).map (·.size)=some c.size) (hone:c.all (·.oneCell')=true)
  (ha:a.tmps.getD tp undef=.pointer (some ⟨q,0,none⟩)) (hv:a.tmps.getD vp undef=.agg c) (h:K a (W.setRow q c)):o.wp P a W K Q:=by
 unfold Oper.wp execOp
 simp only [h1,Act.eval,ha,hv,Instr.storeAt,Instr.sureAddr,Sem.run_bind,Sem.run_pure,Result.andThen_ok,run_storeVar_row W q t T z c hq hi hz hone]
 simpa [Oper.upon,Act.put,e1] using h
theorem Zbs {P:Program}{fn:Func}{R:Ending->World->Prop}{a:Act}{W:World}(T:TypeId)(rp q:Nat){t:TypeId}{c:Array Value}{d:TypeDesc}
  (hr:fn.results=#[.cell rp T]) (hq:Blk W q t c) (hu:P.underlying T=some d) (hd:(match d with | .struct _ | .array _ _=>true | _=>false)=true) (hi:(P.info? T).map (·.size)=some c.size)
  (hb:a.tmps.getD rp undef=.pointer (some ⟨q,0,none⟩)) (hdf:a.defers=[]) (h:R (.returned (.agg c)) W):bodyPost P fn R .ret a W:=
 ⟨hdf,_,Zix hr hb (run_loadVar_row W q t T c (0,0) d hq hu hd hi),h⟩
theorem Zm5 {P:Program}{fn:Func}{rp sl:Nat}{T:TypeId}{tmps:Array Value}{W:World}{v:Value}{q:Nat}(hr:fn.results=#[.cell rp T,.tmp sl])(hb:tmps.getD rp undef=.pointer (some ⟨q,0,none⟩))(hl:(loadVar T ⟨q,0,none⟩).run P W=.ok v W):(results fn tmps).run P W=.ok (.tuple #[v,tmps.getD sl undef]) W:=by
 have hb':tmps[rp]?.getD undef=.pointer (some ⟨q,0,none⟩):=by rw [<- hb];simp
 simp [results,hr,hb',asAddr,hl]
theorem Znr {P:Program}{fn:Func}{R:Ending->World->Prop}{a:Act}{W:World}(T:TypeId)(rp q sl:Nat){t:TypeId}{c:Array Value}{d:TypeDesc}{u:Value}
  (hr:fn.results=#[.cell rp T,.tmp sl]) (hq:Blk W q t c) (hu:P.underlying T=some d) (hd:(match d with | .struct _ | .array _ _=>true | _=>false)=true) (hi:(P.info? T).map (·.size)=some c.size)
  (hb:a.tmps.getD rp undef=.pointer (some ⟨q,0,none⟩)) (hv:a.tmps.getD sl undef=u) (hdf:a.defers=[]) (h:R (.returned (.tuple #[.agg c,u])) W):bodyPost P fn R .ret a W:=
 ⟨hdf,_,Zm5 hr hb (run_loadVar_row W q t T c (0,0) d hq hu hd hi),by rw [hv];exact h⟩
theorem Zce {P:Program}{fn:Func}{R:Ending->World->Prop}{a:Act}{W:World}(i j:Nat)(hr:fn.results=#[.tmp i,.tmp j])(hdf:a.defers=[])(h:R (.returned (.tuple #[a.tmps.getD i undef,a.tmps.getD j undef])) W):bodyPost P fn R .ret a W:=
 ⟨hdf,_,by simp [results,hr],h⟩
theorem Za0 {P:Program}{a:Act}{o:Oper}{T:TypeId}{x:Operand}{A:Addr}{v:Value}{w:World}(h1:o.op=.load T x)(ha:a.eval x=.pointer (some A))(hl:(loadVar T A).run P w=.ok v w):(execOp a.eval o).run P w=.ok (.value v) w:=by
 unfold execOp
 simp only [h1,ha,Instr.loadAt,Instr.sureAddr,Sem.run_bind,Sem.run_pure,Result.andThen_ok,hl]
theorem Zxs {P:Program}(fn:Func){R:Ending->World->Prop}{a:Act}{W:World}{Q:Exit->Act->World->Prop}{id:Nat}{o1 o2:Oper}(T:TypeId)(tp rp d1 g q:Nat){t t2:TypeId}{c z:Array Value}{d:TypeDesc}
  (h1:o1.op=.load T (.tmp tp)) (g1:o1.guard=none) (e1:o1.dst=some d1) (h2:o2.op=.store T (.tmp rp) (.tmp d1)) (g2:o2.guard=none) (e2:o2.dst=none) (hr:fn.results=#[.cell rp T])
  (hg:Blk W g t c) (hq:Blk W q t2 z) (hz:z.size=c.size) (hu:P.underlying T=some d) (hd:(match d with | .struct _ | .array _ _=>true | _=>false)=true) (hi:(P.info? T).map (·.size)=some c.size) (hone:c.all (·.oneCell')=true)
  (ha:a.tmps.getD tp undef=.pointer (some ⟨g,0,none⟩)) (hb:a.tmps.getD rp undef=.pointer (some ⟨q,0,none⟩)) (hne:rp≠d1) (hlt:d1<a.tmps.size) (hdf:a.defers=[])
  (hQ:∀ a' W',bodyPost P fn R .ret a' W'->Q .ret a' W') (h:R (.returned (.agg c)) (W.setRow q c)):(Code.seq (.region id #[o1,o2] false) .ret).wp P Q a W:=by
 apply wp_seq_k
 intro K hK
 have hl:(loadVar T ⟨g,0,none⟩).run P W=.ok (.agg c) W:=run_loadVar_row W g t T c (0,0) d hg hu hd hi
 have hs:(storeVar T ⟨q,0,none⟩ (.agg c)).run P W=.ok () (W.setRow q c):=run_storeVar_row W q t2 T z c hq hi hz hone
 have hl2:(loadVar T ⟨q,0,none⟩).run P (W.setRow q c)=.ok (.agg c) (W.setRow q c):=run_loadVar_row _ q t2 T c (0,0) d (hq.row c) hu hd hi
 refine wp_region_lit (l:=[o1,o2]) (wpList_plain g1 fun K1 hK1=>?_)
 unfold Oper.wp execOp
 simp only [h1,Act.eval,ha,Instr.loadAt,Instr.sureAddr,Sem.run_bind,Sem.run_pure,Result.andThen_ok,hl]
 refine hK1 _ _ (wpList_plain g2 fun K2 hK2=>?_)
 have ev:(a.put o1.dst (.agg c)).tmps.getD d1 undef=.agg c:=by
  rw [e1];simp [Act.put,hlt]
 have er:(a.put o1.dst (.agg c)).tmps.getD rp undef=.pointer (some ⟨q,0,none⟩):=by
  rw [e1,<- hb];simp [Act.put,Array.getElem?_setIfInBounds_ne (Ne.symm hne)]
 unfold Oper.wp execOp
 simp only [h2,Act.eval,ev,er,Instr.storeAt,Instr.sureAddr,Sem.run_bind,Sem.run_pure,Result.andThen_ok,hs]
 refine hK2 _ _ (wpList_nil (hK _ _ (wp_ret (hQ _ _ ⟨?_,_,Zix hr ?_ hl2,h⟩))))
 ·rw [e1,e2];exact hdf
 ·rw [e2];exact er
section
set_option maxHeartbeats 4000000
set_option maxRecDepth 100000
theorem Z4q (f:Nat)(a b:Rg)(w:World):Calls Tryz.prog 170 #[Za3 f a,Za3 f b] w fun e w'=>∃ v,e=.returned (.tuple #[.bool v,.bool (!(Zby a.h||Zby b.h))])/\((Zby a.h||Zby b.h)=false->v=Zak a.h b.h)/\Below w.heap.size w w':=by
 obtain⟨ha,oa⟩:=a
 obtain⟨hb,ob⟩:=b
 cases ha with
 | num x=>
  cases hb with
  | num y=>
   by_cases e:x=y
   ·subst e
    exact m_65
   exact m_64
  | adr y=>
   exact m_65
  | rd y=>
   exact m_65
  | non=>
   exact m_65
 | adr x=>
  cases hb with
  | num y=>
   exact m_65
  | adr y=>
   by_cases e:x=y
   ·subst e
    exact m_65
   ·have e1:(x == y)=false:=by simpa using e
    exact m_66
  | rd y=>
   exact m_65
  | non=>
   exact m_65
 | rd x=>
  cases hb with
  | num y=>
   exact m_65
  | adr y=>
   exact m_65
  | rd y=>
   by_cases e:((f+x:Nat):Int)=((f+y:Nat):Int)
   ·skip
    exact m_66
   exact m_64
  | non=>
   exact m_65
 | non=>
  cases hb with
  | num y=>
   exact m_65
  | adr y=>
   exact m_65
  | rd y=>
   exact m_65
  | non=>
   exact m_65
end
section
set_option maxHeartbeats 4000000
set_option maxRecDepth 100000
theorem Z2t {op:Int}(h8:op=8\/op=9\/op=10):∀ {a:Zd6},Zps a->Zcs op a (.num 0)=a
 | .num x,h=>by
  show Zd6.num (opN op x 0)=_
  rcases h8 with rfl | rfl | rfl
  ·rw [show opN 8 x 0=bits .or .i64 x 0 from rfl,Zut h]
  ·rw [show opN 9 x 0=bits .xor .i64 x 0 from rfl,Zs5 h]
  ·rw [show opN 10 x 0=IntKind.i32.wrap (x+0) from rfl,Int.add_zero,wrap32 h]
 | .adr _,_=>rfl
 | .rd _,_=>rfl
 | .non,_=>rfl
theorem Z2k {op:Int}(h8:op=8\/op=9\/op=10):∀ {b:Zd6},Zps b->Zcs op (.num 0) b=b
 | .num x,h=>by
  show Zd6.num (opN op 0 x)=_
  rcases h8 with rfl | rfl | rfl
  ·rw [show opN 8 0 x=bits .or .i64 0 x from rfl,Zvl h]
  ·rw [show opN 9 0 x=bits .xor .i64 0 x from rfl,Zsk h]
  ·rw [show opN 10 0 x=IntKind.i32.wrap (0+x) from rfl,Int.zero_add,wrap32 h]
 | .adr _,_=>rfl
 | .rd _,_=>rfl
 | .non,_=>rfl
theorem Z1a {op:Int}:∀ {a b:Zd6},Zn3 a=false->Zcz b=false->Zcs op a b=.non
 | .num _,_,h,_=>by cases h
 | .adr _,.num y,_,h=>by simp only [Zcz,decide_eq_false_iff_not] at h;simp [Zcs,h]
 | .rd _,.num y,_,h=>by simp only [Zcz,decide_eq_false_iff_not] at h;simp [Zcs,h]
 | .non,.num y,_,h=>by simp only [Zcz,decide_eq_false_iff_not] at h;simp [Zcs,h]
 | .adr _,.adr _,_,_=>rfl
 | .adr _,.rd _,_,_=>rfl
 | .adr _,.non,_,_=>rfl
 | .rd _,.adr _,_,_=>rfl
 | .rd _,.rd _,_,_=>rfl
 | .rd _,.non,_,_=>rfl
 | .non,.adr _,_,_=>rfl
 | .non,.rd _,_,_=>rfl
 | .non,.non,_,_=>rfl
theorem Z1p {op:Int}:∀ {a b:Zd6},Zn3 b=false->Zcz a=false->Zcs op a b=.non
 | _,.num _,h,_=>by cases h
 | .num x,.adr _,_,h=>by simp only [Zcz,decide_eq_false_iff_not] at h;simp [Zcs,h]
 | .num x,.rd _,_,h=>by simp only [Zcz,decide_eq_false_iff_not] at h;simp [Zcs,h]
 | .num x,.non,_,h=>by simp only [Zcz,decide_eq_false_iff_not] at h;simp [Zcs,h]
 | .adr _,.adr _,_,_=>rfl
 | .adr _,.rd _,_,_=>rfl
 | .adr _,.non,_,_=>rfl
 | .rd _,.adr _,_,_=>rfl
 | .rd _,.rd _,_,_=>rfl
 | .rd _,.non,_,_=>rfl
 | .non,.adr _,_,_=>rfl
 | .non,.rd _,_,_=>rfl
 | .non,.non,_,_=>rfl
theorem Znl:∀ {a:Zd6},Zn3 a=false->Zax a≠1
 | .num _,h=>by cases h
 | .adr _,_=>by show (2:Int)≠1;decide
 | .rd _,_=>by show (3:Int)≠1;decide
 | .non,_=>by show (4:Int)≠1;decide
theorem Zys (f:Nat)(op:Int)(ha:Zd6)(oa ob:Nat)(w:World)(h1:oa<<<f<18446744073709551616)(h2:ob<<<f<18446744073709551616) :
  Calls Tryz.prog 175 #[.int .i64 op,Za3 f ⟨ha,oa⟩,Za3 f ⟨.num 0,ob⟩] w fun e w'=>e=.returned (Za3 f ⟨ha,oa|||ob⟩)/\Below w.heap.size w w':=by
 have HZA:=Zh (fun w=>Zhk f ⟨ha,oa⟩ w)
 have HZB:=Zh (fun w=>Zhk f ⟨(.num 0),ob⟩ w)
 have hor:=Zcg h1 h2
 have hsh:=Zg9 oa ob f
 simp only [Za3,hsh] at *
 clear h1 h2 hsh
 generalize oa<<<f=A at *
 generalize ob<<<f=E at *
 generalize A|||E=C at *
 go_enter Tryz.func175,Tryz.ntmps175
 apply wp_seq_k
 intro K hK
 have HK:=Zh hK
 clear hK
 go_wp2_with fail
 refine Zg5 (P:=fun X=>K _ X) w _ _ _ _ _ _ ?_
 intro W b0 b1 b2 hz hbW
 refine HK.out _ _ ?_
 clear HK K
 have HA:=Zh b0
 have HB:=Zh b1
 have HO:=Zh b2
 have HW:=Zh hbW
 have hzW:w.heap.size+1+1<W.heap.size:=by omega
 have hzW1:w.heap.size+1<W.heap.size:=by omega
 have hzW0:w.heap.size<W.heap.size:=by omega
 clear b0 b1 b2 hz hbW
 have a0:=HA.out.cm 0
 have a1:=HA.out.cm 1
 have a2:=HA.out.cm 2
 have a3:=HA.out.cm 3
 have b0:=HB.out.cm 0
 have b1:=HB.out.cm 1
 have b2:=HB.out.cm 2
 have b3:=HB.out.cm 3
 go_wp2_with (go_at_call 246;refine Hid.out ?_)
 refine Zh ?_
 refine (HZB.out _).mono ?_
 rintro e w1 ⟨he,hb1⟩
 simp only [Zcz,decide_true] at he
 subst he
 dsimp only
 have hb2:=Zaa (Zad W (.cells #[.int .i64 4,.int .i64 0,.string ⟨#[]⟩,.int .u64 0] 125 (0,0))) hb1
 have HL1:=Zh ((Blk.new W 125 #[.int .i64 4,.int .i64 0,.string ⟨#[]⟩,.int .u64 0]).go hb1)
 have HA1:=Zh (HA.out.go hb2)
 have HB1:=Zh (HB.out.go hb2)
 have HO1:=Zh (HO.out.go hb2)
 have HW1:=Zh (Zaa HW.out hb2)
 have hw1:=hb2.size
 clear HA HB HO HW hb1 hb2 a0 a1 a2 a3 b0 b1 b2 b3
 have a0:=HA1.out.cm 0
 have a1:=HA1.out.cm 1
 have a2:=HA1.out.cm 2
 have a3:=HA1.out.cm 3
 have b0:=HB1.out.cm 0
 have b1:=HB1.out.cm 1
 have b2:=HB1.out.cm 2
 have b3:=HB1.out.cm 3
 have HA9:=Zh (HA1.out.farRow (show w.heap.size≠W.heap.size by omega) #[.int .i64 (Zax ha),.int .i64 (Zb8 f ha),.string ⟨(Zb7 ha).toArray⟩,.int .u64 ((A:Nat):Int)])
 have HB9:=Zh (HB1.out.farRow (show w.heap.size+1≠W.heap.size by omega) #[.int .i64 (Zax ha),.int .i64 (Zb8 f ha),.string ⟨(Zb7 ha).toArray⟩,.int .u64 ((A:Nat):Int)])
 have HL9:=Zh (HL1.out.row #[.int .i64 (Zax ha),.int .i64 (Zb8 f ha),.string ⟨(Zb7 ha).toArray⟩,.int .u64 ((A:Nat):Int)])
 have HLf:Hid (Blk ((w1.setRow W.heap.size #[.int .i64 (Zax ha),.int .i64 (Zb8 f ha),.string ⟨(Zb7 ha).toArray⟩,.int .u64 ((A:Nat):Int)]).setCell ⟨W.heap.size,3,none⟩ (.int .u64 ((C:Nat):Int))) W.heap.size 125 #[.int .i64 (Zax ha),.int .i64 (Zb8 f ha),.string ⟨(Zb7 ha).toArray⟩,.int .u64 ((C:Nat):Int)]):=Zh (HL9.out.set_ 3 _)
 have HOf:=Zh ((HO1.out.farRow (show w.heap.size+1+1≠W.heap.size by omega) #[.int .i64 (Zax ha),.int .i64 (Zb8 f ha),.string ⟨(Zb7 ha).toArray⟩,.int .u64 ((A:Nat):Int)]).far (p:=⟨W.heap.size,3,none⟩) (show w.heap.size+1+1≠W.heap.size by omega) (.int .u64 ((C:Nat):Int)))
 have HWf:=Zh ((below_setRow HW1.out (show w.heap.size<=W.heap.size by omega) #[.int .i64 (Zax ha),.int .i64 (Zb8 f ha),.string ⟨(Zb7 ha).toArray⟩,.int .u64 ((A:Nat):Int)]).setCell (p:=⟨W.heap.size,3,none⟩) (show w.heap.size<=W.heap.size by omega) (.int .u64 ((C:Nat):Int)))
 have y3:=HA9.out.cell 3
 have z3:=HB9.out.cell 3
 have l3:=HL9.out.cell 3
 have fl:=HL9.out.frozen 3
 simp only [List.getElem?_toArray,List.getElem?_cons_succ,List.getElem?_cons_zero] at y3 z3 l3
 clear a0 a1 a2 a3 b0 b1 b2 b3
 repeat (first | ((with_reducible refine Zao ?_);refine Zaw 125 4 w.heap.size rfl rfl HA1.out Tryz.underlying125 rfl (by kernel_rfl) rfl ?_) | ((with_reducible refine Zao ?_);refine Zam 125 7 12 W.heap.size rfl rfl rfl HL1.out (by rfl) (by kernel_rfl) (by kernel_rfl) rfl rfl ?_) | ((with_reducible refine Zao ?_);refine Zaw 125 7 W.heap.size rfl rfl HLf.out Tryz.underlying125 rfl (by kernel_rfl) rfl ?_) | ((with_reducible refine Zao ?_);refine Zam 125 6 77 (w.heap.size+1+1) rfl rfl rfl HOf.out (by rfl) (by kernel_rfl) (by kernel_rfl) rfl rfl ?_) | go_step)
 refine Zbs 125 6 (w.heap.size+1+1) rfl (HOf.out.row _) Tryz.underlying125 rfl (by kernel_rfl) rfl rfl ?_
 exact⟨rfl,below_setRow HWf.out (show w.heap.size<=w.heap.size+1+1 by omega) _⟩
theorem Zxe (f:Nat)(op:Int)(hb:Zd6)(hzb:Zcz hb=false)(oa ob:Nat)(w:World)(h1:oa<<<f<18446744073709551616)(h2:ob<<<f<18446744073709551616) :
  Calls Tryz.prog 175 #[.int .i64 op,Za3 f ⟨.num 0,oa⟩,Za3 f ⟨hb,ob⟩] w fun e w'=>e=.returned (Za3 f ⟨hb,oa|||ob⟩)/\Below w.heap.size w w':=by
 have HZA:=Zh (fun w=>Zhk f ⟨(.num 0),oa⟩ w)
 have HZB:=Zh (fun w=>Zhk f ⟨hb,ob⟩ w)
 have hor:=Zcg h1 h2
 have hsh:=Zg9 oa ob f
 simp only [Za3,hsh] at *
 clear h1 h2 hsh
 generalize oa<<<f=A at *
 generalize ob<<<f=E at *
 generalize A|||E=C at *
 go_enter Tryz.func175,Tryz.ntmps175
 apply wp_seq_k
 intro K hK
 have HK:=Zh hK
 clear hK
 go_wp2_with fail
 refine Zg5 (P:=fun X=>K _ X) w _ _ _ _ _ _ ?_
 intro W b0 b1 b2 hz hbW
 refine HK.out _ _ ?_
 clear HK K
 have HA:=Zh b0
 have HB:=Zh b1
 have HO:=Zh b2
 have HW:=Zh hbW
 have hzW:w.heap.size+1+1<W.heap.size:=by omega
 have hzW1:w.heap.size+1<W.heap.size:=by omega
 have hzW0:w.heap.size<W.heap.size:=by omega
 clear b0 b1 b2 hz hbW
 have a0:=HA.out.cm 0
 have a1:=HA.out.cm 1
 have a2:=HA.out.cm 2
 have a3:=HA.out.cm 3
 have b0:=HB.out.cm 0
 have b1:=HB.out.cm 1
 have b2:=HB.out.cm 2
 have b3:=HB.out.cm 3
 go_wp2_with (go_at_call 246;refine Hid.out ?_)
 refine Zh ?_
 refine (HZB.out _).mono ?_
 rintro e w1 ⟨he,hb1⟩
 simp only [hzb] at he
 subst he
 dsimp only
 have hb2:=Zaa (Zad W (.cells #[.int .i64 4,.int .i64 0,.string ⟨#[]⟩,.int .u64 0] 125 (0,0))) hb1
 have HL1:=Zh ((Blk.new W 125 #[.int .i64 4,.int .i64 0,.string ⟨#[]⟩,.int .u64 0]).go hb1)
 have HA1:=Zh (HA.out.go hb2)
 have HB1:=Zh (HB.out.go hb2)
 have HO1:=Zh (HO.out.go hb2)
 have HW1:=Zh (Zaa HW.out hb2)
 have hw1:=hb2.size
 clear HA HB HO HW hb1 hb2 a0 a1 a2 a3 b0 b1 b2 b3
 have a0:=HA1.out.cm 0
 have a1:=HA1.out.cm 1
 have a2:=HA1.out.cm 2
 have a3:=HA1.out.cm 3
 have b0:=HB1.out.cm 0
 have b1:=HB1.out.cm 1
 have b2:=HB1.out.cm 2
 have b3:=HB1.out.cm 3
 go_wp2_with (go_at_call 246;refine Hid.out ?_)
 refine Zh ?_
 refine (HZA.out _).mono ?_
 rintro e w2 ⟨he,hb1⟩
 simp only [Zcz,decide_true] at he
 subst he
 dsimp only
 have HL2:=Zh (HL1.out.go hb1)
 have HA2:=Zh (HA1.out.go hb1)
 have HB2:=Zh (HB1.out.go hb1)
 have HO2:=Zh (HO1.out.go hb1)
 have HW2:=Zh (Zaa HW1.out hb1)
 have hw2:=hb1.size
 clear HL1 HA1 HB1 HO1 HW1 hb1 a0 a1 a2 a3 b0 b1 b2 b3
 have HA9:=Zh (HA2.out.farRow (show w.heap.size≠W.heap.size by omega) #[.int .i64 (Zax hb),.int .i64 (Zb8 f hb),.string ⟨(Zb7 hb).toArray⟩,.int .u64 ((E:Nat):Int)])
 have HB9:=Zh (HB2.out.farRow (show w.heap.size+1≠W.heap.size by omega) #[.int .i64 (Zax hb),.int .i64 (Zb8 f hb),.string ⟨(Zb7 hb).toArray⟩,.int .u64 ((E:Nat):Int)])
 have HL9:=Zh (HL2.out.row #[.int .i64 (Zax hb),.int .i64 (Zb8 f hb),.string ⟨(Zb7 hb).toArray⟩,.int .u64 ((E:Nat):Int)])
 have HLf:Hid (Blk ((w2.setRow W.heap.size #[.int .i64 (Zax hb),.int .i64 (Zb8 f hb),.string ⟨(Zb7 hb).toArray⟩,.int .u64 ((E:Nat):Int)]).setCell ⟨W.heap.size,3,none⟩ (.int .u64 ((C:Nat):Int))) W.heap.size 125 #[.int .i64 (Zax hb),.int .i64 (Zb8 f hb),.string ⟨(Zb7 hb).toArray⟩,.int .u64 ((C:Nat):Int)]):=Zh (HL9.out.set_ 3 _)
 have HOf:=Zh ((HO2.out.farRow (show w.heap.size+1+1≠W.heap.size by omega) #[.int .i64 (Zax hb),.int .i64 (Zb8 f hb),.string ⟨(Zb7 hb).toArray⟩,.int .u64 ((E:Nat):Int)]).far (p:=⟨W.heap.size,3,none⟩) (show w.heap.size+1+1≠W.heap.size by omega) (.int .u64 ((C:Nat):Int)))
 have HWf:=Zh ((below_setRow HW2.out (show w.heap.size<=W.heap.size by omega) #[.int .i64 (Zax hb),.int .i64 (Zb8 f hb),.string ⟨(Zb7 hb).toArray⟩,.int .u64 ((E:Nat):Int)]).setCell (p:=⟨W.heap.size,3,none⟩) (show w.heap.size<=W.heap.size by omega) (.int .u64 ((C:Nat):Int)))
 have y3:=HA9.out.cell 3
 have z3:=HB9.out.cell 3
 have l3:=HL9.out.cell 3
 have fl:=HL9.out.frozen 3
 simp only [List.getElem?_toArray,List.getElem?_cons_succ,List.getElem?_cons_zero] at y3 z3 l3
 repeat (first | ((with_reducible refine Zao ?_);refine Zaw 125 5 (w.heap.size+1) rfl rfl HB2.out Tryz.underlying125 rfl (by kernel_rfl) rfl ?_) | ((with_reducible refine Zao ?_);refine Zam 125 7 16 W.heap.size rfl rfl rfl HL2.out (by rfl) (by kernel_rfl) (by kernel_rfl) rfl rfl ?_) | ((with_reducible refine Zao ?_);refine Zaw 125 7 W.heap.size rfl rfl HLf.out Tryz.underlying125 rfl (by kernel_rfl) rfl ?_) | ((with_reducible refine Zao ?_);refine Zam 125 6 77 (w.heap.size+1+1) rfl rfl rfl HOf.out (by rfl) (by kernel_rfl) (by kernel_rfl) rfl rfl ?_) | go_step)
 refine Zbs 125 6 (w.heap.size+1+1) rfl (HOf.out.row _) Tryz.underlying125 rfl (by kernel_rfl) rfl rfl ?_
 exact⟨rfl,below_setRow HWf.out (show w.heap.size<=w.heap.size+1+1 by omega) _⟩
theorem Zyf (f:Nat)(op:Int)(ha hb:Zd6)(hka:Zn3 ha=false)(hzb:Zcz hb=false)(oa ob:Nat)(w:World)(h1:oa<<<f<18446744073709551616)(h2:ob<<<f<18446744073709551616) :
  Calls Tryz.prog 175 #[.int .i64 op,Za3 f ⟨ha,oa⟩,Za3 f ⟨hb,ob⟩] w fun e w'=>e=.returned (Za3 f ⟨.non,oa|||ob⟩)/\Below w.heap.size w w':=by
 have hza:Zcz ha=false:=by
  cases ha with
  | num n=>cases hka
  | adr s=>rfl
  | rd i=>rfl
  | non=>rfl
 have hk1:=Znl hka
 have hk2:¬ Zax ha=1:=hk1
 have hk3:(Zax ha != 1)=true:=by simpa using hk1
 have hk4:decide (Zax ha=1)=false:=by simpa using hk1
 have HZA:=Zh (fun w=>Zhk f ⟨ha,oa⟩ w)
 have HZB:=Zh (fun w=>Zhk f ⟨hb,ob⟩ w)
 have hor:=Zcg h1 h2
 have hsh:=Zg9 oa ob f
 simp only [Za3,hsh] at *
 clear h1 h2 hsh
 generalize oa<<<f=A at *
 generalize ob<<<f=E at *
 generalize A|||E=C at *
 go_enter Tryz.func175,Tryz.ntmps175
 apply wp_seq_k
 intro K hK
 have HK:=Zh hK
 clear hK
 go_wp2_with fail
 refine Zg5 (P:=fun X=>K _ X) w _ _ _ _ _ _ ?_
 intro W b0 b1 b2 hz hbW
 refine HK.out _ _ ?_
 clear HK K
 have HA:=Zh b0
 have HB:=Zh b1
 have HO:=Zh b2
 have HW:=Zh hbW
 have hzW:w.heap.size+1+1<W.heap.size:=by omega
 have hzW1:w.heap.size+1<W.heap.size:=by omega
 have hzW0:w.heap.size<W.heap.size:=by omega
 clear b0 b1 b2 hz hbW
 have a0:=HA.out.cm 0
 have a1:=HA.out.cm 1
 have a2:=HA.out.cm 2
 have a3:=HA.out.cm 3
 have b0:=HB.out.cm 0
 have b1:=HB.out.cm 1
 have b2:=HB.out.cm 2
 have b3:=HB.out.cm 3
 go_wp2_with (go_at_call 246;refine Hid.out ?_)
 refine Zh ?_
 refine (HZB.out _).mono ?_
 rintro e w1 ⟨he,hb1⟩
 simp only [hzb] at he
 subst he
 dsimp only
 have hb2:=Zaa (Zad W (.cells #[.int .i64 4,.int .i64 0,.string ⟨#[]⟩,.int .u64 0] 125 (0,0))) hb1
 have HL1:=Zh ((Blk.new W 125 #[.int .i64 4,.int .i64 0,.string ⟨#[]⟩,.int .u64 0]).go hb1)
 have HA1:=Zh (HA.out.go hb2)
 have HB1:=Zh (HB.out.go hb2)
 have HO1:=Zh (HO.out.go hb2)
 have HW1:=Zh (Zaa HW.out hb2)
 have hw1:=hb2.size
 clear HA HB HO HW hb1 hb2 a0 a1 a2 a3 b0 b1 b2 b3
 have a0:=HA1.out.cm 0
 have a1:=HA1.out.cm 1
 have a2:=HA1.out.cm 2
 have a3:=HA1.out.cm 3
 have b0:=HB1.out.cm 0
 have b1:=HB1.out.cm 1
 have b2:=HB1.out.cm 2
 have b3:=HB1.out.cm 3
 go_wp2_with (go_at_call 246;refine Hid.out ?_)
 refine Zh ?_
 refine (HZA.out _).mono ?_
 rintro e w2 ⟨he,hb1⟩
 simp only [hza] at he
 subst he
 dsimp only
 have HL2:=Zh (HL1.out.go hb1)
 have HA2:=Zh (HA1.out.go hb1)
 have HB2:=Zh (HB1.out.go hb1)
 have HO2:=Zh (HO1.out.go hb1)
 have HW2:=Zh (Zaa HW1.out hb1)
 have hw2:=hb1.size
 clear HL1 HA1 HB1 HO1 HW1 hb1 a0 a1 a2 a3 b0 b1 b2 b3
 have HLf:Hid (Blk (w2.setCell ⟨W.heap.size,3,none⟩ (.int .u64 ((C:Nat):Int))) W.heap.size 125 #[.int .i64 4,.int .i64 0,.string ⟨#[]⟩,.int .u64 ((C:Nat):Int)]):=Zh (HL2.out.set_ 3 _)
 have HOf:=Zh (HO2.out.far (p:=⟨W.heap.size,3,none⟩) (show w.heap.size+1+1≠W.heap.size by omega) (.int .u64 ((C:Nat):Int)))
 have HWf:=Zh (HW2.out.setCell (p:=⟨W.heap.size,3,none⟩) (show w.heap.size<=W.heap.size by omega) (.int .u64 ((C:Nat):Int)))
 have y3:=HA2.out.cm 3
 have z3:=HB2.out.cm 3
 have l3:=HL2.out.cm 3
 have fl:=HL2.out.frozen 3
 have a0:=HA2.out.cm 0
 have b0:=HB2.out.cm 0
 repeat (first | ((with_reducible refine Zao ?_);refine Zam 125 7 12 W.heap.size rfl rfl rfl HL2.out (by rfl) (by kernel_rfl) (by kernel_rfl) rfl rfl ?_) | ((with_reducible refine Zao ?_);refine Zaw 125 7 W.heap.size rfl rfl HLf.out Tryz.underlying125 rfl (by kernel_rfl) rfl ?_) | ((with_reducible refine Zao ?_);refine Zam 125 6 77 (w.heap.size+1+1) rfl rfl rfl HOf.out (by rfl) (by kernel_rfl) (by kernel_rfl) rfl rfl ?_) | go_step)
 refine Zbs 125 6 (w.heap.size+1+1) rfl (HOf.out.row _) Tryz.underlying125 rfl (by kernel_rfl) rfl rfl ?_
 exact⟨rfl,below_setRow HWf.out (show w.heap.size<=w.heap.size+1+1 by omega) _⟩
theorem Zw8 (f:Nat)(op:Int)(x:Int)(hb:Zd6)(hzx:Zcz (.num x)=false)(hkb:Zn3 hb=false)(oa ob:Nat)(w:World)(h1:oa<<<f<18446744073709551616)(h2:ob<<<f<18446744073709551616) :
  Calls Tryz.prog 175 #[.int .i64 op,Za3 f ⟨.num x,oa⟩,Za3 f ⟨hb,ob⟩] w fun e w'=>e=.returned (Za3 f ⟨.non,oa|||ob⟩)/\Below w.heap.size w w':=by
 have hzb:Zcz hb=false:=by
  cases hb with
  | num n=>cases hkb
  | adr s=>rfl
  | rd i=>rfl
  | non=>rfl
 have hk1:=Znl hkb
 have hk2:¬ Zax hb=1:=hk1
 have hk3:(Zax hb != 1)=true:=by simpa using hk1
 have hk4:decide (Zax hb=1)=false:=by simpa using hk1
 have HZA:=Zh (fun w=>Zhk f ⟨(.num x),oa⟩ w)
 have HZB:=Zh (fun w=>Zhk f ⟨hb,ob⟩ w)
 have hor:=Zcg h1 h2
 have hsh:=Zg9 oa ob f
 simp only [Za3,hsh] at *
 clear h1 h2 hsh
 generalize oa<<<f=A at *
 generalize ob<<<f=E at *
 generalize A|||E=C at *
 go_enter Tryz.func175,Tryz.ntmps175
 apply wp_seq_k
 intro K hK
 have HK:=Zh hK
 clear hK
 go_wp2_with fail
 refine Zg5 (P:=fun X=>K _ X) w _ _ _ _ _ _ ?_
 intro W b0 b1 b2 hz hbW
 refine HK.out _ _ ?_
 clear HK K
 have HA:=Zh b0
 have HB:=Zh b1
 have HO:=Zh b2
 have HW:=Zh hbW
 have hzW:w.heap.size+1+1<W.heap.size:=by omega
 have hzW1:w.heap.size+1<W.heap.size:=by omega
 have hzW0:w.heap.size<W.heap.size:=by omega
 clear b0 b1 b2 hz hbW
 have a0:=HA.out.cm 0
 have a1:=HA.out.cm 1
 have a2:=HA.out.cm 2
 have a3:=HA.out.cm 3
 have b0:=HB.out.cm 0
 have b1:=HB.out.cm 1
 have b2:=HB.out.cm 2
 have b3:=HB.out.cm 3
 go_wp2_with (go_at_call 246;refine Hid.out ?_)
 refine Zh ?_
 refine (HZB.out _).mono ?_
 rintro e w1 ⟨he,hb1⟩
 simp only [hzb] at he
 subst he
 dsimp only
 have hb2:=Zaa (Zad W (.cells #[.int .i64 4,.int .i64 0,.string ⟨#[]⟩,.int .u64 0] 125 (0,0))) hb1
 have HL1:=Zh ((Blk.new W 125 #[.int .i64 4,.int .i64 0,.string ⟨#[]⟩,.int .u64 0]).go hb1)
 have HA1:=Zh (HA.out.go hb2)
 have HB1:=Zh (HB.out.go hb2)
 have HO1:=Zh (HO.out.go hb2)
 have HW1:=Zh (Zaa HW.out hb2)
 have hw1:=hb2.size
 clear HA HB HO HW hb1 hb2 a0 a1 a2 a3 b0 b1 b2 b3
 have a0:=HA1.out.cm 0
 have a1:=HA1.out.cm 1
 have a2:=HA1.out.cm 2
 have a3:=HA1.out.cm 3
 have b0:=HB1.out.cm 0
 have b1:=HB1.out.cm 1
 have b2:=HB1.out.cm 2
 have b3:=HB1.out.cm 3
 go_wp2_with (go_at_call 246;refine Hid.out ?_)
 refine Zh ?_
 refine (HZA.out _).mono ?_
 rintro e w2 ⟨he,hb1⟩
 simp only [hzx] at he
 subst he
 dsimp only
 have HL2:=Zh (HL1.out.go hb1)
 have HA2:=Zh (HA1.out.go hb1)
 have HB2:=Zh (HB1.out.go hb1)
 have HO2:=Zh (HO1.out.go hb1)
 have HW2:=Zh (Zaa HW1.out hb1)
 have hw2:=hb1.size
 clear HL1 HA1 HB1 HO1 HW1 hb1 a0 a1 a2 a3 b0 b1 b2 b3
 have HLf:Hid (Blk (w2.setCell ⟨W.heap.size,3,none⟩ (.int .u64 ((C:Nat):Int))) W.heap.size 125 #[.int .i64 4,.int .i64 0,.string ⟨#[]⟩,.int .u64 ((C:Nat):Int)]):=Zh (HL2.out.set_ 3 _)
 have HOf:=Zh (HO2.out.far (p:=⟨W.heap.size,3,none⟩) (show w.heap.size+1+1≠W.heap.size by omega) (.int .u64 ((C:Nat):Int)))
 have HWf:=Zh (HW2.out.setCell (p:=⟨W.heap.size,3,none⟩) (show w.heap.size<=W.heap.size by omega) (.int .u64 ((C:Nat):Int)))
 have y3:=HA2.out.cm 3
 have z3:=HB2.out.cm 3
 have l3:=HL2.out.cm 3
 have fl:=HL2.out.frozen 3
 have a0:=HA2.out.cm 0
 have b0:=HB2.out.cm 0
 repeat (first | ((with_reducible refine Zao ?_);refine Zam 125 7 12 W.heap.size rfl rfl rfl HL2.out (by rfl) (by kernel_rfl) (by kernel_rfl) rfl rfl ?_) | ((with_reducible refine Zao ?_);refine Zaw 125 7 W.heap.size rfl rfl HLf.out Tryz.underlying125 rfl (by kernel_rfl) rfl ?_) | ((with_reducible refine Zao ?_);refine Zam 125 6 77 (w.heap.size+1+1) rfl rfl rfl HOf.out (by rfl) (by kernel_rfl) (by kernel_rfl) rfl rfl ?_) | go_step)
 refine Zbs 125 6 (w.heap.size+1+1) rfl (HOf.out.row _) Tryz.underlying125 rfl (by kernel_rfl) rfl rfl ?_
 exact⟨rfl,below_setRow HWf.out (show w.heap.size<=w.heap.size+1+1 by omega) _⟩
theorem Zw9 (f:Nat)(x y:Int)(hx:Zdj x)(hy:Zdj y)(hzx:Zcz (.num x)=false)(hzy:Zcz (.num y)=false)(oa ob:Nat)(w:World)(h1:oa<<<f<18446744073709551616)(h2:ob<<<f<18446744073709551616) :
  Calls Tryz.prog 175 #[.int .i64 9,Za3 f ⟨.num x,oa⟩,Za3 f ⟨.num y,ob⟩] w fun e w'=>e=.returned (Za3 f ⟨.num (bits .xor .i64 x y),oa|||ob⟩)/\Below w.heap.size w w':=by
 have h4:=Zs2 hx hy
 have h6:wrap64 (bits .xor .i64 x y)=bits .xor .i64 x y:=by rw [h4.1];exact Zgb h4.2
 clear h4 hx hy
 have HZA:=Zh (fun w=>Zhk f ⟨(.num x),oa⟩ w)
 have HZB:=Zh (fun w=>Zhk f ⟨(.num y),ob⟩ w)
 have hor:=Zcg h1 h2
 have hsh:=Zg9 oa ob f
 simp only [Za3,hsh] at *
 clear h1 h2 hsh
 generalize oa<<<f=A at *
 generalize ob<<<f=E at *
 generalize A|||E=C at *
 go_enter Tryz.func175,Tryz.ntmps175
 apply wp_seq_k
 intro K hK
 have HK:=Zh hK
 clear hK
 go_wp2_with fail
 refine Zg5 (P:=fun X=>K _ X) w _ _ _ _ _ _ ?_
 intro W b0 b1 b2 hz hbW
 refine HK.out _ _ ?_
 clear HK K
 have HA:=Zh b0
 have HB:=Zh b1
 have HO:=Zh b2
 have HW:=Zh hbW
 have hzW:w.heap.size+1+1<W.heap.size:=by omega
 have hzW1:w.heap.size+1<W.heap.size:=by omega
 have hzW0:w.heap.size<W.heap.size:=by omega
 clear b0 b1 b2 hz hbW
 have a0:=HA.out.cm 0
 have a1:=HA.out.cm 1
 have a2:=HA.out.cm 2
 have a3:=HA.out.cm 3
 have b0:=HB.out.cm 0
 have b1:=HB.out.cm 1
 have b2:=HB.out.cm 2
 have b3:=HB.out.cm 3
 go_wp2_with (go_at_call 246;refine Hid.out ?_)
 refine Zh ?_
 refine (HZB.out _).mono ?_
 rintro e w1 ⟨he,hb1⟩
 simp only [hzy] at he
 subst he
 dsimp only
 have hb2:=Zaa (Zad W (.cells #[.int .i64 4,.int .i64 0,.string ⟨#[]⟩,.int .u64 0] 125 (0,0))) hb1
 have HL1:=Zh ((Blk.new W 125 #[.int .i64 4,.int .i64 0,.string ⟨#[]⟩,.int .u64 0]).go hb1)
 have HA1:=Zh (HA.out.go hb2)
 have HB1:=Zh (HB.out.go hb2)
 have HO1:=Zh (HO.out.go hb2)
 have HW1:=Zh (Zaa HW.out hb2)
 have hw1:=hb2.size
 clear HA HB HO HW hb1 hb2 a0 a1 a2 a3 b0 b1 b2 b3
 have a0:=HA1.out.cm 0
 have a1:=HA1.out.cm 1
 have a2:=HA1.out.cm 2
 have a3:=HA1.out.cm 3
 have b0:=HB1.out.cm 0
 have b1:=HB1.out.cm 1
 have b2:=HB1.out.cm 2
 have b3:=HB1.out.cm 3
 go_wp2_with (go_at_call 246;refine Hid.out ?_)
 refine Zh ?_
 refine (HZA.out _).mono ?_
 rintro e w2 ⟨he,hb1⟩
 simp only [hzx] at he
 subst he
 dsimp only
 have HL2:=Zh (HL1.out.go hb1)
 have HA2:=Zh (HA1.out.go hb1)
 have HB2:=Zh (HB1.out.go hb1)
 have HO2:=Zh (HO1.out.go hb1)
 have HW2:=Zh (Zaa HW1.out hb1)
 have hw2:=hb1.size
 clear HL1 HA1 HB1 HO1 HW1 hb1 a0 a1 a2 a3 b0 b1 b2 b3
 have HA9:=Zh (HA2.out.farRow (show w.heap.size≠W.heap.size by omega) #[.int .i64 1,.int .i64 (bits .xor .i64 x y),.string ⟨#[]⟩,.int .u64 0])
 have HB9:=Zh (HB2.out.farRow (show w.heap.size+1≠W.heap.size by omega) #[.int .i64 1,.int .i64 (bits .xor .i64 x y),.string ⟨#[]⟩,.int .u64 0])
 have HL9:=Zh (HL2.out.row #[.int .i64 1,.int .i64 (bits .xor .i64 x y),.string ⟨#[]⟩,.int .u64 0])
 have HLf:Hid (Blk ((w2.setRow W.heap.size #[.int .i64 1,.int .i64 (bits .xor .i64 x y),.string ⟨#[]⟩,.int .u64 0]).setCell ⟨W.heap.size,3,none⟩ (.int .u64 ((C:Nat):Int))) W.heap.size 125 #[.int .i64 1,.int .i64 (bits .xor .i64 x y),.string ⟨#[]⟩,.int .u64 ((C:Nat):Int)]):=Zh (HL9.out.set_ 3 _)
 have HOf:=Zh ((HO2.out.farRow (show w.heap.size+1+1≠W.heap.size by omega) #[.int .i64 1,.int .i64 (bits .xor .i64 x y),.string ⟨#[]⟩,.int .u64 0]).far (p:=⟨W.heap.size,3,none⟩) (show w.heap.size+1+1≠W.heap.size by omega) (.int .u64 ((C:Nat):Int)))
 have HWf:=Zh ((below_setRow HW2.out (show w.heap.size<=W.heap.size by omega) #[.int .i64 1,.int .i64 (bits .xor .i64 x y),.string ⟨#[]⟩,.int .u64 0]).setCell (p:=⟨W.heap.size,3,none⟩) (show w.heap.size<=W.heap.size by omega) (.int .u64 ((C:Nat):Int)))
 have y3:=HA9.out.cell 3
 have z3:=HB9.out.cell 3
 have l3:=HL9.out.cell 3
 have fl:=HL9.out.frozen 3
 simp only [List.getElem?_toArray,List.getElem?_cons_succ,List.getElem?_cons_zero] at y3 z3 l3
 have a0:=HA2.out.cm 0
 have b0:=HB2.out.cm 0
 have a1:w2.cell? ⟨w.heap.size,1,none⟩=some (.int .i64 x):=HA2.out.cell 1
 have b1:w2.cell? ⟨w.heap.size+1,1,none⟩=some (.int .i64 y):=HB2.out.cell 1
 repeat (first | ((with_reducible refine Zao ?_);refine Zam 125 7 55 W.heap.size rfl rfl rfl HL2.out (by rfl) (by kernel_rfl) (by kernel_rfl) rfl rfl ?_) | ((with_reducible refine Zao ?_);refine Zaw 125 7 W.heap.size rfl rfl HLf.out Tryz.underlying125 rfl (by kernel_rfl) rfl ?_) | ((with_reducible refine Zao ?_);refine Zam 125 6 77 (w.heap.size+1+1) rfl rfl rfl HOf.out (by rfl) (by kernel_rfl) (by kernel_rfl) rfl rfl ?_) | go_step)
 refine Zbs 125 6 (w.heap.size+1+1) rfl (HOf.out.row _) Tryz.underlying125 rfl (by kernel_rfl) rfl rfl ?_
 exact⟨rfl,below_setRow HWf.out (show w.heap.size<=w.heap.size+1+1 by omega) _⟩
theorem Zxk (f:Nat)(x y:Int)(hx:Zdj x)(hy:Zdj y)(hzx:Zcz (.num x)=false)(hzy:Zcz (.num y)=false)(oa ob:Nat)(w:World)(h1:oa<<<f<18446744073709551616)(h2:ob<<<f<18446744073709551616) :
  Calls Tryz.prog 175 #[.int .i64 8,Za3 f ⟨.num x,oa⟩,Za3 f ⟨.num y,ob⟩] w fun e w'=>e=.returned (Za3 f ⟨.num (bits .or .i64 x y),oa|||ob⟩)/\Below w.heap.size w w':=by
 have h4:=Z28 hx hy
 have h6:wrap64 (bits .or .i64 x y)=bits .or .i64 x y:=by rw [h4.1];exact Zgb h4.2
 clear h4 hx hy
 have HZA:=Zh (fun w=>Zhk f ⟨(.num x),oa⟩ w)
 have HZB:=Zh (fun w=>Zhk f ⟨(.num y),ob⟩ w)
 have hor:=Zcg h1 h2
 have hsh:=Zg9 oa ob f
 simp only [Za3,hsh] at *
 clear h1 h2 hsh
 generalize oa<<<f=A at *
 generalize ob<<<f=E at *
 generalize A|||E=C at *
 go_enter Tryz.func175,Tryz.ntmps175
 apply wp_seq_k
 intro K hK
 have HK:=Zh hK
 clear hK
 go_wp2_with fail
 refine Zg5 (P:=fun X=>K _ X) w _ _ _ _ _ _ ?_
 intro W b0 b1 b2 hz hbW
 refine HK.out _ _ ?_
 clear HK K
 have HA:=Zh b0
 have HB:=Zh b1
 have HO:=Zh b2
 have HW:=Zh hbW
 have hzW:w.heap.size+1+1<W.heap.size:=by omega
 have hzW1:w.heap.size+1<W.heap.size:=by omega
 have hzW0:w.heap.size<W.heap.size:=by omega
 clear b0 b1 b2 hz hbW
 have a0:=HA.out.cm 0
 have a1:=HA.out.cm 1
 have a2:=HA.out.cm 2
 have a3:=HA.out.cm 3
 have b0:=HB.out.cm 0
 have b1:=HB.out.cm 1
 have b2:=HB.out.cm 2
 have b3:=HB.out.cm 3
 go_wp2_with (go_at_call 246;refine Hid.out ?_)
 refine Zh ?_
 refine (HZB.out _).mono ?_
 rintro e w1 ⟨he,hb1⟩
 simp only [hzy] at he
 subst he
 dsimp only
 have hb2:=Zaa (Zad W (.cells #[.int .i64 4,.int .i64 0,.string ⟨#[]⟩,.int .u64 0] 125 (0,0))) hb1
 have HL1:=Zh ((Blk.new W 125 #[.int .i64 4,.int .i64 0,.string ⟨#[]⟩,.int .u64 0]).go hb1)
 have HA1:=Zh (HA.out.go hb2)
 have HB1:=Zh (HB.out.go hb2)
 have HO1:=Zh (HO.out.go hb2)
 have HW1:=Zh (Zaa HW.out hb2)
 have hw1:=hb2.size
 clear HA HB HO HW hb1 hb2 a0 a1 a2 a3 b0 b1 b2 b3
 have a0:=HA1.out.cm 0
 have a1:=HA1.out.cm 1
 have a2:=HA1.out.cm 2
 have a3:=HA1.out.cm 3
 have b0:=HB1.out.cm 0
 have b1:=HB1.out.cm 1
 have b2:=HB1.out.cm 2
 have b3:=HB1.out.cm 3
 go_wp2_with (go_at_call 246;refine Hid.out ?_)
 refine Zh ?_
 refine (HZA.out _).mono ?_
 rintro e w2 ⟨he,hb1⟩
 simp only [hzx] at he
 subst he
 dsimp only
 have HL2:=Zh (HL1.out.go hb1)
 have HA2:=Zh (HA1.out.go hb1)
 have HB2:=Zh (HB1.out.go hb1)
 have HO2:=Zh (HO1.out.go hb1)
 have HW2:=Zh (Zaa HW1.out hb1)
 have hw2:=hb1.size
 clear HL1 HA1 HB1 HO1 HW1 hb1 a0 a1 a2 a3 b0 b1 b2 b3
 have HA9:=Zh (HA2.out.farRow (show w.heap.size≠W.heap.size by omega) #[.int .i64 1,.int .i64 (bits .or .i64 x y),.string ⟨#[]⟩,.int .u64 0])
 have HB9:=Zh (HB2.out.farRow (show w.heap.size+1≠W.heap.size by omega) #[.int .i64 1,.int .i64 (bits .or .i64 x y),.string ⟨#[]⟩,.int .u64 0])
 have HL9:=Zh (HL2.out.row #[.int .i64 1,.int .i64 (bits .or .i64 x y),.string ⟨#[]⟩,.int .u64 0])
 have HLf:Hid (Blk ((w2.setRow W.heap.size #[.int .i64 1,.int .i64 (bits .or .i64 x y),.string ⟨#[]⟩,.int .u64 0]).setCell ⟨W.heap.size,3,none⟩ (.int .u64 ((C:Nat):Int))) W.heap.size 125 #[.int .i64 1,.int .i64 (bits .or .i64 x y),.string ⟨#[]⟩,.int .u64 ((C:Nat):Int)]):=Zh (HL9.out.set_ 3 _)
 have HOf:=Zh ((HO2.out.farRow (show w.heap.size+1+1≠W.heap.size by omega) #[.int .i64 1,.int .i64 (bits .or .i64 x y),.string ⟨#[]⟩,.int .u64 0]).far (p:=⟨W.heap.size,3,none⟩) (show w.heap.size+1+1≠W.heap.size by omega) (.int .u64 ((C:Nat):Int)))
 have HWf:=Zh ((below_setRow HW2.out (show w.heap.size<=W.heap.size by omega) #[.int .i64 1,.int .i64 (bits .or .i64 x y),.string ⟨#[]⟩,.int .u64 0]).setCell (p:=⟨W.heap.size,3,none⟩) (show w.heap.size<=W.heap.size by omega) (.int .u64 ((C:Nat):Int)))
 have y3:=HA9.out.cell 3
 have z3:=HB9.out.cell 3
 have l3:=HL9.out.cell 3
 have fl:=HL9.out.frozen 3
 simp only [List.getElem?_toArray,List.getElem?_cons_succ,List.getElem?_cons_zero] at y3 z3 l3
 have a0:=HA2.out.cm 0
 have b0:=HB2.out.cm 0
 have a1:w2.cell? ⟨w.heap.size,1,none⟩=some (.int .i64 x):=HA2.out.cell 1
 have b1:w2.cell? ⟨w.heap.size+1,1,none⟩=some (.int .i64 y):=HB2.out.cell 1
 repeat (first | ((with_reducible refine Zao ?_);refine Zam 125 7 70 W.heap.size rfl rfl rfl HL2.out (by rfl) (by kernel_rfl) (by kernel_rfl) rfl rfl ?_) | ((with_reducible refine Zao ?_);refine Zaw 125 7 W.heap.size rfl rfl HLf.out Tryz.underlying125 rfl (by kernel_rfl) rfl ?_) | ((with_reducible refine Zao ?_);refine Zam 125 6 77 (w.heap.size+1+1) rfl rfl rfl HOf.out (by rfl) (by kernel_rfl) (by kernel_rfl) rfl rfl ?_) | go_step)
 refine Zbs 125 6 (w.heap.size+1+1) rfl (HOf.out.row _) Tryz.underlying125 rfl (by kernel_rfl) rfl rfl ?_
 exact⟨rfl,below_setRow HWf.out (show w.heap.size<=w.heap.size+1+1 by omega) _⟩
theorem Zwj (f:Nat)(x y:Int)(hx:Zdj x)(hy:Zdj y)(hzx:Zcz (.num x)=false)(hzy:Zcz (.num y)=false)(oa ob:Nat)(w:World)(h1:oa<<<f<18446744073709551616)(h2:ob<<<f<18446744073709551616) :
  Calls Tryz.prog 175 #[.int .i64 10,Za3 f ⟨.num x,oa⟩,Za3 f ⟨.num y,ob⟩] w fun e w'=>e=.returned (Za3 f ⟨.num (IntKind.i32.wrap (x+y)),oa|||ob⟩)/\Below w.heap.size w w':=by
 have h6:wrap64 (x+y)=x+y:=by unfold Zdj at hx hy;simp [wrap64];omega
 have HWR:=Zh (fun w=>Z58 (x+y) w)
 rw [show IntKind.i32.wrap (x+y)=RowKit.wrap32 (x+y) by unfold IntKind.wrap;simp [RowKit.wrap32,IntKind.bits,IntKind.signed];omega]
 clear hx hy
 have HZA:=Zh (fun w=>Zhk f ⟨(.num x),oa⟩ w)
 have HZB:=Zh (fun w=>Zhk f ⟨(.num y),ob⟩ w)
 have hor:=Zcg h1 h2
 have hsh:=Zg9 oa ob f
 simp only [Za3,hsh] at *
 clear h1 h2 hsh
 generalize oa<<<f=A at *
 generalize ob<<<f=E at *
 generalize A|||E=C at *
 go_enter Tryz.func175,Tryz.ntmps175
 apply wp_seq_k
 intro K hK
 have HK:=Zh hK
 clear hK
 go_wp2_with fail
 refine Zg5 (P:=fun X=>K _ X) w _ _ _ _ _ _ ?_
 intro W b0 b1 b2 hz hbW
 refine HK.out _ _ ?_
 clear HK K
 have HA:=Zh b0
 have HB:=Zh b1
 have HO:=Zh b2
 have HW:=Zh hbW
 have hzW:w.heap.size+1+1<W.heap.size:=by omega
 have hzW1:w.heap.size+1<W.heap.size:=by omega
 have hzW0:w.heap.size<W.heap.size:=by omega
 clear b0 b1 b2 hz hbW
 have a0:=HA.out.cm 0
 have a1:=HA.out.cm 1
 have a2:=HA.out.cm 2
 have a3:=HA.out.cm 3
 have b0:=HB.out.cm 0
 have b1:=HB.out.cm 1
 have b2:=HB.out.cm 2
 have b3:=HB.out.cm 3
 go_wp2_with (go_at_call 246;refine Hid.out ?_)
 refine Zh ?_
 refine (HZB.out _).mono ?_
 rintro e w1 ⟨he,hb1⟩
 simp only [hzy] at he
 subst he
 dsimp only
 have hb2:=Zaa (Zad W (.cells #[.int .i64 4,.int .i64 0,.string ⟨#[]⟩,.int .u64 0] 125 (0,0))) hb1
 have HL1:=Zh ((Blk.new W 125 #[.int .i64 4,.int .i64 0,.string ⟨#[]⟩,.int .u64 0]).go hb1)
 have HA1:=Zh (HA.out.go hb2)
 have HB1:=Zh (HB.out.go hb2)
 have HO1:=Zh (HO.out.go hb2)
 have HW1:=Zh (Zaa HW.out hb2)
 have hw1:=hb2.size
 clear HA HB HO HW hb1 hb2 a0 a1 a2 a3 b0 b1 b2 b3
 have a0:=HA1.out.cm 0
 have a1:=HA1.out.cm 1
 have a2:=HA1.out.cm 2
 have a3:=HA1.out.cm 3
 have b0:=HB1.out.cm 0
 have b1:=HB1.out.cm 1
 have b2:=HB1.out.cm 2
 have b3:=HB1.out.cm 3
 go_wp2_with (go_at_call 246;refine Hid.out ?_)
 refine Zh ?_
 refine (HZA.out _).mono ?_
 rintro e w2 ⟨he,hb1⟩
 simp only [hzx] at he
 subst he
 dsimp only
 have HL2:=Zh (HL1.out.go hb1)
 have HA2:=Zh (HA1.out.go hb1)
 have HB2:=Zh (HB1.out.go hb1)
 have HO2:=Zh (HO1.out.go hb1)
 have HW2:=Zh (Zaa HW1.out hb1)
 have hw2:=hb1.size
 clear HL1 HA1 HB1 HO1 HW1 hb1 a0 a1 a2 a3 b0 b1 b2 b3
 have HA9:=Zh (HA2.out.farRow (show w.heap.size≠W.heap.size by omega) #[.int .i64 1,.int .i64 (RowKit.wrap32 (x+y)),.string ⟨#[]⟩,.int .u64 0])
 have HB9:=Zh (HB2.out.farRow (show w.heap.size+1≠W.heap.size by omega) #[.int .i64 1,.int .i64 (RowKit.wrap32 (x+y)),.string ⟨#[]⟩,.int .u64 0])
 have HL9:=Zh (HL2.out.row #[.int .i64 1,.int .i64 (RowKit.wrap32 (x+y)),.string ⟨#[]⟩,.int .u64 0])
 have HLf:Hid (Blk ((w2.setRow W.heap.size #[.int .i64 1,.int .i64 (RowKit.wrap32 (x+y)),.string ⟨#[]⟩,.int .u64 0]).setCell ⟨W.heap.size,3,none⟩ (.int .u64 ((C:Nat):Int))) W.heap.size 125 #[.int .i64 1,.int .i64 (RowKit.wrap32 (x+y)),.string ⟨#[]⟩,.int .u64 ((C:Nat):Int)]):=Zh (HL9.out.set_ 3 _)
 have HOf:=Zh ((HO2.out.farRow (show w.heap.size+1+1≠W.heap.size by omega) #[.int .i64 1,.int .i64 (RowKit.wrap32 (x+y)),.string ⟨#[]⟩,.int .u64 0]).far (p:=⟨W.heap.size,3,none⟩) (show w.heap.size+1+1≠W.heap.size by omega) (.int .u64 ((C:Nat):Int)))
 have HWf:=Zh ((below_setRow HW2.out (show w.heap.size<=W.heap.size by omega) #[.int .i64 1,.int .i64 (RowKit.wrap32 (x+y)),.string ⟨#[]⟩,.int .u64 0]).setCell (p:=⟨W.heap.size,3,none⟩) (show w.heap.size<=W.heap.size by omega) (.int .u64 ((C:Nat):Int)))
 have y3:=HA9.out.cell 3
 have z3:=HB9.out.cell 3
 have l3:=HL9.out.cell 3
 have fl:=HL9.out.frozen 3
 simp only [List.getElem?_toArray,List.getElem?_cons_succ,List.getElem?_cons_zero] at y3 z3 l3
 have a0:=HA2.out.cm 0
 have b0:=HB2.out.cm 0
 have a1:w2.cell? ⟨w.heap.size,1,none⟩=some (.int .i64 x):=HA2.out.cell 1
 have b1:w2.cell? ⟨w.heap.size+1,1,none⟩=some (.int .i64 y):=HB2.out.cell 1
 go_wp2_with (go_at_call 247;refine Hid.out ?_)
 refine Zh ?_
 refine (HWR.out _).mono ?_
 rintro e w3 ⟨rfl,rfl⟩
 dsimp only
 repeat (first | ((with_reducible refine Zao ?_);refine Zam 125 7 36 W.heap.size rfl rfl rfl HL2.out (by rfl) (by kernel_rfl) (by kernel_rfl) rfl rfl ?_) | ((with_reducible refine Zao ?_);refine Zaw 125 7 W.heap.size rfl rfl HLf.out Tryz.underlying125 rfl (by kernel_rfl) rfl ?_) | ((with_reducible refine Zao ?_);refine Zam 125 6 77 (w.heap.size+1+1) rfl rfl rfl HOf.out (by rfl) (by kernel_rfl) (by kernel_rfl) rfl rfl ?_) | go_step)
 refine Zbs 125 6 (w.heap.size+1+1) rfl (HOf.out.row _) Tryz.underlying125 rfl (by kernel_rfl) rfl rfl ?_
 exact⟨rfl,below_setRow HWf.out (show w.heap.size<=w.heap.size+1+1 by omega) _⟩
theorem Zwe (f:Nat)(op:Int)(h8:op=8\/op=9\/op=10)(a b:Rg)(ha:Zps a.h)(hb:Zps b.h)(w:World)(h1:a.on<<<f<18446744073709551616)(h2:b.on<<<f<18446744073709551616) :
  Calls Tryz.prog 175 #[.int .i64 op,Za3 f a,Za3 f b] w fun e w'=>e=.returned (Za3 f ⟨Zcs op a.h b.h,a.on|||b.on⟩)/\Below w.heap.size w w':=by
 obtain⟨ha',oa⟩:=a
 obtain⟨hb',ob⟩:=b
 simp only at ha hb h1 h2 ⊢
 cases hzb:Zcz hb' with
 | true=>
  cases hb' with
  | num y=>
   have hy:y=0:=by simpa [Zcz] using hzb
   subst hy
   rw [Z2t h8 ha]
   exact Zys f op ha' oa ob w h1 h2
  | adr s=>cases hzb
  | rd i=>cases hzb
  | non=>cases hzb
 | false=>
  cases hza:Zcz ha' with
  | true=>
   cases ha' with
   | num x=>
    have hx:x=0:=by simpa [Zcz] using hza
    subst hx
    rw [Z2k h8 hb]
    exact Zxe f op hb' hzb oa ob w h1 h2
   | adr s=>cases hza
   | rd i=>cases hza
   | non=>cases hza
  | false=>
   cases hka:Zn3 ha' with
   | false=>
    rw [Z1a hka hzb]
    exact Zyf f op ha' hb' hka hzb oa ob w h1 h2
   | true=>
    cases ha' with
    | num x=>
     cases hkb:Zn3 hb' with
     | false=>
      rw [Z1p hkb hza]
      exact Zw8 f op x hb' hza hkb oa ob w h1 h2
     | true=>
      cases hb' with
      | num y=>
       rcases h8 with rfl | rfl | rfl
       ·exact Zxk f x y ha hb hza hzb oa ob w h1 h2
       ·exact Zw9 f x y ha hb hza hzb oa ob w h1 h2
       ·exact Zwj f x y ha hb hza hzb oa ob w h1 h2
      | adr s=>cases hkb
      | rd i=>cases hkb
      | non=>cases hkb
    | adr s=>cases hka
    | rd i=>cases hka
    | non=>cases hka
end
section
structure Zeh (S:RrS):Prop where
 ahead:S.C.ahead=S.a.evs.length
 l1:S.a.addr.length<=100000
 l2:S.a.data.length<=100000
 l3:S.a.hang.length<=100000
 l4:S.a.bars.length<=8192
 few:S.C.locs.length<=64
theorem Zbf (S:RrS)(r:Rn)(fl:Bool)(V:RrV):(rrC S r fl V).all (·.oneCell')=true:=by simp [rrC,Value.oneCell']
theorem Zqj (w:World)(g:Nat)(cs:Array Value):(w.setRow g cs).heap.size=w.heap.size:=by simp [World.setRow]
theorem Zci {w:World}{B q:Nat}{t T:TypeId}{z n:Nat}{v:Value}{cs:List Value}{zz:Array Value}(h:w.ownsRow B t z v n cs)(hq:Blk w q T zz)(hne:t≠T)(c:Array Value):(w.setRow q c).ownsRow B t z v n cs:=
 Zep h fun b hb=>setRow_other w q b c fun e=>Zcj h hq hne (by rw [hb,e])
theorem Za7.row {w:World}{B q:Nat}{S:RrS}{r:Rn}{V:RrV}{z:Array Value}(h:Za7 w B S r V)(hq:Blk w q 121 z)(c:Array Value):Za7 (w.setRow q c) B S r V:=
 ⟨by rw [Zqj];exact h.hB,Zci h.lo hq (by decide) c,Zci h.rg hq (by decide) c,Zci h.ev hq (by decide) c,Zci h.br hq (by decide) c,Zci h.ad hq (by decide) c,Zci h.da hq (by decide) c,Zci h.ct hq (by decide) c,h.a1,h.a2,h.a3⟩
theorem Za9.row {B:Nat}{w W:World}(h:Za9 B w W)(hB:B<=w.heap.size){q:Nat}(hq:w.heap.size<=q)(c:Array Value):Za9 B w (W.setRow q c):=
 ⟨below_setRow h.below (Nat.le_trans hB hq) c,fun b t cs hb h1 h2 h3=>(h.keep b t cs hb h1 h2 h3).farRow (by have:=hb.lt;omega) c⟩
structure Zb0 (w W:World) (B g q:Nat) (S:RrS) (r:Rn) (fl:Bool) (V:RrV):Prop where
 ref:Za7 W B S r V
 keep:Za9 B w W
 hB:B<=w.heap.size
 blk:Blk W g 121 (rrC S r fl V)
 out:∃ z,Blk W q 121 z/\z.size=26
 hg:w.heap.size<=g
 hq:w.heap.size<=q
 ne:q≠g
namespace Zb0
variable {w W W1:World} {B g q:Nat} {S:RrS} {r r':Rn} {fl:Bool} {V V':RrV} {s:Sl}
theorem below (h:Zb0 w W B g q S r fl V)(hb:Below W.heap.size W W1):Zb0 w W1 B g q S r fl V:=
 ⟨h.ref.below hb,h.keep.below' hb h.hB,h.hB,h.blk.go hb,h.out.imp fun _ hz=>⟨hz.1.go hb,hz.2⟩,h.hg,h.hq,h.ne⟩
theorem drew (h:Zb0 w W B g q S r fl V):Zb0 w W.drew B g q S r fl V:=
 ⟨h.ref.drew,h.keep.drew,h.hB,h.blk,h.out,h.hg,h.hq,h.ne⟩
theorem put_ {t:TypeId}{z n i:Nat}{v:Value}{cs:List Value}(h:Zb0 w W B g q S r fl V)(ho:W.ownsRow B t z v n cs)(ht:t = 50\/t = 79\/t = 52)(hg:Zbn W W1 B v s.v)(hr:Za7 W1 B S r' V')(hc:(rrC S r fl V).setIfInBounds i s.v=rrC S r' fl V'):Zb0 w (W1.setCell ⟨g,i,none⟩ s.v) B g q S r' fl V':=by
 have hne:t≠121:=by rcases ht with rfl | rfl | rfl <;> decide
 have hb:=Zat h.blk ho hne hg
 obtain⟨z,hz,hzs⟩:=h.out
 exact⟨hr.set hb i _,(h.keep.trans (Za9.grew ho ht hg)).set h.hg h.hB i _,h.hB,by rw [<- hc];exact hb.set_ i _,⟨z,(Zat hz ho hne hg).far (p:=⟨g,i,none⟩) h.ne _,hzs⟩,h.hg,h.hq,h.ne⟩
theorem ev {l:List Evt}(h:Zb0 w W B g q S r fl V)(hg:Zbn W W1 B V.ev.v s.v)(ho:Zp5.Own 50 B W1 s.v (S.a.evs++l)):Zb0 w (W1.setCell ⟨g,17,none⟩ s.v) B g q S { r with evs:=l } fl { V with ev:=s }:=
 h.put_ h.ref.ev (Or.inl rfl) hg (h.ref.evG hg ho) rfl
theorem br {l:List Br}(h:Zb0 w W B g q S r fl V)(hg:Zbn W W1 B V.br.v s.v)(ho:Zm2.Own 79 B W1 s.v (S.a.bars++l)):Zb0 w (W1.setCell ⟨g,18,none⟩ s.v) B g q S { r with bars:=l } fl { V with br:=s }:=
 h.put_ h.ref.br (Or.inr (Or.inl rfl)) hg (h.ref.brG hg ho) rfl
theorem ad {l:List (Int×Int)}(h:Zb0 w W B g q S r fl V)(hg:Zbn W W1 B V.ad.v s.v)(ho:Zbg.Own 52 B W1 s.v (S.a.addr++l.map (shP S.C.ahead))):Zb0 w (W1.setCell ⟨g,19,none⟩ s.v) B g q S { r with addr:=l } fl { V with ad:=s }:=
 h.put_ h.ref.ad (Or.inr (Or.inr rfl)) hg (h.ref.adG hg ho) rfl
theorem da {l:List (Int×Int)}(h:Zb0 w W B g q S r fl V)(hg:Zbn W W1 B V.da.v s.v)(ho:Zbg.Own 52 B W1 s.v (S.a.data++l.map (shP S.C.ahead))):Zb0 w (W1.setCell ⟨g,20,none⟩ s.v) B g q S { r with data:=l } fl { V with da:=s }:=
 h.put_ h.ref.da (Or.inr (Or.inr rfl)) hg (h.ref.daG hg ho) rfl
theorem ct {l:List (Int×Int)}(h:Zb0 w W B g q S r fl V)(hg:Zbn W W1 B V.ct.v s.v)(ho:Zbg.Own 52 B W1 s.v (S.a.hang++l.map (shP S.C.ahead))):Zb0 w (W1.setCell ⟨g,21,none⟩ s.v) B g q S { r with hang:=l } fl { V with ct:=s }:=
 h.put_ h.ref.ct (Or.inr (Or.inr rfl)) hg (h.ref.ctG hg ho) rfl
theorem one_ {i:Nat}{u:Value}(h:Zb0 w W B g q S r fl V){fl':Bool}(hr:Za7 W B S r' V')(hc:(rrC S r fl V).setIfInBounds i u=rrC S r' fl' V'):Zb0 w (W.setCell ⟨g,i,none⟩ u) B g q S r' fl' V':=by
 obtain⟨z,hz,hzs⟩:=h.out
 exact⟨hr.set h.blk i _,h.keep.set h.hg h.hB i _,h.hB,by rw [<- hc];exact h.blk.set_ i _,⟨z,hz.far (p:=⟨g,i,none⟩) h.ne _,hzs⟩,h.hg,h.hq,h.ne⟩
theorem full (h:Zb0 w W B g q S r fl V):Zb0 w (W.setCell ⟨g,25,none⟩ (.bool true)) B g q S { r with full:=true } fl V:=h.one_ (h.ref.full true) rfl
theorem flow (h:Zb0 w W B g q S r fl V):Zb0 w (W.setCell ⟨g,24,none⟩ (.bool true)) B g q S r true V:=h.one_ h.ref rfl
theorem ctrl (h:Zb0 w W B g q S r fl V)(c:Nat):Zb0 w (W.setCell ⟨g,14,none⟩ (.int .u64 ((c<<<S.C.ahead:Nat):Int))) B g q S { r with ctrl:=c } fl V:=h.one_ (h.ref.ctrl c) rfl
theorem regs {l:List Rg}(h:Zb0 w W B g q S r fl V)(ho:(Zdi S.C.ahead).Own 125 B W s.v l):Zb0 w (W.setCell ⟨g,13,none⟩ s.v) B g q S { r with regs:=l } fl { V with rg:=s }:=h.one_ (h.ref.rgG ho) rfl
theorem row (h:Zb0 w W B g q S r fl V){fl':Bool}(hr:Za7 W1 B S r' V')(hk:Za9 B W W1):Zb0 w (W1.setRow g (rrC S r' fl' V')) B g q S r' fl' V':=by
 obtain⟨z,hz,hzs⟩:=h.out
 have hb:=hk.keep _ _ _ h.blk (by decide) (by decide) (by decide)
 have hz':=hk.keep _ _ _ hz (by decide) (by decide) (by decide)
 exact⟨hr.row hb _,(h.keep.trans hk).row h.hB h.hg _,h.hB,hb.row _,⟨z,hz'.farRow h.ne _,hzs⟩,h.hg,h.hq,h.ne⟩
theorem ret (h:Zb0 w W B g q S r fl V):Zew B S r fl w (.returned (.agg (rrC S r fl V))) (W.setRow q (rrC S r fl V)):=by
 obtain⟨z,hz,hzs⟩:=h.out
 exact⟨V,rfl,h.ref.row hz _,h.keep.row h.hB h.hq _⟩
theorem out1 (h:Zb0 w W B g q S r fl V)(hk:Za9 B W W1):∃ z,Blk W1 q 121 z/\z.size=26:=by
 obtain⟨z,hz,hzs⟩:=h.out
 exact⟨z,hk.keep _ _ _ hz (by decide) (by decide) (by decide),hzs⟩
theorem ret1 (h:Zb0 w W B g q S r fl V){fl':Bool}(hr:Za7 W1 B S r' V')(hk:Za9 B W W1):Zew B S r' fl' w (.returned (.agg (rrC S r' fl' V'))) (W1.setRow q (rrC S r' fl' V')):=by
 obtain⟨z,hz,hzs⟩:=h.out1 hk
 exact⟨V',rfl,hr.row hz _,(h.keep.trans hk).row h.hB h.hq _⟩
end Zb0
theorem Zch (fn:Func){a:Act}{Q:Exit->Act->World->Prop}{id:Nat}{o1 o2:Oper}(tp rp d1:Nat){w W:World}{B g q:Nat}{S:RrS}{r:Rn}{fl:Bool}{V:RrV}
  (h1:o1.op=.load 121 (.tmp tp)) (g1:o1.guard=none) (e1:o1.dst=some d1) (h2:o2.op=.store 121 (.tmp rp) (.tmp d1)) (g2:o2.guard=none) (e2:o2.dst=none) (hr:fn.results=#[.cell rp 121])
  (hU:Zb0 w W B g q S r fl V) (ha:a.tmps.getD tp undef=.pointer (some ⟨g,0,none⟩)) (hb:a.tmps.getD rp undef=.pointer (some ⟨q,0,none⟩)) (hne:rp≠d1) (hlt:d1<a.tmps.size) (hdf:a.defers=[])
  (hQ:∀ a' W',bodyPost Tryz.prog fn (Zew B S r fl w) .ret a' W'->Q .ret a' W'):(Code.seq (.region id #[o1,o2] false) .ret).wp Tryz.prog Q a W:=by
 obtain⟨z,hz,hzs⟩:=hU.out
 exact Zxs fn 121 tp rp d1 g q h1 g1 e1 h2 g2 e2 hr hU.blk hz hzs Tryz.underlying121 rfl (by kernel_rfl) (Zbf _ _ _ _) ha hb hne hlt hdf hQ hU.ret
theorem Zeq {w:World}{g:Nat}{S:RrS}{r:Rn}{fl:Bool}{V:RrV}(h:Blk w g 121 (rrC S r fl V)):(loadVar 121 ⟨g,0,none⟩).run Tryz.prog w=.ok (rrV S r fl V) w:=
 run_loadVar_row w g 121 121 (rrC S r fl V) (0,0) _ h Tryz.underlying121 rfl (by kernel_rfl)
theorem Zjr {w:World}{g:Nat}{S:RrS}{r:Rn}{fl:Bool}{V:RrV}(h:Blk w g 121 (rrC S r fl V)):(loadVar 41 ⟨g,15,none⟩).run Tryz.prog w=.ok (Zug S V) w:=
 run_loadVar_mid w g 15 41 [S.lo.v,S.ini.v,V.ev.v,V.br.v,V.ad.v,V.da.v,V.ct.v,S.th.v,S.en.v] _ (World.rangeAt_of_block h 15 9) Tryz.underlying41 rfl (by kernel_rfl)
theorem Zdq {w:World}{q f:Nat}{l:List Rg}(h:(Zdi f).At w (some ⟨q,0,none⟩) l){i:Nat}{x:Rg}(hx:l[i]?=some x):(loadVar 125 ⟨q,i*4,none⟩).run Tryz.prog w=.ok (Za3 f x) w:=by
 refine run_loadVar_mid w q (i*4) 125 [.int .i64 (Zax x.h),.int .i64 (Zb8 f x.h),.string ⟨(Zb7 x.h).toArray⟩,.int .u64 ((x.on<<<f:Nat):Int)] _ (fun j v hj=>?_) Tryz.underlying125 rfl (by kernel_rfl)
 obtain⟨b,o,e,hc⟩:=h i x hx
 simp only [Option.some.injEq,Addr.mk.injEq,and_true] at e
 obtain⟨rfl,rfl⟩:=e
 have:=hc j v hj
 rwa [Nat.zero_add] at this
set_option maxHeartbeats 4000000
set_option maxRecDepth 100000
theorem Zp9 (B:Nat)(S:RrS)(r:Rn)(V:RrV)(x:Evt)(on da:Nat)(w:World)(hR:Za7 w B S r V)(hen:V.ev.n=S.C.ahead+r.evs.length)(hfull:64<=S.C.ahead+r.evs.length) :
  Calls Tryz.prog 245 #[rrV S r false V,.agg #[.int .i64 x.th,.int .i64 x.pl,.int .i64 x.dr,.int .i64 x.lc,.int .i64 x.vl,.int .i64 x.rg],.int .u64 ((on<<<S.C.ahead:Nat):Int),.int .u64 ((da<<<S.C.ahead:Nat):Int)] w (Zew B S { r with full:=true } false w):=by
 have HR:=Zh hR
 obtain⟨c,hc⟩:∃ c,c=rrC S r false V:=⟨_,rfl⟩
 rw [show rrV S r false V=.agg c by rw [hc]]
 have HC:=Zh hc
 clear hc
 go_enter Tryz.func245,Tryz.ntmps245
 apply wp_seq_k
 intro K hK
 have HK:=Zh hK
 clear hK hR
 go_wp2_with fail
 refine Zg5 (P:=fun X=>K _ X) w _ _ _ _ _ _ ?_
 intro W b0 b1 b2 hz hbW
 refine HK.out _ _ ?_
 clear HK K
 rw [HC.out] at b0
 have HU:Hid (Zb0 w W B w.heap.size (w.heap.size+1+1) S r false V):=Zh ⟨HR.out.below hbW,Za9.of_below hbW HR.out.hB,HR.out.hB,b0,⟨_,b2,rfl⟩,Nat.le_refl _,by omega,by omega⟩
 have HN:=Zh hen
 clear b0 b1 b2 hbW hz hen HC
 have k17:W.cell? ⟨w.heap.size,17,none⟩=some (.slice V.ev.A (S.C.ahead+r.evs.length) V.ev.c):=by rw [<- HN.out];exact HU.out.blk.cell 17
 have k25:=HU.out.blk.cm 25
 have f25:=HU.out.blk.frozen 25
 have HV:=Zh HU.out.full
 have hfi:(64:Int)<=(S.C.ahead:Int)+(r.evs.length:Int):=by omega
 repeat (first | ((with_reducible refine Zfp ?_);refine Zch Tryz.f245 4 8 17 rfl rfl rfl rfl rfl rfl rfl HV.out rfl rfl (by decide) (of_decide_eq_true rfl) rfl (fun _ _ h=>h)) | go_step)
theorem Zpu (B:Nat)(S:RrS)(hS:Zeh S)(r:Rn)(V:RrV)(x:Evt)(on da:Nat)(w:World)(hR:Za7 w B S r V)(hon:on<2 ^ r.evs.length)(hda:da<2 ^ r.evs.length)(hct:r.ctrl<2 ^ r.evs.length)(l1:r.addr.length<=100000)(l2:r.data.length<=100000)(l3:r.hang.length<=100000)(hroom:¬ 64<=S.C.ahead+r.evs.length) :
  Calls Tryz.prog 245 #[rrV S r false V,.agg #[.int .i64 x.th,.int .i64 x.pl,.int .i64 x.dr,.int .i64 x.lc,.int .i64 x.vl,.int .i64 x.rg],.int .u64 ((on<<<S.C.ahead:Nat):Int),.int .u64 ((da<<<S.C.ahead:Nat):Int)] w
   (Zew B S { r with evs:=r.evs++[{ x with th:=(S.C.th:Int) }],addr:=r.addr++Zbl on r.evs.length 64,data:=r.data++Zbl da r.evs.length 64,hang:=r.hang++Zbl r.ctrl r.evs.length 64 } false w):=by
 have HR:=Zh hR
 obtain⟨n,hn⟩:∃ n,S.C.ahead+r.evs.length=n:=⟨_,rfl⟩
 have hen:V.ev.n=n:=by rw [Zpw hR.ev,List.length_append,<- hS.ahead,hn]
 have hlen:(S.a.evs++r.evs).length=n:=by rw [List.length_append,<- hS.ahead,hn]
 have hni:(n:Int)<64:=by omega
 have P1:=Zh (Zf3 (i:=r.evs.length) hon (show S.C.ahead+r.evs.length<=64 by omega))
 have P2:=Zh (Zf3 (i:=r.evs.length) hda (show S.C.ahead+r.evs.length<=64 by omega))
 have P3:=Zh (Zf3 (i:=r.evs.length) hct (show S.C.ahead+r.evs.length<=64 by omega))
 have U1:=Zh (Zhj hon (show S.C.ahead+r.evs.length<=64 by omega))
 have U2:=Zh (Zhj hda (show S.C.ahead+r.evs.length<=64 by omega))
 have U3:=Zh (Zhj hct (show S.C.ahead+r.evs.length<=64 by omega))
 rw [hn] at P1 P2 P3
 generalize on<<<S.C.ahead=on' at *
 generalize da<<<S.C.ahead=da' at *
 have HS:=Zh hS
 obtain⟨c,hc⟩:∃ c,c=rrC S r false V:=⟨_,rfl⟩
 rw [show rrV S r false V=.agg c by rw [hc]]
 have HC:=Zh hc
 clear hc hR hon hda hct hS hn
 go_enter Tryz.func245,Tryz.ntmps245
 apply wp_seq_k
 intro K hK
 have HK:=Zh hK
 clear hK
 go_wp2_with fail
 refine Zg5 (P:=fun X=>K _ X) w _ _ _ _ _ _ ?_
 intro W b0 b1 b2 hz hbW
 refine HK.out _ _ ?_
 clear HK K
 rw [HC.out] at b0
 have HU:Hid (Zb0 w W B w.heap.size (w.heap.size+1+1) S r false V):=Zh ⟨HR.out.below hbW,Za9.of_below hbW HR.out.hB,HR.out.hB,b0,⟨_,b2,rfl⟩,Nat.le_refl _,by omega,by omega⟩
 have HE:=Zh b1
 have HBW:=Zh hbW
 have hzW:w.heap.size<W.heap.size:=by omega
 clear b0 b1 b2 hbW hz HC
 have k12:=HU.out.blk.cm 12
 have k17:W.cell? ⟨w.heap.size,17,none⟩=some (.slice V.ev.A n V.ev.c):=by rw [<- hen];exact HU.out.blk.cell 17
 have e0:=HE.out.cm 0
 have e1:=HE.out.cm 1
 have e2:=HE.out.cm 2
 have e3:=HE.out.cm 3
 have e4:=HE.out.cm 4
 have e5:=HE.out.cm 5
 have fe:=HE.out.frozen 0
 go_wp2_with (at_builtin;refine Hid.out ?_)
 have hb1:=Zad (W.setCell ⟨w.heap.size+1,0,none⟩ (.int .i64 (S.C.th:Int))) (.cells #[.int .i64 (S.C.th:Int),.int .i64 x.pl,.int .i64 x.dr,.int .i64 x.lc,.int .i64 x.vl,.int .i64 x.rg] 50 (0,0))
 have hb2:=(HBW.out.setCell (p:=⟨w.heap.size+1,0,none⟩) (by simp) (.int .i64 (S.C.th:Int))).trans (hb1.mono (by simpa [World.setCell] using Nat.le_of_lt hzW))
 have HV:=Zh (show Zb0 w _ B w.heap.size (w.heap.size+1+1) S r false V from⟨HR.out.below hb2,Za9.of_below hb2 HU.out.hB,HU.out.hB,(HU.out.blk.far (p:=⟨w.heap.size+1,0,none⟩) (by simp) _).go hb1,HU.out.out.imp fun _ h=>⟨(h.1.far (p:=⟨w.heap.size+1,0,none⟩) (by simp) _).go hb1,h.2⟩,Nat.le_refl _,by omega,by omega⟩)
 clear hb1 hb2 HU k17 k12 e0 e1 e2 e3 e4 e5 fe HE
 have HA:=Zh (Zzw (W.setCell ⟨w.heap.size+1,0,none⟩ (.int .i64 (S.C.th:Int))) (S.C.th:Int) x.pl x.dr x.lc x.vl x.rg)
 rw [show (W.setCell ⟨w.heap.size+1,0,none⟩ (.int .i64 (S.C.th:Int))).heap.size=W.heap.size by simp [World.setCell]] at HA
 refine Zh ?_
 refine Enc.appW Z2b _ rfl (.tmp 23) (.tmp 25) rfl [⟨(S.C.th:Int),x.pl,x.dr,x.lc,x.vl,x.rg⟩] B (S.a.evs++r.evs) (.slice V.ev.A n V.ev.c) W.heap.size 0 1 rfl rfl HA.out (by rw [<- hen];exact HV.out.ref.ev) (by simp only [hlen,List.length_singleton];omega) (by simp only [hlen,List.length_singleton];omega) HV.out.ref.hB ?_
 intro v' w4 ho4 hg4
 obtain⟨s4,rfl,hs4⟩:=Zee ho4
 clear hs4
 rw [List.append_assoc] at ho4
 have HU:=Zh (HV.out.ev (by rw [<- hen] at hg4;exact hg4) ho4)
 have hb4:=Zat HV.out.blk HV.out.ref.ev (by decide) (by rw [<- hen] at hg4;exact hg4)
 have k17:w4.cell? ⟨w.heap.size,17,none⟩=some (.slice V.ev.A n V.ev.c):=by rw [<- hen];exact hb4.cell 17
 have f17:=hb4.frozen 17
 have k19:w4.cell? ⟨w.heap.size,19,none⟩=some V.ad.v:=hb4.cell 19
 clear HR HBW HV HA ho4 hg4 hb4 hzW
 go_wp2_with (go_at_call 298;refine Hid.out ?_)
 refine Zh ?_
 refine (Zu9 V.ad _ _ n B _ U1.out (by have:=HS.out.l1;rw [List.length_append,List.length_map];dsimp only;omega) HU.out.ref.hB HU.out.ref.ad).mono ?_
 rintro e w6 ⟨s6,rfl,ho6,hg6⟩
 dsimp only at ho6
 rw [List.append_assoc,P1.out,<- List.map_append] at ho6
 have hb6:=Zat HU.out.blk HU.out.ref.ad (by decide) hg6
 have HU2:=Zh (HU.out.ad hg6 ho6)
 clear HU
 have HU:=HU2
 clear HU2
 have k19:w6.cell? ⟨w.heap.size,19,none⟩=some V.ad.v:=hb6.cell 19
 have f19:=hb6.frozen 19
 clear ho6 hg6 k17 f17
 have k20:w6.cell? ⟨w.heap.size,20,none⟩=some V.da.v:=hb6.cell 20
 clear hb6
 go_wp2_with (go_at_call 298;refine Hid.out ?_)
 refine Zh ?_
 refine (Zu9 V.da _ _ n B _ U2.out (by have:=HS.out.l2;rw [List.length_append,List.length_map];dsimp only;omega) HU.out.ref.hB HU.out.ref.da).mono ?_
 rintro e w6 ⟨s6,rfl,ho6,hg6⟩
 dsimp only at ho6
 rw [List.append_assoc,P2.out,<- List.map_append] at ho6
 have hb6:=Zat HU.out.blk HU.out.ref.da (by decide) hg6
 have HU2:=Zh (HU.out.da hg6 ho6)
 clear HU
 have HU:=HU2
 clear HU2
 have k20:w6.cell? ⟨w.heap.size,20,none⟩=some V.da.v:=hb6.cell 20
 have f20:=hb6.frozen 20
 clear ho6 hg6 k19 f19
 have k21:w6.cell? ⟨w.heap.size,21,none⟩=some V.ct.v:=hb6.cell 21
 have k14:=hb6.cm 14
 clear hb6
 go_wp2_with (go_at_call 298;refine Hid.out ?_)
 refine Zh ?_
 refine (Zu9 V.ct _ _ n B _ U3.out (by have:=HS.out.l3;rw [List.length_append,List.length_map];dsimp only;omega) HU.out.ref.hB HU.out.ref.ct).mono ?_
 rintro e w6 ⟨s6,rfl,ho6,hg6⟩
 dsimp only at ho6
 rw [List.append_assoc,P3.out,<- List.map_append] at ho6
 have hb6:=Zat HU.out.blk HU.out.ref.ct (by decide) hg6
 have HU2:=Zh (HU.out.ct hg6 ho6)
 clear HU
 have HU:=HU2
 clear HU2
 have k21:w6.cell? ⟨w.heap.size,21,none⟩=some V.ct.v:=hb6.cell 21
 have f21:=hb6.frozen 21
 clear ho6 hg6 k20 f20 k14
 clear hb6
 dsimp only
 repeat (first | ((with_reducible refine Zfp ?_);refine Zch Tryz.f245 4 8 54 rfl rfl rfl rfl rfl rfl rfl HU.out rfl rfl (by decide) (of_decide_eq_true rfl) rfl (fun _ _ h=>h)) | go_step)
theorem Z0c (B:Nat)(S:RrS)(hS:Zeh S)(r:Rn)(V:RrV)(nr k:Nat)(hI:Inv S.C nr k r)(hfl:r.full=false)(pl:Nat)(dr lc vl rg:Int)(loc:Nm)(on da:Nat)(hlc:lc=((S.C.locs.idxOf loc:Nat):Int))(hon:Rds r.evs on)(hda:Rds r.evs da)(w:World)(hR:Za7 w B S r V) :
  Calls Tryz.prog 245 #[rrV S r false V,.agg #[.int .i64 0,.int .i64 (pl:Int),.int .i64 dr,.int .i64 lc,.int .i64 vl,.int .i64 rg],.int .u64 ((on<<<S.C.ahead:Nat):Int),.int .u64 ((da<<<S.C.ahead:Nat):Int)] w
   (Zew B S (Zi9 (Zi8 S.C r pl dr loc vl rg on) da r.evs.length) false w):=by
 subst hlc
 have h1:=hI.addr.len
 have h2:=hI.data.len
 have h3:=hI.hang.len
 have hroom:=hI.room
 by_cases h:64<=S.C.ahead+r.evs.length
 ·rw [Zc2 h,show Zi9 { r with full:=true } da r.evs.length={ r with full:=true } from if_pos rfl]
  exact Zp9 B S r V ⟨0,pl,dr,(S.C.locs.idxOf loc:Nat),vl,rg⟩ on da w hR (by rw [Zpw hR.ev,List.length_append,<- hS.ahead]) h
 ·rw [Zc3 h]
  have:=Zpu B S hS r V ⟨0,pl,dr,(S.C.locs.idxOf loc:Nat),vl,rg⟩ on da w hR hon.lt hda.lt hI.ctrl.lt (by omega) (by omega) (by omega) h
  have e:Zi9 { r with evs:=r.evs++[Zss S.C pl dr loc vl rg],addr:=r.addr++Zbl on r.evs.length 64,hang:=r.hang++Zbl r.ctrl r.evs.length 64 } da r.evs.length={ r with evs:=r.evs++[Zss S.C pl dr loc vl rg],addr:=r.addr++Zbl on r.evs.length 64,data:=r.data++Zbl da r.evs.length 64,hang:=r.hang++Zbl r.ctrl r.evs.length 64 }:=
   if_neg (by show ¬ r.full=true;rw [hfl];decide)
  rw [e]
  exact this
end
section
theorem Zoo (l:List (Int×Int)):∀ k,(Ze8 k l).length<=k*l.length
 | 0=>by simp [Ze8]
 | k+1=>by
  rw [Zea,List.length_append,Nat.succ_mul]
  have:=Zoo l k
  have:=List.length_filter_le (fun p:Int×Int=>decide (p.1=(k:Int))) l
  omega
theorem Zog {l:List (Int×Int)}{i:Nat}{x:Int×Int}(k:Int)(hx:l[i]?=some x):(l.take (i+1)).filter (fun p=>decide (p.1=k))=(l.take i).filter (fun p=>decide (p.1=k))++(if x.1=k then [x] else []):=by
 rw [List.take_add_one,hx,List.filter_append]
 simp only [Option.toList_some,List.filter_cons,List.filter_nil,decide_eq_true_eq]
set_option maxHeartbeats 4000000
set_option maxRecDepth 100000
theorem Z01 (A:Option Addr)(cap:Nat)(l:List (Int×Int))(w:World)(h:Zbg.At w A l)(hl:l.length<=1000000) :
  Calls Tryz.prog 41 #[.slice A l.length cap] w fun e w'=>∃ s:Sl,e=.returned s.v/\Zbg.Own 52 w.heap.size w' s.v (Zf2 l)/\Below w.heap.size w w':=by
 have HA:=Zh h
 clear h
 go_enter Tryz.func41,Tryz.ntmps41
 go_wp2_with fail
 go_loopw [4,3] (fun ii vv wr=>∃ (k:Nat) (s:Sl),k<=64/\ii=.int .i64 k/\vv=s.v/\Zbg.Own 52 w.heap.size wr s.v (Ze8 k l)/\Below w.heap.size w wr) (fun ii _ _=>64 - (intOf ii).toNat)
 case atStart=>exact⟨0,⟨none,0,0⟩,Nat.zero_le _,rfl,rfl,Enc.Own.nil _ _ _,Below.refl _ _⟩
 case round=>
  obtain⟨k,s,hk,rfl,rfl,ho,hb⟩:=hrel
  obtain⟨wk,hwk⟩:∃ z:World,z=wr:=⟨_,rfl⟩
  subst hwk
  have HO:=Zh ho
  have HB:=Zh hb
  have hql:=Zoo l k
  have hq2:k*l.length<=64*l.length:=Nat.mul_le_mul_right _ hk
  clear ho hb
  by_cases hlt:k<64
  ·have hki:(k:Int)<64:=by omega
   go_wp2_with fail
   go_loopw [5,3] (fun ii vv wr=>∃ (i:Nat) (s:Sl) (q:List (Int×Int)),i<=l.length/\ii=.int .i64 i/\vv=s.v/\q=Ze8 k l++(l.take i).filter (fun p=>decide (p.1=(k:Int)))/\Zbg.Own 52 w.heap.size wr s.v q/\Below w.heap.size w wr) (fun ii _ _=>l.length - (intOf ii).toNat)
   case atStart=>exact⟨0,s,_,Nat.zero_le _,rfl,rfl,by simp,HO.out,HB.out⟩
   case round=>
    obtain⟨i,s,q,hi,rfl,rfl,hq,ho,hb⟩:=hrel
    have HQ:=Zh hq
    have HO:=Zh ho
    have HB:=Zh hb
    have hqq:q.length<=65*l.length:=by
     rw [hq,List.length_append]
     have h1:=List.length_filter_le (fun p:Int×Int=>decide (p.1=(k:Int))) (l.take i)
     rw [List.length_take] at h1
     omega
    clear hq ho hb
    have hii:(0:Int)<=(i:Int):=by omega
    by_cases hli:i<l.length
    ·obtain⟨x,hx⟩:∃ x,l[i]?=some x:=⟨_,List.getElem?_eq_getElem hli⟩
     obtain⟨b,o,rfl,c0,c1⟩:=Zk9 (HA.out.below HB.out) hx
     have hij:(i:Int)<(l.length:Int):=by omega
     obtain⟨x1,x2⟩:=x
     simp only at c0 c1
     by_cases hxk:x1=(k:Int)
     ·subst hxk
      have HS:=Zh (show q++[((k:Int),x2)]=Ze8 k l++(l.take (i+1)).filter (fun p=>decide (p.1=(k:Int))) by rw [Zog _ hx,if_pos rfl,HQ.out,List.append_assoc])
      have HPA:=Zh (Zj5 wr ((k:Int),x2))
      have HBA:=Zh (Zad wr (.cells #[.int .i64 (k:Int),.int .i64 x2] 52 (0,0)))
      have hzr:=HB.out.size
      clear hx
      go_wp2_with (at_builtin;refine Enc.appW Zor _ rfl (.tmp 23) (.tmp 28) rfl [((k:Int),x2)] w.heap.size q _ wr.heap.size 0 1 rfl rfl HPA.out (HO.out.below HBA.out) (by simp;omega) (by simp;omega) (by simp;omega) ?_;intro v' w3 hown3 hg3;obtain⟨s3,rfl,hs3⟩:=Zee hown3;clear hs3;have HO3:=Zh hown3;have HG3:=Zh hg3;clear hown3 hg3)
      go_roundw
      case rel=>exact⟨i+1,s3,_,by omega,by go_num,rfl,HS.out,HO3.out,(HB.out.trans (HBA.out.mono hzr)).trans HG3.out.below⟩
      case measure=>simp [intOf];omega
     ·have HS:=Zh (show q=Ze8 k l++(l.take (i+1)).filter (fun p=>decide (p.1=(k:Int))) by rw [Zog _ hx,if_neg hxk,HQ.out,List.append_nil])
      clear hx
      go_wp2_with fail
      go_roundw
      case rel=>exact⟨i+1,s,_,by omega,by go_num,rfl,HS.out,HO.out,HB.out⟩
      case measure=>simp [intOf];omega
    ·have hil:i=l.length:=by omega
     subst hil
     go_wp2_with fail
     go_roundw
     case rel=>exact⟨k+1,s,by omega,by go_num,rfl,by rw [Zea];have:=HQ.out;rw [List.take_length] at this;rw [<- this];exact HO.out,HB.out⟩
     case measure=>simp [intOf];omega
  ·have hk64:k=64:=by omega
   subst hk64
   go_wp2_with fail
   go_ret
   exact⟨s,rfl,HO.out,HB.out⟩
end
section
set_option maxHeartbeats 4000000
set_option maxRecDepth 100000
theorem Zu4 (A A':Option Addr)(c c':Nat)(l:List Int)(w:World)(hl:l.length<=1000000)(h1:Zey.At w A l)(h2:Zey.At w A' l):Calls Tryz.prog 43 #[.slice A l.length c,.slice A' l.length c'] w fun e w'=>e=.returned (.bool true)/\Below w.heap.size w w':=by
  have HA:=Zh h1
  have HX:=Zh h2
  clear h1 h2
  go_enter Tryz.func43,Tryz.ntmps43
  go_wp2_with fail
  go_loopw [5] (fun v wr=>∃ i:Nat,i<=l.length/\v=.int .i64 i/\Below w.heap.size w wr) (fun v _=>l.length - (intOf v).toNat)
  case atStart=>exact⟨0,Nat.zero_le _,rfl,Below.refl _ _⟩
  case round=>
   exact m_20
theorem Zsu (A A':Option Addr)(c c':Nat)(l:List Nm)(w:World)(hl:l.length<=1000000)(h1:Zcx.At w A l)(h2:Zcx.At w A' l):Calls Tryz.prog 42 #[.slice A l.length c,.slice A' l.length c'] w fun e w'=>e=.returned (.bool true)/\Below w.heap.size w w':=by
  have HA:=Zh h1
  have HX:=Zh h2
  clear h1 h2
  go_enter Tryz.func42,Tryz.ntmps42
  go_wp2_with fail
  go_loopw [5] (fun v wr=>∃ i:Nat,i<=l.length/\v=.int .i64 i/\Below w.heap.size w wr) (fun v _=>l.length - (intOf v).toNat)
  case atStart=>exact⟨0,Nat.zero_le _,rfl,Below.refl _ _⟩
  case round=>
   exact m_20
theorem Zij (A A':Option Addr)(c c':Nat)(l:List (Int×Int))(w:World)(hl:l.length<=1000000)(h1:Zbg.At w A l)(h2:Zbg.At w A' l):Calls Tryz.prog 44 #[.slice A l.length c,.slice A' l.length c'] w fun e w'=>e=.returned (.bool true)/\Below w.heap.size w w':=by
  have HA:=Zh h1
  have HX:=Zh h2
  clear h1 h2
  go_enter Tryz.func44,Tryz.ntmps44
  go_wp2_with fail
  go_loopw [5] (fun v wr=>∃ i:Nat,i<=l.length/\v=.int .i64 i/\Below w.heap.size w wr) (fun v _=>l.length - (intOf v).toNat)
  case atStart=>exact⟨0,Nat.zero_le _,rfl,Below.refl _ _⟩
  case round=>
   obtain⟨i,hi,rfl,hb⟩:=hrel
   have HB:=Zh hb
   clear hb
   have hii:(0:Int)<=(i:Int):=by omega
   by_cases hlt:i<l.length
   ·have hij:(i:Int)<(l.length:Int):=by omega
    obtain⟨x,hx⟩:∃ x,l[i]?=some x:=⟨_,List.getElem?_eq_getElem hlt⟩
    obtain⟨b,o,rfl,hc⟩:=HA.out.below HB.out i x hx
    obtain⟨b',o',rfl,hd⟩:=HX.out.below HB.out i x hx
    have c0:=hc 0 _ rfl;have c1:=hc 1 _ rfl;have d0:=hd 0 _ rfl;have d1:=hd 1 _ rfl;simp only [Nat.add_zero] at c0 c1 d0 d1
    clear hc hd hx
    go_wp2_with fail
    go_quiet (fail)
    go_wp2_with fail
    go_roundw
    case rel=>exact⟨i+1,by omega,by go_num,by first | exact HB.out | exact HB.out.drew | exact Zan HB.out _⟩
    case measure=>simp [intOf];omega
   ·have hil:i=l.length:=by omega
    subst hil
    go_wp2_with fail
    go_ret
    exact⟨rfl,HB.out⟩
end
end Go.Proofs.YtoegmdnfbemppaaGreatDoor
