/- Layer 21: what a machine tells of itself: the program's lives, Memory, Moves. -/
import Derived.Test.YtgjefdaaihgliaaGreatDoorMn17
import Derived.Test.YtgjefdaaihgliaaGreatDoorMn32

namespace Go.Proofs.YtgjefdaaihgliaaGreatDoor
open Go.RowKit
section
def Z68 (c:List Ins)(t:BTd)(k:Nat):List (Int×Int):=if t.at_<c.length then [(1,(k:Int))] else []
def Z5q (m:BMc)(k:Nat):List (Int×Int):=match m.code[k]?,m.tds[k]? with
 | some c,some t=>Z68 c t k
 | _,_=>[]
def Zin (m:BMc)(n:Nat):List (Int×Int):=(List.range n).flatMap (Z5q m)
def Zj9 (m:BMc):List (Int×Int):=Zin m m.tds.length
theorem Zo6 {m:BMc}{k:Nat}{c:List Ins}{t:BTd}(hc:m.code[k]?=some c)(ht:m.tds[k]?=some t):Zin m (k+1)=Zin m k++Z68 c t k:=by
 unfold Zin;rw [List.range_succ,List.flatMap_append];simp [Z5q,hc,ht]
theorem Zgs (m:BMc):∀ k,(Zin m k).length<=k
 | 0=>Nat.le_refl _
 | k+1=>by
  have ih:=Zgs m k;unfold Zin at ih ⊢;rw [List.range_succ,List.flatMap_append,List.length_append];have:(List.flatMap (Z5q m) [k]).length<=1:=by
   simp only [List.flatMap_cons,List.flatMap_nil,List.append_nil];unfold Z5q Z68
   split
   ·split <;> simp
   ·simp
  omega
section
set_option maxHeartbeats 4000000
set_option maxRecDepth 100000
variable {w:World} {B g:Nat} {m:BMc} {V:MMv}
theorem Z67 (h:Zb3 w B g m V):Calls Tryz.prog 15 #[.pointer (some ⟨g,0,none⟩)] w fun e w'=>e=.returned (.bool true)/\w'=w:=by
 have k0:=h.blk.cl 0;have hg:=h.blk.lt;clear h;go_enter Tryz.func15,Tryz.ntmps15;go_wp2;go_ret;exact⟨rfl,rfl⟩
theorem mmP (h:Zb3 w B g m V)(hl:m.mem.length<=1000000):Calls Tryz.prog 6 #[.pointer (some ⟨g,0,none⟩)] w (Zn1 m.mem w):=by
 have HI:=Zh (fun (W:World) (hW:Below w.heap.size w W)=>Z67 (h.below hW));obtain⟨A,cap,e,hat,_⟩:=Enc.Own.at_ h.mem;have k6:w.cell? ⟨g,6,none⟩=some (.slice A m.mem.length cap):=by rw [<- e];exact h.blk.cl 6
 have HC:=Zh (fun (W:World) (hW:Below w.heap.size w W)=>Zua A cap m.mem W (hat.below hW) hl);have hg:=h.blk.lt;clear h e hat;go_enter Tryz.func6,Tryz.ntmps6
 go_wp2_with (first | (go_at_call 15;refine (HI.o _ (by repeat (first | exact Below.refl _ _ | exact HB2.o | exact HW.o | exact HB3.o | refine Below.drew ?_ | refine Zaa ?_ _))).mono ?_;rintro e w1 ⟨rfl,rfl⟩) | (go_at_call 18;refine (HC.o _ (by repeat (first | exact Below.refl _ _ | exact HB2.o | exact HW.o | exact HB3.o | refine Below.drew ?_ | refine Zaa ?_ _))).mono ?_;rintro e w2 ⟨v,rfl,ho,hb⟩;have HO:=Zh ho;have HB2:=Zh hb;clear ho hb))
 go_ret;exact⟨_,rfl,HO.o,HB2.o⟩
theorem Z69 (h:Zb3 w B g m V)(hn2:m.tds.length<=256)(hcl:m.code.length=m.tds.length) :
  Calls Tryz.prog 5 #[.pointer (some ⟨g,0,none⟩)] w (Zz5 (Zj9 m) w):=by
 have HB:=Zh h;have HI:=Zh (fun (W:World) (hW:Below w.heap.size w W)=>Z67 (h.below hW));have hgw:=h.blk.lt;obtain⟨n,hne⟩:∃ n,m.tds.length=n:=⟨_,rfl⟩;have HL:Hid (Zj9 m=Zin m n):=Zh (by rw [<- hne];rfl);obtain⟨At,ct,et⟩:=h.thr.own.shp;have k5:w.cell? ⟨g,5,none⟩=some (.slice At n ct):=by
  have:=h.blk.cl 5;rw [show V.pv=.slice At V.tr.length ct from et,h.thr.len,hne] at this;exact this
 have HNE:=Zh hne;rw [hne] at hn2 hcl;have HEt:=Zh et;have HCL:=Zh hcl;clear h hne et hcl;go_enter Tryz.func5,Tryz.ntmps5
 go_wp2_with (go_at_call 15;refine (HI.o _ (by repeat (first | exact Below.refl _ _ | exact HB2.o | exact HW.o | exact HB3.o | refine Below.drew ?_ | refine Zaa ?_ _))).mono ?_;rintro e w1 ⟨rfl,rfl⟩)
 go_loopw [3,15] (fun out i wr=>∃ (k:Nat) (v:Value),out=v/\k<=n/\i=.int .i64 k/\Zsg.Own 42 w1.heap.size wr v (Zin m k)/\Below w1.heap.size w1 wr) (fun _ i _=>n - (intOf i).toNat)
 case atStart=>exact⟨0,_,rfl,Nat.zero_le _,rfl,Enc.Own.nil _ _ _,Below.refl _ _⟩
 case round=>
  obtain⟨k,v,rfl,hk,rfl,hown,hbw⟩:=hrel;have HO:=Zh hown;have HW:=Zh hbw;have hz:=hbw.size;by_cases hkn:k<n
  ·have hx:=List.getElem?_eq_getElem (show k<m.tds.length by rw [HNE.o];exact hkn);have hc:=List.getElem?_eq_getElem (show k<m.code.length by rw [HCL.o];exact hkn);obtain⟨t,hte⟩:∃ t,m.tds[k]'(by rw [HNE.o];exact hkn)=t:=⟨_,rfl⟩;obtain⟨c,hce⟩:∃ c,m.code[k]'(by rw [HCL.o];exact hkn)=c:=⟨_,rfl⟩;rw [hte] at hx;rw [hce] at hc;obtain⟨pb,cp,b,cap,qb,cc,A,cr,q5,p0,p1,hreg,q2,r0,_,_,_,epv⟩:=(HB.o.below hbw).at_ hx hc;have HS:=Zh (show Zin m (k+1)=Zin m k++(if t.at_<c.length then [(1,(k:Int))] else []) from Zo6 hc hx);have hml:=Zgs m k;rw [HEt.o] at epv;simp only [Value.slice.injEq] at epv;obtain⟨rfl,_,rfl⟩:=epv;rw [HCL.o] at q2;obtain⟨Av,nv,cv,rfl⟩:=Zav hown;obtain⟨vs,at_,q⟩:=t;simp only at p0 p1 HS;have z1:(0:Int)<=(k:Int):=ω;have z2:(k:Int)<(n:Int):=ω;have q2:=Zao q2 (.cells #[.slice (some ⟨b,0,none⟩) vs.length cap,.int .i64 at_] 65 (0,0));have r0:=Zao r0 (.cells #[.slice (some ⟨b,0,none⟩) vs.length cap,.int .i64 at_] 65 (0,0));have s1:=(Blk.new wr 65 #[.slice (some ⟨b,0,none⟩) vs.length cap,.int .i64 at_]).cl 1;have HOA:=Zh (Zah hown (Zad wr (.cells #[.slice (some ⟨b,0,none⟩) vs.length cap,.int .i64 at_] 65 (0,0))));have HWA:=Zh (Zaa hbw (.cells #[.slice (some ⟨b,0,none⟩) vs.length cap,.int .i64 at_] 65 (0,0)));clear hx hc hte hce hown hbw hreg q5 HO HW
   go_wp2_with fail
   generalize wr.alloc _=w9 at *;cases hlt:decide (at_<(c.length:Int)) with
   | true=>
    have HS2:=Zh (show Zin m (k+1)=Zin m k++[(1,(k:Int))] by rw [HS.o,if_pos (of_decide_eq_true hlt)])
    go_quiet (fail)
    have HO8:=Zh (Zah HOA.o (show Below w9.heap.size w9 (w9.drewN nq) from Zag (Below.refl _ _) _));have HW8:=Zh (Zag HWA.o nq);generalize w9.drewN nq=w8 at *
    go_wp2_with (at_builtin;refine Enc.appW Zx8 _ rfl (.tmp 31) (.tmp 34) rfl [((1:Int),(k:Int))] w1.heap.size (Zin m k) (.slice Av nv cv) _ 0 1 rfl rfl (Zht Zsg _ _ ((1:Int),(k:Int))) (Zah HO8.o (by repeat (first | exact Below.refl _ _ | refine Zag ?_ _ | refine Below.drew ?_ | refine Zaa ?_ _))) (by simp;omega) (by simp;omega) (by have:=HW8.o.size;simp;omega) ?_;intro v3 w3 hown3 hg3;have HO3:=Zh hown3;have HB3:=Zh (Below.trans (a:=w1) (HW8.o.trans (Below.mono (by repeat (first | exact Below.refl _ _ | refine Zag ?_ _ | refine Below.drew ?_ | refine Zaa ?_ _)) HW8.o.size)) hg3.below);clear hown3 hg3)
    exact m_88
   | false=>
    have HS2:=Zh (show Zin m (k+1)=Zin m k by rw [HS.o,if_neg (of_decide_eq_false hlt),List.append_nil])
    go_quiet (fail)
    go_wp2_with fail
    go_roundw
    case rel=>exact⟨k+1,_,rfl,ω,by go_num,by rw [HS2.o];exact Zah HOA.o (by repeat (first | exact Below.refl _ _ | refine Zag ?_ _ | refine Below.drew ?_ | refine Zaa ?_ _)),HWA.o.trans (Below.mono (by repeat (first | exact Below.refl _ _ | refine Zag ?_ _ | refine Below.drew ?_ | refine Zaa ?_ _)) HWA.o.size)⟩
    case measure=>simp [intOf];omega
  ·have hkn2:k=n:=ω;have HE:=Zh (show Zj9 m=Zin m k by rw [HL.o,hkn2]);exact m_97
end
end
end Go.Proofs.YtgjefdaaihgliaaGreatDoor
