/- Layer 11: a test is told the same as itself: the document's. -/
import Derived.Test.YtgjefdaaihgliaaGreatDoorMn43

namespace Go.Proofs.YtgjefdaaihgliaaGreatDoor
open Go.RowKit
section
set_option maxHeartbeats 4000000
set_option maxRecDepth 100000
theorem Z26 (A:Option Addr)(c:Nat)(l:List (List Ins))(w:World)(hl:l.length<=16)(hs:∀ (k:Nat) (x:List Ins),l[k]?=some x->x.length<=256)(h:Zis w A l):Calls Tryz.prog 33 #[.slice A l.length c,.slice A l.length c] w fun e w'=>e=.returned (.bool true)/\Below w.heap.size w w':=by
 have HA:=Zh h;have HSm:=Zh hs;clear h hs;go_enter Tryz.func33,Tryz.ntmps33
 go_wp2_with fail
 go_loopw [5] (fun v wr=>∃ i:Nat,i<=l.length/\v=.int .i64 i/\Below w.heap.size w wr) (fun v _=>l.length - (intOf v).toNat)
 case atStart=>exact⟨0,Nat.zero_le _,rfl,Below.refl _ _⟩
 case round=>
  obtain⟨i,hi,rfl,hb⟩:=hrel;have HB:=Zh hb;clear hb;have hii:(0:Int)<=(i:Int):=ω;by_cases hlt:i<l.length
  ·have hij:(i:Int)<(l.length:Int):=ω;obtain⟨x,hx⟩:∃ x,l[i]?=some x:=⟨_,List.getElem?_eq_getElem hlt⟩;obtain⟨cb,co,Ax,cx,eA,d0,hins,_⟩:=HA.o.below HB.o i x hx;subst eA;have hx256:=HSm.o i x hx;have HX:=Zh hx;clear hins hx
   go_wp2_with fail
   go_quiet (fail)
   go_wp2_with fail
   have HBq:=Zh (Zag HB.o nq);clear d0 HB;go_loopw [6] (fun v wx=>∃ j:Nat,j<=x.length/\v=.int .i64 j/\Below w.heap.size w wx) (fun v _=>x.length - (intOf v).toNat)
   case atStart=>exact⟨0,Nat.zero_le _,rfl,HBq.o⟩
   case round=>
    obtain⟨j,hj,rfl,hb⟩:=hrel;have HB:=Zh hb;clear hb HBq;have hjj:(0:Int)<=(j:Int):=ω;obtain⟨cb2,co2,Ax2,cx2,e2,d0,hins,_⟩:=HA.o.below HB.o i x HX.o;simp only [Option.some.injEq,Addr.mk.injEq,and_true] at e2;obtain⟨e3,e4⟩:=e2;rw [<- e3,<- e4] at d0;clear e3 e4;by_cases hlt2:j<x.length
    ·have hij2:(j:Int)<(x.length:Int):=ω;obtain⟨y,hy⟩:∃ y,x[j]?=some y:=⟨_,List.getElem?_eq_getElem hlt2⟩;obtain⟨ib,io,eAx,i0,i1,i2,i3,i4,i5,i6,i7,_⟩:=hins j y hy;rw [eAx] at d0;clear hins eAx hy
     go_wp2_with fail
     go_quiet (fail)
     go_wp2_with fail
     go_roundw
     case rel=>exact⟨j+1,ω,by go_num,by first | exact HB.o | exact HB.o.drew | exact Zag HB.o _⟩
     case measure=>simp [intOf];omega
    ·have hjl:j=x.length:=ω;have g5:¬ (j:Int)<(x.length:Int):=ω;clear hins
     go_wp2_with fail
     go_roundw
     case rel=>exact⟨i+1,ω,by go_num,by first | exact HB.o | exact HB.o.drew | exact Zag HB.o _⟩
     case measure=>simp [intOf];omega
  exact m_105
end
section
set_option maxHeartbeats 4000000
set_option maxRecDepth 100000
theorem Zwn (A A':Option Addr)(c c':Nat)(l:List Int)(w:World)(hl:l.length<=1000000)(h1:Zde.At w A l)(h2:Zde.At w A' l):Calls Tryz.prog 31 #[.slice A l.length c,.slice A' l.length c'] w fun e w'=>e=.returned (.bool true)/\Below w.heap.size w w':=by
  have HA:=Zh h1;have HX:=Zh h2;clear h1 h2;go_enter Tryz.func31,Tryz.ntmps31
  go_wp2_with fail
  go_loopw [5] (fun v wr=>∃ i:Nat,i<=l.length/\v=.int .i64 i/\Below w.heap.size w wr) (fun v _=>l.length - (intOf v).toNat)
  case atStart=>exact⟨0,Nat.zero_le _,rfl,Below.refl _ _⟩
  case round=>
   obtain⟨i,hi,rfl,hb⟩:=hrel;have HB:=Zh hb;clear hb;have hii:(0:Int)<=(i:Int):=ω;by_cases hlt:i<l.length
   ·have hij:(i:Int)<(l.length:Int):=ω;obtain⟨x,hx⟩:∃ x,l[i]?=some x:=⟨_,List.getElem?_eq_getElem hlt⟩;obtain⟨b,o,rfl,hc⟩:=HA.o.below HB.o i x hx;obtain⟨b',o',rfl,hd⟩:=HX.o.below HB.o i x hx;have c0:=hc 0 _ rfl;have d0:=hd 0 _ rfl;simp only [Nat.mul_one,Nat.add_zero] at c0 d0;exact m_51
   exact m_105
theorem Zzi (A A':Option Addr)(c c':Nat)(l:List (Int×Int))(w:World)(hl:l.length<=1000000)(h1:Zbj.At w A l)(h2:Zbj.At w A' l):Calls Tryz.prog 29 #[.slice A l.length c,.slice A' l.length c'] w fun e w'=>e=.returned (.bool true)/\Below w.heap.size w w':=by
  have HA:=Zh h1;have HX:=Zh h2;clear h1 h2;go_enter Tryz.func29,Tryz.ntmps29
  go_wp2_with fail
  go_loopw [5] (fun v wr=>∃ i:Nat,i<=l.length/\v=.int .i64 i/\Below w.heap.size w wr) (fun v _=>l.length - (intOf v).toNat)
  case atStart=>exact⟨0,Nat.zero_le _,rfl,Below.refl _ _⟩
  case round=>
   obtain⟨i,hi,rfl,hb⟩:=hrel;have HB:=Zh hb;clear hb;have hii:(0:Int)<=(i:Int):=ω;by_cases hlt:i<l.length
   ·have hij:(i:Int)<(l.length:Int):=ω;obtain⟨x,hx⟩:∃ x,l[i]?=some x:=⟨_,List.getElem?_eq_getElem hlt⟩;obtain⟨b,o,rfl,hc⟩:=HA.o.below HB.o i x hx;obtain⟨b',o',rfl,hd⟩:=HX.o.below HB.o i x hx;have c0:=hc 0 _ rfl;have c1:=hc 1 _ rfl;have d0:=hd 0 _ rfl;have d1:=hd 1 _ rfl;simp only [Nat.add_zero,show Zbj.size=2 from rfl] at c0 c1 d0 d1;exact m_51
   exact m_105
end
end Go.Proofs.YtgjefdaaihgliaaGreatDoor
