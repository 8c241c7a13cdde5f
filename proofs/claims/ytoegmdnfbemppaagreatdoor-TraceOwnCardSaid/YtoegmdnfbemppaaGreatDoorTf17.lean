/- Layer 10: the closure of Links, and whether some instruction is a label of a name. -/
import Derived.Test.YtoegmdnfbemppaaGreatDoorTf14

namespace Go.Proofs.YtoegmdnfbemppaaGreatDoor
open Go.RowKit
section
abbrev Zzt (x:Ins):Value:=Zcf x.op x.d x.a x.b x.imm ⟨x.loc.toArray⟩ ⟨x.label.toArray⟩ x.fence
structure Z3a (w:World) (b o:Nat) (x:Ins):Prop where
 c0:w.cell? ⟨b,o,none⟩=some (.int .i64 x.op)
 c1:w.cell? ⟨b,o+1,none⟩=some (.int .i64 x.d)
 c2:w.cell? ⟨b,o+2,none⟩=some (.int .i64 x.a)
 c3:w.cell? ⟨b,o+3,none⟩=some (.int .i64 x.b)
 c4:w.cell? ⟨b,o+4,none⟩=some (.int .i64 x.imm)
 c5:w.cell? ⟨b,o+5,none⟩=some (.string ⟨x.loc.toArray⟩)
 c6:w.cell? ⟨b,o+6,none⟩=some (.string ⟨x.label.toArray⟩)
 c7:w.cell? ⟨b,o+7,none⟩=some (.int .i64 x.fence)
 l1:x.loc.length<=9223372036854775807
 l2:x.label.length<=9223372036854775807
theorem Zcm.at_ {w:World}{A:Option Addr}{c:List Ins}(h:Zcm w A c){i:Nat}{x:Ins}(hx:c[i]?=some x):∃ b o,A=some ⟨b,o,none⟩/\Z3a w b (o+i*8) x:=by
 obtain⟨b,o,e,h0,h1,h2,h3,h4,h5,h6,h7,h8,h9⟩:=h i x hx
 exact⟨b,o,e,h0,h1,h2,h3,h4,h5,h6,h7,h8,h9⟩
theorem Z3a.go {w w':World}{b o:Nat}{x:Ins}(h:Z3a w b o x)(hb:Below w.heap.size w w'):Z3a w' b o x:=
 ⟨Zac h.c0 hb,Zac h.c1 hb,Zac h.c2 hb,Zac h.c3 hb,Zac h.c4 hb,Zac h.c5 hb,Zac h.c6 hb,Zac h.c7 hb,h.l1,h.l2⟩
theorem Z3a.lt {w:World}{b o:Nat}{x:Ins}(h:Z3a w b o x):b<w.heap.size:=World.block_lt_of_cell? w _ h.c0
theorem Zcm.drop {w:World}{b o:Nat}{c:List Ins}(h:Zcm w (some ⟨b,o,none⟩) c)(j:Nat):Zcm w (some ⟨b,o+j*8,none⟩) (c.drop j):=by
 intro i x hx
 rw [List.getElem?_drop] at hx
 obtain⟨b',o',e,hr⟩:=h (j+i) x hx
 simp only [Option.some.injEq,Addr.mk.injEq,and_true] at e
 obtain⟨rfl,rfl⟩:=e
 refine⟨b,o+j*8,rfl,?_⟩
 rw [show o+j*8+i*8=o+(j+i)*8 by omega]
 exact hr
theorem Zcm.nil (w:World)(A:Option Addr):Zcm w A []:=fun i x h=>by simp at h
section
set_option maxHeartbeats 2000000
set_option maxRecDepth 100000
theorem Z67 (x:Ins)(s:List UInt8)(p:Nat)(w:World)(hp:w.cell? ⟨p,6,none⟩=some (.string ⟨s.toArray⟩)) :
  Calls Tryz.prog 189 #[Zzt x,.pointer (some ⟨p,0,none⟩)] w fun e w'=>e=.returned (.bool (Zcl s x))/\Below w.heap.size w w':=by
 obtain⟨op,d,a,b,imm,loc,label,fence⟩:=x
 simp only [Zzt]
 have hp':=Zal hp (.cells #[.int .i64 op,.int .i64 d,.int .i64 a,.int .i64 b,.int .i64 imm,.string ⟨loc.toArray⟩,.string ⟨label.toArray⟩,.int .i64 fence] 77 (0,0))
 have HB:=Zh (Zad w (.cells #[.int .i64 op,.int .i64 d,.int .i64 a,.int .i64 b,.int .i64 imm,.string ⟨loc.toArray⟩,.string ⟨label.toArray⟩,.int .i64 fence] 77 (0,0)))
 clear hp
 by_cases h1:op=12
 ·by_cases h2:label=s
  ·have e1:Zcl s ⟨op,d,a,b,imm,loc,label,fence⟩=true:=by simp [Zcl,h1,h2]
   rw [e1]
   subst h2 h1
   exact m_126
  ·have e1:Zcl s ⟨op,d,a,b,imm,loc,label,fence⟩=false:=by simp [Zcl,h2]
   have e2:(label == s)=false:=by simpa using h2
   rw [e1]
   subst h1
   clear h2 e1
   exact m_126
 ·have e1:Zcl s ⟨op,d,a,b,imm,loc,label,fence⟩=false:=by simp [Zcl,h1]
  have e2:(op == 12)=false:=by simpa using h1
  rw [e1]
  clear h1 e1
  exact m_126
def Z44 (b:Bool)(w:World)(e:Ending)(w':World):Prop:=∃ i:Int,e=.returned (.int .i64 i)/\decide (0<=i)=b/\Below w.heap.size w w'
theorem Zjp {c:List Ins}{j:Nat}{x:Ins}(h:c[j]?=some x)(p:Ins->Bool):(c.take (j+1)).any p=((c.take j).any p||p x):=by
 obtain⟨h1,rfl⟩:=List.getElem?_eq_some_iff.1 h
 rw [List.take_succ_eq_append_getElem h1,List.any_append]
 simp
theorem Zts {c:List Ins}{j:Nat}{x:Ins}(h:c[j]?=some x)(p:Ins->Bool)(hp:p x=true):c.any p=true:=by
 obtain⟨h1,rfl⟩:=List.getElem?_eq_some_iff.1 h
 exact List.any_eq_true.2 ⟨_,List.getElem_mem h1,hp⟩
theorem Z36 (c:List Ins)(A:Option Addr)(cap:Nat)(s:List UInt8)(p:Nat)(w:World)(hlen:c.length<=9223372036854775806)(hA:Zcm w A c)(hp:w.cell? ⟨p,6,none⟩=some (.string ⟨s.toArray⟩)) :
  Calls Tryz.prog 249 #[.slice A c.length cap,.func (.func 189) #[] #[.pointer (some ⟨p,0,none⟩)]] w (Z44 (c.any (Zcl s)) w):=by
 have HA:=Zh hA
 have HP:=Zh hp
 obtain⟨q,hq⟩:∃ q,c.any (Zcl s)=q:=⟨_,rfl⟩
 have HQ:=Zh hq
 rw [hq]
 clear hA hp hq
 go_enter Tryz.func249,Tryz.ntmps249
 go_wp2_with fail
 go_loopw [8] (fun i wr=>∃ j:Nat,j<=c.length/\i=.int .i64 j/\(c.take j).any (Zcl s)=false/\Below w.heap.size w wr) (fun i _=>c.length - (intOf i).toNat)
 case atStart=>exact⟨0,Nat.zero_le _,rfl,by simp,Below.refl _ _⟩
 case round=>
  obtain⟨j,hj,rfl,hno,hbr⟩:=hrel
  have HNO:=Zh hno
  have HBR:=Zh hbr
  have hzr:=hbr.size
  clear hno hbr
  by_cases hlt:j<c.length
  ·have ex:=List.getElem?_eq_getElem hlt
   obtain⟨x,hx⟩:∃ x,c[j]=x:=⟨_,rfl⟩
   rw [hx] at ex
   obtain⟨b,o,rfl,hC⟩:=HA.out.at_ ex
   obtain⟨c0,c1,c2,c3,c4,c5,c6,c7,l1,l2⟩:=hC.go HBR.out
   have HX:=Zh ex
   have hpr:=Zac HP.out HBR.out
   have HPR:=Zh hpr
   obtain⟨r,hr⟩:∃ r,Zcl s x=r:=⟨_,rfl⟩
   have HR:=Zh hr
   clear hx ex hC hpr hr
   cases r
   all_goals
    go_wp2_with (go_at_call 189;refine (Z67 x s p wr HPR.out).mono ?_;rw [HR.out];rintro e w2 ⟨rfl,hb2⟩)
    first
     | (go_roundw
        case rel=>exact⟨j+1,by omega,by go_num,by rw [Zjp HX.out,HNO.out,HR.out];rfl,Zaa HBR.out hb2⟩
        case measure=>simp [intOf];omega)
     | (go_ret;exact⟨j,rfl,by rw [<- HQ.out,Zts HX.out (Zcl s) HR.out];simp,Zaa HBR.out hb2⟩)
  ·have HFIN:=Zh (show c.any (Zcl s)=false by have:=HNO.out;rwa [List.take_of_length_le (by omega)] at this)
   go_wp2_with fail
   go_ret
   exact⟨-1,rfl,by rw [<- HQ.out,HFIN.out];rfl,HBR.out⟩
theorem Z4o (c:List Ins)(A:Option Addr)(cap:Nat)(s:List UInt8)(p:Nat)(w:World)(hlen:c.length<=9223372036854775806)(hA:Zcm w A c)(hp:w.cell? ⟨p,6,none⟩=some (.string ⟨s.toArray⟩)) :
  Calls Tryz.prog 188 #[.slice A c.length cap,.func (.func 189) #[] #[.pointer (some ⟨p,0,none⟩)]] w fun e w'=>e=.returned (.bool (c.any (Zcl s)))/\Below w.heap.size w w':=by
 have HC:=Zh (Z36 c A cap s p w hlen hA hp)
 obtain⟨q,hq⟩:∃ q,c.any (Zcl s)=q:=⟨_,rfl⟩
 rw [hq] at HC ⊢
 clear hA hp hq
 go_enter Tryz.func188,Tryz.ntmps188
 go_wp2_with (go_at_call 249;refine HC.out.mono ?_;rintro e w2 ⟨i,rfl,hci,hb2⟩;have HCI:=Zh hci;clear hci)
 go_ret
 exact⟨Zae HCI.out,hb2⟩
end
end
section
variable (op d a b imm:Int) (loc label:ByteArray) (fence:Int) (w:World)
set_option maxHeartbeats 800000
theorem Zd5 (d' a' b' imm':Int)(loc' label':ByteArray)(fence':Int)(ok q:Bool)(hq:Zfn d' a' b' imm' loc' label' fence' d a b imm loc label fence=q)
  (hf:∀ w,Calls Tryz.prog 223 #[Zcf op d a b imm loc label fence] w fun e w'=>e=.returned (.tuple #[Zcf op d' a' b' imm' loc' label' fence',.bool ok])/\Below w.heap.size w w') :
  Calls Tryz.prog 146 #[Zcf op d a b imm loc label fence] w fun e w'=>e=.returned (.int .i64 (Zb6 (Zb9 ok q d a b)))/\Below w.heap.size w w':=by
 have HF:=Zh hf
 have hne:∀ w,(binOp .neq 77 (Zcf op d' a' b' imm' loc' label' fence') (Zcf op d a b imm loc label fence)).run Tryz.prog w=.ok (.bool (!q)) w:=fun w=>by rw [Zfh,hq]
 have HG:∀ a b c d w,(eqGuard .neq 77 a b (.agg c) (.agg d)).run Tryz.prog w=.ok () w:=fun a b c d w=>run_eqGuard_agg w .neq _ _ _ _ _ Zcd
 clear hf hq
 cases ok with
 | false=>
  exact m_13
 | true=>cases q with
  | false=>
   simp only [Bool.not_false] at hne
   exact m_13
  | true=>
   obtain hd | hd:=Zbr d <;> obtain ha | ha:=Zbr a <;> obtain hb | hb:=Zbr b
   all_goals
    simp only [Bool.not_true] at hne
    go_enter Tryz.func146,Tryz.ntmps146
    go_wp2_with fail
    refine (HF.out _).mono ?_
    rintro e w2 ⟨rfl,hb2⟩
    have HB:=Zh (((Blk.new w 77 #[.int .i64 op,.int .i64 d,.int .i64 a,.int .i64 b,.int .i64 imm,.string loc,.string label,.int .i64 fence]).go hb2).alloc (.cells #[.int .i64 op,.int .i64 d',.int .i64 a',.int .i64 b',.int .i64 imm',.string loc',.string label',.int .i64 fence'] 77 (0,0)))
    have c0:=HB.out.cell 0
    have c1:=HB.out.cell 1
    have c2:=HB.out.cell 2
    have c3:=HB.out.cell 3
    have c4:=HB.out.cell 4
    have c5:=HB.out.cell 5
    have c6:=HB.out.cell 6
    have c7:=HB.out.cell 7
    have HX:=Zh (Zab (Zaa (Zad w _) hb2) (.cells #[.int .i64 op,.int .i64 d',.int .i64 a',.int .i64 b',.int .i64 imm',.string loc',.string label',.int .i64 fence'] 77 (0,0)))
    clear hb2
    go_wp2_with (go_at_call 224;refine (Z6d _ _).mono ?_;rintro e w' ⟨rfl,rfl⟩)
    go_ret
    exact⟨Zah (by simp [Zb9,Zb6, *]),HX.out⟩
theorem Z2h (hs:label.size<=9223372036854775807):Calls Tryz.prog 146 #[Zcf 6 d a b imm loc label fence] w fun e w'=>e=.returned (.int .i64 (Zb6 (Zcb 6 d a b imm loc label fence)))/\Below w.heap.size w w':=by
 have _hs:=hs
 refine (Zd5 6 d a b imm loc label fence w d a 0 0 ⟨#[]⟩ ⟨#[]⟩ 0 true _ rfl fun w=>Zvn d a b imm loc label fence w).mono ?_
 rintro e w' ⟨rfl,hb⟩
 exact⟨Zah (congrArg Zb6 (Zus d a b imm loc label fence)),hb⟩
theorem Z17 (hs:label.size<=9223372036854775807):Calls Tryz.prog 146 #[Zcf 7 d a b imm loc label fence] w fun e w'=>e=.returned (.int .i64 (Zb6 (Zcb 7 d a b imm loc label fence)))/\Below w.heap.size w w':=by
 have _hs:=hs
 refine (Zd5 7 d a b imm loc label fence w 0 a b 0 ⟨#[]⟩ ⟨#[]⟩ 0 true _ rfl fun w=>Ztt d a b imm loc label fence w).mono ?_
 rintro e w' ⟨rfl,hb⟩
 exact⟨Zah (congrArg Zb6 (Zto d a b imm loc label fence)),hb⟩
theorem Z2c (hs:label.size<=9223372036854775807):Calls Tryz.prog 146 #[Zcf 8 d a b imm loc label fence] w fun e w'=>e=.returned (.int .i64 (Zb6 (Zcb 8 d a b imm loc label fence)))/\Below w.heap.size w w':=by
 have _hs:=hs
 refine (Zd5 8 d a b imm loc label fence w d a 0 imm ⟨#[]⟩ ⟨#[]⟩ 0 (decide (-2048<=imm)&&decide (imm<=2047)) _ rfl fun w=>Ztk d a b imm loc label fence w).mono ?_
 rintro e w' ⟨rfl,hb⟩
 exact⟨Zah (congrArg Zb6 (Zua d a b imm loc label fence)),hb⟩
theorem Z0r (hs:label.size<=9223372036854775807):Calls Tryz.prog 146 #[Zcf 9 d a b imm loc label fence] w fun e w'=>e=.returned (.int .i64 (Zb6 (Zcb 9 d a b imm loc label fence)))/\Below w.heap.size w w':=by
 have _hs:=hs
 refine (Zd5 9 d a b imm loc label fence w d a b 0 ⟨#[]⟩ ⟨#[]⟩ 0 true _ rfl fun w=>Zvi d a b imm loc label fence w).mono ?_
 rintro e w' ⟨rfl,hb⟩
 exact⟨Zah (congrArg Zb6 (Zwc d a b imm loc label fence)),hb⟩
theorem Zxw (hs:label.size<=9223372036854775807):Calls Tryz.prog 146 #[Zcf 10 d a b imm loc label fence] w fun e w'=>e=.returned (.int .i64 (Zb6 (Zcb 10 d a b imm loc label fence)))/\Below w.heap.size w w':=by
 have _hs:=hs
 refine (Zd5 10 d a b imm loc label fence w d a b 0 ⟨#[]⟩ ⟨#[]⟩ 0 true _ rfl fun w=>Zs6 d a b imm loc label fence w).mono ?_
 rintro e w' ⟨rfl,hb⟩
 exact⟨Zah (congrArg Zb6 (Zrc d a b imm loc label fence)),hb⟩
theorem Zwy (hs:label.size<=9223372036854775807):Calls Tryz.prog 146 #[Zcf 11 d a b imm loc label fence] w fun e w'=>e=.returned (.int .i64 (Zb6 (Zcb 11 d a b imm loc label fence)))/\Below w.heap.size w w':=by
 have _hs:=hs
 refine (Zd5 11 d a b imm loc label fence w 0 a b 0 ⟨#[]⟩ label 0 (Zbb label.data.toList) _ rfl fun w=>Zsi d a b imm loc label fence w _ rfl hs).mono ?_
 rintro e w' ⟨rfl,hb⟩
 exact⟨Zah (congrArg Zb6 (Zqw d a b imm loc label fence)),hb⟩
theorem Zyv (hs:label.size<=9223372036854775807):Calls Tryz.prog 146 #[Zcf 12 d a b imm loc label fence] w fun e w'=>e=.returned (.int .i64 (Zb6 (Zcb 12 d a b imm loc label fence)))/\Below w.heap.size w w':=by
 have _hs:=hs
 refine (Zd5 12 d a b imm loc label fence w 0 0 0 0 ⟨#[]⟩ label 0 (Zbb label.data.toList) _ rfl fun w=>Zsl d a b imm loc label fence w _ rfl hs).mono ?_
 rintro e w' ⟨rfl,hb⟩
 exact⟨Zah (congrArg Zb6 (Zqz d a b imm loc label fence)),hb⟩
theorem Zx3 (hs:label.size<=9223372036854775807):Calls Tryz.prog 146 #[Zcf 13 d a b imm loc label fence] w fun e w'=>e=.returned (.int .i64 (Zb6 (Zcb 13 d a b imm loc label fence)))/\Below w.heap.size w w':=by
 have _hs:=hs
 refine (Zd5 13 d a b imm loc label fence w 0 0 0 0 ⟨#[]⟩ ⟨#[]⟩ fence (decide (2<=fence)&&decide (fence<=11)) _ rfl fun w=>Zsm d a b imm loc label fence w).mono ?_
 rintro e w' ⟨rfl,hb⟩
 exact⟨Zah (congrArg Zb6 (Zrk d a b imm loc label fence)),hb⟩
theorem Zx6 (h6:(op == 6)=false)(h7:(op == 7)=false)(h8:(op == 8)=false)(h9:(op == 9)=false)(h10:(op == 10)=false)(h11:(op == 11)=false)(h12:(op == 12)=false)(h13:(op == 13)=false):Calls Tryz.prog 146 #[Zcf op d a b imm loc label fence] w fun e w'=>e=.returned (.int .i64 (Zb6 (Zcb op d a b imm loc label fence)))/\Below w.heap.size w w':=by
 refine (Zd5 op d a b imm loc label fence w 0 0 0 0 ⟨#[]⟩ ⟨#[]⟩ 0 false _ rfl fun w=>Zs8 d a b imm loc label fence w op h6 h7 h8 h9 h10 h11 h12 h13).mono ?_
 rintro e w' ⟨rfl,hb⟩
 exact⟨Zah (congrArg Zb6 (by simp at h6 h7 h8 h9 h10 h11 h12 h13;simp [Zb9,Zcb,h6,h7,h8,h9,h10,h11,h12,h13])),hb⟩
theorem Z5t (hs:label.size<=9223372036854775807):Calls Tryz.prog 146 #[Zcf op d a b imm loc label fence] w fun e w'=>e=.returned (.int .i64 (Zb6 (Zcb op d a b imm loc label fence)))/\Below w.heap.size w w':=by
 by_cases h6:op=6
 ·subst h6;exact Z2h d a b imm loc label fence w hs
 by_cases h7:op=7
 ·subst h7;exact Z17 d a b imm loc label fence w hs
 by_cases h8:op=8
 ·subst h8;exact Z2c d a b imm loc label fence w hs
 by_cases h9:op=9
 ·subst h9;exact Z0r d a b imm loc label fence w hs
 by_cases h10:op=10
 ·subst h10;exact Zxw d a b imm loc label fence w hs
 by_cases h11:op=11
 ·subst h11;exact Zwy d a b imm loc label fence w hs
 by_cases h12:op=12
 ·subst h12;exact Zyv d a b imm loc label fence w hs
 by_cases h13:op=13
 ·subst h13;exact Zx3 d a b imm loc label fence w hs
 exact Zx6 op d a b imm loc label fence w (by simpa using h6) (by simpa using h7) (by simpa using h8) (by simpa using h9) (by simpa using h10) (by simpa using h11) (by simpa using h12) (by simpa using h13)
end
end Go.Proofs.YtoegmdnfbemppaaGreatDoor
