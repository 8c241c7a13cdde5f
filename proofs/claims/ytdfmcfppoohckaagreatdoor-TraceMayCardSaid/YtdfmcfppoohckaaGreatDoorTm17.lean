/- Layer 10: the closure of Links, and whether some instruction is a label of a name. -/
import Derived.Test.YtdfmcfppoohckaaGreatDoorTm14

namespace Go.Proofs.YtdfmcfppoohckaaGreatDoor
open Go.RowKit
section
abbrev Z05 (x:Ins):Value:=Zch x.op x.d x.a x.b x.imm ⟨x.loc.toArray⟩ ⟨x.label.toArray⟩ x.fence
structure Z35 (w:World) (b o:Nat) (x:Ins):Prop where
 c0:w.cell? ⟨b,o,none⟩=some (.int .i64 x.op)
 c1:w.cell? ⟨b,o+1,none⟩=some (.int .i64 x.d)
 c2:w.cell? ⟨b,o+2,none⟩=some (.int .i64 x.a)
 c3:w.cell? ⟨b,o+3,none⟩=some (.int .i64 x.b)
 c4:w.cell? ⟨b,o+4,none⟩=some (.int .i64 x.imm)
 c5:w.cell? ⟨b,o+5,none⟩=some (.string ⟨x.loc.toArray⟩)
 c6:w.cell? ⟨b,o+6,none⟩=some (.string ⟨x.label.toArray⟩)
 c7:w.cell? ⟨b,o+7,none⟩=some (.int .i64 x.fence)
 l1:x.loc.length<=9223372036854775807
 l2:x.label.length<=9223372036854775807
theorem Zco.at_ {w:World}{A:Option Addr}{c:List Ins}(h:Zco w A c){i:Nat}{x:Ins}(hx:c[i]?=some x):∃ b o,A=some ⟨b,o,none⟩/\Z35 w b (o+i*8) x:=by
 obtain⟨b,o,e,h0,h1,h2,h3,h4,h5,h6,h7,h8,h9⟩:=h i x hx;exact⟨b,o,e,h0,h1,h2,h3,h4,h5,h6,h7,h8,h9⟩
theorem Z35.go {w w':World}{b o:Nat}{x:Ins}(h:Z35 w b o x)(hb:Below w.heap.size w w'):Z35 w' b o x:=
 ⟨Zac h.c0 hb,Zac h.c1 hb,Zac h.c2 hb,Zac h.c3 hb,Zac h.c4 hb,Zac h.c5 hb,Zac h.c6 hb,Zac h.c7 hb,h.l1,h.l2⟩
theorem Z35.lt {w:World}{b o:Nat}{x:Ins}(h:Z35 w b o x):b<w.heap.size:=World.block_lt_of_cell? w _ h.c0
theorem Zco.drop {w:World}{b o:Nat}{c:List Ins}(h:Zco w (some ⟨b,o,none⟩) c)(j:Nat):Zco w (some ⟨b,o+j*8,none⟩) (c.drop j):=by
 intro i x hx;rw [List.getElem?_drop] at hx;obtain⟨b',o',e,hr⟩:=h (j+i) x hx;simp only [Option.some.injEq,Addr.mk.injEq,and_true] at e;obtain⟨rfl,rfl⟩:=e;refine⟨b,o+j*8,rfl,?_⟩;rw [show o+j*8+i*8=o+(j+i)*8 by omega];exact hr
theorem Zco.nil (w:World)(A:Option Addr):Zco w A []:=fun i x h=>by simp at h
section
set_option maxHeartbeats 2000000
set_option maxRecDepth 100000
theorem Z76 (x:Ins)(s:List UInt8)(p:Nat)(w:World)(hp:w.cell? ⟨p,6,none⟩=some (.string ⟨s.toArray⟩)) :
  Calls Tryz.prog 141 #[Z05 x,.pointer (some ⟨p,0,none⟩)] w (RB w (.bool (Zcp s x))):=by
 obtain⟨op,d,a,b,imm,loc,label,fence⟩:=x;simp only [Z05];have hp':=Zal hp (.cells #[.int .i64 op,.int .i64 d,.int .i64 a,.int .i64 b,.int .i64 imm,.string ⟨loc.toArray⟩,.string ⟨label.toArray⟩,.int .i64 fence] 118 (0,0));have HB:=Zh (Zad w (.cells #[.int .i64 op,.int .i64 d,.int .i64 a,.int .i64 b,.int .i64 imm,.string ⟨loc.toArray⟩,.string ⟨label.toArray⟩,.int .i64 fence] 118 (0,0)));by_cases h1:op=12
 ·by_cases h2:label=s
  ·have e1:Zcp s ⟨op,d,a,b,imm,loc,label,fence⟩=true:=by simp [Zcp,h1,h2]
   rw [e1];subst h2 h1;exact m_125
  ·have e1:Zcp s ⟨op,d,a,b,imm,loc,label,fence⟩=false:=by simp [Zcp,h2]
   have e2:(label == s)=false:=by simpa using h2
   rw [e1];subst h1;exact m_125
 ·have e1:Zcp s ⟨op,d,a,b,imm,loc,label,fence⟩=false:=by simp [Zcp,h1]
  have e2:(op == 12)=false:=by simpa using h1
  rw [e1];exact m_125
def Z4d (b:Bool)(w:World)(e:Ending)(w':World):Prop:=∃ i:Int,e=.returned (.int .i64 i)/\decide (0<=i)=b/\Below w.heap.size w w'
theorem Zj1 {c:List Ins}{j:Nat}{x:Ins}(h:c[j]?=some x)(p:Ins->Bool):(c.take (j+1)).any p=((c.take j).any p||p x):=by
 obtain⟨h1,rfl⟩:=List.getElem?_eq_some_iff.1 h;rw [List.take_succ_eq_append_getElem h1,List.any_append];simp
theorem Zua {c:List Ins}{j:Nat}{x:Ins}(h:c[j]?=some x)(p:Ins->Bool)(hp:p x=true):c.any p=true:=by
 obtain⟨h1,rfl⟩:=List.getElem?_eq_some_iff.1 h;exact List.any_eq_true.2 ⟨_,List.getElem_mem h1,hp⟩
theorem Z42 (c:List Ins)(A:Option Addr)(cap:Nat)(s:List UInt8)(p:Nat)(w:World)(hlen:c.length<=9223372036854775806)(hA:Zco w A c)(hp:w.cell? ⟨p,6,none⟩=some (.string ⟨s.toArray⟩)) :
  Calls Tryz.prog 171 #[.slice A c.length cap,.func (.func 141) #[] #[.pointer (some ⟨p,0,none⟩)]] w (Z4d (c.any (Zcp s)) w):=by
 have HA:=Zh hA;have HP:=Zh hp;obtain⟨q,hq⟩:∃ q,c.any (Zcp s)=q:=⟨_,rfl⟩;have HQ:=Zh hq;rw [hq];go_enter Tryz.func171,Tryz.ntmps171
 go_wp2_with fail
 go_loopw [8] (fun i wr=>∃ j:Nat,j<=c.length/\i=.int .i64 j/\(c.take j).any (Zcp s)=false/\Below w.heap.size w wr) (fun i _=>c.length - (intOf i).toNat)
 case atStart=>exact⟨0,Nat.zero_le _,rfl,by simp,Below.refl _ _⟩
 case round=>
  obtain⟨j,hj,rfl,hno,hbr⟩:=hrel;have HNO:=Zh hno;have HBR:=Zh hbr;have hzr:=hbr.size;by_cases hlt:j<c.length
  ·have ex:=List.getElem?_eq_getElem hlt;obtain⟨x,hx⟩:∃ x,c[j]=x:=⟨_,rfl⟩;rw [hx] at ex;obtain⟨b,o,rfl,hC⟩:=HA.o.at_ ex;obtain⟨c0,c1,c2,c3,c4,c5,c6,c7,l1,l2⟩:=hC.go HBR.o;have HX:=Zh ex;have hpr:=Zac HP.o HBR.o;have HPR:=Zh hpr;obtain⟨r,hr⟩:∃ r,Zcp s x=r:=⟨_,rfl⟩;have HR:=Zh hr;cases r
   all_goals
    go_wp2_with (go_at_call 141;refine (Z76 x s p wr HPR.o).mono ?_;rw [HR.o];rintro e w2 ⟨rfl,hb2⟩)
    first
     | (go_roundw
        case rel=>exact⟨j+1,ω,by go_num,by rw [Zj1 HX.o,HNO.o,HR.o];rfl,Zaa HBR.o hb2⟩
        case measure=>exact msr)
     | (go_ret;exact⟨j,rfl,by rw [<- HQ.o,Zua HX.o (Zcp s) HR.o];simp,Zaa HBR.o hb2⟩)
  ·have HFIN:=Zh (show c.any (Zcp s)=false by have:=HNO.o;rwa [List.take_of_length_le ω] at this)
   go_wp2_with fail
   go_ret;exact⟨-1,rfl,by rw [<- HQ.o,HFIN.o];rfl,HBR.o⟩
theorem Z4x (c:List Ins)(A:Option Addr)(cap:Nat)(s:List UInt8)(p:Nat)(w:World)(hlen:c.length<=9223372036854775806)(hA:Zco w A c)(hp:w.cell? ⟨p,6,none⟩=some (.string ⟨s.toArray⟩)) :
  Calls Tryz.prog 140 #[.slice A c.length cap,.func (.func 141) #[] #[.pointer (some ⟨p,0,none⟩)]] w (RB w (.bool (c.any (Zcp s)))):=by
 have HC:=Zh (Z42 c A cap s p w hlen hA hp);obtain⟨q,hq⟩:∃ q,c.any (Zcp s)=q:=⟨_,rfl⟩;rw [hq] at HC ⊢;go_enter Tryz.func140,Tryz.ntmps140
 go_wp2_with (go_at_call 171;refine HC.o.mono ?_;rintro e w2 ⟨i,rfl,hci,hb2⟩;have HCI:=Zh hci;clear hci)
 go_ret;exact⟨Zae HCI.o,hb2⟩
end
end
section
variable (op d a b imm:Int) (loc label:ByteArray) (fence:Int) (w:World)
set_option maxHeartbeats 800000
theorem Zd9 (d' a' b' imm':Int)(loc' label':ByteArray)(fence':Int)(ok q:Bool)(hq:Zfy d' a' b' imm' loc' label' fence' d a b imm loc label fence=q)
  (hf:∀ w,Calls Tryz.prog 138 #[Zch op d a b imm loc label fence] w (RB w (.tuple #[Zch op d' a' b' imm' loc' label' fence',.bool ok]))) :
  Calls Tryz.prog 94 #[Zch op d a b imm loc label fence] w (RB w (.int .i64 (Zb4 (Zb7 ok q d a b)))):=by
 have HF:=Zh hf;have hne:∀ w,(binOp .neq 118 (Zch op d' a' b' imm' loc' label' fence') (Zch op d a b imm loc label fence)).run Tryz.prog w=.ok (.bool (!q)) w:=fun w=>by rw [Zfs,hq]
 have HG:∀ a b c d w,(eqGuard .neq 118 a b (.agg c) (.agg d)).run Tryz.prog w=.ok () w:=fun a b c d w=>run_eqGuard_agg w .neq _ _ _ _ _ Zcd
 cases ok with
 | false=>
  exact m_16
 | true=>cases q with
  | false=>
   simp only [Bool.not_false] at hne;exact m_16
  | true=>
   obtain hd | hd:=Zbs d <;> obtain ha | ha:=Zbs a <;> obtain hb | hb:=Zbs b
   all_goals
    simp only [Bool.not_true] at hne;go_enter Tryz.func94,Tryz.ntmps94
    go_wp2_with fail
    refine (HF.o _).mono ?_;rintro e w2 ⟨rfl,hb2⟩;have HB:=Zh (((Blk.new w 118 #[.int .i64 op,.int .i64 d,.int .i64 a,.int .i64 b,.int .i64 imm,.string loc,.string label,.int .i64 fence]).go hb2).alloc (.cells #[.int .i64 op,.int .i64 d',.int .i64 a',.int .i64 b',.int .i64 imm',.string loc',.string label',.int .i64 fence'] 118 (0,0)));obtain⟨c0,c1,c2,c3,c4,c5,c6,c7⟩:=HB.o.c8;have HX:=Zh (Zab (Zaa (Zad w _) hb2) (.cells #[.int .i64 op,.int .i64 d',.int .i64 a',.int .i64 b',.int .i64 imm',.string loc',.string label',.int .i64 fence'] 118 (0,0)))
    go_wp2_with (go_at_call 139;refine (Z7f _ _).mono ?_;rintro e w' ⟨rfl,rfl⟩)
    go_ret;exact⟨Zai (by simp [Zb7,Zb4, *]),HX.o⟩
theorem Z2b (hs:label.size<=9223372036854775807):Calls Tryz.prog 94 #[Zch 6 d a b imm loc label fence] w (RB w (.int .i64 (Zb4 (Zca 6 d a b imm loc label fence)))):=by
 have _hs:=hs;refine (Zd9 6 d a b imm loc label fence w d a 0 0 ⟨#[]⟩ ⟨#[]⟩ 0 true _ rfl fun w=>Zu9 d a b imm loc label fence w).mono ?_;rintro e w' ⟨rfl,hb⟩;exact⟨Zai (congrArg Zb4 (Zuo d a b imm loc label fence)),hb⟩
theorem Z2c (hs:label.size<=9223372036854775807):Calls Tryz.prog 94 #[Zch 7 d a b imm loc label fence] w (RB w (.int .i64 (Zb4 (Zca 7 d a b imm loc label fence)))):=by
 have _hs:=hs;refine (Zd9 7 d a b imm loc label fence w 0 a b 0 ⟨#[]⟩ ⟨#[]⟩ 0 true _ rfl fun w=>Zva d a b imm loc label fence w).mono ?_;rintro e w' ⟨rfl,hb⟩;exact⟨Zai (congrArg Zb4 (Zup d a b imm loc label fence)),hb⟩
theorem Z2d (hs:label.size<=9223372036854775807):Calls Tryz.prog 94 #[Zch 8 d a b imm loc label fence] w (RB w (.int .i64 (Zb4 (Zca 8 d a b imm loc label fence)))):=by
 have _hs:=hs;refine (Zd9 8 d a b imm loc label fence w d a 0 imm ⟨#[]⟩ ⟨#[]⟩ 0 (decide (-2048<=imm)&&decide (imm<=2047)) _ rfl fun w=>Zvb d a b imm loc label fence w).mono ?_;rintro e w' ⟨rfl,hb⟩;exact⟨Zai (congrArg Zb4 (Zuq d a b imm loc label fence)),hb⟩
theorem Z2e (hs:label.size<=9223372036854775807):Calls Tryz.prog 94 #[Zch 9 d a b imm loc label fence] w (RB w (.int .i64 (Zb4 (Zca 9 d a b imm loc label fence)))):=by
 have _hs:=hs;refine (Zd9 9 d a b imm loc label fence w d a b 0 ⟨#[]⟩ ⟨#[]⟩ 0 true _ rfl fun w=>Zvc d a b imm loc label fence w).mono ?_;rintro e w' ⟨rfl,hb⟩;exact⟨Zai (congrArg Zb4 (Zur d a b imm loc label fence)),hb⟩
theorem Zyc (hs:label.size<=9223372036854775807):Calls Tryz.prog 94 #[Zch 10 d a b imm loc label fence] w (RB w (.int .i64 (Zb4 (Zca 10 d a b imm loc label fence)))):=by
 have _hs:=hs;refine (Zd9 10 d a b imm loc label fence w d a b 0 ⟨#[]⟩ ⟨#[]⟩ 0 true _ rfl fun w=>Zs9 d a b imm loc label fence w).mono ?_;rintro e w' ⟨rfl,hb⟩;exact⟨Zai (congrArg Zb4 (Zrm d a b imm loc label fence)),hb⟩
theorem Zyd (hs:label.size<=9223372036854775807):Calls Tryz.prog 94 #[Zch 11 d a b imm loc label fence] w (RB w (.int .i64 (Zb4 (Zca 11 d a b imm loc label fence)))):=by
 have _hs:=hs;refine (Zd9 11 d a b imm loc label fence w 0 a b 0 ⟨#[]⟩ label 0 (Zbb label.data.toList) _ rfl fun w=>Zta d a b imm loc label fence w _ rfl hs).mono ?_;rintro e w' ⟨rfl,hb⟩;exact⟨Zai (congrArg Zb4 (Zrn d a b imm loc label fence)),hb⟩
theorem Zye (hs:label.size<=9223372036854775807):Calls Tryz.prog 94 #[Zch 12 d a b imm loc label fence] w (RB w (.int .i64 (Zb4 (Zca 12 d a b imm loc label fence)))):=by
 have _hs:=hs;refine (Zd9 12 d a b imm loc label fence w 0 0 0 0 ⟨#[]⟩ label 0 (Zbb label.data.toList) _ rfl fun w=>Ztb d a b imm loc label fence w _ rfl hs).mono ?_;rintro e w' ⟨rfl,hb⟩;exact⟨Zai (congrArg Zb4 (Zro d a b imm loc label fence)),hb⟩
theorem Zyf (hs:label.size<=9223372036854775807):Calls Tryz.prog 94 #[Zch 13 d a b imm loc label fence] w (RB w (.int .i64 (Zb4 (Zca 13 d a b imm loc label fence)))):=by
 have _hs:=hs;refine (Zd9 13 d a b imm loc label fence w 0 0 0 0 ⟨#[]⟩ ⟨#[]⟩ fence (decide (2<=fence)&&decide (fence<=11)) _ rfl fun w=>Ztc d a b imm loc label fence w).mono ?_;rintro e w' ⟨rfl,hb⟩;exact⟨Zai (congrArg Zb4 (Zrp d a b imm loc label fence)),hb⟩
theorem Zyg (h6:(op == 6)=false)(h7:(op == 7)=false)(h8:(op == 8)=false)(h9:(op == 9)=false)(h10:(op == 10)=false)(h11:(op == 11)=false)(h12:(op == 12)=false)(h13:(op == 13)=false):Calls Tryz.prog 94 #[Zch op d a b imm loc label fence] w (RB w (.int .i64 (Zb4 (Zca op d a b imm loc label fence)))):=by
 refine (Zd9 op d a b imm loc label fence w 0 0 0 0 ⟨#[]⟩ ⟨#[]⟩ 0 false _ rfl fun w=>Ztd d a b imm loc label fence w op h6 h7 h8 h9 h10 h11 h12 h13).mono ?_;rintro e w' ⟨rfl,hb⟩;exact⟨Zai (congrArg Zb4 (by simp at h6 h7 h8 h9 h10 h11 h12 h13;simp [Zb7,Zca,h6,h7,h8,h9,h10,h11,h12,h13])),hb⟩
theorem Z6x (hs:label.size<=9223372036854775807):Calls Tryz.prog 94 #[Zch op d a b imm loc label fence] w (RB w (.int .i64 (Zb4 (Zca op d a b imm loc label fence)))):=by
 by_cases h6:op=6
 ·subst h6;exact Z2b d a b imm loc label fence w hs
 by_cases h7:op=7
 ·subst h7;exact Z2c d a b imm loc label fence w hs
 by_cases h8:op=8
 ·subst h8;exact Z2d d a b imm loc label fence w hs
 by_cases h9:op=9
 ·subst h9;exact Z2e d a b imm loc label fence w hs
 by_cases h10:op=10
 ·subst h10;exact Zyc d a b imm loc label fence w hs
 by_cases h11:op=11
 ·subst h11;exact Zyd d a b imm loc label fence w hs
 by_cases h12:op=12
 ·subst h12;exact Zye d a b imm loc label fence w hs
 by_cases h13:op=13
 ·subst h13;exact Zyf d a b imm loc label fence w hs
 exact Zyg op d a b imm loc label fence w (by simpa using h6) (by simpa using h7) (by simpa using h8) (by simpa using h9) (by simpa using h10) (by simpa using h11) (by simpa using h12) (by simpa using h13)
end
end Go.Proofs.YtdfmcfppoohckaaGreatDoor
