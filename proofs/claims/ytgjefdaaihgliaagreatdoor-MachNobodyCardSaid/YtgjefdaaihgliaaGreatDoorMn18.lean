/- Layer 10: the closure of Links, and whether some instruction is a label of a name. -/
import Derived.Test.YtgjefdaaihgliaaGreatDoorMn16

namespace Go.Proofs.YtgjefdaaihgliaaGreatDoor
open Go.RowKit
section
abbrev Zyj (x:Ins):Value:=Zcl x.op x.d x.a x.b x.imm ⟨x.loc.toArray⟩ ⟨x.label.toArray⟩ x.fence
structure Z3z (w:World) (b o:Nat) (x:Ins):Prop where
 c0:w.cell? ⟨b,o,none⟩=some (.int .i64 x.op)
 c1:w.cell? ⟨b,o+1,none⟩=some (.int .i64 x.d)
 c2:w.cell? ⟨b,o+2,none⟩=some (.int .i64 x.a)
 c3:w.cell? ⟨b,o+3,none⟩=some (.int .i64 x.b)
 c4:w.cell? ⟨b,o+4,none⟩=some (.int .i64 x.imm)
 c5:w.cell? ⟨b,o+5,none⟩=some (.string ⟨x.loc.toArray⟩)
 c6:w.cell? ⟨b,o+6,none⟩=some (.string ⟨x.label.toArray⟩)
 c7:w.cell? ⟨b,o+7,none⟩=some (.int .i64 x.fence)
 l1:x.loc.length<=9223372036854775807
 l2:x.label.length<=9223372036854775807
theorem Zcj.at_ {w:World}{A:Option Addr}{c:List Ins}(h:Zcj w A c){i:Nat}{x:Ins}(hx:c[i]?=some x):∃ b o,A=some ⟨b,o,none⟩/\Z3z w b (o+i*8) x:=by
 obtain⟨b,o,e,h0,h1,h2,h3,h4,h5,h6,h7,h8,h9⟩:=h i x hx;exact⟨b,o,e,h0,h1,h2,h3,h4,h5,h6,h7,h8,h9⟩
theorem Z3z.go {w w':World}{b o:Nat}{x:Ins}(h:Z3z w b o x)(hb:Below w.heap.size w w'):Z3z w' b o x:=
 ⟨Zac h.c0 hb,Zac h.c1 hb,Zac h.c2 hb,Zac h.c3 hb,Zac h.c4 hb,Zac h.c5 hb,Zac h.c6 hb,Zac h.c7 hb,h.l1,h.l2⟩
theorem Z3z.lt {w:World}{b o:Nat}{x:Ins}(h:Z3z w b o x):b<w.heap.size:=World.block_lt_of_cell? w _ h.c0
theorem Zcj.drop {w:World}{b o:Nat}{c:List Ins}(h:Zcj w (some ⟨b,o,none⟩) c)(j:Nat):Zcj w (some ⟨b,o+j*8,none⟩) (c.drop j):=by
 intro i x hx;rw [List.getElem?_drop] at hx;obtain⟨b',o',e,hr⟩:=h (j+i) x hx;simp only [Option.some.injEq,Addr.mk.injEq,and_true] at e;obtain⟨rfl,rfl⟩:=e;refine⟨b,o+j*8,rfl,?_⟩;rw [show o+j*8+i*8=o+(j+i)*8 by omega];exact hr
theorem Zcj.nil (w:World)(A:Option Addr):Zcj w A []:=fun i x h=>by simp at h
section
set_option maxHeartbeats 2000000
set_option maxRecDepth 100000
theorem Z9c (x:Ins)(s:List UInt8)(p:Nat)(w:World)(hp:w.cell? ⟨p,6,none⟩=some (.string ⟨s.toArray⟩)) :
  Calls Tryz.prog 152 #[Zyj x,.pointer (some ⟨p,0,none⟩)] w (RB w (.bool (Zct s x))):=by
 obtain⟨op,d,a,b,imm,loc,label,fence⟩:=x;simp only [Zyj];have hp':=Zao hp (.cells #[.int .i64 op,.int .i64 d,.int .i64 a,.int .i64 b,.int .i64 imm,.string ⟨loc.toArray⟩,.string ⟨label.toArray⟩,.int .i64 fence] 92 (0,0));have HB:=Zh (Zad w (.cells #[.int .i64 op,.int .i64 d,.int .i64 a,.int .i64 b,.int .i64 imm,.string ⟨loc.toArray⟩,.string ⟨label.toArray⟩,.int .i64 fence] 92 (0,0)));by_cases h1:op=12
 ·by_cases h2:label=s
  ·have e1:Zct s ⟨op,d,a,b,imm,loc,label,fence⟩=true:=by simp [Zct,h1,h2]
   rw [e1];subst h2 h1;exact m_85
  ·have e1:Zct s ⟨op,d,a,b,imm,loc,label,fence⟩=false:=by simp [Zct,h2]
   have e2:(label == s)=false:=by simpa using h2
   rw [e1];subst h1;exact m_85
 ·have e1:Zct s ⟨op,d,a,b,imm,loc,label,fence⟩=false:=by simp [Zct,h1]
  have e2:(op == 12)=false:=by simpa using h1
  rw [e1];exact m_85
def Z38 (b:Bool)(w:World)(e:Ending)(w':World):Prop:=∃ i:Int,e=.returned (.int .i64 i)/\decide (0<=i)=b/\Below w.heap.size w w'
theorem Zjo {c:List Ins}{j:Nat}{x:Ins}(h:c[j]?=some x)(p:Ins->Bool):(c.take (j+1)).any p=((c.take j).any p||p x):=by
 obtain⟨h1,rfl⟩:=List.getElem?_eq_some_iff.1 h;rw [List.take_succ_eq_append_getElem h1,List.any_append];simp
theorem Ztr {c:List Ins}{j:Nat}{x:Ins}(h:c[j]?=some x)(p:Ins->Bool)(hp:p x=true):c.any p=true:=by
 obtain⟨h1,rfl⟩:=List.getElem?_eq_some_iff.1 h;exact List.any_eq_true.2 ⟨_,List.getElem_mem h1,hp⟩
theorem Z46 (c:List Ins)(A:Option Addr)(cap:Nat)(s:List UInt8)(p:Nat)(w:World)(hlen:c.length<=9223372036854775806)(hA:Zcj w A c)(hp:w.cell? ⟨p,6,none⟩=some (.string ⟨s.toArray⟩)) :
  Calls Tryz.prog 200 #[.slice A c.length cap,.func (.func 152) #[] #[.pointer (some ⟨p,0,none⟩)]] w (Z38 (c.any (Zct s)) w):=by
 have HA:=Zh hA;have HP:=Zh hp;obtain⟨q,hq⟩:∃ q,c.any (Zct s)=q:=⟨_,rfl⟩;have HQ:=Zh hq;rw [hq];go_enter Tryz.func200,Tryz.ntmps200
 go_wp2_with fail
 go_loopw [8] (fun i wr=>∃ j:Nat,j<=c.length/\i=.int .i64 j/\(c.take j).any (Zct s)=false/\Below w.heap.size w wr) (fun i _=>c.length - (intOf i).toNat)
 case atStart=>exact⟨0,Nat.zero_le _,rfl,by simp,Below.refl _ _⟩
 case round=>
  obtain⟨j,hj,rfl,hno,hbr⟩:=hrel;have HNO:=Zh hno;have HBR:=Zh hbr;have hzr:=hbr.size;by_cases hlt:j<c.length
  ·have ex:=List.getElem?_eq_getElem hlt;obtain⟨x,hx⟩:∃ x,c[j]=x:=⟨_,rfl⟩;rw [hx] at ex;obtain⟨b,o,rfl,hC⟩:=HA.o.at_ ex;obtain⟨c0,c1,c2,c3,c4,c5,c6,c7,l1,l2⟩:=hC.go HBR.o;have HX:=Zh ex;have hpr:=Zac HP.o HBR.o;have HPR:=Zh hpr;obtain⟨r,hr⟩:∃ r,Zct s x=r:=⟨_,rfl⟩;have HR:=Zh hr;cases r
   all_goals
    go_wp2_with (go_at_call 152;refine (Z9c x s p wr HPR.o).mono ?_;rw [HR.o];rintro e w2 ⟨rfl,hb2⟩)
    first
     | (go_roundw
        case rel=>exact⟨j+1,ω,by go_num,by rw [Zjo HX.o,HNO.o,HR.o];rfl,Zab HBR.o hb2⟩
        case measure=>exact msr)
     | (go_ret;exact⟨j,rfl,by rw [<- HQ.o,Ztr HX.o (Zct s) HR.o];simp,Zab HBR.o hb2⟩)
  ·have HFIN:=Zh (show c.any (Zct s)=false by have:=HNO.o;rwa [List.take_of_length_le ω] at this)
   go_wp2_with fail
   go_ret;exact⟨-1,rfl,by rw [<- HQ.o,HFIN.o];rfl,HBR.o⟩
theorem Z4u (c:List Ins)(A:Option Addr)(cap:Nat)(s:List UInt8)(p:Nat)(w:World)(hlen:c.length<=9223372036854775806)(hA:Zcj w A c)(hp:w.cell? ⟨p,6,none⟩=some (.string ⟨s.toArray⟩)) :
  Calls Tryz.prog 151 #[.slice A c.length cap,.func (.func 152) #[] #[.pointer (some ⟨p,0,none⟩)]] w (RB w (.bool (c.any (Zct s)))):=by
 have HC:=Zh (Z46 c A cap s p w hlen hA hp);obtain⟨q,hq⟩:∃ q,c.any (Zct s)=q:=⟨_,rfl⟩;rw [hq] at HC ⊢;go_enter Tryz.func151,Tryz.ntmps151
 go_wp2_with (go_at_call 200;refine HC.o.mono ?_;rintro e w2 ⟨i,rfl,hci,hb2⟩;have HCI:=Zh hci;clear hci)
 go_ret;exact⟨Zaf HCI.o,hb2⟩
end
end
section
theorem Zew (v:Value)(w:World):(Instr.typeAssert (.iface 159 v) 161 159 true).run Tryz.prog w=.ok (.tuple #[v,.bool true]) w:=by kernel_rfl
theorem Zev (v:Value)(w:World):(Instr.typeAssert (.iface 164 v) 161 159 true).run Tryz.prog w=.ok (.tuple #[.int .i64 0,.bool false]) w:=by kernel_rfl
theorem Zex (v:Value)(w:World):(Instr.typeAssert (.iface 173 v) 161 159 true).run Tryz.prog w=.ok (.tuple #[.int .i64 0,.bool false]) w:=by kernel_rfl
theorem Zff (v:Value)(w:World):(Instr.typeAssert (.iface 268 v) 161 159 true).run Tryz.prog w=.ok (.tuple #[.int .i64 0,.bool false]) w:=by kernel_rfl
theorem Z00 (v:Value)(w:World):(Instr.typeAssert (.iface 159 v) 161 164 true).run Tryz.prog w=.ok (.tuple #[.string ⟨#[]⟩,.bool false]) w:=by kernel_rfl
theorem Zl2 (v:Value)(w:World):(Instr.typeAssert (.iface 164 v) 161 164 true).run Tryz.prog w=.ok (.tuple #[v,.bool true]) w:=by kernel_rfl
theorem Zl4 (v:Value)(w:World):(Instr.typeAssert (.iface 173 v) 161 164 true).run Tryz.prog w=.ok (.tuple #[.string ⟨#[]⟩,.bool false]) w:=by kernel_rfl
theorem Zl3 (v:Value)(w:World):(Instr.typeAssert (.iface 268 v) 161 164 true).run Tryz.prog w=.ok (.tuple #[.string ⟨#[]⟩,.bool false]) w:=by kernel_rfl
theorem Z6q (v:Value)(w:World):(Instr.typeAssert (.iface 159 v) 161 173 true).run Tryz.prog w=.ok (.tuple #[.int .i64 0,.bool false]) w:=by kernel_rfl
theorem Z6o (v:Value)(w:World):(Instr.typeAssert (.iface 164 v) 161 173 true).run Tryz.prog w=.ok (.tuple #[.int .i64 0,.bool false]) w:=by kernel_rfl
theorem Z6r (v:Value)(w:World):(Instr.typeAssert (.iface 173 v) 161 173 true).run Tryz.prog w=.ok (.tuple #[v,.bool true]) w:=by kernel_rfl
theorem Z6p (v:Value)(w:World):(Instr.typeAssert (.iface 268 v) 161 173 true).run Tryz.prog w=.ok (.tuple #[.int .i64 0,.bool false]) w:=by kernel_rfl
theorem Zgj {z:Int}(h:Zdl z):wrap64 z=z:=by
 unfold Zdl at h;simp [wrap64];omega
theorem Zqm {a b:Int}(h:a=b):Ending.returned (.iface 159 (.int .i64 a))=.returned (.iface 159 (.int .i64 b)):=by rw [h]
section
set_option maxHeartbeats 4000000
set_option maxRecDepth 100000
theorem Zy6 (op x y:Int)(hx:Zdl x)(hy:Zdl y)(w:World):Calls Tryz.prog 125 #[.int .i64 op,Zai (.num x),Zai (.num y)] w fun e w'=>e=.returned (Zai (.num (opN op x y)))/\w=w':=by
 have h1:IntKind.i32.wrap x=x:=wrap32 hx;have h2:IntKind.i32.wrap y=y:=wrap32 hy;have h3:=Z34 hx hy;have h4:=Zte hx hy;have h5:=Zgj h3.2;have h6:=Zgj h4.2
 have HE:Hid (RowKit.wrap32 (x+y)=IntKind.i32.wrap (x+y)):=Zh (by
  unfold IntKind.wrap;simp [RowKit.wrap32,IntKind.bits,IntKind.signed]
  omega)
 have h7:wrap64 (RowKit.wrap32 (x+y))=RowKit.wrap32 (x+y):=Zgj (by rw [HE.o];exact Zos _);have q1:=fun w=>Zew (.int .i64 x) w
 have q2:=fun w=>Zew (.int .i64 y) w
 have h30:=h3.1;have h40:=h4.1;unfold Zai;by_cases e8:op=8
 ·subst e8;go_enter Tryz.func125,Tryz.ntmps125
  go_wp2_with fail
  go_ret;exact⟨Zqm (by simp [opN,h30]),rfl⟩
 ·by_cases e9:op=9
  ·subst e9;go_enter Tryz.func125,Tryz.ntmps125
   go_wp2_with fail
   go_ret;exact⟨Zqm (by simp [opN,h40]),rfl⟩
  ·go_enter Tryz.func125,Tryz.ntmps125
   go_wp2_with fail
   go_ret;exact⟨Zqm (by unfold opN;rw [if_neg e8,if_neg e9];exact HE.o),rfl⟩
theorem Zna (op:Int)(x:Int)(y:Nm)(w:World):Calls Tryz.prog 125 #[.int .i64 op,Zai (.num x),Zai (.adr y)] w fun e w'=>e=.returned (Zai (Zc0 op (.num x) (.adr y)))/\w=w':=by
 have q1:=fun w=>Zew (.int .i64 x) w
 have q2:=fun w=>Zev (.string ⟨(y:List UInt8).toArray⟩) w
 by_cases e:x=0
 ·subst e;rw [show Zc0 op (.num 0) (.adr y)=(.adr y) from rfl];exact m_79
 ·rw [show Zc0 op (.num x) (.adr y)=.non from if_neg e];exact m_79
theorem Zo2 (op:Int)(x:Int)(y:Nat)(w:World):Calls Tryz.prog 125 #[.int .i64 op,Zai (.num x),Zai (.rd y)] w fun e w'=>e=.returned (Zai (Zc0 op (.num x) (.rd y)))/\w=w':=by
 have q1:=fun w=>Zew (.int .i64 x) w
 have q2:=fun w=>Zex (.int .i64 ((y:Nat):Int)) w
 by_cases e:x=0
 ·subst e;rw [show Zc0 op (.num 0) (.rd y)=(.rd y) from rfl];exact m_79
 ·rw [show Zc0 op (.num x) (.rd y)=.non from if_neg e];exact m_79
theorem Znb (op:Int)(x:Int)(w:World):Calls Tryz.prog 125 #[.int .i64 op,Zai (.num x),Zai .non] w fun e w'=>e=.returned (Zai (Zc0 op (.num x) .non))/\w=w':=by
 have q1:=fun w=>Zew (.int .i64 x) w
 have q2:=fun w=>Zff (.agg #[]) w
 by_cases e:x=0
 ·subst e;rw [show Zc0 op (.num 0) .non=.non from rfl];exact m_79
 ·rw [show Zc0 op (.num x) .non=.non from if_neg e];exact m_79
theorem Zm6 (op:Int)(x:Nm)(y:Int)(w:World):Calls Tryz.prog 125 #[.int .i64 op,Zai (.adr x),Zai (.num y)] w fun e w'=>e=.returned (Zai (Zc0 op (.adr x) (.num y)))/\w=w':=by
 have q1:=fun w=>Zev (.string ⟨(x:List UInt8).toArray⟩) w
 have q2:=fun w=>Zew (.int .i64 y) w
 by_cases e:y=0
 ·subst e;rw [show Zc0 op (.adr x) (.num 0)=(.adr x) from rfl];exact m_79
 ·rw [show Zc0 op (.adr x) (.num y)=.non from if_neg e];exact m_79
theorem Zm4 (op:Int)(x:Nm)(y:Nm)(w:World):Calls Tryz.prog 125 #[.int .i64 op,Zai (.adr x),Zai (.adr y)] w fun e w'=>e=.returned (Zai (Zc0 op (.adr x) (.adr y)))/\w=w':=by
 have q1:=fun w=>Zev (.string ⟨(x:List UInt8).toArray⟩) w
 have q2:=fun w=>Zev (.string ⟨(y:List UInt8).toArray⟩) w
 rw [show Zc0 op (.adr x) (.adr y)=.non from rfl];unfold Zai;go_enter Tryz.func125,Tryz.ntmps125
 go_wp2_with fail
 go_ret;exact⟨rfl,rfl⟩
theorem Zo0 (op:Int)(x:Nm)(y:Nat)(w:World):Calls Tryz.prog 125 #[.int .i64 op,Zai (.adr x),Zai (.rd y)] w fun e w'=>e=.returned (Zai (Zc0 op (.adr x) (.rd y)))/\w=w':=by
 have q1:=fun w=>Zev (.string ⟨(x:List UInt8).toArray⟩) w
 have q2:=fun w=>Zex (.int .i64 ((y:Nat):Int)) w
 rw [show Zc0 op (.adr x) (.rd y)=.non from rfl];unfold Zai;go_enter Tryz.func125,Tryz.ntmps125
 go_wp2_with fail
 go_ret;exact⟨rfl,rfl⟩
theorem Zm5 (op:Int)(x:Nm)(w:World):Calls Tryz.prog 125 #[.int .i64 op,Zai (.adr x),Zai .non] w fun e w'=>e=.returned (Zai (Zc0 op (.adr x) .non))/\w=w':=by
 have q1:=fun w=>Zev (.string ⟨(x:List UInt8).toArray⟩) w
 have q2:=fun w=>Zff (.agg #[]) w
 rw [show Zc0 op (.adr x) .non=.non from rfl];unfold Zai;go_enter Tryz.func125,Tryz.ntmps125
 go_wp2_with fail
 go_ret;exact⟨rfl,rfl⟩
theorem Zo5 (op:Int)(x:Nat)(y:Int)(w:World):Calls Tryz.prog 125 #[.int .i64 op,Zai (.rd x),Zai (.num y)] w fun e w'=>e=.returned (Zai (Zc0 op (.rd x) (.num y)))/\w=w':=by
 have q1:=fun w=>Zex (.int .i64 ((x:Nat):Int)) w
 have q2:=fun w=>Zew (.int .i64 y) w
 by_cases e:y=0
 ·subst e;rw [show Zc0 op (.rd x) (.num 0)=(.rd x) from rfl];exact m_79
 ·rw [show Zc0 op (.rd x) (.num y)=.non from if_neg e];exact m_79
theorem Zo3 (op:Int)(x:Nat)(y:Nm)(w:World):Calls Tryz.prog 125 #[.int .i64 op,Zai (.rd x),Zai (.adr y)] w fun e w'=>e=.returned (Zai (Zc0 op (.rd x) (.adr y)))/\w=w':=by
 have q1:=fun w=>Zex (.int .i64 ((x:Nat):Int)) w
 have q2:=fun w=>Zev (.string ⟨(y:List UInt8).toArray⟩) w
 rw [show Zc0 op (.rd x) (.adr y)=.non from rfl];unfold Zai;go_enter Tryz.func125,Tryz.ntmps125
 go_wp2_with fail
 go_ret;exact⟨rfl,rfl⟩
theorem Zqh (op:Int)(x:Nat)(y:Nat)(w:World):Calls Tryz.prog 125 #[.int .i64 op,Zai (.rd x),Zai (.rd y)] w fun e w'=>e=.returned (Zai (Zc0 op (.rd x) (.rd y)))/\w=w':=by
 have q1:=fun w=>Zex (.int .i64 ((x:Nat):Int)) w
 have q2:=fun w=>Zex (.int .i64 ((y:Nat):Int)) w
 rw [show Zc0 op (.rd x) (.rd y)=.non from rfl];unfold Zai;go_enter Tryz.func125,Tryz.ntmps125
 go_wp2_with fail
 go_ret;exact⟨rfl,rfl⟩
theorem Zo4 (op:Int)(x:Nat)(w:World):Calls Tryz.prog 125 #[.int .i64 op,Zai (.rd x),Zai .non] w fun e w'=>e=.returned (Zai (Zc0 op (.rd x) .non))/\w=w':=by
 have q1:=fun w=>Zex (.int .i64 ((x:Nat):Int)) w
 have q2:=fun w=>Zff (.agg #[]) w
 rw [show Zc0 op (.rd x) .non=.non from rfl];unfold Zai;go_enter Tryz.func125,Tryz.ntmps125
 go_wp2_with fail
 go_ret;exact⟨rfl,rfl⟩
theorem Zm9 (op:Int)(y:Int)(w:World):Calls Tryz.prog 125 #[.int .i64 op,Zai .non,Zai (.num y)] w fun e w'=>e=.returned (Zai (Zc0 op .non (.num y)))/\w=w':=by
 have q1:=fun w=>Zff (.agg #[]) w
 have q2:=fun w=>Zew (.int .i64 y) w
 by_cases e:y=0
 ·subst e;rw [show Zc0 op .non (.num 0)=.non from rfl];exact m_79
 ·rw [show Zc0 op .non (.num y)=.non from if_neg e];exact m_79
theorem Zm7 (op:Int)(y:Nm)(w:World):Calls Tryz.prog 125 #[.int .i64 op,Zai .non,Zai (.adr y)] w fun e w'=>e=.returned (Zai (Zc0 op .non (.adr y)))/\w=w':=by
 have q1:=fun w=>Zff (.agg #[]) w
 have q2:=fun w=>Zev (.string ⟨(y:List UInt8).toArray⟩) w
 rw [show Zc0 op .non (.adr y)=.non from rfl];unfold Zai;go_enter Tryz.func125,Tryz.ntmps125
 go_wp2_with fail
 go_ret;exact⟨rfl,rfl⟩
theorem Zo1 (op:Int)(y:Nat)(w:World):Calls Tryz.prog 125 #[.int .i64 op,Zai .non,Zai (.rd y)] w fun e w'=>e=.returned (Zai (Zc0 op .non (.rd y)))/\w=w':=by
 have q1:=fun w=>Zff (.agg #[]) w
 have q2:=fun w=>Zex (.int .i64 ((y:Nat):Int)) w
 rw [show Zc0 op .non (.rd y)=.non from rfl];unfold Zai;go_enter Tryz.func125,Tryz.ntmps125
 go_wp2_with fail
 go_ret;exact⟨rfl,rfl⟩
theorem Zm8 (op:Int)(w:World):Calls Tryz.prog 125 #[.int .i64 op,Zai .non,Zai .non] w fun e w'=>e=.returned (Zai (Zc0 op .non .non))/\w=w':=by
 have q2:=fun w=>Zff (.agg #[]) w
 rw [show Zc0 op .non .non=.non from rfl];unfold Zai;go_enter Tryz.func125,Tryz.ntmps125
 go_wp2_with fail
 go_ret;exact⟨rfl,rfl⟩
def Zqc:Zeb->Prop
 | .num x=>Zdl x
 | _=>True
theorem Zg2.num {C:Cx}{evs:List Evt}:∀ {h:Zeb},Zg2 C evs h->Zqc h
 | .num _,h=>h
 | .adr _,_=>trivial
 | .rd _,_=>trivial
 | .non,_=>trivial
theorem Z5n (op:Int)(w:World):∀ (a b:Zeb),Zqc a->Zqc b->Calls Tryz.prog 125 #[.int .i64 op,Zai a,Zai b] w fun e w'=>e=.returned (Zai (Zc0 op a b))/\w=w'
 | .num x,.num y,ha,hb=>Zy6 op x y ha hb w
 | .num x,.adr y,_,_=>Zna op x y w
 | .num x,.rd y,_,_=>Zo2 op x y w
 | .num x,.non,_,_=>Znb op x w
 | .adr x,.num y,_,_=>Zm6 op x y w
 | .adr x,.adr y,_,_=>Zm4 op x y w
 | .adr x,.rd y,_,_=>Zo0 op x y w
 | .adr x,.non,_,_=>Zm5 op x w
 | .rd x,.num y,_,_=>Zo5 op x y w
 | .rd x,.adr y,_,_=>Zo3 op x y w
 | .rd x,.rd y,_,_=>Zqh op x y w
 | .rd x,.non,_,_=>Zo4 op x w
 | .non,.num y,_,_=>Zm9 op y w
 | .non,.adr y,_,_=>Zm7 op y w
 | .non,.rd y,_,_=>Zo1 op y w
 | .non,.non,_,_=>Zm8 op w
theorem Zk8 (x:Int)(y:Int)(w:World):Calls Tryz.prog 127 #[Zai (.num x),Zai (.num y)] w fun e w'=>e=.returned (.bool (Zap (.num x) (.num y)))/\w=w':=by
 have q1:=fun w=>Zew (.int .i64 x) w
 have q3:=fun w=>Zew (.int .i64 y) w
 by_cases e:x=y
 ·rw [show Zap (.num x) (.num y)=false from by simp [Zap,e]];exact m_68
 ·rw [show Zap (.num x) (.num y)=true from by simp [Zap,e]];unfold Zai;go_enter Tryz.func127,Tryz.ntmps127
  go_wp2_with fail
  go_ret;exact⟨Zaf (by simp [e]),rfl⟩
theorem Zk6 (x:Int)(y:Nm)(w:World):Calls Tryz.prog 127 #[Zai (.num x),Zai (.adr y)] w fun e w'=>e=.returned (.bool (Zap (.num x) (.adr y)))/\w=w':=by
 have q1:=fun w=>Zew (.int .i64 x) w
 have q3:=fun w=>Zev (.string ⟨(y:List UInt8).toArray⟩) w
 rw [show Zap (.num x) (.adr y)=true from rfl];unfold Zai;go_enter Tryz.func127,Tryz.ntmps127
 go_wp2_with fail
 go_ret;exact⟨rfl,rfl⟩
theorem Znt (x:Int)(y:Nat)(w:World):Calls Tryz.prog 127 #[Zai (.num x),Zai (.rd y)] w fun e w'=>e=.returned (.bool (Zap (.num x) (.rd y)))/\w=w':=by
 have q1:=fun w=>Zew (.int .i64 x) w
 have q3:=fun w=>Zex (.int .i64 ((y:Nat):Int)) w
 rw [show Zap (.num x) (.rd y)=true from rfl];unfold Zai;go_enter Tryz.func127,Tryz.ntmps127
 go_wp2_with fail
 go_ret;exact⟨rfl,rfl⟩
theorem Zk7 (x:Int)(w:World):Calls Tryz.prog 127 #[Zai (.num x),Zai .non] w fun e w'=>e=.returned (.bool (Zap (.num x) .non))/\w=w':=by
 have q1:=fun w=>Zew (.int .i64 x) w
 have q3:=fun w=>Zff (.agg #[]) w
 rw [show Zap (.num x) .non=true from rfl];unfold Zai;go_enter Tryz.func127,Tryz.ntmps127
 go_wp2_with fail
 go_ret;exact⟨rfl,rfl⟩
theorem Zk2 (x:Nm)(y:Int)(w:World):Calls Tryz.prog 127 #[Zai (.adr x),Zai (.num y)] w fun e w'=>e=.returned (.bool (Zap (.adr x) (.num y)))/\w=w':=by
 have q1:=fun w=>Zev (.string ⟨(x:List UInt8).toArray⟩) w
 have q2:=fun w=>Zl2 (.string ⟨(x:List UInt8).toArray⟩) w
 have q4:=fun w=>Z00 (.int .i64 y) w
 rw [show Zap (.adr x) (.num y)=true from rfl];unfold Zai;go_enter Tryz.func127,Tryz.ntmps127
 go_wp2_with fail
 go_ret;exact⟨rfl,rfl⟩
theorem Zk0 (x:Nm)(y:Nm)(w:World):Calls Tryz.prog 127 #[Zai (.adr x),Zai (.adr y)] w fun e w'=>e=.returned (.bool (Zap (.adr x) (.adr y)))/\w=w':=by
 have q1:=fun w=>Zev (.string ⟨(x:List UInt8).toArray⟩) w
 have q2:=fun w=>Zl2 (.string ⟨(x:List UInt8).toArray⟩) w
 have q4:=fun w=>Zl2 (.string ⟨(y:List UInt8).toArray⟩) w
 by_cases e:x=y
 ·rw [show Zap (.adr x) (.adr y)=false from by simp [Zap,e]];exact m_68
 ·rw [show Zap (.adr x) (.adr y)=true from by simp [Zap,e]];have e1:(x == y)=false:=by simpa using e
  unfold Zai;go_enter Tryz.func127,Tryz.ntmps127
  go_wp2_with fail
  go_ret;exact⟨Zaf (by simp),rfl⟩
theorem Znr (x:Nm)(y:Nat)(w:World):Calls Tryz.prog 127 #[Zai (.adr x),Zai (.rd y)] w fun e w'=>e=.returned (.bool (Zap (.adr x) (.rd y)))/\w=w':=by
 have q1:=fun w=>Zev (.string ⟨(x:List UInt8).toArray⟩) w
 have q2:=fun w=>Zl2 (.string ⟨(x:List UInt8).toArray⟩) w
 have q4:=fun w=>Zl4 (.int .i64 ((y:Nat):Int)) w
 rw [show Zap (.adr x) (.rd y)=true from rfl];unfold Zai;go_enter Tryz.func127,Tryz.ntmps127
 go_wp2_with fail
 go_ret;exact⟨rfl,rfl⟩
theorem Zk1 (x:Nm)(w:World):Calls Tryz.prog 127 #[Zai (.adr x),Zai .non] w fun e w'=>e=.returned (.bool (Zap (.adr x) .non))/\w=w':=by
 have q1:=fun w=>Zev (.string ⟨(x:List UInt8).toArray⟩) w
 have q2:=fun w=>Zl2 (.string ⟨(x:List UInt8).toArray⟩) w
 have q4:=fun w=>Zl3 (.agg #[]) w
 rw [show Zap (.adr x) .non=true from rfl];unfold Zai;go_enter Tryz.func127,Tryz.ntmps127
 go_wp2_with fail
 go_ret;exact⟨rfl,rfl⟩
theorem Znw (x:Nat)(y:Int)(w:World):Calls Tryz.prog 127 #[Zai (.rd x),Zai (.num y)] w fun e w'=>e=.returned (.bool (Zap (.rd x) (.num y)))/\w=w':=by
 have q1:=fun w=>Zex (.int .i64 ((x:Nat):Int)) w
 have q2:=fun w=>Zl4 (.int .i64 ((x:Nat):Int)) w
 rw [show Zap (.rd x) (.num y)=true from rfl];unfold Zai;go_enter Tryz.func127,Tryz.ntmps127
 go_wp2_with fail
 go_ret;exact⟨rfl,rfl⟩
theorem Znu (x:Nat)(y:Nm)(w:World):Calls Tryz.prog 127 #[Zai (.rd x),Zai (.adr y)] w fun e w'=>e=.returned (.bool (Zap (.rd x) (.adr y)))/\w=w':=by
 have q1:=fun w=>Zex (.int .i64 ((x:Nat):Int)) w
 have q2:=fun w=>Zl4 (.int .i64 ((x:Nat):Int)) w
 rw [show Zap (.rd x) (.adr y)=true from rfl];unfold Zai;go_enter Tryz.func127,Tryz.ntmps127
 go_wp2_with fail
 go_ret;exact⟨rfl,rfl⟩
theorem Zps (x:Nat)(y:Nat)(w:World):Calls Tryz.prog 127 #[Zai (.rd x),Zai (.rd y)] w fun e w'=>e=.returned (.bool (Zap (.rd x) (.rd y)))/\w=w':=by
 have q1:=fun w=>Zex (.int .i64 ((x:Nat):Int)) w
 have q2:=fun w=>Zl4 (.int .i64 ((x:Nat):Int)) w
 rw [show Zap (.rd x) (.rd y)=true from rfl];unfold Zai;go_enter Tryz.func127,Tryz.ntmps127
 go_wp2_with fail
 go_ret;exact⟨rfl,rfl⟩
theorem Znv (x:Nat)(w:World):Calls Tryz.prog 127 #[Zai (.rd x),Zai .non] w fun e w'=>e=.returned (.bool (Zap (.rd x) .non))/\w=w':=by
 have q1:=fun w=>Zex (.int .i64 ((x:Nat):Int)) w
 have q2:=fun w=>Zl4 (.int .i64 ((x:Nat):Int)) w
 rw [show Zap (.rd x) .non=true from rfl];unfold Zai;go_enter Tryz.func127,Tryz.ntmps127
 go_wp2_with fail
 go_ret;exact⟨rfl,rfl⟩
theorem Zk5 (y:Int)(w:World):Calls Tryz.prog 127 #[Zai .non,Zai (.num y)] w fun e w'=>e=.returned (.bool (Zap .non (.num y)))/\w=w':=by
 have q1:=fun w=>Zff (.agg #[]) w
 have q2:=fun w=>Zl3 (.agg #[]) w
 rw [show Zap .non (.num y)=true from rfl];unfold Zai;go_enter Tryz.func127,Tryz.ntmps127
 go_wp2_with fail
 go_ret;exact⟨rfl,rfl⟩
theorem Zk3 (y:Nm)(w:World):Calls Tryz.prog 127 #[Zai .non,Zai (.adr y)] w fun e w'=>e=.returned (.bool (Zap .non (.adr y)))/\w=w':=by
 have q1:=fun w=>Zff (.agg #[]) w
 have q2:=fun w=>Zl3 (.agg #[]) w
 rw [show Zap .non (.adr y)=true from rfl];unfold Zai;go_enter Tryz.func127,Tryz.ntmps127
 go_wp2_with fail
 go_ret;exact⟨rfl,rfl⟩
theorem Zns (y:Nat)(w:World):Calls Tryz.prog 127 #[Zai .non,Zai (.rd y)] w fun e w'=>e=.returned (.bool (Zap .non (.rd y)))/\w=w':=by
 have q1:=fun w=>Zff (.agg #[]) w
 have q2:=fun w=>Zl3 (.agg #[]) w
 rw [show Zap .non (.rd y)=true from rfl];unfold Zai;go_enter Tryz.func127,Tryz.ntmps127
 go_wp2_with fail
 go_ret;exact⟨rfl,rfl⟩
theorem Zk4 (w:World):Calls Tryz.prog 127 #[Zai .non,Zai .non] w fun e w'=>e=.returned (.bool (Zap .non .non))/\w=w':=by
 have q3:=fun w=>Zff (.agg #[]) w
 have q4:=fun w=>Zl3 (.agg #[]) w
 rw [show Zap .non .non=true from rfl];unfold Zai;go_enter Tryz.func127,Tryz.ntmps127
 go_wp2_with fail
 go_ret;exact⟨rfl,rfl⟩
theorem Z3v (w:World):∀ (a b:Zeb),Calls Tryz.prog 127 #[Zai a,Zai b] w fun e w'=>e=.returned (.bool (Zap a b))/\w=w'
 | .num x,.num y=>Zk8 x y w
 | .num x,.adr y=>Zk6 x y w
 | .num x,.rd y=>Znt x y w
 | .num x,.non=>Zk7 x w
 | .adr x,.num y=>Zk2 x y w
 | .adr x,.adr y=>Zk0 x y w
 | .adr x,.rd y=>Znr x y w
 | .adr x,.non=>Zk1 x w
 | .rd x,.num y=>Znw x y w
 | .rd x,.adr y=>Znu x y w
 | .rd x,.rd y=>Zps x y w
 | .rd x,.non=>Znv x w
 | .non,.num y=>Zk5 y w
 | .non,.adr y=>Zk3 y w
 | .non,.rd y=>Zns y w
 | .non,.non=>Zk4 w
end
end
section
theorem Zb0 {w:World}{q:Nat}{l:List Rg}(h:Blk w q 163 (Zdf.flat l).toArray){i:Nat}{x:Rg}(hx:l[i]?=some x) :
  w.cell? ⟨q,i*5,none⟩=some (Zai x.h)/\w.cell? ⟨q,i*5+1,none⟩=some (.int .u64 (x.on:Int))/\w.cell? ⟨q,i*5+2,none⟩=some (.int .u64 0)/\w.cell? ⟨q,i*5+3,none⟩=some (.int .u64 0)/\w.cell? ⟨q,i*5+4,none⟩=some (.int .u64 0):=by
 have hc:∀ j,j<5->w.cell? ⟨q,i*5+j,none⟩=(Zdf.enc x)[j]?:=fun j hj=>by
  rw [h.cell,List.getElem?_toArray];exact Zdf.flat_at hx hj
 exact⟨hc 0 ω,hc 1 ω,hc 2 ω,hc 3 ω,hc 4 ω⟩
theorem Zly {w:World}{q:Nat}{l:List Rg}(h:Blk w q 163 (Zdf.flat l).toArray){i:Nat}(hi:i<l.length):w.there q (i*5) 5:=fun j hj=>by
 refine⟨?_,h.frozen _⟩;rw [h.cell,List.getElem?_toArray,Option.isSome_iff_exists];have hl:(Zdf.flat l).length=l.length*5:=Zdf.flat_len l;exact⟨_,List.getElem?_eq_getElem ω⟩
section
set_option maxHeartbeats 4000000
set_option maxRecDepth 100000
variable {w0 w:World} {g nr k:Nat} {S:Zgk} {r:Rn} {V:Zd8}
theorem Z7a (d:Nat)(x:Rg)(HS:Zqx w0 S)(hb:Below w0.heap.size w0 w)(hd:d<r.regs.length)(_hl:r.regs.length<=32)(hR:Za7 w w0.heap.size g S r V) :
  Calls Tryz.prog 74 #[.pointer (some ⟨g,0,none⟩),.int .i64 (d:Int),rgV x] w (Zb4 w0.heap.size g S V (Zg1 S.C r (d:Int) x) (.tuple #[]) w):=by
 have HR:=Zh hR;have hgw:g<w.heap.size:=hR.blk.lt;have hgB:=hR.hg;obtain⟨q,hvr,hqb,hqB⟩:=hR.regs;have hqw:=hqb.lt;have k0:=hR.blk.k0;have k14:w.cell? ⟨g,14,none⟩=some (.slice (some ⟨q,0,none⟩) r.regs.length r.regs.length):=by rw [<- hvr];exact hR.blk.cell 14
 have hrisc:=HS.risc;have HB0:=Zh (Zad w (.cells #[Zai x.h,.int .u64 (x.on:Int),.int .u64 0,.int .u64 0,.int .u64 0] 163 (0,0)));have HQ:=Zh hqb;have one:=Zor x.h;by_cases hz:S.C.risc=true/\(d:Int)=0
 ·have HV:=Zh (show Zg1 S.C r (d:Int) x=r from if_pos hz);have ha:S.T.arch=2:=by have:=hrisc.symm.trans hz.1;simpa using this
  obtain⟨_,hz2⟩:=hz;have hd0:d=0:=ω;subst hd0;rw [ha] at k0;go_enter Tryz.func74,Tryz.ntmps74
  go_wp2_with fail
  go_end0
  rw [HV.o];exact⟨_,rfl,HR.o.below HB0.o,HB0.o.mono hb.size,FrV.of_below HB0.o⟩
 ·have HV:=Zh (show Zg1 S.C r (d:Int) x={ r with regs:=r.regs.set d x } by unfold Zg1;rw [if_neg hz];simp);have hbs:=hb.size;have c0:=Z42 w #[Zai x.h,.int .u64 (x.on:Int),.int .u64 0,.int .u64 0,.int .u64 0] 163;have hi1:(0:Int)<=(d:Int):=ω;have hi2:(d:Int)<(r.regs.length:Int):=ω;have HBX:=Zh (Blk.new w 163 #[Zai x.h,.int .u64 (x.on:Int),.int .u64 0,.int .u64 0,.int .u64 0]);have HRA:=Zh (HR.o.below HB0.o);have HQA:=Zh (HQ.o.go HB0.o);have hor:d≠0\/(d=0/\S.T.arch≠2):=by
   by_cases h0:d=0
   ·exact Or.inr ⟨h0,fun ha=>hz ⟨by rw [hrisc];simpa using ha,ω⟩⟩
   ·exact Or.inl h0
  have k14a:(w.alloc (.cells #[Zai x.h,.int .u64 (x.on:Int),.int .u64 0,.int .u64 0,.int .u64 0] 163 (0,0))).cell? ⟨g,14,none⟩=some (.slice (some ⟨q,0,none⟩) r.regs.length r.regs.length):=Zac k14 HB0.o;obtain⟨x0,x1,x2,x3,x4⟩:=HBX.o.c5;rcases hor with hd0 | ⟨hd0,ha⟩
  ·have hd1:¬ (d:Int)=0:=ω;go_enter Tryz.func74,Tryz.ntmps74
   go_wp2_with fail
   generalize hw1:w.alloc (.cells #[Zai x.h,.int .u64 (x.on:Int),.int .u64 0,.int .u64 0,.int .u64 0] 163 (0,0))=w1 at *;refine wz (fun y:World=>y.cell? ⟨g,14,none⟩=some (.slice (some ⟨q,0,none⟩) r.regs.length r.regs.length)/\y.cell? ⟨w.heap.size,0,none⟩=some (Zai x.h)/\y.cell? ⟨w.heap.size,1,none⟩=some (.int .u64 (x.on:Int))/\y.cell? ⟨w.heap.size,2,none⟩=some (.int .u64 0)/\y.cell? ⟨w.heap.size,3,none⟩=some (.int .u64 0)/\y.cell? ⟨w.heap.size,4,none⟩=some (.int .u64 0)) [3,5,6] ⟨k14a,x0,x1,x2,x3,x4⟩ (fun hHeld=>?_);refine wq 0 ?_;refine wq 1 ?_;refine wq 2 ?_;refine wq 4 ?_;refine wt 3 (by assumption) ?_;refine wt 5 (by assumption) ?_;refine wt 6 (by assumption) ?_;refine wl 7 ?_;obtain⟨x0',hx0⟩:∃ x0',r.regs[d]?=some x0':=⟨_,List.getElem?_eq_getElem hd⟩;obtain⟨y0,y1,y2,y3,y4⟩:=Zb0 (HQA.o.drew) hx0;have HRD:=Zh (HRA.o.drew.reg (x:=x) hd hvr);have HBD:=Zh ((HB0.o.mono hbs).drew);have HTH:=Zh (Zly HQA.o.drew hd);refine wpList_store_mid rfl _ _ _ rfl q (d*5) #[Zai x.h,.int .u64 (x.on:Int),.int .u64 0,.int .u64 0,.int .u64 0] rfl rfl HTH.o κ (all_oneCell_toArray (cs:=Zdf.enc x) (Zdf.one x)) ?_;go_end0
   rw [HV.o];refine⟨_,rfl,HRD.o,?_,?_⟩
   ·exact (((((HBD.o.setCell (p:=⟨q,d*5,none⟩) hqB _).setCell (p:=⟨q,d*5+1,none⟩) hqB _).setCell (p:=⟨q,d*5+2,none⟩) hqB _).setCell (p:=⟨q,d*5+3,none⟩) hqB _).setCell (p:=⟨q,d*5+4,none⟩) hqB _)
   exact m_67
  ·subst hd0;have ha1:¬ S.T.arch=2:=ha;go_enter Tryz.func74,Tryz.ntmps74
   go_wp2_with fail
   generalize hw1:w.alloc (.cells #[Zai x.h,.int .u64 (x.on:Int),.int .u64 0,.int .u64 0,.int .u64 0] 163 (0,0))=w1 at *;refine wz (fun y:World=>y.cell? ⟨g,14,none⟩=some (.slice (some ⟨q,0,none⟩) r.regs.length r.regs.length)/\y.cell? ⟨w.heap.size,0,none⟩=some (Zai x.h)/\y.cell? ⟨w.heap.size,1,none⟩=some (.int .u64 (x.on:Int))/\y.cell? ⟨w.heap.size,2,none⟩=some (.int .u64 0)/\y.cell? ⟨w.heap.size,3,none⟩=some (.int .u64 0)/\y.cell? ⟨w.heap.size,4,none⟩=some (.int .u64 0)) [3,5,6] ⟨k14a,x0,x1,x2,x3,x4⟩ (fun hHeld=>?_);refine wq 0 ?_;refine wq 1 ?_;refine wq 2 ?_;refine wq 4 ?_;refine wt 3 (by assumption) ?_;refine wt 5 (by assumption) ?_;refine wt 6 (by assumption) ?_;refine wl 7 ?_;obtain⟨x0',hx0⟩:∃ x0',r.regs[0]?=some x0':=⟨_,List.getElem?_eq_getElem hd⟩;obtain⟨y0,y1,y2,y3,y4⟩:=Zb0 (HQA.o.drew) hx0;have HRD:=Zh (HRA.o.drew.reg (x:=x) hd hvr);have HBD:=Zh ((HB0.o.mono hbs).drew);have HTH:=Zh (Zly HQA.o.drew hd);refine wpList_store_mid rfl _ _ _ rfl q (0*5) #[Zai x.h,.int .u64 (x.on:Int),.int .u64 0,.int .u64 0,.int .u64 0] rfl rfl HTH.o κ (all_oneCell_toArray (cs:=Zdf.enc x) (Zdf.one x)) ?_;go_end0
   rw [HV.o];refine⟨_,rfl,HRD.o,?_,?_⟩
   ·exact (((((HBD.o.setCell (p:=⟨q,0*5,none⟩) hqB _).setCell (p:=⟨q,0*5+1,none⟩) hqB _).setCell (p:=⟨q,0*5+2,none⟩) hqB _).setCell (p:=⟨q,0*5+3,none⟩) hqB _).setCell (p:=⟨q,0*5+4,none⟩) hqB _)
   exact m_67
end
end
end Go.Proofs.YtgjefdaaihgliaaGreatDoor
