/- Layer 8: bytes, names, numbers: plain, and the small functions of the program and of the r -/
import Derived.Test.YtdfmcfppoohckaaGreatDoorTm01

namespace Go.Proofs.YtdfmcfppoohckaaGreatDoor
open Go.RowKit
def Zd3 (a:Int):Bool:=decide (a=1)||decide (a=2)
def Zew (n:Int):Bool:=decide (-2147483648<=n)&&decide (n<=2147483647)
def regs (a:Int):Int:=if a=1 then 15 else 32
theorem Zgu (a:Int):15<=regs a/\regs a<=32:=by unfold regs;split <;> omega
theorem Zlx {n:Int}(h1:-2147483648<=n)(h2:n<=2147483647):Zew n=true:=by simp [Zew];omega
theorem Zlw {n:Int}(h:n < -2147483648\/2147483647<n):Zew n=false:=by unfold Zew;rw [Bool.and_eq_false_iff];simp;omega
theorem Zzx {n:Int}(h:Zew n=true):-2147483648<=n/\n<=2147483647:=by simp [Zew] at h;exact h
def Za3 (c:UInt8):Bool:=(decide (97<=(c.toNat:Int))&&decide ((c.toNat:Int)<=122))||(decide (65<=(c.toNat:Int))&&decide ((c.toNat:Int)<=90))
def Zb0 (c:UInt8):Bool:=decide (48<=(c.toNat:Int))&&decide ((c.toNat:Int)<=57)
def Zbl (c:UInt8):Bool:=Za3 c||Zb0 c||decide ((c.toNat:Int)=95)
def Zbb:List UInt8->Bool
 | []=>false
 | c :: r=>decide (r.length<32)&&Za3 c&&r.all Zbl
theorem Zdw {s:ByteArray}(h:s.size<1):Zbb s.data.toList=false:=by
 have h0:s.data.size=s.size:=rfl;have:s.data.toList=[]:=List.eq_nil_of_length_eq_zero (by rw [Array.length_toList];omega);rw [this];rfl
theorem Zdd {s:ByteArray}(h:32<s.size):Zbb s.data.toList=false:=by
 have hl:s.data.toList.length=s.size:=rfl;cases e:s.data.toList with
 | nil=>rfl
 | cons c r=>rw [e] at hl;simp at hl;simp [Zbb];intro h1;omega
theorem Zgc {s:ByteArray}(h0:0<s.size)(h:Za3 s[0]=false):Zbb s.data.toList=false:=by
 have hl:s.data.toList.length=s.size:=rfl;have hg:s[0]=s.data.toList[0]'ω:=rfl;rw [hg] at h;cases e:s.data.toList with
 | nil=>rfl
 | cons c r=>simp only [e] at h;simp at h;simp [Zbb,h]
theorem Zff {s:ByteArray}(i:Nat)(hi:i<s.size)(h:Zbl s[i]=false):Zbb s.data.toList=false:=by
 have hl:s.data.toList.length=s.size:=rfl;have hg:s[i]=s.data.toList[i]'ω:=rfl;rw [hg] at h;cases e:s.data.toList with
 | nil=>rfl
 | cons c r=>
  simp only [e] at h;cases i with
  | zero=>
   simp at h;have:Za3 c=false:=by
    simp [Zbl] at h;exact h.1.1
   simp [Zbb,this]
  | succ j=>
   simp at h;have:r.all Zbl=false:=by
    rw [List.all_eq_false];refine⟨r[j]'(by rw [e] at hl;simp at hl;omega),List.getElem_mem _,by simp [h]⟩
   simp [Zbb,this]
theorem Zgd {s:ByteArray}(h1:0<s.size)(h2:s.size<=32)(h3:Za3 s[0]=true)(h:∀ i (hi:i<s.size),1<=i->Zbl s[i]=true):Zbb s.data.toList=true:=by
 have hl:s.data.toList.length=s.size:=rfl;have hg:∀ i (hi:i<s.size),s[i]=s.data.toList[i]'ω:=fun _ _=>rfl
 rw [hg 0 h1] at h3;cases e:s.data.toList with
 | nil=>rw [e] at hl;simp at hl;omega
 | cons c r=>
  have hl':r.length+1=s.size:=by rw [<- hl,e];rfl
  simp only [e] at h3;simp at h3;simp only [Zbb,Bool.and_eq_true,decide_eq_true_eq];refine⟨⟨ω,h3⟩,?_⟩;rw [List.all_eq_true];intro x hx;obtain⟨j,hj,rfl⟩:=List.getElem_of_mem hx;have hj':=h (j+1) ω ω;rw [hg (j+1) ω] at hj';simp only [e] at hj';simpa using hj'
section
variable (w:World)
theorem Z1r (a:Int):Calls Tryz.prog 97 #[.int .i64 a] w fun e w'=>e=.returned (.bool (Zd3 a))/\w=w':=by
 go_enter Tryz.func97,Tryz.ntmps97;go_wp2
 all_goals (go_ret;exact⟨Zae (by rw [Bool.eq_iff_iff];simp_all [Zd3]),rfl⟩)
theorem Z1s (a:Int):Calls Tryz.prog 118 #[.int .i64 a] w fun e w'=>e=.returned (.bool (Zd3 a))/\w=w':=by
 go_enter Tryz.func118,Tryz.ntmps118;go_wp2
 all_goals (go_ret;exact⟨Zae (by rw [Bool.eq_iff_iff];simp_all [Zd3]),rfl⟩)
theorem Z77 (n:Int):Calls Tryz.prog 173 #[.int .i64 n] w fun e w'=>e=.returned (.bool (Zew n))/\w=w':=by
 go_enter Tryz.func173,Tryz.ntmps173;go_wp2
 all_goals (go_ret;exact⟨Zae (by first | (rw [Zlx ω ω];done) | (rw [Zlw ω];done) | simp [Zew, *]),rfl⟩)
theorem Z78 (n:Int):Calls Tryz.prog 198 #[.int .i64 n] w fun e w'=>e=.returned (.bool (Zew n))/\w=w':=by
 go_enter Tryz.func198,Tryz.ntmps198;go_wp2
 all_goals (go_ret;exact⟨Zae (by first | (rw [Zlx ω ω];done) | (rw [Zlw ω];done) | simp [Zew, *]),rfl⟩)
theorem Z5y (a:Int):Calls Tryz.prog 209 #[.int .i64 a] w fun e w'=>e=.returned (.int .i64 (regs a))/\w=w':=by
 go_enter Tryz.func209,Tryz.ntmps209;go_wp2
 all_goals (go_ret;exact⟨Zai (by simp_all [regs]),rfl⟩)
theorem Z5z (a:Int):Calls Tryz.prog 219 #[.int .i64 a] w fun e w'=>e=.returned (.int .i64 (regs a))/\w=w':=by
 go_enter Tryz.func219,Tryz.ntmps219;go_wp2
 all_goals (go_ret;exact⟨Zai (by simp_all [regs]),rfl⟩)
theorem Ziy (c:UInt8):Calls Tryz.prog 221 #[.int .u8 c.toNat] w fun e w'=>e=.returned (.bool (Za3 c))/\w=w':=by
 go_enter Tryz.func221,Tryz.ntmps221;go_wp2
 all_goals (go_ret;exact⟨Zae (by first | (simp_all [Za3];done) | (simp [Za3, *];done) | (rw [Bool.eq_iff_iff];simp [Za3];omega)),rfl⟩)
theorem Ziz (c:UInt8):Calls Tryz.prog 225 #[.int .u8 c.toNat] w fun e w'=>e=.returned (.bool (Za3 c))/\w=w':=by
 go_enter Tryz.func225,Tryz.ntmps225;go_wp2
 all_goals (go_ret;exact⟨Zae (by first | (simp_all [Za3];done) | (simp [Za3, *];done) | (rw [Bool.eq_iff_iff];simp [Za3];omega)),rfl⟩)
theorem Zu0 (c:UInt8):Calls Tryz.prog 222 #[.int .u8 c.toNat] w fun e w'=>e=.returned (.bool (Zb0 c))/\w=w':=by
 go_enter Tryz.func222,Tryz.ntmps222;go_wp2
 all_goals (go_ret;exact⟨Zae (by first | (simp_all [Zb0];done) | (simp [Zb0, *];done) | (rw [Bool.eq_iff_iff];simp [Zb0];omega)),rfl⟩)
theorem Zu1 (c:UInt8):Calls Tryz.prog 226 #[.int .u8 c.toNat] w fun e w'=>e=.returned (.bool (Zb0 c))/\w=w':=by
 go_enter Tryz.func226,Tryz.ntmps226;go_wp2
 all_goals (go_ret;exact⟨Zae (by first | (simp_all [Zb0];done) | (simp [Zb0, *];done) | (rw [Bool.eq_iff_iff];simp [Zb0];omega)),rfl⟩)
end
set_option maxHeartbeats 400000 in
theorem Z5k (s:ByteArray)(w:World)(hs:s.size<=9223372036854775807):Calls Tryz.prog 208 #[.string s] w fun e w'=>e=.returned (.bool (Zbb s.data.toList))/\w=w':=by
 by_cases h0:s.size<1
 ·have h0':((s.size:Int) == 0)=true:=by rw [beq_iff_eq];omega
  have HF:=Zh (Zdw h0);clear h0;exact m_123
 have h0':((s.size:Int) == 0)=false:=beq_eq_false_iff_ne.2 ω;have hp:0<s.size:=ω;by_cases h1:32<s.size
 ·have HF:=Zh (Zdd h1);exact m_123
 cases hl:Za3 s[0] with
 | false=>
  have HF:=Zh (Zgc hp hl);have HL:=Zh hl;clear hl;go_enter Tryz.func208,Tryz.ntmps208
  go_wp2_with (go_at_call 221;refine (Ziy _ _).mono ?_;rw [HL.o];rintro e w' ⟨rfl,rfl⟩)
  go_ret;exact⟨Zae HF.o.symm,rfl⟩
 | true=>
  have HL:=Zh hl;clear hl;go_enter Tryz.func208,Tryz.ntmps208
  go_wp2_with (go_at_call 221;refine (Ziy _ _).mono ?_;rw [HL.o];rintro e w' ⟨rfl,rfl⟩)
  go_loop [21] (fun i=>∃ k:Nat,k<=s.size/\i=.int .i64 k/\∀ j (hj:j<s.size),j<k->Zbl s[j]=true) (fun i=>s.size - (intOf i).toNat)
  case atStart=>exact⟨0,Nat.zero_le _,rfl,fun j _ h=>absurd h (Nat.not_lt_zero _)⟩
  case round=>
   obtain⟨k,hk,rfl,hall⟩:=hrel;have H:=Zh hall;clear hall;by_cases hlt:k<s.size
   ·cases hx:Za3 s[k] with
    | true=>
     have HX:=Zh hx;have hb:Zbl s[k]=true:=by simp [Zbl,hx]
     have HB:=Zh hb;clear hx hb
     go_wp2_with (go_at_call 221;refine (Ziy _ _).mono ?_;rw [HX.o];rintro e w' ⟨rfl,rfl⟩)
     exact m_96
    | false=>
     cases hy:Zb0 s[k] with
     | true=>
      have HX:=Zh hx;have HY:=Zh hy;have hb:Zbl s[k]=true:=by simp [Zbl,hy]
      have HB:=Zh hb;clear hx hy hb;exact m_53
     | false=>
      by_cases hu:(s[k].toNat:Int)=95
      ·have HX:=Zh hx;have HY:=Zh hy;have hb:Zbl s[k]=true:=by simp [Zbl,hu]
       have hu':((s[k].toNat:Int) != 95)=false:=by simpa using hu
       have HB:=Zh hb;clear hx hy hb hu;exact m_53
      ·have HX:=Zh hx;have HY:=Zh hy;have hb:Zbl s[k]=false:=by simp [Zbl,hx,hy,hu]
       have hu':((s[k].toNat:Int) != 95)=true:=by simpa using hu
       have HF:=Zh (Zff k hlt hb);clear hx hy hb hu
       go_wp2_with (first | (go_at_call 221;refine (Ziy _ _).mono ?_;rw [HX.o];rintro e w' ⟨rfl,rfl⟩) | (go_at_call 222;refine (Zu0 _ _).mono ?_;rw [HY.o];rintro e w' ⟨rfl,rfl⟩))
       go_ret;exact⟨Zae HF.o.symm,rfl⟩
   exact m_133
set_option maxHeartbeats 400000 in
theorem Z5l (s:ByteArray)(w:World)(hs:s.size<=9223372036854775807):Calls Tryz.prog 218 #[.string s] w fun e w'=>e=.returned (.bool (Zbb s.data.toList))/\w=w':=by
 by_cases h0:s.size<1
 ·have h0':((s.size:Int) == 0)=true:=by rw [beq_iff_eq];omega
  have HF:=Zh (Zdw h0);exact m_111
 have h0':((s.size:Int) == 0)=false:=beq_eq_false_iff_ne.2 ω;have hp:0<s.size:=ω;by_cases h1:32<s.size
 ·have HF:=Zh (Zdd h1);exact m_111
 cases hl:Za3 s[0] with
 | false=>
  have HF:=Zh (Zgc hp hl);have HL:=Zh hl;clear hl;go_enter Tryz.func218,Tryz.ntmps218
  go_wp2_with (go_at_call 225;refine (Ziz _ _).mono ?_;rw [HL.o];rintro e w' ⟨rfl,rfl⟩)
  go_ret;exact⟨Zae HF.o.symm,rfl⟩
 | true=>
  have HL:=Zh hl;clear hl;go_enter Tryz.func218,Tryz.ntmps218
  go_wp2_with (go_at_call 225;refine (Ziz _ _).mono ?_;rw [HL.o];rintro e w' ⟨rfl,rfl⟩)
  go_loop [3] (fun i=>∃ k:Nat,1<=k/\k<=s.size/\i=.int .i64 k/\∀ j (hj:j<s.size),1<=j->j<k->Zbl s[j]=true) (fun i=>s.size - (intOf i).toNat)
  case atStart=>exact⟨1,ω,ω,rfl,fun j _ h1 h2=>by omega⟩
  case round=>
   obtain⟨k,hk1,hk,rfl,hall⟩:=hrel;have H:=Zh hall;clear hall;by_cases hlt:k<s.size
   ·cases hx:Za3 s[k] with
    | true=>
     have HX:=Zh hx;have hb:Zbl s[k]=true:=by simp [Zbl,hx]
     have HB:=Zh hb;clear hx hb
     go_wp2_with (go_at_call 225;refine (Ziz _ _).mono ?_;rw [HX.o];rintro e w' ⟨rfl,rfl⟩)
     exact m_94
    | false=>
     cases hy:Zb0 s[k] with
     | true=>
      have HX:=Zh hx;have HY:=Zh hy;have hb:Zbl s[k]=true:=by simp [Zbl,hy]
      have HB:=Zh hb;clear hx hy hb;exact m_47
     | false=>
      by_cases hu:(s[k].toNat:Int)=95
      ·have HX:=Zh hx;have HY:=Zh hy;have hb:Zbl s[k]=true:=by simp [Zbl,hu]
       have hu':((s[k].toNat:Int) != 95)=false:=by simpa using hu
       have HB:=Zh hb;clear hx hy hb hu;exact m_47
      ·have HX:=Zh hx;have HY:=Zh hy;have hb:Zbl s[k]=false:=by simp [Zbl,hx,hy,hu]
       have hu':((s[k].toNat:Int) != 95)=true:=by simpa using hu
       have HF:=Zh (Zff k hlt hb);clear hx hy hb hu
       go_wp2_with (first | (go_at_call 225;refine (Ziz _ _).mono ?_;rw [HX.o];rintro e w' ⟨rfl,rfl⟩) | (go_at_call 226;refine (Zu1 _ _).mono ?_;rw [HY.o];rintro e w' ⟨rfl,rfl⟩))
       go_ret;exact⟨Zae HF.o.symm,rfl⟩
   exact m_130
def Za9 (a th rg:Int)(l:List UInt8):Bool:=if th=-1 then decide (rg=0)&&Zbb l else decide (0<=th)&&decide (th<16)&&decide (0<=rg)&&decide (rg<regs a)&&l.isEmpty
set_option maxHeartbeats 1000000 in
theorem Z6c (a th rg:Int)(s:ByteArray)(w:World)(hs:s.size<=9223372036854775807):Calls Tryz.prog 172 #[.int .i64 a,.agg #[.int .i64 th,.int .i64 rg,.string s]] w (RB w (.bool (Za9 a th rg s.data.toList))):=by
 have hrp:=Zgu a;by_cases h1:th=-1
 ·subst h1;by_cases h2:rg=0
  ·subst h2;have HV:=Zh (show Za9 a (-1) 0 s.data.toList=Zbb s.data.toList by simp [Za9]);go_enter Tryz.func172,Tryz.ntmps172
   go_wp2_with (go_at_call 208;refine (Z5k _ _ hs).mono ?_;rintro e w' ⟨rfl,rfl⟩)
   go_ret;exact⟨Zae HV.o.symm,Zad _ _⟩
  ·have HV:=Zh (show Za9 a (-1) rg s.data.toList=false by simp [Za9,h2]);have h2':(rg == 0)=false:=beq_eq_false_iff_ne.2 h2;go_enter Tryz.func172,Tryz.ntmps172
   go_wp2_with fail
   go_ret;exact⟨Zae HV.o.symm,Zad _ _⟩
 have h1':(th == -1)=false:=beq_eq_false_iff_ne.2 h1;have HR:=Zh (Zgu a);by_cases h2:0<=th
 case neg=>
  have HV:=Zh (show Za9 a th rg s.data.toList=false by simp [Za9,h1,h2]);have h2':decide (0<=th)=false:=by simpa using h2
  exact m_95
 by_cases h3:th<16
 case neg=>
  have HV:=Zh (show Za9 a th rg s.data.toList=false by simp [Za9,h1,h2,h3]);have h2':decide (0<=th)=true:=by simpa using h2
  have h3':decide (th<16)=false:=by simpa using h3
  exact m_95
 by_cases h4:0<=rg
 case neg=>
  have HV:=Zh (show Za9 a th rg s.data.toList=false by simp [Za9,h1,h2,h3,h4]);have h2':decide (0<=th)=true:=by simpa using h2
  have h3':decide (th<16)=true:=by simpa using h3
  have h4':decide (0<=rg)=false:=by simpa using h4
  exact m_95
 by_cases h5:rg<regs a
 case neg=>
  have HV:=Zh (show Za9 a th rg s.data.toList=false by simp [Za9,h1,h2,h3,h4,h5]);have h2':decide (0<=th)=true:=by simpa using h2
  have h3':decide (th<16)=true:=by simpa using h3
  have h4':decide (0<=rg)=true:=by simpa using h4
  have h5':decide (rg<regs a)=false:=by simpa using h5
  go_enter Tryz.func172,Tryz.ntmps172
  go_wp2_with fail
  go_quiet ((go_at_call 209;exact Zdq (Z5y _ _)))
  go_wp2;go_ret;exact⟨Zae HV.o.symm,Zam (Zad _ _) _⟩
 have HV:=Zh (show Za9 a th rg s.data.toList=s.data.toList.isEmpty by simp [Za9,h1,h2,h3,h4,h5]);have h2':decide (0<=th)=true:=by simpa using h2
 have h3':decide (th<16)=true:=by simpa using h3
 have h4':decide (0<=rg)=true:=by simpa using h4
 have h5':decide (rg<regs a)=true:=by simpa using h5
 go_enter Tryz.func172,Tryz.ntmps172
 go_wp2_with fail
 go_quiet ((go_at_call 209;exact Zdq (Z5y _ _)))
 go_wp2;go_ret;exact⟨Zae (by rw [HV.o];simp [ByteArray.toList_eq]),Zam (Zad _ _) _⟩
set_option maxHeartbeats 1000000 in
theorem Z6d (a th rg:Int)(s:ByteArray)(w:World)(hs:s.size<=9223372036854775807):Calls Tryz.prog 197 #[.int .i64 a,.agg #[.int .i64 th,.int .i64 rg,.string s]] w (RB w (.bool (Za9 a th rg s.data.toList))):=by
 have hrp:=Zgu a;by_cases h1:th=-1
 ·subst h1;by_cases h2:rg=0
  ·subst h2;have HV:=Zh (show Za9 a (-1) 0 s.data.toList=Zbb s.data.toList by simp [Za9]);go_enter Tryz.func197,Tryz.ntmps197
   go_wp2_with (go_at_call 218;refine (Z5l _ _ hs).mono ?_;rintro e w' ⟨rfl,rfl⟩)
   go_ret;exact⟨Zae HV.o.symm,Zad _ _⟩
  ·have HV:=Zh (show Za9 a (-1) rg s.data.toList=false by simp [Za9,h2]);have h2':(rg == 0)=false:=beq_eq_false_iff_ne.2 h2;go_enter Tryz.func197,Tryz.ntmps197
   go_wp2_with fail
   go_ret;exact⟨Zae HV.o.symm,Zad _ _⟩
 have h1':(th == -1)=false:=beq_eq_false_iff_ne.2 h1;have HR:=Zh (Zgu a);by_cases h2:0<=th
 case neg=>
  have HV:=Zh (show Za9 a th rg s.data.toList=false by simp [Za9,h1,h2]);have h2':decide (0<=th)=false:=by simpa using h2
  exact m_88
 by_cases h3:th<16
 case neg=>
  have HV:=Zh (show Za9 a th rg s.data.toList=false by simp [Za9,h1,h2,h3]);have h2':decide (0<=th)=true:=by simpa using h2
  have h3':decide (th<16)=false:=by simpa using h3
  exact m_88
 by_cases h4:0<=rg
 case neg=>
  have HV:=Zh (show Za9 a th rg s.data.toList=false by simp [Za9,h1,h2,h3,h4]);have h2':decide (0<=th)=true:=by simpa using h2
  have h3':decide (th<16)=true:=by simpa using h3
  have h4':decide (0<=rg)=false:=by simpa using h4
  exact m_88
 by_cases h5:rg<regs a
 case neg=>
  have HV:=Zh (show Za9 a th rg s.data.toList=false by simp [Za9,h1,h2,h3,h4,h5]);have h2':decide (0<=th)=true:=by simpa using h2
  have h3':decide (th<16)=true:=by simpa using h3
  have h4':decide (0<=rg)=true:=by simpa using h4
  have h5':decide (rg<regs a)=false:=by simpa using h5
  go_enter Tryz.func197,Tryz.ntmps197
  go_wp2_with fail
  go_quiet ((go_at_call 219;exact Zdq (Z5z _ _)))
  go_wp2;go_ret;exact⟨Zae HV.o.symm,Zam (Zad _ _) _⟩
 have HV:=Zh (show Za9 a th rg s.data.toList=s.data.toList.isEmpty by simp [Za9,h1,h2,h3,h4,h5]);have h2':decide (0<=th)=true:=by simpa using h2
 have h3':decide (th<16)=true:=by simpa using h3
 have h4':decide (0<=rg)=true:=by simpa using h4
 have h5':decide (rg<regs a)=true:=by simpa using h5
 go_enter Tryz.func197,Tryz.ntmps197
 go_wp2_with fail
 go_quiet ((go_at_call 219;exact Zdq (Z5z _ _)))
 go_wp2;go_ret;exact⟨Zae (by rw [HV.o];simp [ByteArray.toList_eq]),Zam (Zad _ _) _⟩
abbrev Zge (k t r:Int)(l:List UInt8)(v:Int)(kv:Value):Value:=.agg #[.int .i64 k,.int .i64 t,.int .i64 r,.string ⟨l.toArray⟩,.int .i64 v,kv]
def Zky (t r:Int)(l:List UInt8)(v:Int):Bool:=decide (t=0)&&decide (r=0)&&l.isEmpty&&decide (v=0)
def Zf4 (a k t r:Int)(l:List UInt8)(v:Int)(n:Nat):Bool:=
 if k=2 then Za9 a t r l&&Zew v&&decide (n=0)
 else Zky t r l v&&(if k=1 then decide (n=0) else if k=3 then decide (n=1) else if k=4\/k=5 then decide (2<=n) else false)
theorem Zw9 {a t r:Int}{l:List UInt8}{b:Bool}(h:Za9 a t r l=b):Za9 a t r (⟨l.toArray⟩:ByteArray).data.toList=b:=h
section
variable {a k t r v:Int} {l:List UInt8} {A:Option Addr} {n cap:Nat}
set_option maxHeartbeats 2000000 in
set_option maxRecDepth 100000 in
theorem Zv0 (hl:l.length<=9223372036854775807)(w:World):Calls Tryz.prog 144 #[.int .i64 a,Zge 2 t r l v (.slice A n cap)] w (RB w (.bool (Zf4 a 2 t r l v n))):=by
 obtain⟨bt,ht⟩:∃ b,Za9 a t r l=b:=⟨_,rfl⟩;obtain⟨bn,hn⟩:∃ b,Zew v=b:=⟨_,rfl⟩;have HV:=Zh (show Zf4 a 2 t r l v n=(bt&&bn&&decide (n=0)) by simp [Zf4,ht,hn]);have HT:=Zh ht;have HN:=Zh hn;have hsz:(⟨l.toArray⟩:ByteArray).size<=9223372036854775807:=by rw [Zia];exact hl
 cases bt <;> cases bn <;> (by_cases h0:n=0)
 all_goals
  first | (have h0':((n:Int) == 0)=true:=by rw [beq_iff_eq];omega) | (have h0':((n:Int) == 0)=false:=beq_eq_false_iff_ne.2 ω)
  have H0:=Zh h0;go_enter Tryz.func144,Tryz.ntmps144
  go_wp2_with fail
  try (refine (Z6c _ _ _ _ _ hsz).mono ?_;rw [Zw9 HT.o];rintro e w1 ⟨rfl,hb1⟩)
  try (have hbb:=Zaa (Zad w _) hb1)
  try (have C0:=Zac (Zb2 w _ _ _ 0) hb1;have C4:=Zac (Zb2 w _ _ _ 4) hb1;have C5:=Zac (Zb2 w _ _ _ 5) hb1;simp at C0 C4 C5)
  try (go_wp2_with (go_at_call 173;refine (Z77 _ _).mono ?_;rw [HN.o];rintro e w2 ⟨rfl,rfl⟩))
  go_ret;exact⟨Zae (by rw [HV.o];simp [H0.o]),by first | exact hbb | exact Zad w _⟩
end
section
variable {a k t r v:Int} {l:List UInt8} {A:Option Addr} {n cap:Nat}
set_option maxHeartbeats 2000000 in
set_option maxRecDepth 100000 in
theorem Zzm (hk:k≠2)(hz:Zky t r l v=false)(w:World):Calls Tryz.prog 144 #[.int .i64 a,Zge k t r l v (.slice A n cap)] w (RB w (.bool (Zf4 a k t r l v n))):=by
 have HV:=Zh (show Zf4 a k t r l v n=false by simp [Zf4,hk,hz]);have hk':(k != 2)=true:=by simpa using hk
 have hk2:(k == 2)=false:=by simpa using hk
 by_cases h1:t=0
 case neg=>
  have h1':(t == 0)=false:=by simpa using h1
  have h1'':(t != 0)=true:=by simpa using h1
  exact m_124
 by_cases h2:r=0
 case neg=>
  have h2':(r == 0)=false:=by simpa using h2
  have h2'':(r != 0)=true:=by simpa using h2
  subst h1;exact m_124
 by_cases h3:l=[]
 case neg=>
  have h3':l.isEmpty=false:=by simpa using h3
  subst h1 h2;exact m_124
 by_cases h4:v=0
 case neg=>
  have h4':(v == 0)=false:=by simpa using h4
  have h4'':(v != 0)=true:=by simpa using h4
  subst h1 h2 h3;exact m_124
 subst h1 h2 h3 h4;simp [Zky] at hz
set_option maxHeartbeats 2000000 in
set_option maxRecDepth 100000 in
theorem Zv1 (hk:k≠2)(w:World):Calls Tryz.prog 144 #[.int .i64 a,Zge k 0 0 [] 0 (.slice A n cap)] w (RB w (.bool (Zf4 a k 0 0 [] 0 n))):=by
 have HV:=Zh (show Zf4 a k 0 0 [] 0 n=(if k=1 then decide (n=0) else if k=3 then decide (n=1) else if k=4\/k=5 then decide (2<=n) else false) by simp [Zf4,hk,Zky]);have hk':(k != 2)=true:=by simpa using hk
 have hk2:(k == 2)=false:=by simpa using hk
 have n0:((n:Int) == 0)=decide (n=0):=by rw [Bool.eq_iff_iff];simp
 have n1:((n:Int) == 1)=decide (n=1):=by rw [Bool.eq_iff_iff];simp;omega
 have N0:=Zh n0;have N1:=Zh n1;clear hk n0 n1;by_cases k1:k=1
 ·subst k1;go_enter Tryz.func144,Tryz.ntmps144
  go_wp2_with fail
  go_ret;exact⟨Zae (by rw [HV.o,N0.o];simp),Zad w _⟩
 have k1':(k == 1)=false:=by simpa using k1
 by_cases k3:k=3
 ·subst k3;clear k1;go_enter Tryz.func144,Tryz.ntmps144
  go_wp2_with fail
  go_ret;exact⟨Zae (by rw [HV.o,N1.o];simp),Zad w _⟩
 have k3':(k == 3)=false:=by simpa using k3
 by_cases k4:k=4
 ·subst k4;clear k1 k3;exact m_89
 have k4':(k == 4)=false:=by simpa using k4
 by_cases k5:k=5
 ·subst k5;clear k1 k3 k4;exact m_89
 have k5':(k == 5)=false:=by simpa using k5
 have HV2:=Zh (HV.o.trans (show _=false by simp [k1,k3,k4,k5]));clear k1 k3 k4 k5;go_enter Tryz.func144,Tryz.ntmps144
 go_wp2_with fail
 go_ret;exact⟨Zae HV2.o.symm,Zad w _⟩
theorem Z5a (hl:l.length<=9223372036854775807)(w:World):Calls Tryz.prog 144 #[.int .i64 a,Zge k t r l v (.slice A n cap)] w (RB w (.bool (Zf4 a k t r l v n))):=by
 by_cases hk:k=2
 ·subst hk;exact Zv0 hl w
 ·cases hz:Zky t r l v with
  | false=>exact Zzm hk hz w
  | true=>
   simp only [Zky,Bool.and_eq_true,decide_eq_true_eq,List.isEmpty_iff] at hz;obtain⟨⟨⟨rfl,rfl⟩,rfl⟩,rfl⟩:=hz;exact Zv1 hk w
end
section
variable {a k t r v:Int} {l:List UInt8} {A:Option Addr} {n cap:Nat}
set_option maxHeartbeats 2000000 in
set_option maxRecDepth 100000 in
theorem Zv2 (hl:l.length<=9223372036854775807)(w:World):Calls Tryz.prog 161 #[.int .i64 a,Zge 2 t r l v (.slice A n cap)] w (RB w (.bool (Zf4 a 2 t r l v n))):=by
 obtain⟨bt,ht⟩:∃ b,Za9 a t r l=b:=⟨_,rfl⟩;obtain⟨bn,hn⟩:∃ b,Zew v=b:=⟨_,rfl⟩;have HV:=Zh (show Zf4 a 2 t r l v n=(bt&&bn&&decide (n=0)) by simp [Zf4,ht,hn]);have HT:=Zh ht;have HN:=Zh hn;have hsz:(⟨l.toArray⟩:ByteArray).size<=9223372036854775807:=by rw [Zia];exact hl
 cases bt <;> cases bn <;> (by_cases h0:n=0)
 all_goals
  first | (have h0':((n:Int) == 0)=true:=by rw [beq_iff_eq];omega) | (have h0':((n:Int) == 0)=false:=beq_eq_false_iff_ne.2 ω)
  have H0:=Zh h0;go_enter Tryz.func161,Tryz.ntmps161
  go_wp2_with fail
  try (refine (Z6d _ _ _ _ _ hsz).mono ?_;rw [Zw9 HT.o];rintro e w1 ⟨rfl,hb1⟩)
  try (have hbb:=Zaa (Zab (Zad w _) _) hb1)
  try (have C0:=Zac (Zal (Zb2 w _ _ _ 0) _) hb1;have C4:=Zac (Zal (Zb2 w _ _ _ 4) _) hb1;have C5:=Zac (Zal (Zb2 w _ _ _ 5) _) hb1;simp at C0 C4 C5)
  try (go_wp2_with (go_at_call 198;refine (Z78 _ _).mono ?_;rw [HN.o];rintro e w2 ⟨rfl,rfl⟩))
  go_ret;exact⟨Zae (by rw [HV.o];simp [H0.o]),by first | exact hbb | exact Zab (Zad w _) _⟩
end
section
variable {a k t r v:Int} {l:List UInt8} {A:Option Addr} {n cap:Nat}
set_option maxHeartbeats 2000000 in
set_option maxRecDepth 100000 in
theorem Zzn (hk:k≠2)(hz:Zky t r l v=false)(w:World):Calls Tryz.prog 161 #[.int .i64 a,Zge k t r l v (.slice A n cap)] w (RB w (.bool (Zf4 a k t r l v n))):=by
 have HV:=Zh (show Zf4 a k t r l v n=false by simp [Zf4,hk,hz]);have hk':(k != 2)=true:=by simpa using hk
 have hk2:(k == 2)=false:=by simpa using hk
 by_cases h1:t=0
 case neg=>
  have h1':(t == 0)=false:=by simpa using h1
  have h1'':(t != 0)=true:=by simpa using h1
  exact m_100
 by_cases h2:r=0
 case neg=>
  have h2':(r == 0)=false:=by simpa using h2
  have h2'':(r != 0)=true:=by simpa using h2
  subst h1;exact m_100
 by_cases h3:l=[]
 case neg=>
  have h3':l.isEmpty=false:=by simpa using h3
  subst h1 h2;exact m_100
 by_cases h4:v=0
 case neg=>
  have h4':(v == 0)=false:=by simpa using h4
  have h4'':(v != 0)=true:=by simpa using h4
  subst h1 h2 h3;exact m_100
 subst h1 h2 h3 h4;simp [Zky] at hz
set_option maxHeartbeats 2000000 in
set_option maxRecDepth 100000 in
theorem Zv3 (hk:k≠2)(w:World):Calls Tryz.prog 161 #[.int .i64 a,Zge k 0 0 [] 0 (.slice A n cap)] w (RB w (.bool (Zf4 a k 0 0 [] 0 n))):=by
 have HV:=Zh (show Zf4 a k 0 0 [] 0 n=(if k=1 then decide (n=0) else if k=3 then decide (n=1) else if k=4\/k=5 then decide (2<=n) else false) by simp [Zf4,hk,Zky]);have hk':(k != 2)=true:=by simpa using hk
 have hk2:(k == 2)=false:=by simpa using hk
 have n0:((n:Int) == 0)=decide (n=0):=by rw [Bool.eq_iff_iff];simp
 have n1:((n:Int) == 1)=decide (n=1):=by rw [Bool.eq_iff_iff];simp;omega
 have N0:=Zh n0;have N1:=Zh n1;clear hk n0 n1;by_cases k1:k=1
 ·subst k1;go_enter Tryz.func161,Tryz.ntmps161
  go_wp2_with fail
  go_ret;exact⟨Zae (by rw [HV.o,N0.o];simp),Zab (Zad w _) _⟩
 have k1':(k == 1)=false:=by simpa using k1
 by_cases k3:k=3
 ·subst k3;clear k1;go_enter Tryz.func161,Tryz.ntmps161
  go_wp2_with fail
  go_ret;exact⟨Zae (by rw [HV.o,N1.o];simp),Zab (Zad w _) _⟩
 have k3':(k == 3)=false:=by simpa using k3
 by_cases k4:k=4
 ·subst k4;clear k1 k3;exact m_84
 have k4':(k == 4)=false:=by simpa using k4
 by_cases k5:k=5
 ·subst k5;clear k1 k3 k4;exact m_84
 have k5':(k == 5)=false:=by simpa using k5
 have HV2:=Zh (HV.o.trans (show _=false by simp [k1,k3,k4,k5]));clear k1 k3 k4 k5;go_enter Tryz.func161,Tryz.ntmps161
 go_wp2_with fail
 go_ret;exact⟨Zae HV2.o.symm,Zab (Zad w _) _⟩
theorem Z1a (hl:l.length<=9223372036854775807)(w:World):Calls Tryz.prog 161 #[.int .i64 a,Zge k t r l v (.slice A n cap)] w (RB w (.bool (Zf4 a k t r l v n))):=by
 by_cases hk:k=2
 ·subst hk;exact Zv2 hl w
 ·cases hz:Zky t r l v with
  | false=>exact Zzn hk hz w
  | true=>
   simp only [Zky,Bool.and_eq_true,decide_eq_true_eq,List.isEmpty_iff] at hz;obtain⟨⟨⟨rfl,rfl⟩,rfl⟩,rfl⟩:=hz;exact Zv3 hk w
end
end Go.Proofs.YtdfmcfppoohckaaGreatDoor
