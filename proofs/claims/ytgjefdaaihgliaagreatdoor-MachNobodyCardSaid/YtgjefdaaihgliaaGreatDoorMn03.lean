/- Layer 8: bytes, names, numbers: plain, and the small functions of the program and of the r -/
import Derived.Test.YtgjefdaaihgliaaGreatDoorMn01

namespace Go.Proofs.YtgjefdaaihgliaaGreatDoor
open Go.RowKit
def Zef (a:Int):Bool:=decide (a=1)||decide (a=2)
def Zg9 (n:Int):Bool:=decide (-2147483648<=n)&&decide (n<=2147483647)
def regs (a:Int):Int:=if a=1 then 15 else 32
theorem Zjk (a:Int):15<=regs a/\regs a<=32:=by unfold regs;split <;> omega
theorem Zpa {n:Int}(h1:-2147483648<=n)(h2:n<=2147483647):Zg9 n=true:=by simp [Zg9];omega
theorem Zo9 {n:Int}(h:n < -2147483648\/2147483647<n):Zg9 n=false:=by unfold Zg9;rw [Bool.and_eq_false_iff];simp;omega
theorem Zza {n:Int}(h:Zg9 n=true):-2147483648<=n/\n<=2147483647:=by simp [Zg9] at h;exact h
def Za9 (c:UInt8):Bool:=(decide (97<=(c.toNat:Int))&&decide ((c.toNat:Int)<=122))||(decide (65<=(c.toNat:Int))&&decide ((c.toNat:Int)<=90))
def Zb8 (c:UInt8):Bool:=decide (48<=(c.toNat:Int))&&decide ((c.toNat:Int)<=57)
def Zbp (c:UInt8):Bool:=Za9 c||Zb8 c||decide ((c.toNat:Int)=95)
def Zbl:List UInt8->Bool
 | []=>false
 | c :: r=>decide (r.length<32)&&Za9 c&&r.all Zbp
theorem Zej {s:ByteArray}(h:s.size<1):Zbl s.data.toList=false:=by
 have h0:s.data.size=s.size:=rfl;have:s.data.toList=[]:=List.eq_nil_of_length_eq_zero (by rw [Array.length_toList];omega);rw [this];rfl
theorem Zdr {s:ByteArray}(h:32<s.size):Zbl s.data.toList=false:=by
 have hl:s.data.toList.length=s.size:=rfl;cases e:s.data.toList with
 | nil=>rfl
 | cons c r=>rw [e] at hl;simp at hl;simp [Zbl];intro h1;omega
theorem Zgd {s:ByteArray}(h0:0<s.size)(h:Za9 s[0]=false):Zbl s.data.toList=false:=by
 have hl:s.data.toList.length=s.size:=rfl;have hg:s[0]=s.data.toList[0]'ω:=rfl;rw [hg] at h;cases e:s.data.toList with
 | nil=>rfl
 | cons c r=>simp only [e] at h;simp at h;simp [Zbl,h]
theorem Zfa {s:ByteArray}(i:Nat)(hi:i<s.size)(h:Zbp s[i]=false):Zbl s.data.toList=false:=by
 have hl:s.data.toList.length=s.size:=rfl;have hg:s[i]=s.data.toList[i]'ω:=rfl;rw [hg] at h;cases e:s.data.toList with
 | nil=>rfl
 | cons c r=>
  simp only [e] at h;cases i with
  | zero=>
   simp at h;have:Za9 c=false:=by
    simp [Zbp] at h;exact h.1.1
   simp [Zbl,this]
  | succ j=>
   simp at h;have:r.all Zbp=false:=by
    rw [List.all_eq_false];refine⟨r[j]'(by rw [e] at hl;simp at hl;omega),List.getElem_mem _,by simp [h]⟩
   simp [Zbl,this]
theorem Zge {s:ByteArray}(h1:0<s.size)(h2:s.size<=32)(h3:Za9 s[0]=true)(h:∀ i (hi:i<s.size),1<=i->Zbp s[i]=true):Zbl s.data.toList=true:=by
 have hl:s.data.toList.length=s.size:=rfl;have hg:∀ i (hi:i<s.size),s[i]=s.data.toList[i]'ω:=fun _ _=>rfl
 rw [hg 0 h1] at h3;cases e:s.data.toList with
 | nil=>rw [e] at hl;simp at hl;omega
 | cons c r=>
  have hl':r.length+1=s.size:=by rw [<- hl,e];rfl
  simp only [e] at h3;simp at h3;simp only [Zbl,Bool.and_eq_true,decide_eq_true_eq];refine⟨⟨ω,h3⟩,?_⟩;rw [List.all_eq_true];intro x hx;obtain⟨j,hj,rfl⟩:=List.getElem_of_mem hx;have hj':=h (j+1) ω ω;rw [hg (j+1) ω] at hj';simp only [e] at hj';simpa using hj'
section
variable (w:World)
theorem Z1b (a:Int):Calls Tryz.prog 113 #[.int .i64 a] w fun e w'=>e=.returned (.bool (Zef a))/\w=w':=by
 go_enter Tryz.func113,Tryz.ntmps113;go_wp2
 all_goals (go_ret;exact⟨Zaf (by rw [Bool.eq_iff_iff];simp_all [Zef]),rfl⟩)
theorem Z1c (a:Int):Calls Tryz.prog 133 #[.int .i64 a] w fun e w'=>e=.returned (.bool (Zef a))/\w=w':=by
 go_enter Tryz.func133,Tryz.ntmps133;go_wp2
 all_goals (go_ret;exact⟨Zaf (by rw [Bool.eq_iff_iff];simp_all [Zef]),rfl⟩)
theorem Z9f (n:Int):Calls Tryz.prog 214 #[.int .i64 n] w fun e w'=>e=.returned (.bool (Zg9 n))/\w=w':=by
 go_enter Tryz.func214,Tryz.ntmps214;go_wp2
 all_goals (go_ret;exact⟨Zaf (by first | (rw [Zpa ω ω];done) | (rw [Zo9 ω];done) | simp [Zg9, *]),rfl⟩)
theorem Z9g (n:Int):Calls Tryz.prog 242 #[.int .i64 n] w fun e w'=>e=.returned (.bool (Zg9 n))/\w=w':=by
 go_enter Tryz.func242,Tryz.ntmps242;go_wp2
 all_goals (go_ret;exact⟨Zaf (by first | (rw [Zpa ω ω];done) | (rw [Zo9 ω];done) | simp [Zg9, *]),rfl⟩)
theorem Z6b (a:Int):Calls Tryz.prog 254 #[.int .i64 a] w fun e w'=>e=.returned (.int .i64 (regs a))/\w=w':=by
 go_enter Tryz.func254,Tryz.ntmps254;go_wp2
 all_goals (go_ret;exact⟨Zak (by simp_all [regs]),rfl⟩)
theorem Z6c (a:Int):Calls Tryz.prog 264 #[.int .i64 a] w fun e w'=>e=.returned (.int .i64 (regs a))/\w=w':=by
 go_enter Tryz.func264,Tryz.ntmps264;go_wp2
 all_goals (go_ret;exact⟨Zak (by simp_all [regs]),rfl⟩)
theorem Zij (c:UInt8):Calls Tryz.prog 266 #[.int .u8 c.toNat] w fun e w'=>e=.returned (.bool (Za9 c))/\w=w':=by
 go_enter Tryz.func266,Tryz.ntmps266;go_wp2
 all_goals (go_ret;exact⟨Zaf (by first | (simp_all [Za9];done) | (simp [Za9, *];done) | (rw [Bool.eq_iff_iff];simp [Za9];omega)),rfl⟩)
theorem Zik (c:UInt8):Calls Tryz.prog 270 #[.int .u8 c.toNat] w fun e w'=>e=.returned (.bool (Za9 c))/\w=w':=by
 go_enter Tryz.func270,Tryz.ntmps270;go_wp2
 all_goals (go_ret;exact⟨Zaf (by first | (simp_all [Za9];done) | (simp [Za9, *];done) | (rw [Bool.eq_iff_iff];simp [Za9];omega)),rfl⟩)
theorem Zuh (c:UInt8):Calls Tryz.prog 267 #[.int .u8 c.toNat] w fun e w'=>e=.returned (.bool (Zb8 c))/\w=w':=by
 go_enter Tryz.func267,Tryz.ntmps267;go_wp2
 all_goals (go_ret;exact⟨Zaf (by first | (simp_all [Zb8];done) | (simp [Zb8, *];done) | (rw [Bool.eq_iff_iff];simp [Zb8];omega)),rfl⟩)
theorem Zui (c:UInt8):Calls Tryz.prog 271 #[.int .u8 c.toNat] w fun e w'=>e=.returned (.bool (Zb8 c))/\w=w':=by
 go_enter Tryz.func271,Tryz.ntmps271;go_wp2
 all_goals (go_ret;exact⟨Zaf (by first | (simp_all [Zb8];done) | (simp [Zb8, *];done) | (rw [Bool.eq_iff_iff];simp [Zb8];omega)),rfl⟩)
end
set_option maxHeartbeats 400000 in
theorem Z5t (s:ByteArray)(w:World)(hs:s.size<=9223372036854775807):Calls Tryz.prog 253 #[.string s] w fun e w'=>e=.returned (.bool (Zbl s.data.toList))/\w=w':=by
 by_cases h0:s.size<1
 ·have h0':((s.size:Int) == 0)=true:=by rw [beq_iff_eq];omega
  have HF:=Zh (Zej h0);clear h0;exact m_83
 have h0':((s.size:Int) == 0)=false:=beq_eq_false_iff_ne.2 ω;have hp:0<s.size:=ω;by_cases h1:32<s.size
 ·have HF:=Zh (Zdr h1);exact m_83
 cases hl:Za9 s[0] with
 | false=>
  have HF:=Zh (Zgd hp hl);have HL:=Zh hl;clear hl;go_enter Tryz.func253,Tryz.ntmps253
  go_wp2_with (go_at_call 266;refine (Zij _ _).mono ?_;rw [HL.o];rintro e w' ⟨rfl,rfl⟩)
  go_ret;exact⟨Zaf HF.o.symm,rfl⟩
 | true=>
  have HL:=Zh hl;clear hl;go_enter Tryz.func253,Tryz.ntmps253
  go_wp2_with (go_at_call 266;refine (Zij _ _).mono ?_;rw [HL.o];rintro e w' ⟨rfl,rfl⟩)
  go_loop [21] (fun i=>∃ k:Nat,k<=s.size/\i=.int .i64 k/\∀ j (hj:j<s.size),j<k->Zbp s[j]=true) (fun i=>s.size - (intOf i).toNat)
  case atStart=>exact⟨0,Nat.zero_le _,rfl,fun j _ h=>absurd h (Nat.not_lt_zero _)⟩
  case round=>
   obtain⟨k,hk,rfl,hall⟩:=hrel;have H:=Zh hall;clear hall;by_cases hlt:k<s.size
   ·cases hx:Za9 s[k] with
    | true=>
     have HX:=Zh hx;have hb:Zbp s[k]=true:=by simp [Zbp,hx]
     have HB:=Zh hb;clear hx hb
     go_wp2_with (go_at_call 266;refine (Zij _ _).mono ?_;rw [HX.o];rintro e w' ⟨rfl,rfl⟩)
     exact m_62
    | false=>
     cases hy:Zb8 s[k] with
     | true=>
      have HX:=Zh hx;have HY:=Zh hy;have hb:Zbp s[k]=true:=by simp [Zbp,hy]
      have HB:=Zh hb;clear hx hy hb;exact m_29
     | false=>
      by_cases hu:(s[k].toNat:Int)=95
      ·have HX:=Zh hx;have HY:=Zh hy;have hb:Zbp s[k]=true:=by simp [Zbp,hu]
       have hu':((s[k].toNat:Int) != 95)=false:=by simpa using hu
       have HB:=Zh hb;clear hx hy hb hu;exact m_29
      ·have HX:=Zh hx;have HY:=Zh hy;have hb:Zbp s[k]=false:=by simp [Zbp,hx,hy,hu]
       have hu':((s[k].toNat:Int) != 95)=true:=by simpa using hu
       have HF:=Zh (Zfa k hlt hb);clear hx hy hb hu
       go_wp2_with (first | (go_at_call 266;refine (Zij _ _).mono ?_;rw [HX.o];rintro e w' ⟨rfl,rfl⟩) | (go_at_call 267;refine (Zuh _ _).mono ?_;rw [HY.o];rintro e w' ⟨rfl,rfl⟩))
       go_ret;exact⟨Zaf HF.o.symm,rfl⟩
   exact m_94
set_option maxHeartbeats 400000 in
theorem Z5u (s:ByteArray)(w:World)(hs:s.size<=9223372036854775807):Calls Tryz.prog 263 #[.string s] w fun e w'=>e=.returned (.bool (Zbl s.data.toList))/\w=w':=by
 by_cases h0:s.size<1
 ·have h0':((s.size:Int) == 0)=true:=by rw [beq_iff_eq];omega
  have HF:=Zh (Zej h0);exact m_71
 have h0':((s.size:Int) == 0)=false:=beq_eq_false_iff_ne.2 ω;have hp:0<s.size:=ω;by_cases h1:32<s.size
 ·have HF:=Zh (Zdr h1);exact m_71
 cases hl:Za9 s[0] with
 | false=>
  have HF:=Zh (Zgd hp hl);have HL:=Zh hl;clear hl;go_enter Tryz.func263,Tryz.ntmps263
  go_wp2_with (go_at_call 270;refine (Zik _ _).mono ?_;rw [HL.o];rintro e w' ⟨rfl,rfl⟩)
  go_ret;exact⟨Zaf HF.o.symm,rfl⟩
 | true=>
  have HL:=Zh hl;clear hl;go_enter Tryz.func263,Tryz.ntmps263
  go_wp2_with (go_at_call 270;refine (Zik _ _).mono ?_;rw [HL.o];rintro e w' ⟨rfl,rfl⟩)
  go_loop [3] (fun i=>∃ k:Nat,1<=k/\k<=s.size/\i=.int .i64 k/\∀ j (hj:j<s.size),1<=j->j<k->Zbp s[j]=true) (fun i=>s.size - (intOf i).toNat)
  case atStart=>exact⟨1,ω,ω,rfl,fun j _ h1 h2=>by omega⟩
  case round=>
   obtain⟨k,hk1,hk,rfl,hall⟩:=hrel;have H:=Zh hall;clear hall;by_cases hlt:k<s.size
   ·cases hx:Za9 s[k] with
    | true=>
     have HX:=Zh hx;have hb:Zbp s[k]=true:=by simp [Zbp,hx]
     have HB:=Zh hb;clear hx hb
     go_wp2_with (go_at_call 270;refine (Zik _ _).mono ?_;rw [HX.o];rintro e w' ⟨rfl,rfl⟩)
     exact m_60
    | false=>
     cases hy:Zb8 s[k] with
     | true=>
      have HX:=Zh hx;have HY:=Zh hy;have hb:Zbp s[k]=true:=by simp [Zbp,hy]
      have HB:=Zh hb;clear hx hy hb;exact m_24
     | false=>
      by_cases hu:(s[k].toNat:Int)=95
      ·have HX:=Zh hx;have HY:=Zh hy;have hb:Zbp s[k]=true:=by simp [Zbp,hu]
       have hu':((s[k].toNat:Int) != 95)=false:=by simpa using hu
       have HB:=Zh hb;clear hx hy hb hu;exact m_24
      ·have HX:=Zh hx;have HY:=Zh hy;have hb:Zbp s[k]=false:=by simp [Zbp,hx,hy,hu]
       have hu':((s[k].toNat:Int) != 95)=true:=by simpa using hu
       have HF:=Zh (Zfa k hlt hb);clear hx hy hb hu
       go_wp2_with (first | (go_at_call 270;refine (Zik _ _).mono ?_;rw [HX.o];rintro e w' ⟨rfl,rfl⟩) | (go_at_call 271;refine (Zui _ _).mono ?_;rw [HY.o];rintro e w' ⟨rfl,rfl⟩))
       go_ret;exact⟨Zaf HF.o.symm,rfl⟩
   exact m_91
def Zbd (a th rg:Int)(l:List UInt8):Bool:=if th=-1 then decide (rg=0)&&Zbl l else decide (0<=th)&&decide (th<16)&&decide (0<=rg)&&decide (rg<regs a)&&l.isEmpty
set_option maxHeartbeats 1000000 in
theorem Z6u (a th rg:Int)(s:ByteArray)(w:World)(hs:s.size<=9223372036854775807):Calls Tryz.prog 213 #[.int .i64 a,.agg #[.int .i64 th,.int .i64 rg,.string s]] w (RB w (.bool (Zbd a th rg s.data.toList))):=by
 have hrp:=Zjk a;by_cases h1:th=-1
 ·subst h1;by_cases h2:rg=0
  ·subst h2;have HV:=Zh (show Zbd a (-1) 0 s.data.toList=Zbl s.data.toList by simp [Zbd]);go_enter Tryz.func213,Tryz.ntmps213
   go_wp2_with (go_at_call 253;refine (Z5t _ _ hs).mono ?_;rintro e w' ⟨rfl,rfl⟩)
   go_ret;exact⟨Zaf HV.o.symm,Zad _ _⟩
  ·have HV:=Zh (show Zbd a (-1) rg s.data.toList=false by simp [Zbd,h2]);have h2':(rg == 0)=false:=beq_eq_false_iff_ne.2 h2;go_enter Tryz.func213,Tryz.ntmps213
   go_wp2_with fail
   go_ret;exact⟨Zaf HV.o.symm,Zad _ _⟩
 have h1':(th == -1)=false:=beq_eq_false_iff_ne.2 h1;have HR:=Zh (Zjk a);by_cases h2:0<=th
 case neg=>
  have HV:=Zh (show Zbd a th rg s.data.toList=false by simp [Zbd,h1,h2]);have h2':decide (0<=th)=false:=by simpa using h2
  exact m_61
 by_cases h3:th<16
 case neg=>
  have HV:=Zh (show Zbd a th rg s.data.toList=false by simp [Zbd,h1,h2,h3]);have h2':decide (0<=th)=true:=by simpa using h2
  have h3':decide (th<16)=false:=by simpa using h3
  exact m_61
 by_cases h4:0<=rg
 case neg=>
  have HV:=Zh (show Zbd a th rg s.data.toList=false by simp [Zbd,h1,h2,h3,h4]);have h2':decide (0<=th)=true:=by simpa using h2
  have h3':decide (th<16)=true:=by simpa using h3
  have h4':decide (0<=rg)=false:=by simpa using h4
  exact m_61
 by_cases h5:rg<regs a
 case neg=>
  have HV:=Zh (show Zbd a th rg s.data.toList=false by simp [Zbd,h1,h2,h3,h4,h5]);have h2':decide (0<=th)=true:=by simpa using h2
  have h3':decide (th<16)=true:=by simpa using h3
  have h4':decide (0<=rg)=true:=by simpa using h4
  have h5':decide (rg<regs a)=false:=by simpa using h5
  go_enter Tryz.func213,Tryz.ntmps213
  go_wp2_with fail
  go_quiet ((go_at_call 254;exact Zdt (Z6b _ _)))
  go_wp2;go_ret;exact⟨Zaf HV.o.symm,Zag (Zad _ _) _⟩
 have HV:=Zh (show Zbd a th rg s.data.toList=s.data.toList.isEmpty by simp [Zbd,h1,h2,h3,h4,h5]);have h2':decide (0<=th)=true:=by simpa using h2
 have h3':decide (th<16)=true:=by simpa using h3
 have h4':decide (0<=rg)=true:=by simpa using h4
 have h5':decide (rg<regs a)=true:=by simpa using h5
 go_enter Tryz.func213,Tryz.ntmps213
 go_wp2_with fail
 go_quiet ((go_at_call 254;exact Zdt (Z6b _ _)))
 go_wp2;go_ret;exact⟨Zaf (by rw [HV.o];simp [ByteArray.toList_eq]),Zag (Zad _ _) _⟩
set_option maxHeartbeats 1000000 in
theorem Z6v (a th rg:Int)(s:ByteArray)(w:World)(hs:s.size<=9223372036854775807):Calls Tryz.prog 241 #[.int .i64 a,.agg #[.int .i64 th,.int .i64 rg,.string s]] w (RB w (.bool (Zbd a th rg s.data.toList))):=by
 have hrp:=Zjk a;by_cases h1:th=-1
 ·subst h1;by_cases h2:rg=0
  ·subst h2;have HV:=Zh (show Zbd a (-1) 0 s.data.toList=Zbl s.data.toList by simp [Zbd]);go_enter Tryz.func241,Tryz.ntmps241
   go_wp2_with (go_at_call 263;refine (Z5u _ _ hs).mono ?_;rintro e w' ⟨rfl,rfl⟩)
   go_ret;exact⟨Zaf HV.o.symm,Zad _ _⟩
  ·have HV:=Zh (show Zbd a (-1) rg s.data.toList=false by simp [Zbd,h2]);have h2':(rg == 0)=false:=beq_eq_false_iff_ne.2 h2;go_enter Tryz.func241,Tryz.ntmps241
   go_wp2_with fail
   go_ret;exact⟨Zaf HV.o.symm,Zad _ _⟩
 have h1':(th == -1)=false:=beq_eq_false_iff_ne.2 h1;have HR:=Zh (Zjk a);by_cases h2:0<=th
 case neg=>
  have HV:=Zh (show Zbd a th rg s.data.toList=false by simp [Zbd,h1,h2]);have h2':decide (0<=th)=false:=by simpa using h2
  exact m_55
 by_cases h3:th<16
 case neg=>
  have HV:=Zh (show Zbd a th rg s.data.toList=false by simp [Zbd,h1,h2,h3]);have h2':decide (0<=th)=true:=by simpa using h2
  have h3':decide (th<16)=false:=by simpa using h3
  exact m_55
 by_cases h4:0<=rg
 case neg=>
  have HV:=Zh (show Zbd a th rg s.data.toList=false by simp [Zbd,h1,h2,h3,h4]);have h2':decide (0<=th)=true:=by simpa using h2
  have h3':decide (th<16)=true:=by simpa using h3
  have h4':decide (0<=rg)=false:=by simpa using h4
  exact m_55
 by_cases h5:rg<regs a
 case neg=>
  have HV:=Zh (show Zbd a th rg s.data.toList=false by simp [Zbd,h1,h2,h3,h4,h5]);have h2':decide (0<=th)=true:=by simpa using h2
  have h3':decide (th<16)=true:=by simpa using h3
  have h4':decide (0<=rg)=true:=by simpa using h4
  have h5':decide (rg<regs a)=false:=by simpa using h5
  go_enter Tryz.func241,Tryz.ntmps241
  go_wp2_with fail
  go_quiet ((go_at_call 264;exact Zdt (Z6c _ _)))
  go_wp2;go_ret;exact⟨Zaf HV.o.symm,Zag (Zad _ _) _⟩
 have HV:=Zh (show Zbd a th rg s.data.toList=s.data.toList.isEmpty by simp [Zbd,h1,h2,h3,h4,h5]);have h2':decide (0<=th)=true:=by simpa using h2
 have h3':decide (th<16)=true:=by simpa using h3
 have h4':decide (0<=rg)=true:=by simpa using h4
 have h5':decide (rg<regs a)=true:=by simpa using h5
 go_enter Tryz.func241,Tryz.ntmps241
 go_wp2_with fail
 go_quiet ((go_at_call 264;exact Zdt (Z6c _ _)))
 go_wp2;go_ret;exact⟨Zaf (by rw [HV.o];simp [ByteArray.toList_eq]),Zag (Zad _ _) _⟩
abbrev Zgf (k t r:Int)(l:List UInt8)(v:Int)(kv:Value):Value:=.agg #[.int .i64 k,.int .i64 t,.int .i64 r,.string ⟨l.toArray⟩,.int .i64 v,kv]
def Zks (t r:Int)(l:List UInt8)(v:Int):Bool:=decide (t=0)&&decide (r=0)&&l.isEmpty&&decide (v=0)
def Zf2 (a k t r:Int)(l:List UInt8)(v:Int)(n:Nat):Bool:=
 if k=2 then Zbd a t r l&&Zg9 v&&decide (n=0)
 else Zks t r l v&&(if k=1 then decide (n=0) else if k=3 then decide (n=1) else if k=4\/k=5 then decide (2<=n) else false)
theorem Zwx {a t r:Int}{l:List UInt8}{b:Bool}(h:Zbd a t r l=b):Zbd a t r (⟨l.toArray⟩:ByteArray).data.toList=b:=h
section
variable {a k t r v:Int} {l:List UInt8} {A:Option Addr} {n cap:Nat}
set_option maxHeartbeats 2000000 in
set_option maxRecDepth 100000 in
theorem Zvg (hl:l.length<=9223372036854775807)(w:World):Calls Tryz.prog 177 #[.int .i64 a,Zgf 2 t r l v (.slice A n cap)] w (RB w (.bool (Zf2 a 2 t r l v n))):=by
 obtain⟨bt,ht⟩:∃ b,Zbd a t r l=b:=⟨_,rfl⟩;obtain⟨bn,hn⟩:∃ b,Zg9 v=b:=⟨_,rfl⟩;have HV:=Zh (show Zf2 a 2 t r l v n=(bt&&bn&&decide (n=0)) by simp [Zf2,ht,hn]);have HT:=Zh ht;have HN:=Zh hn;have hsz:(⟨l.toArray⟩:ByteArray).size<=9223372036854775807:=by rw [Zfs];exact hl
 cases bt <;> cases bn <;> (by_cases h0:n=0)
 all_goals
  first | (have h0':((n:Int) == 0)=true:=by rw [beq_iff_eq];omega) | (have h0':((n:Int) == 0)=false:=beq_eq_false_iff_ne.2 ω)
  have H0:=Zh h0;go_enter Tryz.func177,Tryz.ntmps177
  go_wp2_with fail
  try (refine (Z6u _ _ _ _ _ hsz).mono ?_;rw [Zwx HT.o];rintro e w1 ⟨rfl,hb1⟩)
  try (have hbb:=Zab (Zad w _) hb1)
  try (have C0:=Zac (Zbq w _ _ _ 0) hb1;have C4:=Zac (Zbq w _ _ _ 4) hb1;have C5:=Zac (Zbq w _ _ _ 5) hb1;simp at C0 C4 C5)
  try (go_wp2_with (go_at_call 214;refine (Z9f _ _).mono ?_;rw [HN.o];rintro e w2 ⟨rfl,rfl⟩))
  go_ret;exact⟨Zaf (by rw [HV.o];simp [H0.o]),by first | exact hbb | exact Zad w _⟩
end
section
variable {a k t r v:Int} {l:List UInt8} {A:Option Addr} {n cap:Nat}
set_option maxHeartbeats 2000000 in
set_option maxRecDepth 100000 in
theorem Zyy (hk:k≠2)(hz:Zks t r l v=false)(w:World):Calls Tryz.prog 177 #[.int .i64 a,Zgf k t r l v (.slice A n cap)] w (RB w (.bool (Zf2 a k t r l v n))):=by
 have HV:=Zh (show Zf2 a k t r l v n=false by simp [Zf2,hk,hz]);have hk':(k != 2)=true:=by simpa using hk
 have hk2:(k == 2)=false:=by simpa using hk
 by_cases h1:t=0
 case neg=>
  have h1':(t == 0)=false:=by simpa using h1
  have h1'':(t != 0)=true:=by simpa using h1
  exact m_84
 by_cases h2:r=0
 case neg=>
  have h2':(r == 0)=false:=by simpa using h2
  have h2'':(r != 0)=true:=by simpa using h2
  subst h1;exact m_84
 by_cases h3:l=[]
 case neg=>
  have h3':l.isEmpty=false:=by simpa using h3
  subst h1 h2;exact m_84
 by_cases h4:v=0
 case neg=>
  have h4':(v == 0)=false:=by simpa using h4
  have h4'':(v != 0)=true:=by simpa using h4
  subst h1 h2 h3;exact m_84
 subst h1 h2 h3 h4;simp [Zks] at hz
set_option maxHeartbeats 2000000 in
set_option maxRecDepth 100000 in
theorem Zvh (hk:k≠2)(w:World):Calls Tryz.prog 177 #[.int .i64 a,Zgf k 0 0 [] 0 (.slice A n cap)] w (RB w (.bool (Zf2 a k 0 0 [] 0 n))):=by
 have HV:=Zh (show Zf2 a k 0 0 [] 0 n=(if k=1 then decide (n=0) else if k=3 then decide (n=1) else if k=4\/k=5 then decide (2<=n) else false) by simp [Zf2,hk,Zks]);have hk':(k != 2)=true:=by simpa using hk
 have hk2:(k == 2)=false:=by simpa using hk
 have n0:((n:Int) == 0)=decide (n=0):=by rw [Bool.eq_iff_iff];simp
 have n1:((n:Int) == 1)=decide (n=1):=by rw [Bool.eq_iff_iff];simp;omega
 have N0:=Zh n0;have N1:=Zh n1;clear hk n0 n1;by_cases k1:k=1
 ·subst k1;go_enter Tryz.func177,Tryz.ntmps177
  go_wp2_with fail
  go_ret;exact⟨Zaf (by rw [HV.o,N0.out];simp),Zad w _⟩
 have k1':(k == 1)=false:=by simpa using k1
 by_cases k3:k=3
 ·subst k3;clear k1;go_enter Tryz.func177,Tryz.ntmps177
  go_wp2_with fail
  go_ret;exact⟨Zaf (by rw [HV.o,N1.out];simp),Zad w _⟩
 have k3':(k == 3)=false:=by simpa using k3
 by_cases k4:k=4
 ·subst k4;clear k1 k3;exact m_56
 have k4':(k == 4)=false:=by simpa using k4
 by_cases k5:k=5
 ·subst k5;clear k1 k3 k4;exact m_56
 have k5':(k == 5)=false:=by simpa using k5
 have HV2:=Zh (HV.o.trans (show _=false by simp [k1,k3,k4,k5]));clear k1 k3 k4 k5;go_enter Tryz.func177,Tryz.ntmps177
 go_wp2_with fail
 go_ret;exact⟨Zaf HV2.o.symm,Zad w _⟩
theorem Z5h (hl:l.length<=9223372036854775807)(w:World):Calls Tryz.prog 177 #[.int .i64 a,Zgf k t r l v (.slice A n cap)] w (RB w (.bool (Zf2 a k t r l v n))):=by
 by_cases hk:k=2
 ·subst hk;exact Zvg hl w
 ·cases hz:Zks t r l v with
  | false=>exact Zyy hk hz w
  | true=>
   simp only [Zks,Bool.and_eq_true,decide_eq_true_eq,List.isEmpty_iff] at hz;obtain⟨⟨⟨rfl,rfl⟩,rfl⟩,rfl⟩:=hz;exact Zvh hk w
end
section
variable {a k t r v:Int} {l:List UInt8} {A:Option Addr} {n cap:Nat}
set_option maxHeartbeats 2000000 in
set_option maxRecDepth 100000 in
theorem Zvi (hl:l.length<=9223372036854775807)(w:World):Calls Tryz.prog 194 #[.int .i64 a,Zgf 2 t r l v (.slice A n cap)] w (RB w (.bool (Zf2 a 2 t r l v n))):=by
 obtain⟨bt,ht⟩:∃ b,Zbd a t r l=b:=⟨_,rfl⟩;obtain⟨bn,hn⟩:∃ b,Zg9 v=b:=⟨_,rfl⟩;have HV:=Zh (show Zf2 a 2 t r l v n=(bt&&bn&&decide (n=0)) by simp [Zf2,ht,hn]);have HT:=Zh ht;have HN:=Zh hn;have hsz:(⟨l.toArray⟩:ByteArray).size<=9223372036854775807:=by rw [Zfs];exact hl
 cases bt <;> cases bn <;> (by_cases h0:n=0)
 all_goals
  first | (have h0':((n:Int) == 0)=true:=by rw [beq_iff_eq];omega) | (have h0':((n:Int) == 0)=false:=beq_eq_false_iff_ne.2 ω)
  have H0:=Zh h0;go_enter Tryz.func194,Tryz.ntmps194
  go_wp2_with fail
  try (refine (Z6v _ _ _ _ _ hsz).mono ?_;rw [Zwx HT.o];rintro e w1 ⟨rfl,hb1⟩)
  try (have hbb:=Zab (Zaa (Zad w _) _) hb1)
  try (have C0:=Zac (Zao (Zbq w _ _ _ 0) _) hb1;have C4:=Zac (Zao (Zbq w _ _ _ 4) _) hb1;have C5:=Zac (Zao (Zbq w _ _ _ 5) _) hb1;simp at C0 C4 C5)
  try (go_wp2_with (go_at_call 242;refine (Z9g _ _).mono ?_;rw [HN.o];rintro e w2 ⟨rfl,rfl⟩))
  go_ret;exact⟨Zaf (by rw [HV.o];simp [H0.o]),by first | exact hbb | exact Zaa (Zad w _) _⟩
end
section
variable {a k t r v:Int} {l:List UInt8} {A:Option Addr} {n cap:Nat}
set_option maxHeartbeats 2000000 in
set_option maxRecDepth 100000 in
theorem Zyz (hk:k≠2)(hz:Zks t r l v=false)(w:World):Calls Tryz.prog 194 #[.int .i64 a,Zgf k t r l v (.slice A n cap)] w (RB w (.bool (Zf2 a k t r l v n))):=by
 have HV:=Zh (show Zf2 a k t r l v n=false by simp [Zf2,hk,hz]);have hk':(k != 2)=true:=by simpa using hk
 have hk2:(k == 2)=false:=by simpa using hk
 by_cases h1:t=0
 case neg=>
  have h1':(t == 0)=false:=by simpa using h1
  have h1'':(t != 0)=true:=by simpa using h1
  exact m_65
 by_cases h2:r=0
 case neg=>
  have h2':(r == 0)=false:=by simpa using h2
  have h2'':(r != 0)=true:=by simpa using h2
  subst h1;exact m_65
 by_cases h3:l=[]
 case neg=>
  have h3':l.isEmpty=false:=by simpa using h3
  subst h1 h2;exact m_65
 by_cases h4:v=0
 case neg=>
  have h4':(v == 0)=false:=by simpa using h4
  have h4'':(v != 0)=true:=by simpa using h4
  subst h1 h2 h3;exact m_65
 subst h1 h2 h3 h4;simp [Zks] at hz
set_option maxHeartbeats 2000000 in
set_option maxRecDepth 100000 in
theorem Zvj (hk:k≠2)(w:World):Calls Tryz.prog 194 #[.int .i64 a,Zgf k 0 0 [] 0 (.slice A n cap)] w (RB w (.bool (Zf2 a k 0 0 [] 0 n))):=by
 have HV:=Zh (show Zf2 a k 0 0 [] 0 n=(if k=1 then decide (n=0) else if k=3 then decide (n=1) else if k=4\/k=5 then decide (2<=n) else false) by simp [Zf2,hk,Zks]);have hk':(k != 2)=true:=by simpa using hk
 have hk2:(k == 2)=false:=by simpa using hk
 have n0:((n:Int) == 0)=decide (n=0):=by rw [Bool.eq_iff_iff];simp
 have n1:((n:Int) == 1)=decide (n=1):=by rw [Bool.eq_iff_iff];simp;omega
 have N0:=Zh n0;have N1:=Zh n1;clear hk n0 n1;by_cases k1:k=1
 ·subst k1;go_enter Tryz.func194,Tryz.ntmps194
  go_wp2_with fail
  go_ret;exact⟨Zaf (by rw [HV.o,N0.out];simp),Zaa (Zad w _) _⟩
 have k1':(k == 1)=false:=by simpa using k1
 by_cases k3:k=3
 ·subst k3;clear k1;go_enter Tryz.func194,Tryz.ntmps194
  go_wp2_with fail
  go_ret;exact⟨Zaf (by rw [HV.o,N1.out];simp),Zaa (Zad w _) _⟩
 have k3':(k == 3)=false:=by simpa using k3
 by_cases k4:k=4
 ·subst k4;clear k1 k3;exact m_52
 have k4':(k == 4)=false:=by simpa using k4
 by_cases k5:k=5
 ·subst k5;clear k1 k3 k4;exact m_52
 have k5':(k == 5)=false:=by simpa using k5
 have HV2:=Zh (HV.o.trans (show _=false by simp [k1,k3,k4,k5]));clear k1 k3 k4 k5;go_enter Tryz.func194,Tryz.ntmps194
 go_wp2_with fail
 go_ret;exact⟨Zaf HV2.o.symm,Zaa (Zad w _) _⟩
theorem Z0r (hl:l.length<=9223372036854775807)(w:World):Calls Tryz.prog 194 #[.int .i64 a,Zgf k t r l v (.slice A n cap)] w (RB w (.bool (Zf2 a k t r l v n))):=by
 by_cases hk:k=2
 ·subst hk;exact Zvi hl w
 ·cases hz:Zks t r l v with
  | false=>exact Zyz hk hz w
  | true=>
   simp only [Zks,Bool.and_eq_true,decide_eq_true_eq,List.isEmpty_iff] at hz;obtain⟨⟨⟨rfl,rfl⟩,rfl⟩,rfl⟩:=hz;exact Zvj hk w
end
end Go.Proofs.YtgjefdaaihgliaaGreatDoor
