/- Layer 8: bytes, names, numbers: plain, and the small functions of the program and of the r -/
import Derived.Test.YtoegmdnfbemppaaGreatDoorTf00
import Derived.Test.YtoegmdnfbemppaaGreatDoorTf01

namespace Go.Proofs.YtoegmdnfbemppaaGreatDoor
open Go.RowKit
def Zd0 (a:Int):Bool:=decide (a=1)||decide (a=2)
def Zfq (n:Int):Bool:=decide (-2147483648<=n)&&decide (n<=2147483647)
def regs (a:Int):Int:=if a=1 then 15 else 32
theorem Zjh (a:Int):15<=regs a/\regs a<=32:=by unfold regs;split <;> omega
theorem Zlr {n:Int}(h1:-2147483648<=n)(h2:n<=2147483647):Zfq n=true:=by simp [Zfq];omega
theorem Zlk {n:Int}(h:n < -2147483648\/2147483647<n):Zfq n=false:=by unfold Zfq;rw [Bool.and_eq_false_iff];simp;omega
theorem Zzb {n:Int}(h:Zfq n=true):-2147483648<=n/\n<=2147483647:=by simp [Zfq] at h;exact h
def Za4 (c:UInt8):Bool:=(decide (97<=(c.toNat:Int))&&decide ((c.toNat:Int)<=122))||(decide (65<=(c.toNat:Int))&&decide ((c.toNat:Int)<=90))
def Zbz (c:UInt8):Bool:=decide (48<=(c.toNat:Int))&&decide ((c.toNat:Int)<=57)
def Zbj (c:UInt8):Bool:=Za4 c||Zbz c||decide ((c.toNat:Int)=95)
def Zbb:List UInt8->Bool
 | []=>false
 | c :: r=>decide (r.length<32)&&Za4 c&&r.all Zbj
theorem Zdu {s:ByteArray}(h:s.size<1):Zbb s.data.toList=false:=by
 have h0:s.data.size=s.size:=rfl
 have:s.data.toList=[]:=List.eq_nil_of_length_eq_zero (by rw [Array.length_toList];omega)
 rw [this];rfl
theorem Zda {s:ByteArray}(h:32<s.size):Zbb s.data.toList=false:=by
 have hl:s.data.toList.length=s.size:=rfl
 cases e:s.data.toList with
 | nil=>rfl
 | cons c r=>rw [e] at hl;simp at hl;simp [Zbb];intro h1;omega
theorem Zf9 {s:ByteArray}(h0:0<s.size)(h:Za4 s[0]=false):Zbb s.data.toList=false:=by
 have hl:s.data.toList.length=s.size:=rfl
 have hg:s[0]=s.data.toList[0]'(by omega):=rfl
 rw [hg] at h
 cases e:s.data.toList with
 | nil=>rfl
 | cons c r=>simp only [e] at h;simp at h;simp [Zbb,h]
theorem Ze2 {s:ByteArray}(i:Nat)(hi:i<s.size)(h:Zbj s[i]=false):Zbb s.data.toList=false:=by
 have hl:s.data.toList.length=s.size:=rfl
 have hg:s[i]=s.data.toList[i]'(by omega):=rfl
 rw [hg] at h
 cases e:s.data.toList with
 | nil=>rfl
 | cons c r=>
  simp only [e] at h
  cases i with
  | zero=>
   simp at h
   have:Za4 c=false:=by
    simp [Zbj] at h
    exact h.1.1
   simp [Zbb,this]
  | succ j=>
   simp at h
   have:r.all Zbj=false:=by
    rw [List.all_eq_false]
    refine⟨r[j]'(by rw [e] at hl;simp at hl;omega),List.getElem_mem _,by simp [h]⟩
   simp [Zbb,this]
theorem Zf5 {s:ByteArray}(h1:0<s.size)(h2:s.size<=32)(h3:Za4 s[0]=true)(h:∀ i (hi:i<s.size),1<=i->Zbj s[i]=true):Zbb s.data.toList=true:=by
 have hl:s.data.toList.length=s.size:=rfl
 have hg:∀ i (hi:i<s.size),s[i]=s.data.toList[i]'(by omega):=fun _ _=>rfl
 rw [hg 0 h1] at h3
 cases e:s.data.toList with
 | nil=>rw [e] at hl;simp at hl;omega
 | cons c r=>
  have hl':r.length+1=s.size:=by rw [<- hl,e];rfl
  simp only [e] at h3
  simp at h3
  simp only [Zbb,Bool.and_eq_true,decide_eq_true_eq]
  refine⟨⟨by omega,h3⟩,?_⟩
  rw [List.all_eq_true]
  intro x hx
  obtain⟨j,hj,rfl⟩:=List.getElem_of_mem hx
  have hj':=h (j+1) (by omega) (by omega)
  rw [hg (j+1) (by omega)] at hj'
  simp only [e] at hj'
  simpa using hj'
section
variable (w:World)
theorem Z0l (a:Int):Calls Tryz.prog 148 #[.int .i64 a] w fun e w'=>e=.returned (.bool (Zd0 a))/\w=w':=by
 go_enter Tryz.func148,Tryz.ntmps148
 go_wp2
 all_goals (go_ret;exact⟨Zae (by rw [Bool.eq_iff_iff];simp_all [Zd0]),rfl⟩)
theorem Z2l (a:Int):Calls Tryz.prog 166 #[.int .i64 a] w fun e w'=>e=.returned (.bool (Zd0 a))/\w=w':=by
 go_enter Tryz.func166,Tryz.ntmps166
 go_wp2
 all_goals (go_ret;exact⟨Zae (by rw [Bool.eq_iff_iff];simp_all [Zd0]),rfl⟩)
theorem Z6u (n:Int):Calls Tryz.prog 273 #[.int .i64 n] w fun e w'=>e=.returned (.bool (Zfq n))/\w=w':=by
 go_enter Tryz.func273,Tryz.ntmps273
 go_wp2
 all_goals (go_ret;exact⟨Zae (by first | (rw [Zlr (by omega) (by omega)];done) | (rw [Zlk (by omega)];done) | simp [Zfq, *]),rfl⟩)
theorem Z60 (n:Int):Calls Tryz.prog 262 #[.int .i64 n] w fun e w'=>e=.returned (.bool (Zfq n))/\w=w':=by
 go_enter Tryz.func262,Tryz.ntmps262
 go_wp2
 all_goals (go_ret;exact⟨Zae (by first | (rw [Zlr (by omega) (by omega)];done) | (rw [Zlk (by omega)];done) | simp [Zfq, *]),rfl⟩)
theorem Z3l (a:Int):Calls Tryz.prog 315 #[.int .i64 a] w fun e w'=>e=.returned (.int .i64 (regs a))/\w=w':=by
 go_enter Tryz.func315,Tryz.ntmps315
 go_wp2
 all_goals (go_ret;exact⟨Zah (by simp_all [regs]),rfl⟩)
theorem Z39 (a:Int):Calls Tryz.prog 304 #[.int .i64 a] w fun e w'=>e=.returned (.int .i64 (regs a))/\w=w':=by
 go_enter Tryz.func304,Tryz.ntmps304
 go_wp2
 all_goals (go_ret;exact⟨Zah (by simp_all [regs]),rfl⟩)
theorem Zip (c:UInt8):Calls Tryz.prog 331 #[.int .u8 c.toNat] w fun e w'=>e=.returned (.bool (Za4 c))/\w=w':=by
 go_enter Tryz.func331,Tryz.ntmps331
 go_wp2
 all_goals (go_ret;exact⟨Zae (by first | (simp_all [Za4];done) | (simp [Za4, *];done) | (rw [Bool.eq_iff_iff];simp [Za4];omega)),rfl⟩)
theorem Zic (c:UInt8):Calls Tryz.prog 327 #[.int .u8 c.toNat] w fun e w'=>e=.returned (.bool (Za4 c))/\w=w':=by
 go_enter Tryz.func327,Tryz.ntmps327
 go_wp2
 all_goals (go_ret;exact⟨Zae (by first | (simp_all [Za4];done) | (simp [Za4, *];done) | (rw [Bool.eq_iff_iff];simp [Za4];omega)),rfl⟩)
theorem Ztq (c:UInt8):Calls Tryz.prog 332 #[.int .u8 c.toNat] w fun e w'=>e=.returned (.bool (Zbz c))/\w=w':=by
 go_enter Tryz.func332,Tryz.ntmps332
 go_wp2
 all_goals (go_ret;exact⟨Zae (by first | (simp_all [Zbz];done) | (simp [Zbz, *];done) | (rw [Bool.eq_iff_iff];simp [Zbz];omega)),rfl⟩)
theorem Zwi (c:UInt8):Calls Tryz.prog 328 #[.int .u8 c.toNat] w fun e w'=>e=.returned (.bool (Zbz c))/\w=w':=by
 go_enter Tryz.func328,Tryz.ntmps328
 go_wp2
 all_goals (go_ret;exact⟨Zae (by first | (simp_all [Zbz];done) | (simp [Zbz, *];done) | (rw [Bool.eq_iff_iff];simp [Zbz];omega)),rfl⟩)
end
set_option maxHeartbeats 400000 in
theorem Z4i (s:ByteArray)(w:World)(hs:s.size<=9223372036854775807):Calls Tryz.prog 314 #[.string s] w fun e w'=>e=.returned (.bool (Zbb s.data.toList))/\w=w':=by
 by_cases h0:s.size<1
 ·have h0':((s.size:Int) == 0)=true:=by rw [beq_iff_eq];omega
  have HF:=Zh (Zdu h0)
  clear h0
  exact m_123
 have h0':((s.size:Int) == 0)=false:=beq_eq_false_iff_ne.2 (by omega)
 have hp:0<s.size:=by omega
 by_cases h1:32<s.size
 ·have HF:=Zh (Zda h1)
  exact m_123
 cases hl:Za4 s[0] with
 | false=>
  have HF:=Zh (Zf9 hp hl)
  have HL:=Zh hl
  clear hl
  go_enter Tryz.func314,Tryz.ntmps314
  go_wp2_with (go_at_call 331;refine (Zip _ _).mono ?_;rw [HL.out];rintro e w' ⟨rfl,rfl⟩)
  go_ret
  exact⟨Zae HF.out.symm,rfl⟩
 | true=>
  have HL:=Zh hl
  clear hl
  go_enter Tryz.func314,Tryz.ntmps314
  go_wp2_with (go_at_call 331;refine (Zip _ _).mono ?_;rw [HL.out];rintro e w' ⟨rfl,rfl⟩)
  go_loop [21] (fun i=>∃ k:Nat,k<=s.size/\i=.int .i64 k/\∀ j (hj:j<s.size),j<k->Zbj s[j]=true) (fun i=>s.size - (intOf i).toNat)
  case atStart=>exact⟨0,Nat.zero_le _,rfl,fun j _ h=>absurd h (Nat.not_lt_zero _)⟩
  case round=>
   obtain⟨k,hk,rfl,hall⟩:=hrel
   have H:=Zh hall
   clear hall
   by_cases hlt:k<s.size
   ·cases hx:Za4 s[k] with
    | true=>
     have HX:=Zh hx
     have hb:Zbj s[k]=true:=by simp [Zbj,hx]
     have HB:=Zh hb
     clear hx hb
     go_wp2_with (go_at_call 331;refine (Zip _ _).mono ?_;rw [HX.out];rintro e w' ⟨rfl,rfl⟩)
     exact m_90
    | false=>
     cases hy:Zbz s[k] with
     | true=>
      have HX:=Zh hx
      have HY:=Zh hy
      have hb:Zbj s[k]=true:=by simp [Zbj,hy]
      have HB:=Zh hb
      clear hx hy hb
      exact m_51
     | false=>
      by_cases hu:(s[k].toNat:Int)=95
      ·have HX:=Zh hx
       have HY:=Zh hy
       have hb:Zbj s[k]=true:=by simp [Zbj,hu]
       have hu':((s[k].toNat:Int) != 95)=false:=by simpa using hu
       have HB:=Zh hb
       clear hx hy hb hu
       exact m_51
      ·have HX:=Zh hx
       have HY:=Zh hy
       have hb:Zbj s[k]=false:=by simp [Zbj,hx,hy,hu]
       have hu':((s[k].toNat:Int) != 95)=true:=by simpa using hu
       have HF:=Zh (Ze2 k hlt hb)
       clear hx hy hb hu
       go_wp2_with (first | (go_at_call 331;refine (Zip _ _).mono ?_;rw [HX.out];rintro e w' ⟨rfl,rfl⟩) | (go_at_call 332;refine (Ztq _ _).mono ?_;rw [HY.out];rintro e w' ⟨rfl,rfl⟩))
       go_ret
       exact⟨Zae HF.out.symm,rfl⟩
   exact m_115
set_option maxHeartbeats 400000 in
theorem Z4h (s:ByteArray)(w:World)(hs:s.size<=9223372036854775807):Calls Tryz.prog 303 #[.string s] w fun e w'=>e=.returned (.bool (Zbb s.data.toList))/\w=w':=by
 by_cases h0:s.size<1
 ·have h0':((s.size:Int) == 0)=true:=by rw [beq_iff_eq];omega
  have HF:=Zh (Zdu h0)
  exact m_109
 have h0':((s.size:Int) == 0)=false:=beq_eq_false_iff_ne.2 (by omega)
 have hp:0<s.size:=by omega
 by_cases h1:32<s.size
 ·have HF:=Zh (Zda h1)
  exact m_109
 cases hl:Za4 s[0] with
 | false=>
  have HF:=Zh (Zf9 hp hl)
  have HL:=Zh hl
  clear hl
  go_enter Tryz.func303,Tryz.ntmps303
  go_wp2_with (go_at_call 327;refine (Zic _ _).mono ?_;rw [HL.out];rintro e w' ⟨rfl,rfl⟩)
  go_ret
  exact⟨Zae HF.out.symm,rfl⟩
 | true=>
  have HL:=Zh hl
  clear hl
  go_enter Tryz.func303,Tryz.ntmps303
  go_wp2_with (go_at_call 327;refine (Zic _ _).mono ?_;rw [HL.out];rintro e w' ⟨rfl,rfl⟩)
  go_loop [3] (fun i=>∃ k:Nat,1<=k/\k<=s.size/\i=.int .i64 k/\∀ j (hj:j<s.size),1<=j->j<k->Zbj s[j]=true) (fun i=>s.size - (intOf i).toNat)
  case atStart=>exact⟨1,by omega,by omega,rfl,fun j _ h1 h2=>by omega⟩
  case round=>
   obtain⟨k,hk1,hk,rfl,hall⟩:=hrel
   have H:=Zh hall
   clear hall
   by_cases hlt:k<s.size
   ·cases hx:Za4 s[k] with
    | true=>
     have HX:=Zh hx
     have hb:Zbj s[k]=true:=by simp [Zbj,hx]
     have HB:=Zh hb
     clear hx hb
     go_wp2_with (go_at_call 327;refine (Zic _ _).mono ?_;rw [HX.out];rintro e w' ⟨rfl,rfl⟩)
     exact m_87
    | false=>
     cases hy:Zbz s[k] with
     | true=>
      have HX:=Zh hx
      have HY:=Zh hy
      have hb:Zbj s[k]=true:=by simp [Zbj,hy]
      have HB:=Zh hb
      clear hx hy hb
      exact m_45
     | false=>
      by_cases hu:(s[k].toNat:Int)=95
      ·have HX:=Zh hx
       have HY:=Zh hy
       have hb:Zbj s[k]=true:=by simp [Zbj,hu]
       have hu':((s[k].toNat:Int) != 95)=false:=by simpa using hu
       have HB:=Zh hb
       clear hx hy hb hu
       exact m_45
      ·have HX:=Zh hx
       have HY:=Zh hy
       have hb:Zbj s[k]=false:=by simp [Zbj,hx,hy,hu]
       have hu':((s[k].toNat:Int) != 95)=true:=by simpa using hu
       have HF:=Zh (Ze2 k hlt hb)
       clear hx hy hb hu
       go_wp2_with (first | (go_at_call 327;refine (Zic _ _).mono ?_;rw [HX.out];rintro e w' ⟨rfl,rfl⟩) | (go_at_call 328;refine (Zwi _ _).mono ?_;rw [HY.out];rintro e w' ⟨rfl,rfl⟩))
       go_ret
       exact⟨Zae HF.out.symm,rfl⟩
   exact m_114
def Zba (a th rg:Int)(l:List UInt8):Bool:=if th=-1 then decide (rg=0)&&Zbb l else decide (0<=th)&&decide (th<16)&&decide (0<=rg)&&decide (rg<regs a)&&l.isEmpty
set_option maxHeartbeats 1000000 in
theorem Z3q (a th rg:Int)(s:ByteArray)(w:World)(hs:s.size<=9223372036854775807):Calls Tryz.prog 272 #[.int .i64 a,.agg #[.int .i64 th,.int .i64 rg,.string s]] w fun e w'=>e=.returned (.bool (Zba a th rg s.data.toList))/\Below w.heap.size w w':=by
 have hrp:=Zjh a
 by_cases h1:th=-1
 ·subst h1
  by_cases h2:rg=0
  ·subst h2
   have HV:=Zh (show Zba a (-1) 0 s.data.toList=Zbb s.data.toList by simp [Zba])
   clear hrp
   go_enter Tryz.func272,Tryz.ntmps272
   go_wp2_with (go_at_call 314;refine (Z4i _ _ hs).mono ?_;rintro e w' ⟨rfl,rfl⟩)
   go_ret
   exact⟨Zae HV.out.symm,Zad _ _⟩
  ·have HV:=Zh (show Zba a (-1) rg s.data.toList=false by simp [Zba,h2])
   have h2':(rg == 0)=false:=beq_eq_false_iff_ne.2 h2
   clear hrp h2
   go_enter Tryz.func272,Tryz.ntmps272
   go_wp2_with fail
   go_ret
   exact⟨Zae HV.out.symm,Zad _ _⟩
 have h1':(th == -1)=false:=beq_eq_false_iff_ne.2 h1
 have HR:=Zh (Zjh a)
 by_cases h2:0<=th
 case neg=>
  have HV:=Zh (show Zba a th rg s.data.toList=false by simp [Zba,h1,h2])
  have h2':decide (0<=th)=false:=by simpa using h2
  clear hrp h1 h2
  exact m_97
 by_cases h3:th<16
 case neg=>
  have HV:=Zh (show Zba a th rg s.data.toList=false by simp [Zba,h1,h2,h3])
  have h2':decide (0<=th)=true:=by simpa using h2
  have h3':decide (th<16)=false:=by simpa using h3
  clear hrp h1 h2 h3
  exact m_97
 by_cases h4:0<=rg
 case neg=>
  have HV:=Zh (show Zba a th rg s.data.toList=false by simp [Zba,h1,h2,h3,h4])
  have h2':decide (0<=th)=true:=by simpa using h2
  have h3':decide (th<16)=true:=by simpa using h3
  have h4':decide (0<=rg)=false:=by simpa using h4
  clear hrp h1 h2 h3 h4
  exact m_97
 by_cases h5:rg<regs a
 case neg=>
  have HV:=Zh (show Zba a th rg s.data.toList=false by simp [Zba,h1,h2,h3,h4,h5])
  have h2':decide (0<=th)=true:=by simpa using h2
  have h3':decide (th<16)=true:=by simpa using h3
  have h4':decide (0<=rg)=true:=by simpa using h4
  have h5':decide (rg<regs a)=false:=by simpa using h5
  clear hrp h1 h2 h3 h4 h5
  go_enter Tryz.func272,Tryz.ntmps272
  go_wp2_with fail
  go_quiet ((go_at_call 315;exact Zdn (Z3l _ _)))
  go_wp2
  go_ret
  exact⟨Zae HV.out.symm,Zan (Zad _ _) _⟩
 have HV:=Zh (show Zba a th rg s.data.toList=s.data.toList.isEmpty by simp [Zba,h1,h2,h3,h4,h5])
 have h2':decide (0<=th)=true:=by simpa using h2
 have h3':decide (th<16)=true:=by simpa using h3
 have h4':decide (0<=rg)=true:=by simpa using h4
 have h5':decide (rg<regs a)=true:=by simpa using h5
 clear hrp h1 h2 h3 h4 h5
 go_enter Tryz.func272,Tryz.ntmps272
 go_wp2_with fail
 go_quiet ((go_at_call 315;exact Zdn (Z3l _ _)))
 go_wp2
 go_ret
 exact⟨Zae (by rw [HV.out];simp [ByteArray.toList_eq]),Zan (Zad _ _) _⟩
set_option maxHeartbeats 1000000 in
theorem Z4j (a th rg:Int)(s:ByteArray)(w:World)(hs:s.size<=9223372036854775807):Calls Tryz.prog 261 #[.int .i64 a,.agg #[.int .i64 th,.int .i64 rg,.string s]] w fun e w'=>e=.returned (.bool (Zba a th rg s.data.toList))/\Below w.heap.size w w':=by
 have hrp:=Zjh a
 by_cases h1:th=-1
 ·subst h1
  by_cases h2:rg=0
  ·subst h2
   have HV:=Zh (show Zba a (-1) 0 s.data.toList=Zbb s.data.toList by simp [Zba])
   clear hrp
   go_enter Tryz.func261,Tryz.ntmps261
   go_wp2_with (go_at_call 303;refine (Z4h _ _ hs).mono ?_;rintro e w' ⟨rfl,rfl⟩)
   go_ret
   exact⟨Zae HV.out.symm,Zad _ _⟩
  ·have HV:=Zh (show Zba a (-1) rg s.data.toList=false by simp [Zba,h2])
   have h2':(rg == 0)=false:=beq_eq_false_iff_ne.2 h2
   clear hrp h2
   go_enter Tryz.func261,Tryz.ntmps261
   go_wp2_with fail
   go_ret
   exact⟨Zae HV.out.symm,Zad _ _⟩
 have h1':(th == -1)=false:=beq_eq_false_iff_ne.2 h1
 have HR:=Zh (Zjh a)
 by_cases h2:0<=th
 case neg=>
  have HV:=Zh (show Zba a th rg s.data.toList=false by simp [Zba,h1,h2])
  have h2':decide (0<=th)=false:=by simpa using h2
  clear hrp h1 h2
  exact m_89
 by_cases h3:th<16
 case neg=>
  have HV:=Zh (show Zba a th rg s.data.toList=false by simp [Zba,h1,h2,h3])
  have h2':decide (0<=th)=true:=by simpa using h2
  have h3':decide (th<16)=false:=by simpa using h3
  clear hrp h1 h2 h3
  exact m_89
 by_cases h4:0<=rg
 case neg=>
  have HV:=Zh (show Zba a th rg s.data.toList=false by simp [Zba,h1,h2,h3,h4])
  have h2':decide (0<=th)=true:=by simpa using h2
  have h3':decide (th<16)=true:=by simpa using h3
  have h4':decide (0<=rg)=false:=by simpa using h4
  clear hrp h1 h2 h3 h4
  exact m_89
 by_cases h5:rg<regs a
 case neg=>
  have HV:=Zh (show Zba a th rg s.data.toList=false by simp [Zba,h1,h2,h3,h4,h5])
  have h2':decide (0<=th)=true:=by simpa using h2
  have h3':decide (th<16)=true:=by simpa using h3
  have h4':decide (0<=rg)=true:=by simpa using h4
  have h5':decide (rg<regs a)=false:=by simpa using h5
  clear hrp h1 h2 h3 h4 h5
  go_enter Tryz.func261,Tryz.ntmps261
  go_wp2_with fail
  go_quiet ((go_at_call 304;exact Zdn (Z39 _ _)))
  go_wp2
  go_ret
  exact⟨Zae HV.out.symm,Zan (Zad _ _) _⟩
 have HV:=Zh (show Zba a th rg s.data.toList=s.data.toList.isEmpty by simp [Zba,h1,h2,h3,h4,h5])
 have h2':decide (0<=th)=true:=by simpa using h2
 have h3':decide (th<16)=true:=by simpa using h3
 have h4':decide (0<=rg)=true:=by simpa using h4
 have h5':decide (rg<regs a)=true:=by simpa using h5
 clear hrp h1 h2 h3 h4 h5
 go_enter Tryz.func261,Tryz.ntmps261
 go_wp2_with fail
 go_quiet ((go_at_call 304;exact Zdn (Z39 _ _)))
 go_wp2
 go_ret
 exact⟨Zae (by rw [HV.out];simp [ByteArray.toList_eq]),Zan (Zad _ _) _⟩
abbrev Zf1 (k t r:Int)(l:List UInt8)(v:Int)(kv:Value):Value:=.agg #[.int .i64 k,.int .i64 t,.int .i64 r,.string ⟨l.toArray⟩,.int .i64 v,kv]
def Zjv (t r:Int)(l:List UInt8)(v:Int):Bool:=decide (t=0)&&decide (r=0)&&l.isEmpty&&decide (v=0)
def Zfw (a k t r:Int)(l:List UInt8)(v:Int)(n:Nat):Bool:=
 if k=2 then Zba a t r l&&Zfq v&&decide (n=0)
 else Zjv t r l v&&(if k=1 then decide (n=0) else if k=3 then decide (n=1) else if k=4\/k=5 then decide (2<=n) else false)
theorem Ztn {a t r:Int}{l:List UInt8}{b:Bool}(h:Zba a t r l=b):Zba a t r (⟨l.toArray⟩:ByteArray).data.toList=b:=h
section
variable {a k t r v:Int} {l:List UInt8} {A:Option Addr} {n cap:Nat}
set_option maxHeartbeats 2000000 in
set_option maxRecDepth 100000 in
theorem Zt5 (hl:l.length<=9223372036854775807)(w:World):Calls Tryz.prog 227 #[.int .i64 a,Zf1 2 t r l v (.slice A n cap)] w fun e w'=>e=.returned (.bool (Zfw a 2 t r l v n))/\Below w.heap.size w w':=by
 obtain⟨bt,ht⟩:∃ b,Zba a t r l=b:=⟨_,rfl⟩
 obtain⟨bn,hn⟩:∃ b,Zfq v=b:=⟨_,rfl⟩
 have HV:=Zh (show Zfw a 2 t r l v n=(bt&&bn&&decide (n=0)) by simp [Zfw,ht,hn])
 have HT:=Zh ht
 have HN:=Zh hn
 clear ht hn
 have hsz:(⟨l.toArray⟩:ByteArray).size<=9223372036854775807:=by rw [Zhf];exact hl
 cases bt <;> cases bn <;> (by_cases h0:n=0)
 all_goals
  first | (have h0':((n:Int) == 0)=true:=by rw [beq_iff_eq];omega) | (have h0':((n:Int) == 0)=false:=beq_eq_false_iff_ne.2 (by omega))
  have H0:=Zh h0
  clear h0
  go_enter Tryz.func227,Tryz.ntmps227
  go_wp2_with fail
  try (refine (Z3q _ _ _ _ _ hsz).mono ?_;rw [Ztn HT.out];rintro e w1 ⟨rfl,hb1⟩)
  try (have hbb:=Zaa (Zad w _) hb1)
  try (have C0:=Zac (Zb2 w _ _ _ 0) hb1;have C4:=Zac (Zb2 w _ _ _ 4) hb1;have C5:=Zac (Zb2 w _ _ _ 5) hb1;simp at C0 C4 C5)
  try (go_wp2_with (go_at_call 273;refine (Z6u _ _).mono ?_;rw [HN.out];rintro e w2 ⟨rfl,rfl⟩))
  go_ret
  exact⟨Zae (by rw [HV.out];simp [H0.out]),by first | exact hbb | exact Zad w _⟩
end
section
variable {a k t r v:Int} {l:List UInt8} {A:Option Addr} {n cap:Nat}
set_option maxHeartbeats 2000000 in
set_option maxRecDepth 100000 in
theorem Zxh (hk:k≠2)(hz:Zjv t r l v=false)(w:World):Calls Tryz.prog 227 #[.int .i64 a,Zf1 k t r l v (.slice A n cap)] w fun e w'=>e=.returned (.bool (Zfw a k t r l v n))/\Below w.heap.size w w':=by
 have HV:=Zh (show Zfw a k t r l v n=false by simp [Zfw,hk,hz])
 have hk':(k != 2)=true:=by simpa using hk
 have hk2:(k == 2)=false:=by simpa using hk
 clear hk
 by_cases h1:t=0
 case neg=>
  have h1':(t == 0)=false:=by simpa using h1
  have h1'':(t != 0)=true:=by simpa using h1
  clear hz h1
  exact m_124
 by_cases h2:r=0
 case neg=>
  have h2':(r == 0)=false:=by simpa using h2
  have h2'':(r != 0)=true:=by simpa using h2
  subst h1
  clear hz h2
  exact m_124
 by_cases h3:l=[]
 case neg=>
  have h3':l.isEmpty=false:=by simpa using h3
  subst h1 h2
  clear hz h3
  exact m_124
 by_cases h4:v=0
 case neg=>
  have h4':(v == 0)=false:=by simpa using h4
  have h4'':(v != 0)=true:=by simpa using h4
  subst h1 h2 h3
  clear hz h4
  exact m_124
 subst h1 h2 h3 h4
 simp [Zjv] at hz
set_option maxHeartbeats 2000000 in
set_option maxRecDepth 100000 in
theorem Zvs (hk:k≠2)(w:World):Calls Tryz.prog 227 #[.int .i64 a,Zf1 k 0 0 [] 0 (.slice A n cap)] w fun e w'=>e=.returned (.bool (Zfw a k 0 0 [] 0 n))/\Below w.heap.size w w':=by
 have HV:=Zh (show Zfw a k 0 0 [] 0 n=(if k=1 then decide (n=0) else if k=3 then decide (n=1) else if k=4\/k=5 then decide (2<=n) else false) by simp [Zfw,hk,Zjv])
 have hk':(k != 2)=true:=by simpa using hk
 have hk2:(k == 2)=false:=by simpa using hk
 have n0:((n:Int) == 0)=decide (n=0):=by rw [Bool.eq_iff_iff];simp
 have n1:((n:Int) == 1)=decide (n=1):=by rw [Bool.eq_iff_iff];simp;omega
 have N0:=Zh n0
 have N1:=Zh n1
 clear hk n0 n1
 by_cases k1:k=1
 ·subst k1
  go_enter Tryz.func227,Tryz.ntmps227
  go_wp2_with fail
  go_ret
  exact⟨Zae (by rw [HV.out,N0.out];simp),Zad w _⟩
 have k1':(k == 1)=false:=by simpa using k1
 by_cases k3:k=3
 ·subst k3
  clear k1
  go_enter Tryz.func227,Tryz.ntmps227
  go_wp2_with fail
  go_ret
  exact⟨Zae (by rw [HV.out,N1.out];simp),Zad w _⟩
 have k3':(k == 3)=false:=by simpa using k3
 by_cases k4:k=4
 ·subst k4
  clear k1 k3
  exact m_91
 have k4':(k == 4)=false:=by simpa using k4
 by_cases k5:k=5
 ·subst k5
  clear k1 k3 k4
  exact m_91
 have k5':(k == 5)=false:=by simpa using k5
 have HV2:=Zh (HV.out.trans (show _=false by simp [k1,k3,k4,k5]))
 clear k1 k3 k4 k5
 go_enter Tryz.func227,Tryz.ntmps227
 go_wp2_with fail
 go_ret
 exact⟨Zae HV2.out.symm,Zad w _⟩
theorem Z3i (hl:l.length<=9223372036854775807)(w:World):Calls Tryz.prog 227 #[.int .i64 a,Zf1 k t r l v (.slice A n cap)] w fun e w'=>e=.returned (.bool (Zfw a k t r l v n))/\Below w.heap.size w w':=by
 by_cases hk:k=2
 ·subst hk;exact Zt5 hl w
 ·cases hz:Zjv t r l v with
  | false=>exact Zxh hk hz w
  | true=>
   simp only [Zjv,Bool.and_eq_true,decide_eq_true_eq,List.isEmpty_iff] at hz
   obtain⟨⟨⟨rfl,rfl⟩,rfl⟩,rfl⟩:=hz
   exact Zvs hk w
end
section
variable {a k t r v:Int} {l:List UInt8} {A:Option Addr} {n cap:Nat}
set_option maxHeartbeats 2000000 in
set_option maxRecDepth 100000 in
theorem Ztm (hl:l.length<=9223372036854775807)(w:World):Calls Tryz.prog 242 #[.int .i64 a,Zf1 2 t r l v (.slice A n cap)] w fun e w'=>e=.returned (.bool (Zfw a 2 t r l v n))/\Below w.heap.size w w':=by
 obtain⟨bt,ht⟩:∃ b,Zba a t r l=b:=⟨_,rfl⟩
 obtain⟨bn,hn⟩:∃ b,Zfq v=b:=⟨_,rfl⟩
 have HV:=Zh (show Zfw a 2 t r l v n=(bt&&bn&&decide (n=0)) by simp [Zfw,ht,hn])
 have HT:=Zh ht
 have HN:=Zh hn
 clear ht hn
 have hsz:(⟨l.toArray⟩:ByteArray).size<=9223372036854775807:=by rw [Zhf];exact hl
 cases bt <;> cases bn <;> (by_cases h0:n=0)
 all_goals
  first | (have h0':((n:Int) == 0)=true:=by rw [beq_iff_eq];omega) | (have h0':((n:Int) == 0)=false:=beq_eq_false_iff_ne.2 (by omega))
  have H0:=Zh h0
  clear h0
  go_enter Tryz.func242,Tryz.ntmps242
  go_wp2_with fail
  try (refine (Z4j _ _ _ _ _ hsz).mono ?_;rw [Ztn HT.out];rintro e w1 ⟨rfl,hb1⟩)
  try (have hbb:=Zaa (Zab (Zad w _) _) hb1)
  try (have C0:=Zac (Zal (Zb2 w _ _ _ 0) _) hb1;have C4:=Zac (Zal (Zb2 w _ _ _ 4) _) hb1;have C5:=Zac (Zal (Zb2 w _ _ _ 5) _) hb1;simp at C0 C4 C5)
  try (go_wp2_with (go_at_call 262;refine (Z60 _ _).mono ?_;rw [HN.out];rintro e w2 ⟨rfl,rfl⟩))
  go_ret
  exact⟨Zae (by rw [HV.out];simp [H0.out]),by first | exact hbb | exact Zab (Zad w _) _⟩
end
section
variable {a k t r v:Int} {l:List UInt8} {A:Option Addr} {n cap:Nat}
set_option maxHeartbeats 2000000 in
set_option maxRecDepth 100000 in
theorem Zy7 (hk:k≠2)(hz:Zjv t r l v=false)(w:World):Calls Tryz.prog 242 #[.int .i64 a,Zf1 k t r l v (.slice A n cap)] w fun e w'=>e=.returned (.bool (Zfw a k t r l v n))/\Below w.heap.size w w':=by
 have HV:=Zh (show Zfw a k t r l v n=false by simp [Zfw,hk,hz])
 have hk':(k != 2)=true:=by simpa using hk
 have hk2:(k == 2)=false:=by simpa using hk
 clear hk
 by_cases h1:t=0
 case neg=>
  have h1':(t == 0)=false:=by simpa using h1
  have h1'':(t != 0)=true:=by simpa using h1
  clear hz h1
  exact m_103
 by_cases h2:r=0
 case neg=>
  have h2':(r == 0)=false:=by simpa using h2
  have h2'':(r != 0)=true:=by simpa using h2
  subst h1
  clear hz h2
  exact m_103
 by_cases h3:l=[]
 case neg=>
  have h3':l.isEmpty=false:=by simpa using h3
  subst h1 h2
  clear hz h3
  exact m_103
 by_cases h4:v=0
 case neg=>
  have h4':(v == 0)=false:=by simpa using h4
  have h4'':(v != 0)=true:=by simpa using h4
  subst h1 h2 h3
  clear hz h4
  exact m_103
 subst h1 h2 h3 h4
 simp [Zjv] at hz
set_option maxHeartbeats 2000000 in
set_option maxRecDepth 100000 in
theorem Zu7 (hk:k≠2)(w:World):Calls Tryz.prog 242 #[.int .i64 a,Zf1 k 0 0 [] 0 (.slice A n cap)] w fun e w'=>e=.returned (.bool (Zfw a k 0 0 [] 0 n))/\Below w.heap.size w w':=by
 have HV:=Zh (show Zfw a k 0 0 [] 0 n=(if k=1 then decide (n=0) else if k=3 then decide (n=1) else if k=4\/k=5 then decide (2<=n) else false) by simp [Zfw,hk,Zjv])
 have hk':(k != 2)=true:=by simpa using hk
 have hk2:(k == 2)=false:=by simpa using hk
 have n0:((n:Int) == 0)=decide (n=0):=by rw [Bool.eq_iff_iff];simp
 have n1:((n:Int) == 1)=decide (n=1):=by rw [Bool.eq_iff_iff];simp;omega
 have N0:=Zh n0
 have N1:=Zh n1
 clear hk n0 n1
 by_cases k1:k=1
 ·subst k1
  go_enter Tryz.func242,Tryz.ntmps242
  go_wp2_with fail
  go_ret
  exact⟨Zae (by rw [HV.out,N0.out];simp),Zab (Zad w _) _⟩
 have k1':(k == 1)=false:=by simpa using k1
 by_cases k3:k=3
 ·subst k3
  clear k1
  go_enter Tryz.func242,Tryz.ntmps242
  go_wp2_with fail
  go_ret
  exact⟨Zae (by rw [HV.out,N1.out];simp),Zab (Zad w _) _⟩
 have k3':(k == 3)=false:=by simpa using k3
 by_cases k4:k=4
 ·subst k4
  clear k1 k3
  exact m_86
 have k4':(k == 4)=false:=by simpa using k4
 by_cases k5:k=5
 ·subst k5
  clear k1 k3 k4
  exact m_86
 have k5':(k == 5)=false:=by simpa using k5
 have HV2:=Zh (HV.out.trans (show _=false by simp [k1,k3,k4,k5]))
 clear k1 k3 k4 k5
 go_enter Tryz.func242,Tryz.ntmps242
 go_wp2_with fail
 go_ret
 exact⟨Zae HV2.out.symm,Zab (Zad w _) _⟩
theorem Z0i (hl:l.length<=9223372036854775807)(w:World):Calls Tryz.prog 242 #[.int .i64 a,Zf1 k t r l v (.slice A n cap)] w fun e w'=>e=.returned (.bool (Zfw a k t r l v n))/\Below w.heap.size w w':=by
 by_cases hk:k=2
 ·subst hk;exact Ztm hl w
 ·cases hz:Zjv t r l v with
  | false=>exact Zy7 hk hz w
  | true=>
   simp only [Zjv,Bool.and_eq_true,decide_eq_true_eq,List.isEmpty_iff] at hz
   obtain⟨⟨⟨rfl,rfl⟩,rfl⟩,rfl⟩:=hz
   exact Zu7 hk w
end
end Go.Proofs.YtoegmdnfbemppaaGreatDoor
