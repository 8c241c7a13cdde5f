/- Layers 9, 10, 13, 15: the small functions: letters, digits, names, numbers, registers. -/
import Derived.Test.YtdfmcfppoohckaaGreatDoorTm03

namespace Go.Proofs.YtdfmcfppoohckaaGreatDoor
open Go.RowKit
def Zem (m n:Int):Bool:=decide (0<=n)&&decide (n<m)
theorem Zsl {m n:Int}(h1:0<=n)(h2:n<m):Zem m n=true:=by simp [Zem];omega
theorem Zsk {m n:Int}(h:n<0\/m<=n):Zem m n=false:=by unfold Zem;rw [Bool.and_eq_false_iff];simp;omega
def Zje (s:ByteArray)(i:Nat)(h:i<s.size):Bool:=Za3 s[i]||(decide (0<i)&&Zbl s[i])
theorem Zi3 {s:ByteArray}(i:Nat)(hi:i<s.size)(h:Zje s i hi=false):Zbb s.data.toList=false:=by
 have hl:s.data.toList.length=s.size:=rfl;have hg:s[i]=s.data.toList[i]'ω:=rfl;unfold Zje at h;rw [hg] at h;cases e:s.data.toList with
 | nil=>rfl
 | cons c r=>
  simp only [e] at h;cases i with
  | zero=>simp at h;simp [Zbb,h]
  | succ j=>
   simp at h;have:r.all Zbl=false:=by
    rw [List.all_eq_false];refine⟨r[j]'(by rw [e] at hl;simp at hl;omega),List.getElem_mem _,by simp [h.2]⟩
   simp [Zbb,this]
theorem Zg9 {s:ByteArray}(h1:1<=s.size)(h2:s.size<=32)(h:∀ i (hi:i<s.size),Zje s i hi=true):Zbb s.data.toList=true:=by
 have hl:s.data.toList.length=s.size:=rfl;have hg:∀ i (hi:i<s.size),s[i]=s.data.toList[i]'ω:=fun _ _=>rfl
 cases e:s.data.toList with
 | nil=>rw [e] at hl;simp at hl;omega
 | cons c r=>
  have hl':r.length+1=s.size:=by rw [<- hl,e];rfl
  have h0:=h 0 ω;unfold Zje at h0;rw [hg 0 ω] at h0;simp only [e] at h0;simp at h0;simp only [Zbb,Bool.and_eq_true,decide_eq_true_eq];refine⟨⟨ω,h0⟩,?_⟩;rw [List.all_eq_true];intro x hx;obtain⟨j,hj,rfl⟩:=List.getElem_of_mem hx;have hj':=h (j+1) ω;unfold Zje at hj';rw [hg (j+1) ω] at hj';simp only [e] at hj';simp at hj';rcases hj' with a | a
  ·simp [Zbl,a]
  ·exact a
section
variable (w:World)
theorem Zkg (a:Int):Calls Tryz.prog 43 #[.int .i64 a] w fun e w'=>e=.returned (.bool (Zd3 a))/\w=w':=by
 go_enter Tryz.func43,Tryz.ntmps43;go_wp2
 all_goals (go_ret;exact⟨Zae (by rw [Bool.eq_iff_iff];simp_all [Zd3]),rfl⟩)
theorem Zr5 (a:Int):Calls Tryz.prog 64 #[.int .i64 a] w fun e w'=>e=.returned (.bool (Zd3 a))/\w=w':=by
 go_enter Tryz.func64,Tryz.ntmps64;go_wp2
 all_goals (go_ret;exact⟨Zae (by rw [Bool.eq_iff_iff];simp_all [Zd3]),rfl⟩)
theorem Z5m (n:Int):Calls Tryz.prog 136 #[.int .i64 n] w fun e w'=>e=.returned (.bool (Zew n))/\w=w':=by
 go_enter Tryz.func136,Tryz.ntmps136;go_wp2
 all_goals (go_ret;exact⟨Zae (by first | (rw [Zlx ω ω];done) | (rw [Zlw ω];done) | simp [Zew, *]),rfl⟩)
theorem Zhh (n:Int):Calls Tryz.prog 143 #[.int .i64 n] w fun e w'=>e=.returned (.bool (Zew n))/\w=w':=by
 go_enter Tryz.func143,Tryz.ntmps143;go_wp2
 all_goals (go_ret;exact⟨Zae (by first | (rw [Zlx ω ω];done) | (rw [Zlw ω];done) | simp [Zew, *]),rfl⟩)
theorem Z7a (n:Int):Calls Tryz.prog 81 #[.int .i64 n] w fun e w'=>e=.returned (.bool (Zew n))/\w=w':=by
 go_enter Tryz.func81,Tryz.ntmps81;go_wp2
 all_goals (go_ret;exact⟨Zae (by first | (rw [Zlx ω ω];done) | (rw [Zlw ω];done) | simp [Zew, *]),rfl⟩)
theorem Znk (n:Int):Calls Tryz.prog 84 #[.int .i64 n] w fun e w'=>e=.returned (.bool (Zew n))/\w=w':=by
 go_enter Tryz.func84,Tryz.ntmps84;go_wp2
 all_goals (go_ret;exact⟨Zae (by first | (rw [Zlx ω ω];done) | (rw [Zlw ω];done) | simp [Zew, *]),rfl⟩)
theorem Z5x (n:Int):Calls Tryz.prog 137 #[.int .i64 n] w fun e w'=>e=.returned (.bool (Zem 15 n))/\w=w':=by
 go_enter Tryz.func137,Tryz.ntmps137;go_wp2
 all_goals (go_ret;exact⟨Zae (by first | (rw [Zsl ω ω];done) | (rw [Zsk ω];done) | (simp [Zem, *];done) | (simp [Zem, *];omega)),rfl⟩)
theorem Zwx (n:Int):Calls Tryz.prog 196 #[.int .i64 n] w fun e w'=>e=.returned (.bool (Zem 15 n))/\w=w':=by
 go_enter Tryz.func196,Tryz.ntmps196;go_wp2
 all_goals (go_ret;exact⟨Zae (by first | (rw [Zsl ω ω];done) | (rw [Zsk ω];done) | (simp [Zem, *];done) | (simp [Zem, *];omega)),rfl⟩)
theorem Z7f (n:Int):Calls Tryz.prog 139 #[.int .i64 n] w fun e w'=>e=.returned (.bool (Zem 32 n))/\w=w':=by
 go_enter Tryz.func139,Tryz.ntmps139;go_wp2
 all_goals (go_ret;exact⟨Zae (by first | (rw [Zsl ω ω];done) | (rw [Zsk ω];done) | (simp [Zem, *];done) | (simp [Zem, *];omega)),rfl⟩)
theorem Zer (n:Int):Calls Tryz.prog 163 #[.int .i64 n] w fun e w'=>e=.returned (.bool (Zem 32 n))/\w=w':=by
 go_enter Tryz.func163,Tryz.ntmps163;go_wp2
 all_goals (go_ret;exact⟨Zae (by first | (rw [Zsl ω ω];done) | (rw [Zsk ω];done) | (simp [Zem, *];done) | (simp [Zem, *];omega)),rfl⟩)
theorem Zgq (c:UInt8):Calls Tryz.prog 129 #[.int .u8 c.toNat] w fun e w'=>e=.returned (.bool (Za3 c))/\w=w':=by
 go_enter Tryz.func129,Tryz.ntmps129;go_wp2
 all_goals (go_ret;exact⟨Zae (by first | (simp_all [Za3];done) | (simp [Za3, *];done) | (rw [Bool.eq_iff_iff];simp [Za3];omega)),rfl⟩)
theorem Zqj (c:UInt8):Calls Tryz.prog 130 #[.int .u8 c.toNat] w fun e w'=>e=.returned (.bool (Zb0 c))/\w=w':=by
 go_enter Tryz.func130,Tryz.ntmps130;go_wp2
 all_goals (go_ret;exact⟨Zae (by first | (simp_all [Zb0];done) | (simp [Zb0, *];done) | (rw [Bool.eq_iff_iff];simp [Zb0];omega)),rfl⟩)
theorem Zgr (c:UInt8):Calls Tryz.prog 199 #[.int .u8 c.toNat] w fun e w'=>e=.returned (.bool (Za3 c))/\w=w':=by
 go_enter Tryz.func199,Tryz.ntmps199;go_wp2
 all_goals (go_ret;exact⟨Zae (by first | (simp_all [Za3];done) | (simp [Za3, *];done) | (rw [Bool.eq_iff_iff];simp [Za3];omega)),rfl⟩)
theorem Zqk (c:UInt8):Calls Tryz.prog 200 #[.int .u8 c.toNat] w fun e w'=>e=.returned (.bool (Zb0 c))/\w=w':=by
 go_enter Tryz.func200,Tryz.ntmps200;go_wp2
 all_goals (go_ret;exact⟨Zae (by first | (simp_all [Zb0];done) | (simp [Zb0, *];done) | (rw [Bool.eq_iff_iff];simp [Zb0];omega)),rfl⟩)
theorem Zi0 (c:UInt8):Calls Tryz.prog 206 #[.int .u8 c.toNat] w fun e w'=>e=.returned (.bool (Za3 c))/\w=w':=by
 go_enter Tryz.func206,Tryz.ntmps206;go_wp2
 all_goals (go_ret;exact⟨Zae (by first | (simp_all [Za3];done) | (simp [Za3, *];done) | (rw [Bool.eq_iff_iff];simp [Za3];omega)),rfl⟩)
theorem Zu2 (c:UInt8):Calls Tryz.prog 207 #[.int .u8 c.toNat] w fun e w'=>e=.returned (.bool (Zb0 c))/\w=w':=by
 go_enter Tryz.func207,Tryz.ntmps207;go_wp2
 all_goals (go_ret;exact⟨Zae (by first | (simp_all [Zb0];done) | (simp [Zb0, *];done) | (rw [Bool.eq_iff_iff];simp [Zb0];omega)),rfl⟩)
end
set_option maxHeartbeats 400000 in
theorem Zwa (s:ByteArray)(w:World)(hs:s.size<=9223372036854775807):Calls Tryz.prog 135 #[.string s] w fun e w'=>e=.returned (.bool (Zbb s.data.toList))/\w=w':=by
 go_enter Tryz.func135,Tryz.ntmps135;go_wp2
 all_goals try (go_ret;exact⟨Zae (by first | exact (Zdw ω).symm | exact (Zdd ω).symm),rfl⟩)
 go_loop [3,4] (fun i _=>∃ k:Nat,k<=s.size/\i=.int .i64 k/\∀ j (hj:j<s.size),j<k->Zje s j hj=true) (fun i _=>s.size - (intOf i).toNat)
 case atStart=>exact⟨0,Nat.zero_le _,rfl,fun j _ h=>absurd h (Nat.not_lt_zero _)⟩
 case round=>
  exact m_20
set_option maxHeartbeats 400000 in
theorem Zzw (s:ByteArray)(w:World)(hs:s.size<=9223372036854775807):Calls Tryz.prog 142 #[.string s] w fun e w'=>e=.returned (.bool (Zbb s.data.toList))/\w=w':=by
 go_enter Tryz.func142,Tryz.ntmps142;go_wp2
 all_goals try (go_ret;exact⟨Zae (by first | exact (Zdw ω).symm | exact (Zdd ω).symm),rfl⟩)
 go_loop [3,4] (fun i _=>∃ k:Nat,k<=s.size/\i=.int .i64 k/\∀ j (hj:j<s.size),j<k->Zje s j hj=true) (fun i _=>s.size - (intOf i).toNat)
 case atStart=>exact⟨0,Nat.zero_le _,rfl,fun j _ h=>absurd h (Nat.not_lt_zero _)⟩
 case round=>
  exact m_20
set_option maxHeartbeats 400000 in
theorem Z69 (s:ByteArray)(w:World)(hs:s.size<=9223372036854775807):Calls Tryz.prog 80 #[.string s] w fun e w'=>e=.returned (.bool (Zbb s.data.toList))/\w=w':=by
 go_enter Tryz.func80,Tryz.ntmps80;go_wp2
 all_goals try (go_ret;exact⟨Zae (by first | exact (Zdw ω).symm | exact (Zdd ω).symm),rfl⟩)
 go_loop [3,4] (fun i _=>∃ k:Nat,k<=s.size/\i=.int .i64 k/\∀ j (hj:j<s.size),j<k->Zje s j hj=true) (fun i _=>s.size - (intOf i).toNat)
 case atStart=>exact⟨0,Nat.zero_le _,rfl,fun j _ h=>absurd h (Nat.not_lt_zero _)⟩
 case round=>
  exact m_20
set_option maxHeartbeats 400000 in
theorem Z5j (s:ByteArray)(w:World)(hs:s.size<=9223372036854775807):Calls Tryz.prog 170 #[.string s] w fun e w'=>e=.returned (.bool (Zbb s.data.toList))/\w=w':=by
 by_cases h0:s.size<1
 ·have h0':((s.size:Int) == 0)=true:=by rw [beq_iff_eq];omega
  have HF:=Zh (Zdw h0);clear h0;exact m_120
 have h0':((s.size:Int) == 0)=false:=beq_eq_false_iff_ne.2 ω;have hp:0<s.size:=ω;by_cases h1:32<s.size
 ·have HF:=Zh (Zdd h1);exact m_120
 cases hl:Za3 s[0] with
 | false=>
  have HF:=Zh (Zgc hp hl);have HL:=Zh hl;clear hl;go_enter Tryz.func170,Tryz.ntmps170
  go_wp2_with (go_at_call 206;refine (Zi0 _ _).mono ?_;rw [HL.o];rintro e w' ⟨rfl,rfl⟩)
  go_ret;exact⟨Zae HF.o.symm,rfl⟩
 | true=>
  have HL:=Zh hl;clear hl;go_enter Tryz.func170,Tryz.ntmps170
  go_wp2_with (go_at_call 206;refine (Zi0 _ _).mono ?_;rw [HL.o];rintro e w' ⟨rfl,rfl⟩)
  go_loop [21] (fun i=>∃ k:Nat,k<=s.size/\i=.int .i64 k/\∀ j (hj:j<s.size),j<k->Zbl s[j]=true) (fun i=>s.size - (intOf i).toNat)
  case atStart=>exact⟨0,Nat.zero_le _,rfl,fun j _ h=>absurd h (Nat.not_lt_zero _)⟩
  case round=>
   obtain⟨k,hk,rfl,hall⟩:=hrel;have H:=Zh hall;clear hall;by_cases hlt:k<s.size
   ·cases hx:Za3 s[k] with
    | true=>
     have HX:=Zh hx;have hb:Zbl s[k]=true:=by simp [Zbl,hx]
     have HB:=Zh hb;clear hx hb
     go_wp2_with (go_at_call 206;refine (Zi0 _ _).mono ?_;rw [HX.o];rintro e w' ⟨rfl,rfl⟩)
     exact m_96
    | false=>
     cases hy:Zb0 s[k] with
     | true=>
      have HX:=Zh hx;have HY:=Zh hy;have hb:Zbl s[k]=true:=by simp [Zbl,hy]
      have HB:=Zh hb;clear hx hy hb;exact m_52
     | false=>
      by_cases hu:(s[k].toNat:Int)=95
      ·have HX:=Zh hx;have HY:=Zh hy;have hb:Zbl s[k]=true:=by simp [Zbl,hu]
       have hu':((s[k].toNat:Int) != 95)=false:=by simpa using hu
       have HB:=Zh hb;clear hx hy hb hu;exact m_52
      ·have HX:=Zh hx;have HY:=Zh hy;have hb:Zbl s[k]=false:=by simp [Zbl,hx,hy,hu]
       have hu':((s[k].toNat:Int) != 95)=true:=by simpa using hu
       have HF:=Zh (Zff k hlt hb);clear hx hy hb hu
       go_wp2_with (first | (go_at_call 206;refine (Zi0 _ _).mono ?_;rw [HX.o];rintro e w' ⟨rfl,rfl⟩) | (go_at_call 207;refine (Zu2 _ _).mono ?_;rw [HY.o];rintro e w' ⟨rfl,rfl⟩))
       go_ret;exact⟨Zae HF.o.symm,rfl⟩
   exact m_133
set_option maxHeartbeats 400000 in
theorem Zhx (s:ByteArray)(w:World)(hs:s.size<=9223372036854775807):Calls Tryz.prog 83 #[.string s] w fun e w'=>e=.returned (.bool (Zbb s.data.toList))/\w=w':=by
 by_cases h0:s.size<1
 ·have h0':((s.size:Int) == 0)=true:=by rw [beq_iff_eq];omega
  have HF:=Zh (Zdw h0);clear h0;exact m_113
 have h0':((s.size:Int) == 0)=false:=beq_eq_false_iff_ne.2 ω;have hp:0<s.size:=ω;by_cases h1:32<s.size
 ·have HF:=Zh (Zdd h1);exact m_113
 cases hl:Za3 s[0] with
 | false=>
  have HF:=Zh (Zgc hp hl);have HL:=Zh hl;clear hl;go_enter Tryz.func83,Tryz.ntmps83
  go_wp2_with (go_at_call 129;refine (Zgq _ _).mono ?_;rw [HL.o];rintro e w' ⟨rfl,rfl⟩)
  go_ret;exact⟨Zae HF.o.symm,rfl⟩
 | true=>
  have HL:=Zh hl;clear hl;go_enter Tryz.func83,Tryz.ntmps83
  go_wp2_with (go_at_call 129;refine (Zgq _ _).mono ?_;rw [HL.o];rintro e w' ⟨rfl,rfl⟩)
  go_loop [3] (fun i=>∃ k:Nat,k<=s.size/\i=.int .i64 k/\∀ j (hj:j<s.size),j<k->Zbl s[j]=true) (fun i=>s.size - (intOf i).toNat)
  case atStart=>exact⟨0,Nat.zero_le _,rfl,fun j _ h=>absurd h (Nat.not_lt_zero _)⟩
  case round=>
   obtain⟨k,hk,rfl,hall⟩:=hrel;have H:=Zh hall;clear hall;by_cases hlt:k<s.size
   ·cases hx:Za3 s[k] with
    | true=>
     have HX:=Zh hx;have hb:Zbl s[k]=true:=by simp [Zbl,hx]
     have HB:=Zh hb;clear hx hb
     go_wp2_with (go_at_call 129;refine (Zgq _ _).mono ?_;rw [HX.o];rintro e w' ⟨rfl,rfl⟩)
     exact m_96
    | false=>
     cases hy:Zb0 s[k] with
     | true=>
      have HX:=Zh hx;have HY:=Zh hy;have hb:Zbl s[k]=true:=by simp [Zbl,hy]
      have HB:=Zh hb;clear hx hy hb;exact m_50
     | false=>
      by_cases hu:(s[k].toNat:Int)=95
      ·have HX:=Zh hx;have HY:=Zh hy;have hb:Zbl s[k]=true:=by simp [Zbl,hu]
       have hu':((s[k].toNat:Int) != 95)=false:=by simpa using hu
       have HB:=Zh hb;clear hx hy hb hu;exact m_50
      ·have HX:=Zh hx;have HY:=Zh hy;have hb:Zbl s[k]=false:=by simp [Zbl,hx,hy,hu]
       have hu':((s[k].toNat:Int) != 95)=true:=by simpa using hu
       have HF:=Zh (Zff k hlt hb);clear hx hy hb hu
       go_wp2_with (first | (go_at_call 129;refine (Zgq _ _).mono ?_;rw [HX.o];rintro e w' ⟨rfl,rfl⟩) | (go_at_call 130;refine (Zqj _ _).mono ?_;rw [HY.o];rintro e w' ⟨rfl,rfl⟩))
       go_ret;exact⟨Zae HF.o.symm,rfl⟩
   exact m_133
set_option maxHeartbeats 400000 in
theorem Zlr (s:ByteArray)(w:World)(hs:s.size<=9223372036854775807):Calls Tryz.prog 162 #[.string s] w fun e w'=>e=.returned (.bool (Zbb s.data.toList))/\w=w':=by
 by_cases h0:s.size<1
 ·have h0':((s.size:Int) == 0)=true:=by rw [beq_iff_eq];omega
  have HF:=Zh (Zdw h0);exact m_112
 have h0':((s.size:Int) == 0)=false:=beq_eq_false_iff_ne.2 ω;have hp:0<s.size:=ω;by_cases h1:32<s.size
 ·have HF:=Zh (Zdd h1);exact m_112
 cases hl:Za3 s[0] with
 | false=>
  have HF:=Zh (Zgc hp hl);have HL:=Zh hl;clear hl;go_enter Tryz.func162,Tryz.ntmps162
  go_wp2_with (go_at_call 199;refine (Zgr _ _).mono ?_;rw [HL.o];rintro e w' ⟨rfl,rfl⟩)
  go_ret;exact⟨Zae HF.o.symm,rfl⟩
 | true=>
  have HL:=Zh hl;clear hl;go_enter Tryz.func162,Tryz.ntmps162
  go_wp2_with (go_at_call 199;refine (Zgr _ _).mono ?_;rw [HL.o];rintro e w' ⟨rfl,rfl⟩)
  go_loop [3] (fun i=>∃ k:Nat,1<=k/\k<=s.size/\i=.int .i64 k/\∀ j (hj:j<s.size),1<=j->j<k->Zbl s[j]=true) (fun i=>s.size - (intOf i).toNat)
  case atStart=>exact⟨1,ω,ω,rfl,fun j _ h1 h2=>by omega⟩
  case round=>
   obtain⟨k,hk1,hk,rfl,hall⟩:=hrel;have H:=Zh hall;clear hall;by_cases hlt:k<s.size
   ·cases hx:Za3 s[k] with
    | true=>
     have HX:=Zh hx;have hb:Zbl s[k]=true:=by simp [Zbl,hx]
     have HB:=Zh hb;clear hx hb
     go_wp2_with (go_at_call 199;refine (Zgr _ _).mono ?_;rw [HX.o];rintro e w' ⟨rfl,rfl⟩)
     exact m_94
    | false=>
     cases hy:Zb0 s[k] with
     | true=>
      have HX:=Zh hx;have HY:=Zh hy;have hb:Zbl s[k]=true:=by simp [Zbl,hy]
      have HB:=Zh hb;clear hx hy hb;exact m_48
     | false=>
      by_cases hu:(s[k].toNat:Int)=95
      ·have HX:=Zh hx;have HY:=Zh hy;have hb:Zbl s[k]=true:=by simp [Zbl,hu]
       have hu':((s[k].toNat:Int) != 95)=false:=by simpa using hu
       have HB:=Zh hb;clear hx hy hb hu;exact m_48
      ·have HX:=Zh hx;have HY:=Zh hy;have hb:Zbl s[k]=false:=by simp [Zbl,hx,hy,hu]
       have hu':((s[k].toNat:Int) != 95)=true:=by simpa using hu
       have HF:=Zh (Zff k hlt hb);clear hx hy hb hu
       go_wp2_with (first | (go_at_call 199;refine (Zgr _ _).mono ?_;rw [HX.o];rintro e w' ⟨rfl,rfl⟩) | (go_at_call 200;refine (Zqk _ _).mono ?_;rw [HY.o];rintro e w' ⟨rfl,rfl⟩))
       go_ret;exact⟨Zae HF.o.symm,rfl⟩
   exact m_130
end Go.Proofs.YtdfmcfppoohckaaGreatDoor
