/- Layers 9, 10, 13, 15: the small functions: letters, digits, names, numbers, registers. -/
import Derived.Test.YtgjefdaaihgliaaGreatDoorMn03

namespace Go.Proofs.YtgjefdaaihgliaaGreatDoor
open Go.RowKit
def Zed (m n:Int):Bool:=decide (0<=n)&&decide (n<m)
theorem Zrw {m n:Int}(h1:0<=n)(h2:n<m):Zed m n=true:=by simp [Zed];omega
theorem Zrv {m n:Int}(h:n<0\/m<=n):Zed m n=false:=by unfold Zed;rw [Bool.and_eq_false_iff];simp;omega
def Znf (s:ByteArray)(i:Nat)(h:i<s.size):Bool:=Za9 s[i]||(decide (0<i)&&Zbp s[i])
theorem Zll {s:ByteArray}(i:Nat)(hi:i<s.size)(h:Znf s i hi=false):Zbl s.data.toList=false:=by
 have hl:s.data.toList.length=s.size:=rfl;have hg:s[i]=s.data.toList[i]'ω:=rfl;unfold Znf at h;rw [hg] at h;cases e:s.data.toList with
 | nil=>rfl
 | cons c r=>
  simp only [e] at h;cases i with
  | zero=>simp at h;simp [Zbl,h]
  | succ j=>
   simp at h;have:r.all Zbp=false:=by
    rw [List.all_eq_false];refine⟨r[j]'(by rw [e] at hl;simp at hl;omega),List.getElem_mem _,by simp [h.2]⟩
   simp [Zbl,this]
theorem Zkb {s:ByteArray}(h1:1<=s.size)(h2:s.size<=32)(h:∀ i (hi:i<s.size),Znf s i hi=true):Zbl s.data.toList=true:=by
 have hl:s.data.toList.length=s.size:=rfl;have hg:∀ i (hi:i<s.size),s[i]=s.data.toList[i]'ω:=fun _ _=>rfl
 cases e:s.data.toList with
 | nil=>rw [e] at hl;simp at hl;omega
 | cons c r=>
  have hl':r.length+1=s.size:=by rw [<- hl,e];rfl
  have h0:=h 0 ω;unfold Znf at h0;rw [hg 0 ω] at h0;simp only [e] at h0;simp at h0;simp only [Zbl,Bool.and_eq_true,decide_eq_true_eq];refine⟨⟨ω,h0⟩,?_⟩;rw [List.all_eq_true];intro x hx;obtain⟨j,hj,rfl⟩:=List.getElem_of_mem hx;have hj':=h (j+1) ω;unfold Znf at hj';rw [hg (j+1) ω] at hj';simp only [e] at hj';simp at hj';rcases hj' with a | a
  ·simp [Zbp,a]
  ·exact a
section
variable (w:World)
theorem Zj6 (a:Int):Calls Tryz.prog 61 #[.int .i64 a] w fun e w'=>e=.returned (.bool (Zef a))/\w=w':=by
 go_enter Tryz.func61,Tryz.ntmps61;go_wp2
 all_goals (go_ret;exact⟨Zaf (by rw [Bool.eq_iff_iff];simp_all [Zef]),rfl⟩)
theorem Zrh (a:Int):Calls Tryz.prog 80 #[.int .i64 a] w fun e w'=>e=.returned (.bool (Zef a))/\w=w':=by
 go_enter Tryz.func80,Tryz.ntmps80;go_wp2
 all_goals (go_ret;exact⟨Zaf (by rw [Bool.eq_iff_iff];simp_all [Zef]),rfl⟩)
theorem Z33 (n:Int):Calls Tryz.prog 144 #[.int .i64 n] w fun e w'=>e=.returned (.bool (Zg9 n))/\w=w':=by
 go_enter Tryz.func144,Tryz.ntmps144;go_wp2
 all_goals (go_ret;exact⟨Zaf (by first | (rw [Zpa ω ω];done) | (rw [Zo9 ω];done) | simp [Zg9, *]),rfl⟩)
theorem Z9e (n:Int):Calls Tryz.prog 176 #[.int .i64 n] w fun e w'=>e=.returned (.bool (Zg9 n))/\w=w':=by
 go_enter Tryz.func176,Tryz.ntmps176;go_wp2
 all_goals (go_ret;exact⟨Zaf (by first | (rw [Zpa ω ω];done) | (rw [Zo9 ω];done) | simp [Zg9, *]),rfl⟩)
theorem Zsy (n:Int):Calls Tryz.prog 237 #[.int .i64 n] w fun e w'=>e=.returned (.bool (Zg9 n))/\w=w':=by
 go_enter Tryz.func237,Tryz.ntmps237;go_wp2
 all_goals (go_ret;exact⟨Zaf (by first | (rw [Zpa ω ω];done) | (rw [Zo9 ω];done) | simp [Zg9, *]),rfl⟩)
theorem Z6a (n:Int):Calls Tryz.prog 145 #[.int .i64 n] w fun e w'=>e=.returned (.bool (Zed 15 n))/\w=w':=by
 go_enter Tryz.func145,Tryz.ntmps145;go_wp2
 all_goals (go_ret;exact⟨Zaf (by first | (rw [Zrw ω ω];done) | (rw [Zrv ω];done) | (simp [Zed, *];done) | (simp [Zed, *];omega)),rfl⟩)
theorem Zwg (n:Int):Calls Tryz.prog 238 #[.int .i64 n] w fun e w'=>e=.returned (.bool (Zed 15 n))/\w=w':=by
 go_enter Tryz.func238,Tryz.ntmps238;go_wp2
 all_goals (go_ret;exact⟨Zaf (by first | (rw [Zrw ω ω];done) | (rw [Zrv ω];done) | (simp [Zed, *];done) | (simp [Zed, *];omega)),rfl⟩)
theorem Z8g (n:Int):Calls Tryz.prog 174 #[.int .i64 n] w fun e w'=>e=.returned (.bool (Zed 32 n))/\w=w':=by
 go_enter Tryz.func174,Tryz.ntmps174;go_wp2
 all_goals (go_ret;exact⟨Zaf (by first | (rw [Zrw ω ω];done) | (rw [Zrv ω];done) | (simp [Zed, *];done) | (simp [Zed, *];omega)),rfl⟩)
theorem Zep (n:Int):Calls Tryz.prog 196 #[.int .i64 n] w fun e w'=>e=.returned (.bool (Zed 32 n))/\w=w':=by
 go_enter Tryz.func196,Tryz.ntmps196;go_wp2
 all_goals (go_ret;exact⟨Zaf (by first | (rw [Zrw ω ω];done) | (rw [Zrv ω];done) | (simp [Zed, *];done) | (simp [Zed, *];omega)),rfl⟩)
theorem Zgp (c:UInt8):Calls Tryz.prog 239 #[.int .u8 c.toNat] w fun e w'=>e=.returned (.bool (Za9 c))/\w=w':=by
 go_enter Tryz.func239,Tryz.ntmps239;go_wp2
 all_goals (go_ret;exact⟨Zaf (by first | (simp_all [Za9];done) | (simp [Za9, *];done) | (rw [Bool.eq_iff_iff];simp [Za9];omega)),rfl⟩)
theorem Zp3 (c:UInt8):Calls Tryz.prog 240 #[.int .u8 c.toNat] w fun e w'=>e=.returned (.bool (Zb8 c))/\w=w':=by
 go_enter Tryz.func240,Tryz.ntmps240;go_wp2
 all_goals (go_ret;exact⟨Zaf (by first | (simp_all [Zb8];done) | (simp [Zb8, *];done) | (rw [Bool.eq_iff_iff];simp [Zb8];omega)),rfl⟩)
theorem Zgq (c:UInt8):Calls Tryz.prog 243 #[.int .u8 c.toNat] w fun e w'=>e=.returned (.bool (Za9 c))/\w=w':=by
 go_enter Tryz.func243,Tryz.ntmps243;go_wp2
 all_goals (go_ret;exact⟨Zaf (by first | (simp_all [Za9];done) | (simp [Za9, *];done) | (rw [Bool.eq_iff_iff];simp [Za9];omega)),rfl⟩)
theorem Zp4 (c:UInt8):Calls Tryz.prog 244 #[.int .u8 c.toNat] w fun e w'=>e=.returned (.bool (Zb8 c))/\w=w':=by
 go_enter Tryz.func244,Tryz.ntmps244;go_wp2
 all_goals (go_ret;exact⟨Zaf (by first | (simp_all [Zb8];done) | (simp [Zb8, *];done) | (rw [Bool.eq_iff_iff];simp [Zb8];omega)),rfl⟩)
theorem Zil (c:UInt8):Calls Tryz.prog 246 #[.int .u8 c.toNat] w fun e w'=>e=.returned (.bool (Za9 c))/\w=w':=by
 go_enter Tryz.func246,Tryz.ntmps246;go_wp2
 all_goals (go_ret;exact⟨Zaf (by first | (simp_all [Za9];done) | (simp [Za9, *];done) | (rw [Bool.eq_iff_iff];simp [Za9];omega)),rfl⟩)
theorem Zuj (c:UInt8):Calls Tryz.prog 247 #[.int .u8 c.toNat] w fun e w'=>e=.returned (.bool (Zb8 c))/\w=w':=by
 go_enter Tryz.func247,Tryz.ntmps247;go_wp2
 all_goals (go_ret;exact⟨Zaf (by first | (simp_all [Zb8];done) | (simp [Zb8, *];done) | (rw [Bool.eq_iff_iff];simp [Zb8];omega)),rfl⟩)
end
set_option maxHeartbeats 400000 in
theorem Zsx (s:ByteArray)(w:World)(hs:s.size<=9223372036854775807):Calls Tryz.prog 143 #[.string s] w fun e w'=>e=.returned (.bool (Zbl s.data.toList))/\w=w':=by
 go_enter Tryz.func143,Tryz.ntmps143;go_wp2
 all_goals try (go_ret;exact⟨Zaf (by first | exact (Zej ω).symm | exact (Zdr ω).symm),rfl⟩)
 go_loop [3,4] (fun i _=>∃ k:Nat,k<=s.size/\i=.int .i64 k/\∀ j (hj:j<s.size),j<k->Znf s j hj=true) (fun i _=>s.size - (intOf i).toNat)
 case atStart=>exact⟨0,Nat.zero_le _,rfl,fun j _ h=>absurd h (Nat.not_lt_zero _)⟩
 case round=>
  exact m_12
set_option maxHeartbeats 400000 in
theorem Z5r (s:ByteArray)(w:World)(hs:s.size<=9223372036854775807):Calls Tryz.prog 175 #[.string s] w fun e w'=>e=.returned (.bool (Zbl s.data.toList))/\w=w':=by
 go_enter Tryz.func175,Tryz.ntmps175;go_wp2
 all_goals try (go_ret;exact⟨Zaf (by first | exact (Zej ω).symm | exact (Zdr ω).symm),rfl⟩)
 go_loop [3,4] (fun i _=>∃ k:Nat,k<=s.size/\i=.int .i64 k/\∀ j (hj:j<s.size),j<k->Znf s j hj=true) (fun i _=>s.size - (intOf i).toNat)
 case atStart=>exact⟨0,Nat.zero_le _,rfl,fun j _ h=>absurd h (Nat.not_lt_zero _)⟩
 case round=>
  exact m_12
set_option maxHeartbeats 400000 in
theorem Z5s (s:ByteArray)(w:World)(hs:s.size<=9223372036854775807):Calls Tryz.prog 202 #[.string s] w fun e w'=>e=.returned (.bool (Zbl s.data.toList))/\w=w':=by
 by_cases h0:s.size<1
 ·have h0':((s.size:Int) == 0)=true:=by rw [beq_iff_eq];omega
  have HF:=Zh (Zej h0);clear h0;exact m_80
 have h0':((s.size:Int) == 0)=false:=beq_eq_false_iff_ne.2 ω;have hp:0<s.size:=ω;by_cases h1:32<s.size
 ·have HF:=Zh (Zdr h1);exact m_80
 cases hl:Za9 s[0] with
 | false=>
  have HF:=Zh (Zgd hp hl);have HL:=Zh hl;clear hl;go_enter Tryz.func202,Tryz.ntmps202
  go_wp2_with (go_at_call 246;refine (Zil _ _).mono ?_;rw [HL.o];rintro e w' ⟨rfl,rfl⟩)
  go_ret;exact⟨Zaf HF.o.symm,rfl⟩
 | true=>
  have HL:=Zh hl;clear hl;go_enter Tryz.func202,Tryz.ntmps202
  go_wp2_with (go_at_call 246;refine (Zil _ _).mono ?_;rw [HL.o];rintro e w' ⟨rfl,rfl⟩)
  go_loop [21] (fun i=>∃ k:Nat,k<=s.size/\i=.int .i64 k/\∀ j (hj:j<s.size),j<k->Zbp s[j]=true) (fun i=>s.size - (intOf i).toNat)
  case atStart=>exact⟨0,Nat.zero_le _,rfl,fun j _ h=>absurd h (Nat.not_lt_zero _)⟩
  case round=>
   obtain⟨k,hk,rfl,hall⟩:=hrel;have H:=Zh hall;clear hall;by_cases hlt:k<s.size
   ·cases hx:Za9 s[k] with
    | true=>
     have HX:=Zh hx;have hb:Zbp s[k]=true:=by simp [Zbp,hx]
     have HB:=Zh hb;clear hx hb
     go_wp2_with (go_at_call 246;refine (Zil _ _).mono ?_;rw [HX.o];rintro e w' ⟨rfl,rfl⟩)
     exact m_62
    | false=>
     cases hy:Zb8 s[k] with
     | true=>
      have HX:=Zh hx;have HY:=Zh hy;have hb:Zbp s[k]=true:=by simp [Zbp,hy]
      have HB:=Zh hb;clear hx hy hb;exact m_28
     | false=>
      by_cases hu:(s[k].toNat:Int)=95
      ·have HX:=Zh hx;have HY:=Zh hy;have hb:Zbp s[k]=true:=by simp [Zbp,hu]
       have hu':((s[k].toNat:Int) != 95)=false:=by simpa using hu
       have HB:=Zh hb;clear hx hy hb hu;exact m_28
      ·have HX:=Zh hx;have HY:=Zh hy;have hb:Zbp s[k]=false:=by simp [Zbp,hx,hy,hu]
       have hu':((s[k].toNat:Int) != 95)=true:=by simpa using hu
       have HF:=Zh (Zfa k hlt hb);clear hx hy hb hu
       go_wp2_with (first | (go_at_call 246;refine (Zil _ _).mono ?_;rw [HX.o];rintro e w' ⟨rfl,rfl⟩) | (go_at_call 247;refine (Zuj _ _).mono ?_;rw [HY.o];rintro e w' ⟨rfl,rfl⟩))
       go_ret;exact⟨Zaf HF.o.symm,rfl⟩
   exact m_94
set_option maxHeartbeats 400000 in
theorem Zka (s:ByteArray)(w:World)(hs:s.size<=9223372036854775807):Calls Tryz.prog 193 #[.string s] w fun e w'=>e=.returned (.bool (Zbl s.data.toList))/\w=w':=by
 by_cases h0:s.size<1
 ·have h0':((s.size:Int) == 0)=true:=by rw [beq_iff_eq];omega
  have HF:=Zh (Zej h0);clear h0;exact m_73
 have h0':((s.size:Int) == 0)=false:=beq_eq_false_iff_ne.2 ω;have hp:0<s.size:=ω;by_cases h1:32<s.size
 ·have HF:=Zh (Zdr h1);exact m_73
 cases hl:Za9 s[0] with
 | false=>
  have HF:=Zh (Zgd hp hl);have HL:=Zh hl;clear hl;go_enter Tryz.func193,Tryz.ntmps193
  go_wp2_with (go_at_call 239;refine (Zgp _ _).mono ?_;rw [HL.o];rintro e w' ⟨rfl,rfl⟩)
  go_ret;exact⟨Zaf HF.o.symm,rfl⟩
 | true=>
  have HL:=Zh hl;clear hl;go_enter Tryz.func193,Tryz.ntmps193
  go_wp2_with (go_at_call 239;refine (Zgp _ _).mono ?_;rw [HL.o];rintro e w' ⟨rfl,rfl⟩)
  go_loop [3] (fun i=>∃ k:Nat,k<=s.size/\i=.int .i64 k/\∀ j (hj:j<s.size),j<k->Zbp s[j]=true) (fun i=>s.size - (intOf i).toNat)
  case atStart=>exact⟨0,Nat.zero_le _,rfl,fun j _ h=>absurd h (Nat.not_lt_zero _)⟩
  case round=>
   obtain⟨k,hk,rfl,hall⟩:=hrel;have H:=Zh hall;clear hall;by_cases hlt:k<s.size
   ·cases hx:Za9 s[k] with
    | true=>
     have HX:=Zh hx;have hb:Zbp s[k]=true:=by simp [Zbp,hx]
     have HB:=Zh hb;clear hx hb
     go_wp2_with (go_at_call 239;refine (Zgp _ _).mono ?_;rw [HX.o];rintro e w' ⟨rfl,rfl⟩)
     exact m_62
    | false=>
     cases hy:Zb8 s[k] with
     | true=>
      have HX:=Zh hx;have HY:=Zh hy;have hb:Zbp s[k]=true:=by simp [Zbp,hy]
      have HB:=Zh hb;clear hx hy hb;exact m_27
     | false=>
      by_cases hu:(s[k].toNat:Int)=95
      ·have HX:=Zh hx;have HY:=Zh hy;have hb:Zbp s[k]=true:=by simp [Zbp,hu]
       have hu':((s[k].toNat:Int) != 95)=false:=by simpa using hu
       have HB:=Zh hb;clear hx hy hb hu;exact m_27
      ·have HX:=Zh hx;have HY:=Zh hy;have hb:Zbp s[k]=false:=by simp [Zbp,hx,hy,hu]
       have hu':((s[k].toNat:Int) != 95)=true:=by simpa using hu
       have HF:=Zh (Zfa k hlt hb);clear hx hy hb hu
       go_wp2_with (first | (go_at_call 239;refine (Zgp _ _).mono ?_;rw [HX.o];rintro e w' ⟨rfl,rfl⟩) | (go_at_call 240;refine (Zp3 _ _).mono ?_;rw [HY.o];rintro e w' ⟨rfl,rfl⟩))
       go_ret;exact⟨Zaf HF.o.symm,rfl⟩
   exact m_94
set_option maxHeartbeats 400000 in
theorem Zlk (s:ByteArray)(w:World)(hs:s.size<=9223372036854775807):Calls Tryz.prog 195 #[.string s] w fun e w'=>e=.returned (.bool (Zbl s.data.toList))/\w=w':=by
 by_cases h0:s.size<1
 ·have h0':((s.size:Int) == 0)=true:=by rw [beq_iff_eq];omega
  have HF:=Zh (Zej h0);exact m_72
 have h0':((s.size:Int) == 0)=false:=beq_eq_false_iff_ne.2 ω;have hp:0<s.size:=ω;by_cases h1:32<s.size
 ·have HF:=Zh (Zdr h1);exact m_72
 cases hl:Za9 s[0] with
 | false=>
  have HF:=Zh (Zgd hp hl);have HL:=Zh hl;clear hl;go_enter Tryz.func195,Tryz.ntmps195
  go_wp2_with (go_at_call 243;refine (Zgq _ _).mono ?_;rw [HL.o];rintro e w' ⟨rfl,rfl⟩)
  go_ret;exact⟨Zaf HF.o.symm,rfl⟩
 | true=>
  have HL:=Zh hl;clear hl;go_enter Tryz.func195,Tryz.ntmps195
  go_wp2_with (go_at_call 243;refine (Zgq _ _).mono ?_;rw [HL.o];rintro e w' ⟨rfl,rfl⟩)
  go_loop [3] (fun i=>∃ k:Nat,1<=k/\k<=s.size/\i=.int .i64 k/\∀ j (hj:j<s.size),1<=j->j<k->Zbp s[j]=true) (fun i=>s.size - (intOf i).toNat)
  case atStart=>exact⟨1,ω,ω,rfl,fun j _ h1 h2=>by omega⟩
  case round=>
   obtain⟨k,hk1,hk,rfl,hall⟩:=hrel;have H:=Zh hall;clear hall;by_cases hlt:k<s.size
   ·cases hx:Za9 s[k] with
    | true=>
     have HX:=Zh hx;have hb:Zbp s[k]=true:=by simp [Zbp,hx]
     have HB:=Zh hb;clear hx hb
     go_wp2_with (go_at_call 243;refine (Zgq _ _).mono ?_;rw [HX.o];rintro e w' ⟨rfl,rfl⟩)
     exact m_60
    | false=>
     cases hy:Zb8 s[k] with
     | true=>
      have HX:=Zh hx;have HY:=Zh hy;have hb:Zbp s[k]=true:=by simp [Zbp,hy]
      have HB:=Zh hb;clear hx hy hb;exact m_25
     | false=>
      by_cases hu:(s[k].toNat:Int)=95
      ·have HX:=Zh hx;have HY:=Zh hy;have hb:Zbp s[k]=true:=by simp [Zbp,hu]
       have hu':((s[k].toNat:Int) != 95)=false:=by simpa using hu
       have HB:=Zh hb;clear hx hy hb hu;exact m_25
      ·have HX:=Zh hx;have HY:=Zh hy;have hb:Zbp s[k]=false:=by simp [Zbp,hx,hy,hu]
       have hu':((s[k].toNat:Int) != 95)=true:=by simpa using hu
       have HF:=Zh (Zfa k hlt hb);clear hx hy hb hu
       go_wp2_with (first | (go_at_call 243;refine (Zgq _ _).mono ?_;rw [HX.o];rintro e w' ⟨rfl,rfl⟩) | (go_at_call 244;refine (Zp4 _ _).mono ?_;rw [HY.o];rintro e w' ⟨rfl,rfl⟩))
       go_ret;exact⟨Zaf HF.o.symm,rfl⟩
   exact m_91
end Go.Proofs.YtgjefdaaihgliaaGreatDoor
