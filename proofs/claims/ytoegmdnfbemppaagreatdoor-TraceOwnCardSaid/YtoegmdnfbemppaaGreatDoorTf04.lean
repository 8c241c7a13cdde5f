/- Layers 9, 10, 13, 15: the small functions: letters, digits, names, numbers, registers. -/
import Derived.Test.YtoegmdnfbemppaaGreatDoorTf03

namespace Go.Proofs.YtoegmdnfbemppaaGreatDoor
open Go.RowKit
def Zeg (m n:Int):Bool:=decide (0<=n)&&decide (n<m)
theorem Zqo {m n:Int}(h1:0<=n)(h2:n<m):Zeg m n=true:=by simp [Zeg];omega
theorem Zqx {m n:Int}(h:n<0\/m<=n):Zeg m n=false:=by unfold Zeg;rw [Bool.and_eq_false_iff];simp;omega
def Zi4 (s:ByteArray)(i:Nat)(h:i<s.size):Bool:=Za4 s[i]||(decide (0<i)&&Zbj s[i])
theorem Zig {s:ByteArray}(i:Nat)(hi:i<s.size)(h:Zi4 s i hi=false):Zbb s.data.toList=false:=by
 have hl:s.data.toList.length=s.size:=rfl
 have hg:s[i]=s.data.toList[i]'(by omega):=rfl
 unfold Zi4 at h
 rw [hg] at h
 cases e:s.data.toList with
 | nil=>rfl
 | cons c r=>
  simp only [e] at h
  cases i with
  | zero=>simp at h;simp [Zbb,h]
  | succ j=>
   simp at h
   have:r.all Zbj=false:=by
    rw [List.all_eq_false]
    refine⟨r[j]'(by rw [e] at hl;simp at hl;omega),List.getElem_mem _,by simp [h.2]⟩
   simp [Zbb,this]
theorem Zg0 {s:ByteArray}(h1:1<=s.size)(h2:s.size<=32)(h:∀ i (hi:i<s.size),Zi4 s i hi=true):Zbb s.data.toList=true:=by
 have hl:s.data.toList.length=s.size:=rfl
 have hg:∀ i (hi:i<s.size),s[i]=s.data.toList[i]'(by omega):=fun _ _=>rfl
 cases e:s.data.toList with
 | nil=>rw [e] at hl;simp at hl;omega
 | cons c r=>
  have hl':r.length+1=s.size:=by rw [<- hl,e];rfl
  have h0:=h 0 (by omega)
  unfold Zi4 at h0
  rw [hg 0 (by omega)] at h0
  simp only [e] at h0
  simp at h0
  simp only [Zbb,Bool.and_eq_true,decide_eq_true_eq]
  refine⟨⟨by omega,h0⟩,?_⟩
  rw [List.all_eq_true]
  intro x hx
  obtain⟨j,hj,rfl⟩:=List.getElem_of_mem hx
  have hj':=h (j+1) (by omega)
  unfold Zi4 at hj'
  rw [hg (j+1) (by omega)] at hj'
  simp only [e] at hj'
  simp at hj'
  rcases hj' with a | a
  ·simp [Zbj,a]
  ·exact a
section
variable (w:World)
theorem Zjq (a:Int):Calls Tryz.prog 78 #[.int .i64 a] w fun e w'=>e=.returned (.bool (Zd0 a))/\w=w':=by
 go_enter Tryz.func78,Tryz.ntmps78
 go_wp2
 all_goals (go_ret;exact⟨Zae (by rw [Bool.eq_iff_iff];simp_all [Zd0]),rfl⟩)
theorem Zq7 (a:Int):Calls Tryz.prog 48 #[.int .i64 a] w fun e w'=>e=.returned (.bool (Zd0 a))/\w=w':=by
 go_enter Tryz.func48,Tryz.ntmps48
 go_wp2
 all_goals (go_ret;exact⟨Zae (by rw [Bool.eq_iff_iff];simp_all [Zd0]),rfl⟩)
theorem Z35 (n:Int):Calls Tryz.prog 181 #[.int .i64 n] w fun e w'=>e=.returned (.bool (Zfq n))/\w=w':=by
 go_enter Tryz.func181,Tryz.ntmps181
 go_wp2
 all_goals (go_ret;exact⟨Zae (by first | (rw [Zlr (by omega) (by omega)];done) | (rw [Zlk (by omega)];done) | simp [Zfq, *]),rfl⟩)
theorem Zg6 (n:Int):Calls Tryz.prog 226 #[.int .i64 n] w fun e w'=>e=.returned (.bool (Zfq n))/\w=w':=by
 go_enter Tryz.func226,Tryz.ntmps226
 go_wp2
 all_goals (go_ret;exact⟨Zae (by first | (rw [Zlr (by omega) (by omega)];done) | (rw [Zlk (by omega)];done) | simp [Zfq, *]),rfl⟩)
theorem Z6h (n:Int):Calls Tryz.prog 109 #[.int .i64 n] w fun e w'=>e=.returned (.bool (Zfq n))/\w=w':=by
 go_enter Tryz.func109,Tryz.ntmps109
 go_wp2
 all_goals (go_ret;exact⟨Zae (by first | (rw [Zlr (by omega) (by omega)];done) | (rw [Zlk (by omega)];done) | simp [Zfq, *]),rfl⟩)
theorem Zsz (n:Int):Calls Tryz.prog 72 #[.int .i64 n] w fun e w'=>e=.returned (.bool (Zfq n))/\w=w':=by
 go_enter Tryz.func72,Tryz.ntmps72
 go_wp2
 all_goals (go_ret;exact⟨Zae (by first | (rw [Zlr (by omega) (by omega)];done) | (rw [Zlk (by omega)];done) | simp [Zfq, *]),rfl⟩)
theorem Z3c (n:Int):Calls Tryz.prog 182 #[.int .i64 n] w fun e w'=>e=.returned (.bool (Zeg 15 n))/\w=w':=by
 go_enter Tryz.func182,Tryz.ntmps182
 go_wp2
 all_goals (go_ret;exact⟨Zae (by first | (rw [Zqo (by omega) (by omega)];done) | (rw [Zqx (by omega)];done) | (simp [Zeg, *];done) | (simp [Zeg, *];omega)),rfl⟩)
theorem Zvu (n:Int):Calls Tryz.prog 248 #[.int .i64 n] w fun e w'=>e=.returned (.bool (Zeg 15 n))/\w=w':=by
 go_enter Tryz.func248,Tryz.ntmps248
 go_wp2
 all_goals (go_ret;exact⟨Zae (by first | (rw [Zqo (by omega) (by omega)];done) | (rw [Zqx (by omega)];done) | (simp [Zeg, *];done) | (simp [Zeg, *];omega)),rfl⟩)
theorem Z6d (n:Int):Calls Tryz.prog 224 #[.int .i64 n] w fun e w'=>e=.returned (.bool (Zeg 32 n))/\w=w':=by
 go_enter Tryz.func224,Tryz.ntmps224
 go_wp2
 all_goals (go_ret;exact⟨Zae (by first | (rw [Zqo (by omega) (by omega)];done) | (rw [Zqx (by omega)];done) | (simp [Zeg, *];done) | (simp [Zeg, *];omega)),rfl⟩)
theorem Zej (n:Int):Calls Tryz.prog 244 #[.int .i64 n] w fun e w'=>e=.returned (.bool (Zeg 32 n))/\w=w':=by
 go_enter Tryz.func244,Tryz.ntmps244
 go_wp2
 all_goals (go_ret;exact⟨Zae (by first | (rw [Zqo (by omega) (by omega)];done) | (rw [Zqx (by omega)];done) | (simp [Zeg, *];done) | (simp [Zeg, *];omega)),rfl⟩)
theorem Zgm (c:UInt8):Calls Tryz.prog 178 #[.int .u8 c.toNat] w fun e w'=>e=.returned (.bool (Za4 c))/\w=w':=by
 go_enter Tryz.func178,Tryz.ntmps178
 go_wp2
 all_goals (go_ret;exact⟨Zae (by first | (simp_all [Za4];done) | (simp [Za4, *];done) | (rw [Bool.eq_iff_iff];simp [Za4];omega)),rfl⟩)
theorem Zpt (c:UInt8):Calls Tryz.prog 179 #[.int .u8 c.toNat] w fun e w'=>e=.returned (.bool (Zbz c))/\w=w':=by
 go_enter Tryz.func179,Tryz.ntmps179
 go_wp2
 all_goals (go_ret;exact⟨Zae (by first | (simp_all [Zbz];done) | (simp [Zbz, *];done) | (rw [Bool.eq_iff_iff];simp [Zbz];omega)),rfl⟩)
theorem Zgd (c:UInt8):Calls Tryz.prog 296 #[.int .u8 c.toNat] w fun e w'=>e=.returned (.bool (Za4 c))/\w=w':=by
 go_enter Tryz.func296,Tryz.ntmps296
 go_wp2
 all_goals (go_ret;exact⟨Zae (by first | (simp_all [Za4];done) | (simp [Za4, *];done) | (rw [Bool.eq_iff_iff];simp [Za4];omega)),rfl⟩)
theorem Zpy (c:UInt8):Calls Tryz.prog 297 #[.int .u8 c.toNat] w fun e w'=>e=.returned (.bool (Zbz c))/\w=w':=by
 go_enter Tryz.func297,Tryz.ntmps297
 go_wp2
 all_goals (go_ret;exact⟨Zae (by first | (simp_all [Zbz];done) | (simp [Zbz, *];done) | (rw [Bool.eq_iff_iff];simp [Zbz];omega)),rfl⟩)
theorem Ziv (c:UInt8):Calls Tryz.prog 299 #[.int .u8 c.toNat] w fun e w'=>e=.returned (.bool (Za4 c))/\w=w':=by
 go_enter Tryz.func299,Tryz.ntmps299
 go_wp2
 all_goals (go_ret;exact⟨Zae (by first | (simp_all [Za4];done) | (simp [Za4, *];done) | (rw [Bool.eq_iff_iff];simp [Za4];omega)),rfl⟩)
theorem Zu8 (c:UInt8):Calls Tryz.prog 300 #[.int .u8 c.toNat] w fun e w'=>e=.returned (.bool (Zbz c))/\w=w':=by
 go_enter Tryz.func300,Tryz.ntmps300
 go_wp2
 all_goals (go_ret;exact⟨Zae (by first | (simp_all [Zbz];done) | (simp [Zbz, *];done) | (rw [Bool.eq_iff_iff];simp [Zbz];omega)),rfl⟩)
end
set_option maxHeartbeats 400000 in
theorem Zvb (s:ByteArray)(w:World)(hs:s.size<=9223372036854775807):Calls Tryz.prog 180 #[.string s] w fun e w'=>e=.returned (.bool (Zbb s.data.toList))/\w=w':=by
 go_enter Tryz.func180,Tryz.ntmps180
 go_wp2
 all_goals try (go_ret;exact⟨Zae (by first | exact (Zdu (by omega)).symm | exact (Zda (by omega)).symm),rfl⟩)
 go_loop [3,4] (fun i _=>∃ k:Nat,k<=s.size/\i=.int .i64 k/\∀ j (hj:j<s.size),j<k->Zi4 s j hj=true) (fun i _=>s.size - (intOf i).toNat)
 case atStart=>exact⟨0,Nat.zero_le _,rfl,fun j _ h=>absurd h (Nat.not_lt_zero _)⟩
 case round=>
  exact m_17
set_option maxHeartbeats 400000 in
theorem Zwv (s:ByteArray)(w:World)(hs:s.size<=9223372036854775807):Calls Tryz.prog 225 #[.string s] w fun e w'=>e=.returned (.bool (Zbb s.data.toList))/\w=w':=by
 go_enter Tryz.func225,Tryz.ntmps225
 go_wp2
 all_goals try (go_ret;exact⟨Zae (by first | exact (Zdu (by omega)).symm | exact (Zda (by omega)).symm),rfl⟩)
 go_loop [3,4] (fun i _=>∃ k:Nat,k<=s.size/\i=.int .i64 k/\∀ j (hj:j<s.size),j<k->Zi4 s j hj=true) (fun i _=>s.size - (intOf i).toNat)
 case atStart=>exact⟨0,Nat.zero_le _,rfl,fun j _ h=>absurd h (Nat.not_lt_zero _)⟩
 case round=>
  exact m_17
set_option maxHeartbeats 400000 in
theorem Z53 (s:ByteArray)(w:World)(hs:s.size<=9223372036854775807):Calls Tryz.prog 108 #[.string s] w fun e w'=>e=.returned (.bool (Zbb s.data.toList))/\w=w':=by
 go_enter Tryz.func108,Tryz.ntmps108
 go_wp2
 all_goals try (go_ret;exact⟨Zae (by first | exact (Zdu (by omega)).symm | exact (Zda (by omega)).symm),rfl⟩)
 go_loop [3,4] (fun i _=>∃ k:Nat,k<=s.size/\i=.int .i64 k/\∀ j (hj:j<s.size),j<k->Zi4 s j hj=true) (fun i _=>s.size - (intOf i).toNat)
 case atStart=>exact⟨0,Nat.zero_le _,rfl,fun j _ h=>absurd h (Nat.not_lt_zero _)⟩
 case round=>
  exact m_17
set_option maxHeartbeats 400000 in
theorem Z3f (s:ByteArray)(w:World)(hs:s.size<=9223372036854775807):Calls Tryz.prog 251 #[.string s] w fun e w'=>e=.returned (.bool (Zbb s.data.toList))/\w=w':=by
 by_cases h0:s.size<1
 ·have h0':((s.size:Int) == 0)=true:=by rw [beq_iff_eq];omega
  have HF:=Zh (Zdu h0)
  clear h0
  exact m_121
 have h0':((s.size:Int) == 0)=false:=beq_eq_false_iff_ne.2 (by omega)
 have hp:0<s.size:=by omega
 by_cases h1:32<s.size
 ·have HF:=Zh (Zda h1)
  exact m_121
 cases hl:Za4 s[0] with
 | false=>
  have HF:=Zh (Zf9 hp hl)
  have HL:=Zh hl
  clear hl
  go_enter Tryz.func251,Tryz.ntmps251
  go_wp2_with (go_at_call 299;refine (Ziv _ _).mono ?_;rw [HL.out];rintro e w' ⟨rfl,rfl⟩)
  go_ret
  exact⟨Zae HF.out.symm,rfl⟩
 | true=>
  have HL:=Zh hl
  clear hl
  go_enter Tryz.func251,Tryz.ntmps251
  go_wp2_with (go_at_call 299;refine (Ziv _ _).mono ?_;rw [HL.out];rintro e w' ⟨rfl,rfl⟩)
  go_loop [21] (fun i=>∃ k:Nat,k<=s.size/\i=.int .i64 k/\∀ j (hj:j<s.size),j<k->Zbj s[j]=true) (fun i=>s.size - (intOf i).toNat)
  case atStart=>exact⟨0,Nat.zero_le _,rfl,fun j _ h=>absurd h (Nat.not_lt_zero _)⟩
  case round=>
   obtain⟨k,hk,rfl,hall⟩:=hrel
   have H:=Zh hall
   clear hall
   by_cases hlt:k<s.size
   ·cases hx:Za4 s[k] with
    | true=>
     have HX:=Zh hx
     have hb:Zbj s[k]=true:=by simp [Zbj,hx]
     have HB:=Zh hb
     clear hx hb
     go_wp2_with (go_at_call 299;refine (Ziv _ _).mono ?_;rw [HX.out];rintro e w' ⟨rfl,rfl⟩)
     exact m_90
    | false=>
     cases hy:Zbz s[k] with
     | true=>
      have HX:=Zh hx
      have HY:=Zh hy
      have hb:Zbj s[k]=true:=by simp [Zbj,hy]
      have HB:=Zh hb
      clear hx hy hb
      exact m_50
     | false=>
      by_cases hu:(s[k].toNat:Int)=95
      ·have HX:=Zh hx
       have HY:=Zh hy
       have hb:Zbj s[k]=true:=by simp [Zbj,hu]
       have hu':((s[k].toNat:Int) != 95)=false:=by simpa using hu
       have HB:=Zh hb
       clear hx hy hb hu
       exact m_50
      ·have HX:=Zh hx
       have HY:=Zh hy
       have hb:Zbj s[k]=false:=by simp [Zbj,hx,hy,hu]
       have hu':((s[k].toNat:Int) != 95)=true:=by simpa using hu
       have HF:=Zh (Ze2 k hlt hb)
       clear hx hy hb hu
       go_wp2_with (first | (go_at_call 299;refine (Ziv _ _).mono ?_;rw [HX.out];rintro e w' ⟨rfl,rfl⟩) | (go_at_call 300;refine (Zu8 _ _).mono ?_;rw [HY.out];rintro e w' ⟨rfl,rfl⟩))
       go_ret
       exact⟨Zae HF.out.symm,rfl⟩
   exact m_115
set_option maxHeartbeats 400000 in
theorem Ziy (s:ByteArray)(w:World)(hs:s.size<=9223372036854775807):Calls Tryz.prog 111 #[.string s] w fun e w'=>e=.returned (.bool (Zbb s.data.toList))/\w=w':=by
 by_cases h0:s.size<1
 ·have h0':((s.size:Int) == 0)=true:=by rw [beq_iff_eq];omega
  have HF:=Zh (Zdu h0)
  clear h0
  exact m_113
 have h0':((s.size:Int) == 0)=false:=beq_eq_false_iff_ne.2 (by omega)
 have hp:0<s.size:=by omega
 by_cases h1:32<s.size
 ·have HF:=Zh (Zda h1)
  exact m_113
 cases hl:Za4 s[0] with
 | false=>
  have HF:=Zh (Zf9 hp hl)
  have HL:=Zh hl
  clear hl
  go_enter Tryz.func111,Tryz.ntmps111
  go_wp2_with (go_at_call 178;refine (Zgm _ _).mono ?_;rw [HL.out];rintro e w' ⟨rfl,rfl⟩)
  go_ret
  exact⟨Zae HF.out.symm,rfl⟩
 | true=>
  have HL:=Zh hl
  clear hl
  go_enter Tryz.func111,Tryz.ntmps111
  go_wp2_with (go_at_call 178;refine (Zgm _ _).mono ?_;rw [HL.out];rintro e w' ⟨rfl,rfl⟩)
  go_loop [3] (fun i=>∃ k:Nat,k<=s.size/\i=.int .i64 k/\∀ j (hj:j<s.size),j<k->Zbj s[j]=true) (fun i=>s.size - (intOf i).toNat)
  case atStart=>exact⟨0,Nat.zero_le _,rfl,fun j _ h=>absurd h (Nat.not_lt_zero _)⟩
  case round=>
   obtain⟨k,hk,rfl,hall⟩:=hrel
   have H:=Zh hall
   clear hall
   by_cases hlt:k<s.size
   ·cases hx:Za4 s[k] with
    | true=>
     have HX:=Zh hx
     have hb:Zbj s[k]=true:=by simp [Zbj,hx]
     have HB:=Zh hb
     clear hx hb
     go_wp2_with (go_at_call 178;refine (Zgm _ _).mono ?_;rw [HX.out];rintro e w' ⟨rfl,rfl⟩)
     exact m_90
    | false=>
     cases hy:Zbz s[k] with
     | true=>
      have HX:=Zh hx
      have HY:=Zh hy
      have hb:Zbj s[k]=true:=by simp [Zbj,hy]
      have HB:=Zh hb
      clear hx hy hb
      exact m_48
     | false=>
      by_cases hu:(s[k].toNat:Int)=95
      ·have HX:=Zh hx
       have HY:=Zh hy
       have hb:Zbj s[k]=true:=by simp [Zbj,hu]
       have hu':((s[k].toNat:Int) != 95)=false:=by simpa using hu
       have HB:=Zh hb
       clear hx hy hb hu
       exact m_48
      ·have HX:=Zh hx
       have HY:=Zh hy
       have hb:Zbj s[k]=false:=by simp [Zbj,hx,hy,hu]
       have hu':((s[k].toNat:Int) != 95)=true:=by simpa using hu
       have HF:=Zh (Ze2 k hlt hb)
       clear hx hy hb hu
       go_wp2_with (first | (go_at_call 178;refine (Zgm _ _).mono ?_;rw [HX.out];rintro e w' ⟨rfl,rfl⟩) | (go_at_call 179;refine (Zpt _ _).mono ?_;rw [HY.out];rintro e w' ⟨rfl,rfl⟩))
       go_ret
       exact⟨Zae HF.out.symm,rfl⟩
   exact m_115
set_option maxHeartbeats 400000 in
theorem Zlq (s:ByteArray)(w:World)(hs:s.size<=9223372036854775807):Calls Tryz.prog 243 #[.string s] w fun e w'=>e=.returned (.bool (Zbb s.data.toList))/\w=w':=by
 by_cases h0:s.size<1
 ·have h0':((s.size:Int) == 0)=true:=by rw [beq_iff_eq];omega
  have HF:=Zh (Zdu h0)
  exact m_110
 have h0':((s.size:Int) == 0)=false:=beq_eq_false_iff_ne.2 (by omega)
 have hp:0<s.size:=by omega
 by_cases h1:32<s.size
 ·have HF:=Zh (Zda h1)
  exact m_110
 cases hl:Za4 s[0] with
 | false=>
  have HF:=Zh (Zf9 hp hl)
  have HL:=Zh hl
  clear hl
  go_enter Tryz.func243,Tryz.ntmps243
  go_wp2_with (go_at_call 296;refine (Zgd _ _).mono ?_;rw [HL.out];rintro e w' ⟨rfl,rfl⟩)
  go_ret
  exact⟨Zae HF.out.symm,rfl⟩
 | true=>
  have HL:=Zh hl
  clear hl
  go_enter Tryz.func243,Tryz.ntmps243
  go_wp2_with (go_at_call 296;refine (Zgd _ _).mono ?_;rw [HL.out];rintro e w' ⟨rfl,rfl⟩)
  go_loop [3] (fun i=>∃ k:Nat,1<=k/\k<=s.size/\i=.int .i64 k/\∀ j (hj:j<s.size),1<=j->j<k->Zbj s[j]=true) (fun i=>s.size - (intOf i).toNat)
  case atStart=>exact⟨1,by omega,by omega,rfl,fun j _ h1 h2=>by omega⟩
  case round=>
   obtain⟨k,hk1,hk,rfl,hall⟩:=hrel
   have H:=Zh hall
   clear hall
   by_cases hlt:k<s.size
   ·cases hx:Za4 s[k] with
    | true=>
     have HX:=Zh hx
     have hb:Zbj s[k]=true:=by simp [Zbj,hx]
     have HB:=Zh hb
     clear hx hb
     go_wp2_with (go_at_call 296;refine (Zgd _ _).mono ?_;rw [HX.out];rintro e w' ⟨rfl,rfl⟩)
     exact m_87
    | false=>
     cases hy:Zbz s[k] with
     | true=>
      have HX:=Zh hx
      have HY:=Zh hy
      have hb:Zbj s[k]=true:=by simp [Zbj,hy]
      have HB:=Zh hb
      clear hx hy hb
      exact m_46
     | false=>
      by_cases hu:(s[k].toNat:Int)=95
      ·have HX:=Zh hx
       have HY:=Zh hy
       have hb:Zbj s[k]=true:=by simp [Zbj,hu]
       have hu':((s[k].toNat:Int) != 95)=false:=by simpa using hu
       have HB:=Zh hb
       clear hx hy hb hu
       exact m_46
      ·have HX:=Zh hx
       have HY:=Zh hy
       have hb:Zbj s[k]=false:=by simp [Zbj,hx,hy,hu]
       have hu':((s[k].toNat:Int) != 95)=true:=by simpa using hu
       have HF:=Zh (Ze2 k hlt hb)
       clear hx hy hb hu
       go_wp2_with (first | (go_at_call 296;refine (Zgd _ _).mono ?_;rw [HX.out];rintro e w' ⟨rfl,rfl⟩) | (go_at_call 297;refine (Zpy _ _).mono ?_;rw [HY.out];rintro e w' ⟨rfl,rfl⟩))
       go_ret
       exact⟨Zae HF.out.symm,rfl⟩
   exact m_114
end Go.Proofs.YtoegmdnfbemppaaGreatDoor
