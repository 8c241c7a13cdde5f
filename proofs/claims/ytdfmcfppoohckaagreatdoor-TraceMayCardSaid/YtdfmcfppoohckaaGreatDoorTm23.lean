/- Layer 13: whether a line of an initial state may be. -/
import Derived.Test.YtdfmcfppoohckaaGreatDoorTm21

namespace Go.Proofs.YtdfmcfppoohckaaGreatDoor
open Go.RowKit
section
abbrev Z03 (x:Ini):Value:=.agg #[.int .i64 x.th,.int .i64 x.rg,.string ⟨x.loc.toArray⟩,.string ⟨x.vl.toArray⟩,.int .i64 x.vn]
def Zak (arch:Int)(n:Nat)(x:Ini):Bool:=
 if x.th=-1 then Zbb x.loc&&(decide (x.rg=0)&&(x.vl.isEmpty&&Zew x.vn))
 else decide (0<=x.th/\x.th<(n:Int))&&(x.loc.isEmpty&&((if arch=2 then decide (1<=x.rg/\x.rg<=31) else decide (0<=x.rg/\x.rg<=14))&&(if x.vl.isEmpty then Zew x.vn else Zbb x.vl&&decide (x.vn=0))))
section
set_option maxHeartbeats 4000000
set_option maxRecDepth 100000
theorem Z5c (l:List UInt8)(n:Int)(w:World)(hl:l.length<=9223372036854775807):Calls Tryz.prog 160 #[.agg #[.string ⟨l.toArray⟩,.int .i64 n]] w (RB w (.bool (if l.isEmpty then Zew n else Zbb l&&decide (n=0)))):=by
 have HB:=Zh (Zad w (.cells #[.string ⟨l.toArray⟩,.int .i64 n] 60 (0,0)));have HN:=Zh (fun x=>Zhx ⟨l.toArray⟩ x hl);cases he:l.isEmpty with
 | true=>
  have hl0:l=[]:=by simpa using he
  subst hl0;go_enter Tryz.func160,Tryz.ntmps160
  go_wp2_with (go_at_call 84;refine (Znk _ _).mono ?_;rintro e w' ⟨rfl,rfl⟩)
  go_ret;exact⟨rfl,HB.o⟩
 | false=>
  have hl0:¬ l=[]:=by simpa using he
  have hl1:(l == [])=false:=by simpa using hl0
  cases hn:Zbb l
  all_goals
   have HNB:=Zh hn;by_cases h0:n=0
   all_goals
    go_enter Tryz.func160,Tryz.ntmps160
    go_wp2_with (go_at_call 83;refine (HN.o _).mono ?_;rw [Zl5,HNB.o];rintro e w' ⟨rfl,rfl⟩)
    go_ret;exact⟨Zae (by simp [h0]),Zad _ _⟩
variable {w:World} {T:Tst} {Ai Ac:Option Addr} {kv:Value}
theorem Zy1 (ci cc:Nat)(x:Ini)(ha:T.arch=1)(hx1:x.loc.length<=9223372036854775807)(hx2:x.vl.length<=9223372036854775807):Calls Tryz.prog 96 #[Zbr T (.slice Ai T.init.length ci) (.slice Ac T.code.length cc) kv,Z03 x] w (RB w (.bool (Zak 1 T.code.length x))):=by
 obtain⟨th,rg,loc,vl,vn⟩:=x;simp only [Zbr,ha,Z03] at hx1 hx2 ⊢;obtain⟨n,hn⟩:∃ n,T.code.length=n:=⟨_,rfl⟩;rw [hn];have HNL:=Zh (fun w=>Zzw ⟨loc.toArray⟩ w hx1);have HNV:=Zh (fun w=>Zzw ⟨vl.toArray⟩ w hx2);simp only [] at HNV;simp only [] at HNL;by_cases hth:th=-1
 ·subst hth;cases hn:Zbb loc with
  | false=>
   have HNB:=Zh hn;have HV:=Zh (show Zak 1 n ⟨-1,rg,loc,vl,vn⟩=false by simp [Zak,hn]);exact m_39
  | true=>
   have HNB:=Zh hn;by_cases hr:rg=0
   ·skip
    by_cases hv:vl=[]
    ·skip
     cases hm:Zew vn with
     | false=>
      have HMB:=Zh hm;have HV:=Zh (show Zak 1 n ⟨-1,rg,loc,vl,vn⟩=false by simp [Zak,hn,hr,hv,hm]);exact m_31
     | true=>
      have HMB:=Zh hm;have HV:=Zh (show Zak 1 n ⟨-1,rg,loc,vl,vn⟩=true by simp [Zak,hn,hr,hv,hm]);exact m_31
    ·skip
     have hv':vl.isEmpty=false:=by simpa using hv
     have HV:=Zh (show Zak 1 n ⟨-1,rg,loc,vl,vn⟩=false by simp [Zak,hn,hv]);exact m_37
   ·skip
    have HV:=Zh (show Zak 1 n ⟨-1,rg,loc,vl,vn⟩=false by simp [Zak,hn,hr]);exact m_38
 ·have hth':(th == -1)=false:=by simpa using hth
  by_cases h0:0<=th
  ·skip
   by_cases h1:th<(n:Int)
   ·skip
    by_cases hl:loc=[]
    ·skip
     by_cases h2:(0:Int)<=rg
     ·skip
      by_cases h3:rg<=(14:Int)
      ·skip
       by_cases hv:vl=[]
       ·skip
        cases hm:Zew vn with
        | false=>
         have HMB:=Zh hm;have HV:=Zh (show Zak 1 n ⟨th,rg,loc,vl,vn⟩=false by simp [Zak,hth,h0,h1,hl,h2,h3,hv,hm]);exact m_27
        | true=>
         have HMB:=Zh hm;have HV:=Zh (show Zak 1 n ⟨th,rg,loc,vl,vn⟩=true by simp [Zak,hth,h0,h1,hl,h2,h3,hv,hm]);exact m_27
       ·skip
        have hv':vl.isEmpty=false:=by simpa using hv
        cases hn:Zbb vl with
        | false=>
         have HNB:=Zh hn;have HV:=Zh (show Zak 1 n ⟨th,rg,loc,vl,vn⟩=false by simp [Zak,hth,h0,h1,hl,h2,h3,hv,hn]);exact m_28
        | true=>
         have HNB:=Zh hn;by_cases hz:vn=0
         ·skip
          have HV:=Zh (show Zak 1 n ⟨th,rg,loc,vl,vn⟩=true by simp [Zak,hth,h0,h1,hl,h2,h3,hv,hn,hz]);exact m_26
         ·skip
          have HV:=Zh (show Zak 1 n ⟨th,rg,loc,vl,vn⟩=false by simp [Zak,hth,h0,h1,hl,h2,h3,hv,hn,hz]);exact m_40
      ·skip
       have h3n:(14:Int)<rg:=ω;have HV:=Zh (show Zak 1 n ⟨th,rg,loc,vl,vn⟩=false by simp [Zak,hth,h3]);exact m_32
     ·skip
      have h2n:rg<(0:Int):=ω;have HV:=Zh (show Zak 1 n ⟨th,rg,loc,vl,vn⟩=false by simp [Zak,hth,h2]);exact m_33
    ·skip
     have hl':loc.isEmpty=false:=by simpa using hl
     have HV:=Zh (show Zak 1 n ⟨th,rg,loc,vl,vn⟩=false by simp [Zak,hth,hl]);exact m_34
   ·skip
    have h1n:(n:Int)<=th:=ω;have HV:=Zh (show Zak 1 n ⟨th,rg,loc,vl,vn⟩=false by simp [Zak,hth,h1]);exact m_35
  ·skip
   have h0n:th<0:=ω;have HV:=Zh (show Zak 1 n ⟨th,rg,loc,vl,vn⟩=false by simp [Zak,hth,h0]);exact m_36
theorem Zy2 (ci cc:Nat)(x:Ini)(ha:T.arch=2)(hx1:x.loc.length<=9223372036854775807)(hx2:x.vl.length<=9223372036854775807):Calls Tryz.prog 96 #[Zbr T (.slice Ai T.init.length ci) (.slice Ac T.code.length cc) kv,Z03 x] w (RB w (.bool (Zak 2 T.code.length x))):=by
 obtain⟨th,rg,loc,vl,vn⟩:=x;simp only [Zbr,ha,Z03] at hx1 hx2 ⊢;obtain⟨n,hn⟩:∃ n,T.code.length=n:=⟨_,rfl⟩;rw [hn];have HNL:=Zh (fun w=>Zzw ⟨loc.toArray⟩ w hx1);have HNV:=Zh (fun w=>Zzw ⟨vl.toArray⟩ w hx2);simp only [] at HNV;simp only [] at HNL;by_cases hth:th=-1
 ·subst hth;cases hn:Zbb loc with
  | false=>
   have HNB:=Zh hn;have HV:=Zh (show Zak 2 n ⟨-1,rg,loc,vl,vn⟩=false by simp [Zak,hn]);exact m_39
  | true=>
   have HNB:=Zh hn;by_cases hr:rg=0
   ·skip
    by_cases hv:vl=[]
    ·skip
     cases hm:Zew vn with
     | false=>
      have HMB:=Zh hm;have HV:=Zh (show Zak 2 n ⟨-1,rg,loc,vl,vn⟩=false by simp [Zak,hn,hr,hv,hm]);exact m_31
     | true=>
      have HMB:=Zh hm;have HV:=Zh (show Zak 2 n ⟨-1,rg,loc,vl,vn⟩=true by simp [Zak,hn,hr,hv,hm]);exact m_31
    ·skip
     have hv':vl.isEmpty=false:=by simpa using hv
     have HV:=Zh (show Zak 2 n ⟨-1,rg,loc,vl,vn⟩=false by simp [Zak,hn,hv]);exact m_37
   ·skip
    have HV:=Zh (show Zak 2 n ⟨-1,rg,loc,vl,vn⟩=false by simp [Zak,hn,hr]);exact m_38
 ·have hth':(th == -1)=false:=by simpa using hth
  by_cases h0:0<=th
  ·skip
   by_cases h1:th<(n:Int)
   ·skip
    by_cases hl:loc=[]
    ·skip
     by_cases h2:(1:Int)<=rg
     ·skip
      by_cases h3:rg<=(31:Int)
      ·skip
       by_cases hv:vl=[]
       ·skip
        cases hm:Zew vn with
        | false=>
         have HMB:=Zh hm;have HV:=Zh (show Zak 2 n ⟨th,rg,loc,vl,vn⟩=false by simp [Zak,hth,h0,h1,hl,h2,h3,hv,hm]);exact m_27
        | true=>
         have HMB:=Zh hm;have HV:=Zh (show Zak 2 n ⟨th,rg,loc,vl,vn⟩=true by simp [Zak,hth,h0,h1,hl,h2,h3,hv,hm]);exact m_27
       ·skip
        have hv':vl.isEmpty=false:=by simpa using hv
        cases hn:Zbb vl with
        | false=>
         have HNB:=Zh hn;have HV:=Zh (show Zak 2 n ⟨th,rg,loc,vl,vn⟩=false by simp [Zak,hth,h0,h1,hl,h2,h3,hv,hn]);exact m_28
        | true=>
         have HNB:=Zh hn;by_cases hz:vn=0
         ·skip
          have HV:=Zh (show Zak 2 n ⟨th,rg,loc,vl,vn⟩=true by simp [Zak,hth,h0,h1,hl,h2,h3,hv,hn,hz]);exact m_26
         ·skip
          have HV:=Zh (show Zak 2 n ⟨th,rg,loc,vl,vn⟩=false by simp [Zak,hth,h0,h1,hl,h2,h3,hv,hn,hz]);exact m_40
      ·skip
       have h3n:(31:Int)<rg:=ω;have HV:=Zh (show Zak 2 n ⟨th,rg,loc,vl,vn⟩=false by simp [Zak,hth,h3]);exact m_32
     ·skip
      have h2n:rg<(1:Int):=ω;have HV:=Zh (show Zak 2 n ⟨th,rg,loc,vl,vn⟩=false by simp [Zak,hth,h2]);exact m_33
    ·skip
     have hl':loc.isEmpty=false:=by simpa using hl
     have HV:=Zh (show Zak 2 n ⟨th,rg,loc,vl,vn⟩=false by simp [Zak,hth,hl]);exact m_34
   ·skip
    have h1n:(n:Int)<=th:=ω;have HV:=Zh (show Zak 2 n ⟨th,rg,loc,vl,vn⟩=false by simp [Zak,hth,h1]);exact m_35
  ·skip
   have h0n:th<0:=ω;have HV:=Zh (show Zak 2 n ⟨th,rg,loc,vl,vn⟩=false by simp [Zak,hth,h0]);exact m_36
end
end
end Go.Proofs.YtdfmcfppoohckaaGreatDoor
