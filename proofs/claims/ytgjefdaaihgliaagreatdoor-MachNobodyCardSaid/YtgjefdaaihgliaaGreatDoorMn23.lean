/- Layer 13: whether a line of an initial state may be. -/
import Derived.Test.YtgjefdaaihgliaaGreatDoorMn22

namespace Go.Proofs.YtgjefdaaihgliaaGreatDoor
open Go.RowKit
section
abbrev Z66 (x:Ini):Value:=.agg #[.int .i64 x.th,.int .i64 x.rg,.string ⟨x.loc.toArray⟩,.string ⟨x.vl.toArray⟩,.int .i64 x.vn]
def Zeg (arch:Int)(n:Nat)(x:Ini):Bool:=
 if x.th=-1 then Zbl x.loc&&(decide (x.rg=0)&&(x.vl.isEmpty&&Zg9 x.vn))
 else decide (0<=x.th/\x.th<(n:Int))&&(x.loc.isEmpty&&((if arch=2 then decide (1<=x.rg/\x.rg<=31) else decide (0<=x.rg/\x.rg<=14))&&(if x.vl.isEmpty then Zg9 x.vn else Zbl x.vl&&decide (x.vn=0))))
section
set_option maxHeartbeats 4000000
set_option maxRecDepth 100000
theorem Z73 (l:List UInt8)(n:Int)(w:World)(hl:l.length<=9223372036854775807):Calls Tryz.prog 192 #[.agg #[.string ⟨l.toArray⟩,.int .i64 n]] w (RB w (.bool (if l.isEmpty then Zg9 n else Zbl l&&decide (n=0)))):=by
 have HB:=Zh (Zad w (.cells #[.string ⟨l.toArray⟩,.int .i64 n] 71 (0,0)));have HN:=Zh (fun x=>Zka ⟨l.toArray⟩ x hl);cases he:l.isEmpty with
 | true=>
  have hl0:l=[]:=by simpa using he
  subst hl0;go_enter Tryz.func192,Tryz.ntmps192
  go_wp2_with (go_at_call 237;refine (Zsy _ _).mono ?_;rintro e w' ⟨rfl,rfl⟩)
  go_ret;exact⟨rfl,HB.o⟩
 | false=>
  have hl0:¬ l=[]:=by simpa using he
  have hl1:(l == [])=false:=by simpa using hl0
  cases hn:Zbl l
  all_goals
   have HNB:=Zh hn;by_cases h0:n=0
   all_goals
    go_enter Tryz.func192,Tryz.ntmps192
    go_wp2_with (go_at_call 193;refine (HN.o _).mono ?_;rw [Zl0,HNB.o];rintro e w' ⟨rfl,rfl⟩)
    go_ret;exact⟨Zaf (by simp [h0]),Zad _ _⟩
variable {w:World} {T:Tst} {Ai Ac:Option Addr} {kv:Value}
theorem lfP {G:Prop}(h:G:=by
  (cases HV:Zeg T.arch n ⟨th,rg,loc,vl,vn⟩ <;> (first
   | (exfalso;simp [Zeg, *] at HV;done)
   | (clear HV
      rw [ha];go_enter Tryz.func112,Tryz.ntmps112
      go_wp2_with (first
       | (go_at_call 175;(first | with_reducible refine (HNL.o _).mono ?_ | with_reducible refine (HNV.o _).mono ?_);(try rw [HNB.o]);rintro e w' ⟨rfl,rfl⟩)
       | (go_at_call 176;refine (Z9e _ _).mono ?_;(try rw [HMB.o]);rintro e w' ⟨rfl,rfl⟩))
      go_ret
      exact⟨by first | rfl | exact Zaf (by simp [*]),Zau _ _ _⟩)))):G:=h
theorem Z40 (ci cc:Nat)(x:Ini)(hA:T.arch=1\/T.arch=2)(hx1:x.loc.length<=9223372036854775807)(hx2:x.vl.length<=9223372036854775807):Calls Tryz.prog 112 #[Zbu T (.slice Ai T.init.length ci) (.slice Ac T.code.length cc) kv,Z66 x] w (RB w (.bool (Zeg T.arch T.code.length x))):=by
 obtain⟨th,rg,loc,vl,vn⟩:=x;obtain⟨n,hn⟩:∃ n,T.code.length=n:=⟨_,rfl⟩;simp only [Zbu,Z66,hn] at hx1 hx2 ⊢;have HNL:=Zh (fun w=>Z5r ⟨loc.toArray⟩ w hx1);have HNV:=Zh (fun w=>Z5r ⟨vl.toArray⟩ w hx2);simp only [] at HNV HNL;rcases hA with ha | ha
 all_goals
  by_cases hth:th=-1
  ·cases hn:Zbl loc <;> have HNB:=Zh hn
   ·exact lfP
   ·by_cases hr:rg=0
    ·by_cases hv:vl=[]
     ·cases hm:Zg9 vn <;> (have HMB:=Zh hm;exact lfP)
     ·have hv':vl.isEmpty=false:=by simpa using hv
      exact lfP
    ·exact lfP
  ·have hth':(th == -1)=false:=by simpa using hth
   by_cases h0:0<=th
   ·by_cases h1:th<(n:Int)
    ·by_cases hl:loc=[]
     ·by_cases h2:(if T.arch=2 then 1 else 0:Int)<=rg <;> simp only [ha,Int.reduceEq,↓reduceIte] at h2
      ·by_cases h3:rg<=(if T.arch=2 then 31 else 14:Int) <;> simp only [ha,Int.reduceEq,↓reduceIte] at h3
       ·by_cases hv:vl=[]
        ·cases hm:Zg9 vn <;> (have HMB:=Zh hm;exact lfP)
        ·have hv':vl.isEmpty=false:=by simpa using hv
         cases hn:Zbl vl <;> have HNB:=Zh hn
         ·exact lfP
         ·by_cases hz:vn=0 <;> exact lfP
       ·have h3n:=Int.not_le.1 h3;exact lfP
      ·have h2n:=Int.not_le.1 h2;exact lfP
     ·have hl':loc.isEmpty=false:=by simpa using hl
      exact lfP
    ·have h1n:(n:Int)<=th:=ω;exact lfP
   ·have h0n:th<0:=ω;exact lfP
end
end
end Go.Proofs.YtgjefdaaihgliaaGreatDoor
