/- Layer 13: a line of an initial state, the reference. -/
import Derived.Test.YtgjefdaaihgliaaGreatDoorMn23

namespace Go.Proofs.YtgjefdaaihgliaaGreatDoor
open Go.RowKit
section
set_option maxHeartbeats 4000000
set_option maxRecDepth 100000
variable {w:World} {T:Tst} {Ai Ac:Option Addr} {kv:Value}
theorem lfL {G:Prop}(h:G:=by
  (cases HV:Zeg T.arch n ⟨th,rg,loc,vl,vn⟩ <;> (first
   | (exfalso;clear HNL HK2 HE2 HB2X HMAY;cases hvb:vl.isEmpty <;> first | (simp_all [Zeg];done) | (simp_all [Zeg] <;> omega))
   | (clear HV
      rw [ha]
      try (have Xr:=Zh hr;clear hr)
      try (have Xv:=Zh hv;clear hv)
      try (have Xl:=Zh hl;clear hl)
      try (have Xt:=Zh hth;clear hth)
      go_enter Tryz.func131,Tryz.ntmps131
      go_wp2_with fail
      refine (HMAY.o _).mono ?_;rw [HMB.o];rintro e w2 ⟨rfl,hb2⟩;have HB2:=Zh (Zab HB2X.o hb2);have k0:=(HK2.o.go hb2).cell 0;have k4:=(HK2.o.go hb2).cell 4;obtain⟨e0,e1,e2,e3⟩:=(HE2.o.go hb2).c4
      try have hr:=Xr.out
      try have hv:=Xv.out
      try have hl:=Xl.out
      try have hth:=Xt.out
      go_wp2_with (go_at_call 193;refine (HNL.o _).mono ?_;(try rw [HNB.o]);rintro e w' ⟨rfl,rfl⟩)
      go_ret
      exact⟨by first | rfl | exact Zaf (by simp [*]),HB2.o⟩)))):G:=h
theorem Z5e (ci cc:Nat)(x:Ini)(hA:T.arch=1\/T.arch=2)(hx1:x.loc.length<=9223372036854775807)(hx2:x.vl.length<=9223372036854775807):Calls Tryz.prog 131 #[Zbu T (.slice Ai T.init.length ci) (.slice Ac T.code.length cc) kv,Z66 x] w (RB w (.bool (Zeg T.arch T.code.length x))):=by
 obtain⟨th,rg,loc,vl,vn⟩:=x;simp only [Zbu,Z66] at hx1 hx2 ⊢;obtain⟨n,hn⟩:∃ n,T.code.length=n:=⟨_,rfl⟩;rw [hn];have HNL:=Zh (fun w=>Zka ⟨loc.toArray⟩ w hx1);simp only [] at HNL;have HK2:=Zh ((Blk.new w 32 #[.int .i64 T.arch,.string ⟨T.name.toArray⟩,.string ⟨T.cycle.toArray⟩,.slice Ai T.init.length ci,.slice Ac n cc,.int .i64 T.q,.int .i64 T.k,.int .i64 T.t,.int .i64 T.r,.string ⟨T.l.toArray⟩,.int .i64 T.v,kv]).alloc (.cells #[.int .i64 th,.int .i64 rg,.string ⟨loc.toArray⟩,.string ⟨vl.toArray⟩,.int .i64 vn] 94 (0,0)));have HE2:=Zh (Zdm w (.cells #[.int .i64 T.arch,.string ⟨T.name.toArray⟩,.string ⟨T.cycle.toArray⟩,.slice Ai T.init.length ci,.slice Ac n cc,.int .i64 T.q,.int .i64 T.k,.int .i64 T.t,.int .i64 T.r,.string ⟨T.l.toArray⟩,.int .i64 T.v,kv] 32 (0,0)) 94 #[.int .i64 th,.int .i64 rg,.string ⟨loc.toArray⟩,.string ⟨vl.toArray⟩,.int .i64 vn]);have HB2X:=Zh (Zau w (.cells #[.int .i64 T.arch,.string ⟨T.name.toArray⟩,.string ⟨T.cycle.toArray⟩,.slice Ai T.init.length ci,.slice Ac n cc,.int .i64 T.q,.int .i64 T.k,.int .i64 T.t,.int .i64 T.r,.string ⟨T.l.toArray⟩,.int .i64 T.v,kv] 32 (0,0)) (.cells #[.int .i64 th,.int .i64 rg,.string ⟨loc.toArray⟩,.string ⟨vl.toArray⟩,.int .i64 vn] 94 (0,0)));have HMAY:=Zh (fun w=>Z73 vl vn w hx2);rcases hA with ha | ha
 all_goals
  rw [ha] at HK2 HE2 HB2X;by_cases hth:th=-1
  ·cases hm:(if vl.isEmpty then Zg9 vn else Zbl vl&&decide (vn=0)) <;> have HMB:=Zh hm
   ·exact lfL
   ·cases hn:Zbl loc <;> have HNB:=Zh hn
    ·exact lfL
    ·by_cases hr:rg=0
     ·by_cases hv:vl=[] <;> exact lfL
     ·exact lfL
  ·have hth':(th == -1)=false:=by simpa using hth
   cases hm:(if vl.isEmpty then Zg9 vn else Zbl vl&&decide (vn=0)) <;> have HMB:=Zh hm
   ·exact lfL
   ·by_cases h0:0<=th
    ·by_cases h1:th<(n:Int)
     ·by_cases hl:loc=[]
      ·by_cases h2:(if T.arch=2 then 1 else 0:Int)<=rg <;> simp only [ha,Int.reduceEq,↓reduceIte] at h2
       ·by_cases h3:rg<(if T.arch=2 then 32 else 15:Int) <;> simp only [ha,Int.reduceEq,↓reduceIte] at h3
        ·have h3m:rg<=(if T.arch=2 then 31 else 14:Int):=by simp only [ha,Int.reduceEq,↓reduceIte];omega
         simp only [ha,Int.reduceEq,↓reduceIte] at h3m;exact lfL
        ·have h3n:=Int.not_lt.1 h3;exact lfL
       ·have h2n:=Int.not_le.1 h2;exact lfL
      ·have hl':loc.isEmpty=false:=by simpa using hl
       exact lfL
     ·have h1n:(n:Int)<=th:=ω;exact lfL
    ·have h0n:th<0:=ω;exact lfL
end
end Go.Proofs.YtgjefdaaihgliaaGreatDoor
