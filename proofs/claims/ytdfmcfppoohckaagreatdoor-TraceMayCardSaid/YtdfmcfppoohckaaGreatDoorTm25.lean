/- Layer 13: a line of an initial state, the reference. -/
import Derived.Test.YtdfmcfppoohckaaGreatDoorTm23

namespace Go.Proofs.YtdfmcfppoohckaaGreatDoor
open Go.RowKit
section
set_option maxHeartbeats 4000000
set_option maxRecDepth 100000
variable {w:World} {T:Tst} {Ai Ac:Option Addr} {kv:Value}
theorem Zzg (ci cc:Nat)(x:Ini)(ha:T.arch=1)(hx1:x.loc.length<=9223372036854775807)(hx2:x.vl.length<=9223372036854775807):Calls Tryz.prog 116 #[Zbr T (.slice Ai T.init.length ci) (.slice Ac T.code.length cc) kv,Z03 x] w (RB w (.bool (Zak 1 T.code.length x))):=by
 obtain⟨th,rg,loc,vl,vn⟩:=x;simp only [Zbr,ha,Z03] at hx1 hx2 ⊢;obtain⟨n,hn⟩:∃ n,T.code.length=n:=⟨_,rfl⟩;rw [hn];have HNL:=Zh (fun w=>Zhx ⟨loc.toArray⟩ w hx1);simp only [] at HNL;have HK2:=Zh ((Blk.new w 32 #[.int .i64 1,.string ⟨T.name.toArray⟩,.string ⟨T.cycle.toArray⟩,.slice Ai T.init.length ci,.slice Ac n cc,.int .i64 T.q,.int .i64 T.k,.int .i64 T.t,.int .i64 T.r,.string ⟨T.l.toArray⟩,.int .i64 T.v,kv]).alloc (.cells #[.int .i64 th,.int .i64 rg,.string ⟨loc.toArray⟩,.string ⟨vl.toArray⟩,.int .i64 vn] 62 (0,0)));have HE2:=Zh (Zdg w (.cells #[.int .i64 1,.string ⟨T.name.toArray⟩,.string ⟨T.cycle.toArray⟩,.slice Ai T.init.length ci,.slice Ac n cc,.int .i64 T.q,.int .i64 T.k,.int .i64 T.t,.int .i64 T.r,.string ⟨T.l.toArray⟩,.int .i64 T.v,kv] 32 (0,0)) 62 #[.int .i64 th,.int .i64 rg,.string ⟨loc.toArray⟩,.string ⟨vl.toArray⟩,.int .i64 vn]);have HB2X:=Zh (Zao w (.cells #[.int .i64 1,.string ⟨T.name.toArray⟩,.string ⟨T.cycle.toArray⟩,.slice Ai T.init.length ci,.slice Ac n cc,.int .i64 T.q,.int .i64 T.k,.int .i64 T.t,.int .i64 T.r,.string ⟨T.l.toArray⟩,.int .i64 T.v,kv] 32 (0,0)) (.cells #[.int .i64 th,.int .i64 rg,.string ⟨loc.toArray⟩,.string ⟨vl.toArray⟩,.int .i64 vn] 62 (0,0)));have HMAY:=Zh (fun w=>Z5c vl vn w hx2);by_cases hth:th=-1
 ·subst hth;cases hm:(if vl.isEmpty then Zew vn else Zbb vl&&decide (vn=0)) with
  | false=>
   have HMB:=Zh hm;exact m_17
  | true=>
   have HMB:=Zh hm;cases hn:Zbb loc with
   | false=>
    have HNB:=Zh hn;exact m_17
   | true=>
    have HNB:=Zh hn;by_cases hr:rg=0
    ·skip
     by_cases hv:vl=[]
     ·skip
      have HV:=Zh (show Zak 1 n ⟨-1,rg,loc,vl,vn⟩=true by clear HNL HK2 HE2 HB2X HMAY;cases hvb:vl.isEmpty <;> first | (simp_all [Zak];done) | (simp_all [Zak] <;> omega));rw [HV.o]
      try (have Xr:=Zh hr;clear hr)
      try (have Xv:=Zh hv;clear hv)
      try (have Xl:=Zh hl;clear hl)
      go_enter Tryz.func116,Tryz.ntmps116
      go_wp2_with fail
      refine (HMAY.o _).mono ?_;rw [HMB.o];rintro e w2 ⟨rfl,hb2⟩;have HB2:=Zh (Zaa HB2X.o hb2);have k0:=(HK2.o.go hb2).cell 0;have k4:=(HK2.o.go hb2).cell 4;obtain⟨e0,e1,e2,e3⟩:=(HE2.o.go hb2).c4
      try have hr:=Xr.o
      try have hv:=Xv.o
      try have hl:=Xl.o
      go_wp2_with (go_at_call 83;refine (HNL.o _).mono ?_;(try rw [HNB.o]);rintro e w' ⟨rfl,rfl⟩)
      go_ret;exact⟨by first | rfl | exact Zae (by simp [hr,hv]),HB2.o⟩
     ·skip
      have hv':vl.isEmpty=false:=by simpa using hv
      have HV:=Zh (show Zak 1 n ⟨-1,rg,loc,vl,vn⟩=false by clear HNL HK2 HE2 HB2X HMAY;cases hvb:vl.isEmpty <;> first | (simp_all [Zak];done) | (simp_all [Zak] <;> omega));rw [HV.o]
      try (have Xr:=Zh hr;clear hr)
      try (have Xv:=Zh hv;clear hv)
      try (have Xl:=Zh hl;clear hl)
      go_enter Tryz.func116,Tryz.ntmps116
      go_wp2_with fail
      refine (HMAY.o _).mono ?_;rw [HMB.o];rintro e w2 ⟨rfl,hb2⟩;have HB2:=Zh (Zaa HB2X.o hb2);have k0:=(HK2.o.go hb2).cell 0;have k4:=(HK2.o.go hb2).cell 4;obtain⟨e0,e1,e2,e3⟩:=(HE2.o.go hb2).c4
      try have hr:=Xr.o
      try have hv:=Xv.o
      try have hl:=Xl.o
      go_wp2_with (go_at_call 83;refine (HNL.o _).mono ?_;(try rw [HNB.o]);rintro e w' ⟨rfl,rfl⟩)
      go_ret;exact⟨by first | rfl | exact Zae (by simp [hr,hv]),HB2.o⟩
    ·skip
     have HV:=Zh (show Zak 1 n ⟨-1,rg,loc,vl,vn⟩=false by clear HNL HK2 HE2 HB2X HMAY;cases hvb:vl.isEmpty <;> first | (simp_all [Zak];done) | (simp_all [Zak] <;> omega));rw [HV.o]
     try (have Xr:=Zh hr;clear hr)
     try (have Xv:=Zh hv;clear hv)
     try (have Xl:=Zh hl;clear hl)
     go_enter Tryz.func116,Tryz.ntmps116
     go_wp2_with fail
     refine (HMAY.o _).mono ?_;rw [HMB.o];rintro e w2 ⟨rfl,hb2⟩;have HB2:=Zh (Zaa HB2X.o hb2);have k0:=(HK2.o.go hb2).cell 0;have k4:=(HK2.o.go hb2).cell 4;obtain⟨e0,e1,e2,e3⟩:=(HE2.o.go hb2).c4
     try have hr:=Xr.o
     try have hv:=Xv.o
     try have hl:=Xl.o
     go_wp2_with (go_at_call 83;refine (HNL.o _).mono ?_;(try rw [HNB.o]);rintro e w' ⟨rfl,rfl⟩)
     go_ret;exact⟨by first | rfl | exact Zae (by simp [hr]),HB2.o⟩
 ·have hth':(th == -1)=false:=by simpa using hth
  cases hm:(if vl.isEmpty then Zew vn else Zbb vl&&decide (vn=0)) with
  | false=>
   have HMB:=Zh hm;have HV:=Zh (show Zak 1 n ⟨th,rg,loc,vl,vn⟩=false by clear HNL HK2 HE2 HB2X HMAY;cases hvb:vl.isEmpty <;> first | (simp_all [Zak];done) | (simp_all [Zak] <;> omega));rw [HV.o]
   try (have Xr:=Zh hr;clear hr)
   try (have Xv:=Zh hv;clear hv)
   try (have Xl:=Zh hl;clear hl)
   go_enter Tryz.func116,Tryz.ntmps116
   go_wp2_with fail
   refine (HMAY.o _).mono ?_;rw [HMB.o];rintro e w2 ⟨rfl,hb2⟩;have HB2:=Zh (Zaa HB2X.o hb2);have k0:=(HK2.o.go hb2).cell 0;have k4:=(HK2.o.go hb2).cell 4;obtain⟨e0,e1,e2,e3⟩:=(HE2.o.go hb2).c4
   try have hr:=Xr.o
   try have hv:=Xv.o
   try have hl:=Xl.o
   go_wp2_with (go_at_call 83;refine (HNL.o _).mono ?_;(try rw [HNB.o]);rintro e w' ⟨rfl,rfl⟩)
   go_ret;exact⟨by first | rfl | exact Zae (by simp [hm]),HB2.o⟩
  | true=>
   have HMB:=Zh hm;by_cases h0:0<=th
   ·skip
    by_cases h1:th<(n:Int)
    ·skip
     by_cases hl:loc=[]
     ·skip
      by_cases h2:(0:Int)<=rg
      ·skip
       by_cases h3:rg<(15:Int)
       ·have h3m:rg<=(14:Int):=ω;have HV:=Zh (show Zak 1 n ⟨th,rg,loc,vl,vn⟩=true by clear HNL HK2 HE2 HB2X HMAY;cases hvb:vl.isEmpty <;> first | (simp_all [Zak];done) | (simp_all [Zak] <;> omega));rw [HV.o]
        try (have Xr:=Zh hr;clear hr)
        try (have Xv:=Zh hv;clear hv)
        try (have Xl:=Zh hl;clear hl)
        go_enter Tryz.func116,Tryz.ntmps116
        go_wp2_with fail
        refine (HMAY.o _).mono ?_;rw [HMB.o];rintro e w2 ⟨rfl,hb2⟩;have HB2:=Zh (Zaa HB2X.o hb2);have k0:=(HK2.o.go hb2).cell 0;have k4:=(HK2.o.go hb2).cell 4;obtain⟨e0,e1,e2,e3⟩:=(HE2.o.go hb2).c4
        try have hr:=Xr.o
        try have hv:=Xv.o
        try have hl:=Xl.o
        go_wp2_with (go_at_call 83;refine (HNL.o _).mono ?_;(try rw [HNB.o]);rintro e w' ⟨rfl,rfl⟩)
        go_ret;exact⟨by first | rfl | exact Zae (by simp [h2,h3]),HB2.o⟩
       ·skip
        have h3n:(15:Int)<=rg:=ω;have HV:=Zh (show Zak 1 n ⟨th,rg,loc,vl,vn⟩=false by clear HNL HK2 HE2 HB2X HMAY;cases hvb:vl.isEmpty <;> first | (simp_all [Zak];done) | (simp_all [Zak] <;> omega));rw [HV.o]
        try (have Xr:=Zh hr;clear hr)
        try (have Xv:=Zh hv;clear hv)
        try (have Xl:=Zh hl;clear hl)
        go_enter Tryz.func116,Tryz.ntmps116
        go_wp2_with fail
        refine (HMAY.o _).mono ?_;rw [HMB.o];rintro e w2 ⟨rfl,hb2⟩;have HB2:=Zh (Zaa HB2X.o hb2);have k0:=(HK2.o.go hb2).cell 0;have k4:=(HK2.o.go hb2).cell 4;obtain⟨e0,e1,e2,e3⟩:=(HE2.o.go hb2).c4
        try have hr:=Xr.o
        try have hv:=Xv.o
        try have hl:=Xl.o
        go_wp2_with (go_at_call 83;refine (HNL.o _).mono ?_;(try rw [HNB.o]);rintro e w' ⟨rfl,rfl⟩)
        go_ret;exact⟨by first | rfl | exact Zae (by simp [h3]),HB2.o⟩
      ·skip
       have h2n:rg<(0:Int):=ω;have HV:=Zh (show Zak 1 n ⟨th,rg,loc,vl,vn⟩=false by clear HNL HK2 HE2 HB2X HMAY;cases hvb:vl.isEmpty <;> first | (simp_all [Zak];done) | (simp_all [Zak] <;> omega));rw [HV.o]
       try (have Xr:=Zh hr;clear hr)
       try (have Xv:=Zh hv;clear hv)
       try (have Xl:=Zh hl;clear hl)
       go_enter Tryz.func116,Tryz.ntmps116
       go_wp2_with fail
       refine (HMAY.o _).mono ?_;rw [HMB.o];rintro e w2 ⟨rfl,hb2⟩;have HB2:=Zh (Zaa HB2X.o hb2);have k0:=(HK2.o.go hb2).cell 0;have k4:=(HK2.o.go hb2).cell 4;obtain⟨e0,e1,e2,e3⟩:=(HE2.o.go hb2).c4
       try have hr:=Xr.o
       try have hv:=Xv.o
       try have hl:=Xl.o
       go_wp2_with (go_at_call 83;refine (HNL.o _).mono ?_;(try rw [HNB.o]);rintro e w' ⟨rfl,rfl⟩)
       go_ret;exact⟨by first | rfl | exact Zae (by simp [h2]),HB2.o⟩
     ·skip
      have hl':loc.isEmpty=false:=by simpa using hl
      have HV:=Zh (show Zak 1 n ⟨th,rg,loc,vl,vn⟩=false by clear HNL HK2 HE2 HB2X HMAY;cases hvb:vl.isEmpty <;> first | (simp_all [Zak];done) | (simp_all [Zak] <;> omega));rw [HV.o]
      try (have Xr:=Zh hr;clear hr)
      try (have Xv:=Zh hv;clear hv)
      try (have Xl:=Zh hl;clear hl)
      go_enter Tryz.func116,Tryz.ntmps116
      go_wp2_with fail
      refine (HMAY.o _).mono ?_;rw [HMB.o];rintro e w2 ⟨rfl,hb2⟩;have HB2:=Zh (Zaa HB2X.o hb2);have k0:=(HK2.o.go hb2).cell 0;have k4:=(HK2.o.go hb2).cell 4;obtain⟨e0,e1,e2,e3⟩:=(HE2.o.go hb2).c4
      try have hr:=Xr.o
      try have hv:=Xv.o
      try have hl:=Xl.o
      go_wp2_with (go_at_call 83;refine (HNL.o _).mono ?_;(try rw [HNB.o]);rintro e w' ⟨rfl,rfl⟩)
      go_ret;exact⟨by first | rfl | exact Zae (by simp [hl]),HB2.o⟩
    ·skip
     have h1n:(n:Int)<=th:=ω;have HV:=Zh (show Zak 1 n ⟨th,rg,loc,vl,vn⟩=false by clear HNL HK2 HE2 HB2X HMAY;cases hvb:vl.isEmpty <;> first | (simp_all [Zak];done) | (simp_all [Zak] <;> omega));rw [HV.o]
     try (have Xr:=Zh hr;clear hr)
     try (have Xv:=Zh hv;clear hv)
     try (have Xl:=Zh hl;clear hl)
     go_enter Tryz.func116,Tryz.ntmps116
     go_wp2_with fail
     refine (HMAY.o _).mono ?_;rw [HMB.o];rintro e w2 ⟨rfl,hb2⟩;have HB2:=Zh (Zaa HB2X.o hb2);have k0:=(HK2.o.go hb2).cell 0;have k4:=(HK2.o.go hb2).cell 4;obtain⟨e0,e1,e2,e3⟩:=(HE2.o.go hb2).c4
     try have hr:=Xr.o
     try have hv:=Xv.o
     try have hl:=Xl.o
     go_wp2_with (go_at_call 83;refine (HNL.o _).mono ?_;(try rw [HNB.o]);rintro e w' ⟨rfl,rfl⟩)
     go_ret;exact⟨by first | rfl | exact Zae (by simp [h1]),HB2.o⟩
   ·skip
    have h0n:th<0:=ω;have HV:=Zh (show Zak 1 n ⟨th,rg,loc,vl,vn⟩=false by clear HNL HK2 HE2 HB2X HMAY;cases hvb:vl.isEmpty <;> first | (simp_all [Zak];done) | (simp_all [Zak] <;> omega));rw [HV.o]
    try (have Xr:=Zh hr;clear hr)
    try (have Xv:=Zh hv;clear hv)
    try (have Xl:=Zh hl;clear hl)
    go_enter Tryz.func116,Tryz.ntmps116
    go_wp2_with fail
    refine (HMAY.o _).mono ?_;rw [HMB.o];rintro e w2 ⟨rfl,hb2⟩;have HB2:=Zh (Zaa HB2X.o hb2);have k0:=(HK2.o.go hb2).cell 0;have k4:=(HK2.o.go hb2).cell 4;obtain⟨e0,e1,e2,e3⟩:=(HE2.o.go hb2).c4
    try have hr:=Xr.o
    try have hv:=Xv.o
    try have hl:=Xl.o
    go_wp2_with (go_at_call 83;refine (HNL.o _).mono ?_;(try rw [HNB.o]);rintro e w' ⟨rfl,rfl⟩)
    go_ret;exact⟨by first | rfl | exact Zae (by simp [h0]),HB2.o⟩
theorem Zzh (ci cc:Nat)(x:Ini)(ha:T.arch=2)(hx1:x.loc.length<=9223372036854775807)(hx2:x.vl.length<=9223372036854775807):Calls Tryz.prog 116 #[Zbr T (.slice Ai T.init.length ci) (.slice Ac T.code.length cc) kv,Z03 x] w (RB w (.bool (Zak 2 T.code.length x))):=by
 obtain⟨th,rg,loc,vl,vn⟩:=x;simp only [Zbr,ha,Z03] at hx1 hx2 ⊢;obtain⟨n,hn⟩:∃ n,T.code.length=n:=⟨_,rfl⟩;rw [hn];have HNL:=Zh (fun w=>Zhx ⟨loc.toArray⟩ w hx1);simp only [] at HNL;have HK2:=Zh ((Blk.new w 32 #[.int .i64 2,.string ⟨T.name.toArray⟩,.string ⟨T.cycle.toArray⟩,.slice Ai T.init.length ci,.slice Ac n cc,.int .i64 T.q,.int .i64 T.k,.int .i64 T.t,.int .i64 T.r,.string ⟨T.l.toArray⟩,.int .i64 T.v,kv]).alloc (.cells #[.int .i64 th,.int .i64 rg,.string ⟨loc.toArray⟩,.string ⟨vl.toArray⟩,.int .i64 vn] 62 (0,0)));have HE2:=Zh (Zdg w (.cells #[.int .i64 2,.string ⟨T.name.toArray⟩,.string ⟨T.cycle.toArray⟩,.slice Ai T.init.length ci,.slice Ac n cc,.int .i64 T.q,.int .i64 T.k,.int .i64 T.t,.int .i64 T.r,.string ⟨T.l.toArray⟩,.int .i64 T.v,kv] 32 (0,0)) 62 #[.int .i64 th,.int .i64 rg,.string ⟨loc.toArray⟩,.string ⟨vl.toArray⟩,.int .i64 vn]);have HB2X:=Zh (Zao w (.cells #[.int .i64 2,.string ⟨T.name.toArray⟩,.string ⟨T.cycle.toArray⟩,.slice Ai T.init.length ci,.slice Ac n cc,.int .i64 T.q,.int .i64 T.k,.int .i64 T.t,.int .i64 T.r,.string ⟨T.l.toArray⟩,.int .i64 T.v,kv] 32 (0,0)) (.cells #[.int .i64 th,.int .i64 rg,.string ⟨loc.toArray⟩,.string ⟨vl.toArray⟩,.int .i64 vn] 62 (0,0)));have HMAY:=Zh (fun w=>Z5c vl vn w hx2);by_cases hth:th=-1
 ·subst hth;cases hm:(if vl.isEmpty then Zew vn else Zbb vl&&decide (vn=0)) with
  | false=>
   have HMB:=Zh hm;exact m_18
  | true=>
   have HMB:=Zh hm;cases hn:Zbb loc with
   | false=>
    have HNB:=Zh hn;exact m_18
   | true=>
    have HNB:=Zh hn;by_cases hr:rg=0
    ·skip
     by_cases hv:vl=[]
     ·skip
      have HV:=Zh (show Zak 2 n ⟨-1,rg,loc,vl,vn⟩=true by clear HNL HK2 HE2 HB2X HMAY;cases hvb:vl.isEmpty <;> first | (simp_all [Zak];done) | (simp_all [Zak] <;> omega));rw [HV.o]
      try (have Xr:=Zh hr;clear hr)
      try (have Xv:=Zh hv;clear hv)
      try (have Xl:=Zh hl;clear hl)
      go_enter Tryz.func116,Tryz.ntmps116
      go_wp2_with fail
      refine (HMAY.o _).mono ?_;rw [HMB.o];rintro e w2 ⟨rfl,hb2⟩;have HB2:=Zh (Zaa HB2X.o hb2);have k0:=(HK2.o.go hb2).cell 0;have k4:=(HK2.o.go hb2).cell 4;obtain⟨e0,e1,e2,e3⟩:=(HE2.o.go hb2).c4
      try have hr:=Xr.o
      try have hv:=Xv.o
      try have hl:=Xl.o
      go_wp2_with (go_at_call 83;refine (HNL.o _).mono ?_;(try rw [HNB.o]);rintro e w' ⟨rfl,rfl⟩)
      go_ret;exact⟨by first | rfl | exact Zae (by simp [hr,hv]),HB2.o⟩
     ·skip
      have hv':vl.isEmpty=false:=by simpa using hv
      have HV:=Zh (show Zak 2 n ⟨-1,rg,loc,vl,vn⟩=false by clear HNL HK2 HE2 HB2X HMAY;cases hvb:vl.isEmpty <;> first | (simp_all [Zak];done) | (simp_all [Zak] <;> omega));rw [HV.o]
      try (have Xr:=Zh hr;clear hr)
      try (have Xv:=Zh hv;clear hv)
      try (have Xl:=Zh hl;clear hl)
      go_enter Tryz.func116,Tryz.ntmps116
      go_wp2_with fail
      refine (HMAY.o _).mono ?_;rw [HMB.o];rintro e w2 ⟨rfl,hb2⟩;have HB2:=Zh (Zaa HB2X.o hb2);have k0:=(HK2.o.go hb2).cell 0;have k4:=(HK2.o.go hb2).cell 4;obtain⟨e0,e1,e2,e3⟩:=(HE2.o.go hb2).c4
      try have hr:=Xr.o
      try have hv:=Xv.o
      try have hl:=Xl.o
      go_wp2_with (go_at_call 83;refine (HNL.o _).mono ?_;(try rw [HNB.o]);rintro e w' ⟨rfl,rfl⟩)
      go_ret;exact⟨by first | rfl | exact Zae (by simp [hr,hv]),HB2.o⟩
    ·skip
     have HV:=Zh (show Zak 2 n ⟨-1,rg,loc,vl,vn⟩=false by clear HNL HK2 HE2 HB2X HMAY;cases hvb:vl.isEmpty <;> first | (simp_all [Zak];done) | (simp_all [Zak] <;> omega));rw [HV.o]
     try (have Xr:=Zh hr;clear hr)
     try (have Xv:=Zh hv;clear hv)
     try (have Xl:=Zh hl;clear hl)
     go_enter Tryz.func116,Tryz.ntmps116
     go_wp2_with fail
     refine (HMAY.o _).mono ?_;rw [HMB.o];rintro e w2 ⟨rfl,hb2⟩;have HB2:=Zh (Zaa HB2X.o hb2);have k0:=(HK2.o.go hb2).cell 0;have k4:=(HK2.o.go hb2).cell 4;obtain⟨e0,e1,e2,e3⟩:=(HE2.o.go hb2).c4
     try have hr:=Xr.o
     try have hv:=Xv.o
     try have hl:=Xl.o
     go_wp2_with (go_at_call 83;refine (HNL.o _).mono ?_;(try rw [HNB.o]);rintro e w' ⟨rfl,rfl⟩)
     go_ret;exact⟨by first | rfl | exact Zae (by simp [hr]),HB2.o⟩
 ·have hth':(th == -1)=false:=by simpa using hth
  cases hm:(if vl.isEmpty then Zew vn else Zbb vl&&decide (vn=0)) with
  | false=>
   have HMB:=Zh hm;have HV:=Zh (show Zak 2 n ⟨th,rg,loc,vl,vn⟩=false by clear HNL HK2 HE2 HB2X HMAY;cases hvb:vl.isEmpty <;> first | (simp_all [Zak];done) | (simp_all [Zak] <;> omega));rw [HV.o]
   try (have Xr:=Zh hr;clear hr)
   try (have Xv:=Zh hv;clear hv)
   try (have Xl:=Zh hl;clear hl)
   go_enter Tryz.func116,Tryz.ntmps116
   go_wp2_with fail
   refine (HMAY.o _).mono ?_;rw [HMB.o];rintro e w2 ⟨rfl,hb2⟩;have HB2:=Zh (Zaa HB2X.o hb2);have k0:=(HK2.o.go hb2).cell 0;have k4:=(HK2.o.go hb2).cell 4;obtain⟨e0,e1,e2,e3⟩:=(HE2.o.go hb2).c4
   try have hr:=Xr.o
   try have hv:=Xv.o
   try have hl:=Xl.o
   go_wp2_with (go_at_call 83;refine (HNL.o _).mono ?_;(try rw [HNB.o]);rintro e w' ⟨rfl,rfl⟩)
   go_ret;exact⟨by first | rfl | exact Zae (by simp [hm]),HB2.o⟩
  | true=>
   have HMB:=Zh hm;by_cases h0:0<=th
   ·skip
    by_cases h1:th<(n:Int)
    ·skip
     by_cases hl:loc=[]
     ·skip
      by_cases h2:(1:Int)<=rg
      ·skip
       by_cases h3:rg<(32:Int)
       ·have h3m:rg<=(31:Int):=ω;have HV:=Zh (show Zak 2 n ⟨th,rg,loc,vl,vn⟩=true by clear HNL HK2 HE2 HB2X HMAY;cases hvb:vl.isEmpty <;> first | (simp_all [Zak];done) | (simp_all [Zak] <;> omega));rw [HV.o]
        try (have Xr:=Zh hr;clear hr)
        try (have Xv:=Zh hv;clear hv)
        try (have Xl:=Zh hl;clear hl)
        go_enter Tryz.func116,Tryz.ntmps116
        go_wp2_with fail
        refine (HMAY.o _).mono ?_;rw [HMB.o];rintro e w2 ⟨rfl,hb2⟩;have HB2:=Zh (Zaa HB2X.o hb2);have k0:=(HK2.o.go hb2).cell 0;have k4:=(HK2.o.go hb2).cell 4;obtain⟨e0,e1,e2,e3⟩:=(HE2.o.go hb2).c4
        try have hr:=Xr.o
        try have hv:=Xv.o
        try have hl:=Xl.o
        go_wp2_with (go_at_call 83;refine (HNL.o _).mono ?_;(try rw [HNB.o]);rintro e w' ⟨rfl,rfl⟩)
        go_ret;exact⟨by first | rfl | exact Zae (by simp [h2,h3]),HB2.o⟩
       ·skip
        have h3n:(32:Int)<=rg:=ω;have HV:=Zh (show Zak 2 n ⟨th,rg,loc,vl,vn⟩=false by clear HNL HK2 HE2 HB2X HMAY;cases hvb:vl.isEmpty <;> first | (simp_all [Zak];done) | (simp_all [Zak] <;> omega));rw [HV.o]
        try (have Xr:=Zh hr;clear hr)
        try (have Xv:=Zh hv;clear hv)
        try (have Xl:=Zh hl;clear hl)
        go_enter Tryz.func116,Tryz.ntmps116
        go_wp2_with fail
        refine (HMAY.o _).mono ?_;rw [HMB.o];rintro e w2 ⟨rfl,hb2⟩;have HB2:=Zh (Zaa HB2X.o hb2);have k0:=(HK2.o.go hb2).cell 0;have k4:=(HK2.o.go hb2).cell 4;obtain⟨e0,e1,e2,e3⟩:=(HE2.o.go hb2).c4
        try have hr:=Xr.o
        try have hv:=Xv.o
        try have hl:=Xl.o
        go_wp2_with (go_at_call 83;refine (HNL.o _).mono ?_;(try rw [HNB.o]);rintro e w' ⟨rfl,rfl⟩)
        go_ret;exact⟨by first | rfl | exact Zae (by simp [h3]),HB2.o⟩
      ·skip
       have h2n:rg<(1:Int):=ω;have HV:=Zh (show Zak 2 n ⟨th,rg,loc,vl,vn⟩=false by clear HNL HK2 HE2 HB2X HMAY;cases hvb:vl.isEmpty <;> first | (simp_all [Zak];done) | (simp_all [Zak] <;> omega));rw [HV.o]
       try (have Xr:=Zh hr;clear hr)
       try (have Xv:=Zh hv;clear hv)
       try (have Xl:=Zh hl;clear hl)
       go_enter Tryz.func116,Tryz.ntmps116
       go_wp2_with fail
       refine (HMAY.o _).mono ?_;rw [HMB.o];rintro e w2 ⟨rfl,hb2⟩;have HB2:=Zh (Zaa HB2X.o hb2);have k0:=(HK2.o.go hb2).cell 0;have k4:=(HK2.o.go hb2).cell 4;obtain⟨e0,e1,e2,e3⟩:=(HE2.o.go hb2).c4
       try have hr:=Xr.o
       try have hv:=Xv.o
       try have hl:=Xl.o
       go_wp2_with (go_at_call 83;refine (HNL.o _).mono ?_;(try rw [HNB.o]);rintro e w' ⟨rfl,rfl⟩)
       go_ret;exact⟨by first | rfl | exact Zae (by simp [h2]),HB2.o⟩
     ·skip
      have hl':loc.isEmpty=false:=by simpa using hl
      have HV:=Zh (show Zak 2 n ⟨th,rg,loc,vl,vn⟩=false by clear HNL HK2 HE2 HB2X HMAY;cases hvb:vl.isEmpty <;> first | (simp_all [Zak];done) | (simp_all [Zak] <;> omega));rw [HV.o]
      try (have Xr:=Zh hr;clear hr)
      try (have Xv:=Zh hv;clear hv)
      try (have Xl:=Zh hl;clear hl)
      go_enter Tryz.func116,Tryz.ntmps116
      go_wp2_with fail
      refine (HMAY.o _).mono ?_;rw [HMB.o];rintro e w2 ⟨rfl,hb2⟩;have HB2:=Zh (Zaa HB2X.o hb2);have k0:=(HK2.o.go hb2).cell 0;have k4:=(HK2.o.go hb2).cell 4;obtain⟨e0,e1,e2,e3⟩:=(HE2.o.go hb2).c4
      try have hr:=Xr.o
      try have hv:=Xv.o
      try have hl:=Xl.o
      go_wp2_with (go_at_call 83;refine (HNL.o _).mono ?_;(try rw [HNB.o]);rintro e w' ⟨rfl,rfl⟩)
      go_ret;exact⟨by first | rfl | exact Zae (by simp [hl]),HB2.o⟩
    ·skip
     have h1n:(n:Int)<=th:=ω;have HV:=Zh (show Zak 2 n ⟨th,rg,loc,vl,vn⟩=false by clear HNL HK2 HE2 HB2X HMAY;cases hvb:vl.isEmpty <;> first | (simp_all [Zak];done) | (simp_all [Zak] <;> omega));rw [HV.o]
     try (have Xr:=Zh hr;clear hr)
     try (have Xv:=Zh hv;clear hv)
     try (have Xl:=Zh hl;clear hl)
     go_enter Tryz.func116,Tryz.ntmps116
     go_wp2_with fail
     refine (HMAY.o _).mono ?_;rw [HMB.o];rintro e w2 ⟨rfl,hb2⟩;have HB2:=Zh (Zaa HB2X.o hb2);have k0:=(HK2.o.go hb2).cell 0;have k4:=(HK2.o.go hb2).cell 4;obtain⟨e0,e1,e2,e3⟩:=(HE2.o.go hb2).c4
     try have hr:=Xr.o
     try have hv:=Xv.o
     try have hl:=Xl.o
     go_wp2_with (go_at_call 83;refine (HNL.o _).mono ?_;(try rw [HNB.o]);rintro e w' ⟨rfl,rfl⟩)
     go_ret;exact⟨by first | rfl | exact Zae (by simp [h1]),HB2.o⟩
   ·skip
    have h0n:th<0:=ω;have HV:=Zh (show Zak 2 n ⟨th,rg,loc,vl,vn⟩=false by clear HNL HK2 HE2 HB2X HMAY;cases hvb:vl.isEmpty <;> first | (simp_all [Zak];done) | (simp_all [Zak] <;> omega));rw [HV.o]
    try (have Xr:=Zh hr;clear hr)
    try (have Xv:=Zh hv;clear hv)
    try (have Xl:=Zh hl;clear hl)
    go_enter Tryz.func116,Tryz.ntmps116
    go_wp2_with fail
    refine (HMAY.o _).mono ?_;rw [HMB.o];rintro e w2 ⟨rfl,hb2⟩;have HB2:=Zh (Zaa HB2X.o hb2);have k0:=(HK2.o.go hb2).cell 0;have k4:=(HK2.o.go hb2).cell 4;obtain⟨e0,e1,e2,e3⟩:=(HE2.o.go hb2).c4
    try have hr:=Xr.o
    try have hv:=Xv.o
    try have hl:=Xl.o
    go_wp2_with (go_at_call 83;refine (HNL.o _).mono ?_;(try rw [HNB.o]);rintro e w' ⟨rfl,rfl⟩)
    go_ret;exact⟨by first | rfl | exact Zae (by simp [h0]),HB2.o⟩
end
end Go.Proofs.YtdfmcfppoohckaaGreatDoor
