/- Layer 13: whether a test's initial state may be: the reference's inits. -/
import Derived.Test.YtoegmdnfbemppaaGreatDoorTf28
import Derived.Test.YtoegmdnfbemppaaGreatDoorTf29

namespace Go.Proofs.YtoegmdnfbemppaaGreatDoor
open Go.RowKit
section
theorem Ze9 {l:List Ini}{j:Nat}{x:Ini}(h:l[j]?=some x)(p:Ini->Bool):(l.take (j+1)).any p=((l.take j).any p||p x):=by
 rw [Zii h,List.any_append];simp
theorem Zty {l:List Ini}{j:Nat}{x:Ini}(h:l[j]?=some x)(p:Ini->Bool)(hp:p x=true):l.any p=true:=List.any_eq_true.2 ⟨x,List.mem_of_getElem? h,hp⟩
section
set_option maxHeartbeats 4000000
set_option maxRecDepth 100000
variable {w:World} {T:Tst} {Ai Ac:Option Addr} {kv:Value}
theorem Zzh (ci cc:Nat)(ha:T.arch=1)(hT:Zb4 w T Ai Ac kv):Calls Tryz.prog 52 #[Zbm T (.slice Ai T.init.length ci) (.slice Ac T.code.length cc) kv] w fun e w'=>e=.returned (.int .i64 (Zfu 1 T.code.length T.init))/\Below w.heap.size w w':=by
 obtain⟨n,hn⟩:∃ n,T.init.length=n:=⟨_,rfl⟩
 have HI:=Zh hT.init
 have HFST:=Zh (fun (x:Ini) (h1:x.loc.length<=9223372036854775807) (h2:x.vl.length<=9223372036854775807) (w:World)=>Zx0 (w:=w) (Ai:=Ai) (Ac:=Ac) (kv:=kv) ci cc x ha h1 h2)
 have hil:=hT.ilen
 simp only [Zbm,ha] at HFST ⊢
 have HN:=Zh hn
 rw [hn] at hil HFST ⊢
 have HBX:=Zh (Blk.new w 32 #[.int .i64 1,.string ⟨T.name.toArray⟩,.string ⟨T.cycle.toArray⟩,.slice Ai n ci,.slice Ac T.code.length cc,.int .i64 T.q,.int .i64 T.k,.int .i64 T.t,.int .i64 T.r,.string ⟨T.l.toArray⟩,.int .i64 T.v,kv])
 have HB0:=Zh (Zad w (.cells #[.int .i64 1,.string ⟨T.name.toArray⟩,.string ⟨T.cycle.toArray⟩,.slice Ai n ci,.slice Ac T.code.length cc,.int .i64 T.q,.int .i64 T.k,.int .i64 T.t,.int .i64 T.r,.string ⟨T.l.toArray⟩,.int .i64 T.v,kv] 32 (0,0)))
 clear hT ha hn
 by_cases hbig:1024<n
 ·have HV:=Zh (Zf0 (a:=1) (n:=T.code.length) (show 1024<T.init.length by rw [HN.out];exact hbig))
  exact m_108
 ·have HL:=Zh (show T.init.length<=1024 by rw [HN.out];omega)
  go_enter Tryz.func52,Tryz.ntmps52
  go_wp2_with fail
  generalize hw1:w.alloc (.cells #[.int .i64 1,.string ⟨T.name.toArray⟩,.string ⟨T.cycle.toArray⟩,.slice Ai n ci,.slice Ac T.code.length cc,.int .i64 T.q,.int .i64 T.k,.int .i64 T.t,.int .i64 T.r,.string ⟨T.l.toArray⟩,.int .i64 T.v,kv] 32 (0,0))=w1 at HBX HB0 ⊢
  have hsz:w.heap.size<w1.heap.size:=HBX.out.lt
  clear hw1
  go_loopw [3] (fun i wr=>∃ k:Nat,k<=n/\i=.int .i64 k/\(∀ j,j<k->Zpn 1 T.code.length T.init j=false)/\Below w1.heap.size w1 wr) (fun i _=>n - (intOf i).toNat)
  case atStart=>exact⟨0,Nat.zero_le _,rfl,(fun j hj=>absurd hj (Nat.not_lt_zero _)),Below.refl _ _⟩
  case round=>
   obtain⟨k,hk,rfl,hno,hb⟩:=hrel
   have HNO:=Zh hno
   have HBR:=Zh hb
   have hzr:=hb.size
   have hzo2:w.heap.size<wr.heap.size:=by omega
   clear hno hb
   have HBWR:=Zh (Zaa HB0.out HBR.out)
   have HBR1:=Zh (HBX.out.go HBR.out)
   by_cases hlt:k<n
   ·have hlk:k<T.init.length:=by rw [HN.out];exact hlt
    have ex:=List.getElem?_eq_getElem hlk
    obtain⟨x,hx⟩:∃ x,T.init[k]=x:=⟨_,rfl⟩
    rw [hx] at ex
    obtain⟨b,o,rfl,c0,c1,c2,c3,c4,l1,l2,l3,l4⟩:=HI.out.at_ ex
    have hbl:b<w.heap.size:=World.block_lt_of_cell? w _ c0
    have d0:=Zac c0 HBWR.out
    have d1:=Zac c1 HBWR.out
    have d2:=Zac c2 HBWR.out
    have d3:=Zac c3 HBWR.out
    have d4:=Zac c4 HBWR.out
    have hblr:b<wr.heap.size:=by omega
    have HX:=Zh ex
    have HF2:=Zh (HFST.out x l1 l2)
    clear ex hx hlk c0 c1 c2 c3 c4 l1 l2 l3 l4 HFST
    have HFST:=HF2
    clear HF2
    have hkn:(k:Int)<(n:Int):=by omega
    have HB1:=Zh (Zad wr (.cells #[.int .i64 x.th,.int .i64 x.rg,.string ⟨x.loc.toArray⟩,.string ⟨x.vl.toArray⟩,.int .i64 x.vn] 102 (0,0)))
    have HXB:=Zh (Blk.new wr 102 #[.int .i64 x.th,.int .i64 x.rg,.string ⟨x.loc.toArray⟩,.string ⟨x.vl.toArray⟩,.int .i64 x.vn])
    have k0:=HBR1.out.cell 0
    have k1:=HBR1.out.cell 1
    have k2:=HBR1.out.cell 2
    have k3:=HBR1.out.cell 3
    have k4:=HBR1.out.cell 4
    have k5:=HBR1.out.cell 5
    have k6:=HBR1.out.cell 6
    have k7:=HBR1.out.cell 7
    have k8:=HBR1.out.cell 8
    have k9:=HBR1.out.cell 9
    have k10:=HBR1.out.cell 10
    have k11:=HBR1.out.cell 11
    obtain⟨f,hf⟩:∃ f,Zaj 1 T.code.length x=f:=⟨_,rfl⟩
    have HFB:=Zh hf
    clear hf
    cases f
    ·have HBAD:=Zh (Zer (a:=1) (n:=T.code.length) HL.out (by rw [HN.out];exact hlt) (by rw [Zdo HX.out,HFB.out];rfl) HNO.out)
     exact m_74
    ·go_wp2_with (go_at_call 106;refine (HFST.out _).mono ?_;rw [HFB.out];rintro e w2 ⟨rfl,hb2⟩;have HB2:=Zh (Zaa HB1.out hb2);have HX2:=Zh (HXB.out.go hb2);clear hb2)
     clear k0 k1 k2 k3 k4 k5 k6 k7 k8 k9 k10 k11 d0 d1 d2 d3 d4
     obtain⟨wq,hwq⟩:∃ wq:World,wq=wr:=⟨_,rfl⟩
     subst hwq
     obtain⟨wi,hwi⟩:∃ wi:World,wi=w2:=⟨_,rfl⟩
     subst hwi
     go_loopw [5] (fun kk wr3=>∃ j:Nat,j<=k/\kk=.int .i64 j/\(T.init.take j).any (fun y=>decide (Zd4 y=Zd4 x))=false/\Below wi.heap.size wi wr3) (fun kk _=>k - (intOf kk).toNat)
     case atStart=>exact⟨0,Nat.zero_le _,rfl,by simp,Below.refl _ _⟩
     case round=>
      obtain⟨j,hj,rfl,hno2,hb2⟩:=hrel
      have HN2:=Zh hno2
      have HBJ:=Zh hb2
      have hzj:=hb2.size
      clear hno2 hb2
      by_cases hlj:j<k
      ·have hlk2:j<T.init.length:=by rw [HN.out];omega
       have ey:=List.getElem?_eq_getElem hlk2
       obtain⟨y,hy⟩:∃ y,T.init[j]=y:=⟨_,rfl⟩
       rw [hy] at ey
       obtain⟨b2,o2,e2,c0,c1,c2,c3,c4,l1,l2,l3,l4⟩:=HI.out.at_ ey
       simp only [Option.some.injEq,Addr.mk.injEq,and_true] at e2
       obtain⟨rfl,rfl⟩:=e2
       have HBW2:=Zh (Zaa HBWR.out (Zaa HB2.out HBJ.out))
       have f0:=Zac c0 HBW2.out
       have f1:=Zac c1 HBW2.out
       have f2:=Zac c2 HBW2.out
       have f3:=Zac c3 HBW2.out
       have f4:=Zac c4 HBW2.out
       have HXJ:=Zh (HX2.out.go HBJ.out)
       have g0:=HXJ.out.cell 0
       have g1:=HXJ.out.cell 1
       have g2:=HXJ.out.cell 2
       have HKJ:=Zh (HBR1.out.go (Zaa HB2.out HBJ.out))
       have k3:=HKJ.out.cell 3
       have HY:=Zh ey
       have hjn:(j:Int)<(n:Int):=by omega
       have hjk:(j:Int)<(k:Int):=by omega
       have hs1:wq.heap.size<wr.heap.size:=by have:=HXJ.out.lt;omega
       have hs2:w.heap.size<wr.heap.size:=by omega
       have hs3:b<wr.heap.size:=by omega
       clear ey hy hlk2 c0 c1 c2 c3 c4 l1 l2 l3 l4
       have HBK:=Zh (Zad wr (.cells #[.int .i64 y.th,.int .i64 y.rg,.string ⟨y.loc.toArray⟩,.string ⟨y.vl.toArray⟩,.int .i64 y.vn] 102 (0,0)))
       by_cases h1:x.th=y.th
       ·have e1:(x.th == y.th)=true:=by simpa using h1
        by_cases h2:x.rg=y.rg
        ·have e2:(x.rg == y.rg)=true:=by simpa using h2
         by_cases h3:x.loc=y.loc
         ·have e3:(x.loc == y.loc)=true:=by simpa using h3
          have HBAD:=Zh (Zer (a:=1) (n:=T.code.length) HL.out (by rw [HN.out];exact hlt) (by rw [Zdo HX.out,Zty (j:=j) (x:=y) (by rw [List.getElem?_take,if_pos hlj];exact HY.out) _ (by simp [Zd4,h1,h2,h3])];simp) HNO.out)
          exact m_134
         exact m_56
        exact m_57
       exact m_58
      ·have hjk:j=k:=by omega
       subst hjk
       have HGOOD:=Zh (show Zpn 1 T.code.length T.init j=false by rw [Zdo HX.out,HFB.out,HN2.out];rfl)
       exact m_79
   ·have HV:=Zh (Zms (a:=1) (n:=T.code.length) HL.out (fun j hj=>HNO.out j (by have:=HN.out;omega)))
    exact m_139
theorem Zxa (ci cc:Nat)(ha:T.arch=2)(hT:Zb4 w T Ai Ac kv):Calls Tryz.prog 52 #[Zbm T (.slice Ai T.init.length ci) (.slice Ac T.code.length cc) kv] w fun e w'=>e=.returned (.int .i64 (Zfu 2 T.code.length T.init))/\Below w.heap.size w w':=by
 obtain⟨n,hn⟩:∃ n,T.init.length=n:=⟨_,rfl⟩
 have HI:=Zh hT.init
 have HFST:=Zh (fun (x:Ini) (h1:x.loc.length<=9223372036854775807) (h2:x.vl.length<=9223372036854775807) (w:World)=>Zzn (w:=w) (Ai:=Ai) (Ac:=Ac) (kv:=kv) ci cc x ha h1 h2)
 have hil:=hT.ilen
 simp only [Zbm,ha] at HFST ⊢
 have HN:=Zh hn
 rw [hn] at hil HFST ⊢
 have HBX:=Zh (Blk.new w 32 #[.int .i64 2,.string ⟨T.name.toArray⟩,.string ⟨T.cycle.toArray⟩,.slice Ai n ci,.slice Ac T.code.length cc,.int .i64 T.q,.int .i64 T.k,.int .i64 T.t,.int .i64 T.r,.string ⟨T.l.toArray⟩,.int .i64 T.v,kv])
 have HB0:=Zh (Zad w (.cells #[.int .i64 2,.string ⟨T.name.toArray⟩,.string ⟨T.cycle.toArray⟩,.slice Ai n ci,.slice Ac T.code.length cc,.int .i64 T.q,.int .i64 T.k,.int .i64 T.t,.int .i64 T.r,.string ⟨T.l.toArray⟩,.int .i64 T.v,kv] 32 (0,0)))
 clear hT ha hn
 by_cases hbig:1024<n
 ·have HV:=Zh (Zf0 (a:=2) (n:=T.code.length) (show 1024<T.init.length by rw [HN.out];exact hbig))
  exact m_108
 ·have HL:=Zh (show T.init.length<=1024 by rw [HN.out];omega)
  go_enter Tryz.func52,Tryz.ntmps52
  go_wp2_with fail
  generalize hw1:w.alloc (.cells #[.int .i64 2,.string ⟨T.name.toArray⟩,.string ⟨T.cycle.toArray⟩,.slice Ai n ci,.slice Ac T.code.length cc,.int .i64 T.q,.int .i64 T.k,.int .i64 T.t,.int .i64 T.r,.string ⟨T.l.toArray⟩,.int .i64 T.v,kv] 32 (0,0))=w1 at HBX HB0 ⊢
  have hsz:w.heap.size<w1.heap.size:=HBX.out.lt
  clear hw1
  go_loopw [3] (fun i wr=>∃ k:Nat,k<=n/\i=.int .i64 k/\(∀ j,j<k->Zpn 2 T.code.length T.init j=false)/\Below w1.heap.size w1 wr) (fun i _=>n - (intOf i).toNat)
  case atStart=>exact⟨0,Nat.zero_le _,rfl,(fun j hj=>absurd hj (Nat.not_lt_zero _)),Below.refl _ _⟩
  case round=>
   obtain⟨k,hk,rfl,hno,hb⟩:=hrel
   have HNO:=Zh hno
   have HBR:=Zh hb
   have hzr:=hb.size
   have hzo2:w.heap.size<wr.heap.size:=by omega
   clear hno hb
   have HBWR:=Zh (Zaa HB0.out HBR.out)
   have HBR1:=Zh (HBX.out.go HBR.out)
   by_cases hlt:k<n
   ·have hlk:k<T.init.length:=by rw [HN.out];exact hlt
    have ex:=List.getElem?_eq_getElem hlk
    obtain⟨x,hx⟩:∃ x,T.init[k]=x:=⟨_,rfl⟩
    rw [hx] at ex
    obtain⟨b,o,rfl,c0,c1,c2,c3,c4,l1,l2,l3,l4⟩:=HI.out.at_ ex
    have hbl:b<w.heap.size:=World.block_lt_of_cell? w _ c0
    have d0:=Zac c0 HBWR.out
    have d1:=Zac c1 HBWR.out
    have d2:=Zac c2 HBWR.out
    have d3:=Zac c3 HBWR.out
    have d4:=Zac c4 HBWR.out
    have hblr:b<wr.heap.size:=by omega
    have HX:=Zh ex
    have HF2:=Zh (HFST.out x l1 l2)
    clear ex hx hlk c0 c1 c2 c3 c4 l1 l2 l3 l4 HFST
    have HFST:=HF2
    clear HF2
    have hkn:(k:Int)<(n:Int):=by omega
    have HB1:=Zh (Zad wr (.cells #[.int .i64 x.th,.int .i64 x.rg,.string ⟨x.loc.toArray⟩,.string ⟨x.vl.toArray⟩,.int .i64 x.vn] 102 (0,0)))
    have HXB:=Zh (Blk.new wr 102 #[.int .i64 x.th,.int .i64 x.rg,.string ⟨x.loc.toArray⟩,.string ⟨x.vl.toArray⟩,.int .i64 x.vn])
    have k0:=HBR1.out.cell 0
    have k1:=HBR1.out.cell 1
    have k2:=HBR1.out.cell 2
    have k3:=HBR1.out.cell 3
    have k4:=HBR1.out.cell 4
    have k5:=HBR1.out.cell 5
    have k6:=HBR1.out.cell 6
    have k7:=HBR1.out.cell 7
    have k8:=HBR1.out.cell 8
    have k9:=HBR1.out.cell 9
    have k10:=HBR1.out.cell 10
    have k11:=HBR1.out.cell 11
    obtain⟨f,hf⟩:∃ f,Zaj 2 T.code.length x=f:=⟨_,rfl⟩
    have HFB:=Zh hf
    clear hf
    cases f
    ·have HBAD:=Zh (Zer (a:=2) (n:=T.code.length) HL.out (by rw [HN.out];exact hlt) (by rw [Zdo HX.out,HFB.out];rfl) HNO.out)
     exact m_74
    ·go_wp2_with (go_at_call 106;refine (HFST.out _).mono ?_;rw [HFB.out];rintro e w2 ⟨rfl,hb2⟩;have HB2:=Zh (Zaa HB1.out hb2);have HX2:=Zh (HXB.out.go hb2);clear hb2)
     clear k0 k1 k2 k3 k4 k5 k6 k7 k8 k9 k10 k11 d0 d1 d2 d3 d4
     obtain⟨wq,hwq⟩:∃ wq:World,wq=wr:=⟨_,rfl⟩
     subst hwq
     obtain⟨wi,hwi⟩:∃ wi:World,wi=w2:=⟨_,rfl⟩
     subst hwi
     go_loopw [5] (fun kk wr3=>∃ j:Nat,j<=k/\kk=.int .i64 j/\(T.init.take j).any (fun y=>decide (Zd4 y=Zd4 x))=false/\Below wi.heap.size wi wr3) (fun kk _=>k - (intOf kk).toNat)
     case atStart=>exact⟨0,Nat.zero_le _,rfl,by simp,Below.refl _ _⟩
     case round=>
      obtain⟨j,hj,rfl,hno2,hb2⟩:=hrel
      have HN2:=Zh hno2
      have HBJ:=Zh hb2
      have hzj:=hb2.size
      clear hno2 hb2
      by_cases hlj:j<k
      ·have hlk2:j<T.init.length:=by rw [HN.out];omega
       have ey:=List.getElem?_eq_getElem hlk2
       obtain⟨y,hy⟩:∃ y,T.init[j]=y:=⟨_,rfl⟩
       rw [hy] at ey
       obtain⟨b2,o2,e2,c0,c1,c2,c3,c4,l1,l2,l3,l4⟩:=HI.out.at_ ey
       simp only [Option.some.injEq,Addr.mk.injEq,and_true] at e2
       obtain⟨rfl,rfl⟩:=e2
       have HBW2:=Zh (Zaa HBWR.out (Zaa HB2.out HBJ.out))
       have f0:=Zac c0 HBW2.out
       have f1:=Zac c1 HBW2.out
       have f2:=Zac c2 HBW2.out
       have f3:=Zac c3 HBW2.out
       have f4:=Zac c4 HBW2.out
       have HXJ:=Zh (HX2.out.go HBJ.out)
       have g0:=HXJ.out.cell 0
       have g1:=HXJ.out.cell 1
       have g2:=HXJ.out.cell 2
       have HKJ:=Zh (HBR1.out.go (Zaa HB2.out HBJ.out))
       have k3:=HKJ.out.cell 3
       have HY:=Zh ey
       have hjn:(j:Int)<(n:Int):=by omega
       have hjk:(j:Int)<(k:Int):=by omega
       have hs1:wq.heap.size<wr.heap.size:=by have:=HXJ.out.lt;omega
       have hs2:w.heap.size<wr.heap.size:=by omega
       have hs3:b<wr.heap.size:=by omega
       clear ey hy hlk2 c0 c1 c2 c3 c4 l1 l2 l3 l4
       have HBK:=Zh (Zad wr (.cells #[.int .i64 y.th,.int .i64 y.rg,.string ⟨y.loc.toArray⟩,.string ⟨y.vl.toArray⟩,.int .i64 y.vn] 102 (0,0)))
       by_cases h1:x.th=y.th
       ·have e1:(x.th == y.th)=true:=by simpa using h1
        by_cases h2:x.rg=y.rg
        ·have e2:(x.rg == y.rg)=true:=by simpa using h2
         by_cases h3:x.loc=y.loc
         ·have e3:(x.loc == y.loc)=true:=by simpa using h3
          have HBAD:=Zh (Zer (a:=2) (n:=T.code.length) HL.out (by rw [HN.out];exact hlt) (by rw [Zdo HX.out,Zty (j:=j) (x:=y) (by rw [List.getElem?_take,if_pos hlj];exact HY.out) _ (by simp [Zd4,h1,h2,h3])];simp) HNO.out)
          exact m_134
         exact m_56
        exact m_57
       exact m_58
      ·have hjk:j=k:=by omega
       subst hjk
       have HGOOD:=Zh (show Zpn 2 T.code.length T.init j=false by rw [Zdo HX.out,HFB.out,HN2.out];rfl)
       exact m_79
   ·have HV:=Zh (Zms (a:=2) (n:=T.code.length) HL.out (fun j hj=>HNO.out j (by have:=HN.out;omega)))
    exact m_139
end
end
end Go.Proofs.YtoegmdnfbemppaaGreatDoor
