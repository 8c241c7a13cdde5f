/- Layer 13: whether a test's code may be: the reference's coded. -/
import Derived.Test.YtoegmdnfbemppaaGreatDoorTf23

namespace Go.Proofs.YtoegmdnfbemppaaGreatDoor
open Go.RowKit
section
set_option maxHeartbeats 4000000
set_option maxRecDepth 100000
theorem Z5c (x:Ins)(w:World)(h:x.loc.length<=9223372036854775807):Calls Tryz.prog 176 #[Zzt x] w fun e w'=>e=.returned (.int .i64 (Zb6 (Zpz x)))/\Below w.heap.size w w':=
 Z55 x.d x.a x.b x.imm ⟨x.loc.toArray⟩ ⟨x.label.toArray⟩ x.fence w h x.op
theorem Zr0 (x:Ins)(w:World)(h1:x.loc.length<=9223372036854775807)(h2:x.label.length<=9223372036854775807):Calls Tryz.prog 105 #[.int .i64 1,Zzt x] w fun e w'=>e=.returned (.int .i64 (Zb6 (okX 1 x)))/\Below w.heap.size w w':=by
 have HB:=Zh (Zad w (.cells #[.int .i64 x.op,.int .i64 x.d,.int .i64 x.a,.int .i64 x.b,.int .i64 x.imm,.string ⟨x.loc.toArray⟩,.string ⟨x.label.toArray⟩,.int .i64 x.fence] 77 (0,0)))
 have _h1:=h1
 have _h2:=h2
 go_enter Tryz.func105,Tryz.ntmps105
 go_wp2_with (go_at_call 176;refine (Z5c x _ h1).mono ?_;rintro e w2 ⟨rfl,hb2⟩;have HB2:=Zh hb2;clear hb2)
 go_ret
 exact⟨rfl,Zaa HB.out HB2.out⟩
theorem Zrl (x:Ins)(w:World)(h1:x.loc.length<=9223372036854775807)(h2:x.label.length<=9223372036854775807):Calls Tryz.prog 105 #[.int .i64 2,Zzt x] w fun e w'=>e=.returned (.int .i64 (Zb6 (okX 2 x)))/\Below w.heap.size w w':=by
 have HB:=Zh (Zad w (.cells #[.int .i64 x.op,.int .i64 x.d,.int .i64 x.a,.int .i64 x.b,.int .i64 x.imm,.string ⟨x.loc.toArray⟩,.string ⟨x.label.toArray⟩,.int .i64 x.fence] 77 (0,0)))
 have _h1:=h1
 have _h2:=h2
 go_enter Tryz.func105,Tryz.ntmps105
 go_wp2_with (go_at_call 169;refine (Zt1 x _ h2).mono ?_;rintro e w2 ⟨rfl,hb2⟩;have HB2:=Zh hb2;clear hb2)
 go_ret
 exact⟨rfl,Zaa HB.out HB2.out⟩
variable {w:World} {T:Tst} {Ai Ac:Option Addr} {kv:Value}
theorem Zyq (ci cc:Nat)(ha:T.arch=1)(hT:Zb4 w T Ai Ac kv):Calls Tryz.prog 51 #[Zbm T (.slice Ai T.init.length ci) (.slice Ac T.code.length cc) kv] w fun e w'=>e=.returned (.int .i64 (Zfe 1 T.code))/\Below w.heap.size w w':=by
 obtain⟨n,hn⟩:∃ n,T.code.length=n:=⟨_,rfl⟩
 have HC:=Zh (hT.code.below (Zad w (.cells #[.int .i64 1,.string ⟨T.name.toArray⟩,.string ⟨T.cycle.toArray⟩,.slice Ai T.init.length ci,.slice Ac n cc,.int .i64 T.q,.int .i64 T.k,.int .i64 T.t,.int .i64 T.r,.string ⟨T.l.toArray⟩,.int .i64 T.v,kv] 32 (0,0))))
 have HBX:=Zh (Blk.new w 32 #[.int .i64 1,.string ⟨T.name.toArray⟩,.string ⟨T.cycle.toArray⟩,.slice Ai T.init.length ci,.slice Ac n cc,.int .i64 T.q,.int .i64 T.k,.int .i64 T.t,.int .i64 T.r,.string ⟨T.l.toArray⟩,.int .i64 T.v,kv])
 have HB0:=Zh (Zad w (.cells #[.int .i64 1,.string ⟨T.name.toArray⟩,.string ⟨T.cycle.toArray⟩,.slice Ai T.init.length ci,.slice Ac n cc,.int .i64 T.q,.int .i64 T.k,.int .i64 T.t,.int .i64 T.r,.string ⟨T.l.toArray⟩,.int .i64 T.v,kv] 32 (0,0)))
 have hcl:=hT.clen
 simp only [Zbm,ha]
 have HN:=Zh hn
 rw [hn] at hcl ⊢
 clear hT ha hn
 by_cases hb1:n<1\/16<n
 ·have HV:=Zh (Zgg (a:=1) (HN.out ▸ hb1))
  exact m_78
 ·have g1:1<=n:=by omega
  have g2:n<=16:=by omega
  clear hb1
  go_enter Tryz.func51,Tryz.ntmps51
  go_wp2_with fail
  generalize hw1:w.alloc (.cells #[.int .i64 1,.string ⟨T.name.toArray⟩,.string ⟨T.cycle.toArray⟩,.slice Ai T.init.length ci,.slice Ac n cc,.int .i64 T.q,.int .i64 T.k,.int .i64 T.t,.int .i64 T.r,.string ⟨T.l.toArray⟩,.int .i64 T.v,kv] 32 (0,0))=w1 at HC HBX HB0 ⊢
  have hsz:w.heap.size<w1.heap.size:=HBX.out.lt
  have k0:=HBX.out.cm 0
  have k4:w1.cell? ⟨w.heap.size,4,none⟩=some (.slice Ac n cc):=HBX.out.cell 4
  clear hw1
  go_loop [3] (fun i=>∃ k:Nat,k<=n/\i=.int .i64 k/\∀ (j:Nat) (c:List Ins),j<k->T.code[j]?=some c->c.length<=256) (fun i=>n - (intOf i).toNat)
  case atStart=>exact⟨0,Nat.zero_le _,rfl,fun j c hj=>absurd hj (Nat.not_lt_zero _)⟩
  case round=>
   obtain⟨k,hk,rfl,hno⟩:=hrel
   have HNO:=Zh hno
   clear hno
   by_cases hlt:k<n
   ·have hlk:k<T.code.length:=by rw [HN.out];exact hlt
    exact m_23
   ·have HL:=Zh (fun (j:Nat) (c:List Ins) (hc:T.code[j]?=some c)=>HNO.out j c (by have:=(List.getElem?_eq_some_iff.1 hc).1;have:=HN.out;omega) hc)
    clear HNO hk
    go_wp2_with fail
    clear hlt
    go_loopw [4] (fun i wr=>∃ k:Nat,k<=n/\i=.int .i64 k/\(∀ (j:Nat) (c:List Ins),j<k->T.code[j]?=some c->Zi5 1 c=0)/\Below w1.heap.size w1 wr) (fun i _=>n - (intOf i).toNat)
    case atStart=>exact⟨0,Nat.zero_le _,rfl,(fun j c hj=>absurd hj (Nat.not_lt_zero _)),Below.refl _ _⟩
    case round=>
     obtain⟨k,hk,rfl,hno,hb⟩:=hrel
     have HNO:=Zh hno
     have HB:=Zh hb
     have hzr:=hb.size
     have k0r:wr.cell? ⟨w.heap.size,0,none⟩=some (.int .i64 1):=Zac k0 hb
     have k4r:wr.cell? ⟨w.heap.size,4,none⟩=some (.slice Ac n cc):=Zac k4 hb
     clear hno hb
     by_cases hlt:k<n
     ·have hlk:k<T.code.length:=by rw [HN.out];exact hlt
      have ex:=List.getElem?_eq_getElem hlk
      obtain⟨c,hx⟩:∃ c,T.code[k]=c:=⟨_,rfl⟩
      rw [hx] at ex
      obtain⟨b,o,A2,c2,rfl,hc0,hA2,hl1,hl2⟩:=HC.out.at_ ex
      have hc256:=HL.out k c ex
      have HX:=Zh ex
      have HA2:=Zh hA2
      have HC0:=Zh hc0
      have hkn:(k:Int)<(n:Int):=by omega
      clear ex hx hlk hA2 hc0
      go_wp2_with fail
      clear k0r k4r
      obtain⟨wi,hwi⟩:∃ wi:World,wi=wr:=⟨_,rfl⟩
      subst hwi
      go_loopw [5] (fun i wr=>∃ i':Nat,i'<=c.length/\i=.int .i64 i'/\(c.take i').all (okX 1)=true/\Below wi.heap.size wi wr) (fun i _=>c.length - (intOf i).toNat)
      case atStart=>exact⟨0,Nat.zero_le _,rfl,by simp,Below.refl _ _⟩
      case round=>
       obtain⟨i,hi,rfl,hall,hbi⟩:=hrel
       have HALL:=Zh hall
       have HBI:=Zh hbi
       have hzi:=hbi.size
       clear hall hbi
       have HBW:=Zh (Zaa HB.out HBI.out)
       have k0i:=Zac k0 HBW.out
       have k4i:=Zac k4 HBW.out
       have hci:=Zac HC0.out HBW.out
       have hsw:w.heap.size<wr.heap.size:=by omega
       by_cases hli:i<c.length
       ·have ey:=List.getElem?_eq_getElem hli
        obtain⟨x,hx⟩:∃ x,c[i]=x:=⟨_,rfl⟩
        rw [hx] at ey
        obtain⟨b2,o2,rfl,hC⟩:=HA2.out.at_ ey
        have hbl:=hC.lt
        obtain⟨c0,c1,c2',c3,c4,c5,c6,c7,l1,l2⟩:=hC.go HBW.out
        have HY:=Zh ey
        have HL1:=Zh l1
        have HL2:=Zh l2
        have hkl:(i:Int)<(c.length:Int):=by omega
        obtain⟨r,hr⟩:∃ r,okX 1 x=r:=⟨_,rfl⟩
        have HR:=Zh hr
        clear ey hx hC hr l1 l2
        cases r
        ·have HV:=Zh (Zgp (a:=1) (e:=91) (by rw [HN.out];exact g1) (by rw [HN.out];exact g2) HL.out HX.out (by unfold Zi5;rw [Znp HY.out HR.out];rfl) (by decide) HNO.out)
         go_wp2_with fail
         refine Zd8 10 (by kernel_rfl) (by kernel_rfl) ?_
         simp only [List.take_succ_cons,List.take_zero,List.drop_succ_cons,List.drop_zero]
         repeat still_step
         refine wpStill_nil ?_
         go_wp2_with (go_at_call 105;refine (Zr0 x _ HL1.out HL2.out).mono ?_;rw [HR.out];rintro e w2 ⟨rfl,hb2⟩;have HB2:=Zh (Zar hb2);clear hb2)
         go_ret
         exact⟨Zah HV.out.symm,Zaa HB0.out (Zaa HBW.out HB2.out)⟩
        ·skip
         go_wp2_with fail
         refine Zd8 10 (by kernel_rfl) (by kernel_rfl) ?_
         simp only [List.take_succ_cons,List.take_zero,List.drop_succ_cons,List.drop_zero]
         repeat still_step
         refine wpStill_nil ?_
         go_wp2_with (go_at_call 105;refine (Zr0 x _ HL1.out HL2.out).mono ?_;rw [HR.out];rintro e w2 ⟨rfl,hb2⟩;have HB2:=Zh (Zar hb2);clear hb2)
         go_roundw
         case rel=>exact⟨i+1,by omega,by go_num,by rw [Zjf HY.out,HALL.out,HR.out];rfl,Zaa HBI.out HB2.out⟩
         case measure=>simp [intOf];omega
       exact m_47
     exact m_71
theorem Zyr (ci cc:Nat)(ha:T.arch=2)(hT:Zb4 w T Ai Ac kv):Calls Tryz.prog 51 #[Zbm T (.slice Ai T.init.length ci) (.slice Ac T.code.length cc) kv] w fun e w'=>e=.returned (.int .i64 (Zfe 2 T.code))/\Below w.heap.size w w':=by
 obtain⟨n,hn⟩:∃ n,T.code.length=n:=⟨_,rfl⟩
 have HC:=Zh (hT.code.below (Zad w (.cells #[.int .i64 2,.string ⟨T.name.toArray⟩,.string ⟨T.cycle.toArray⟩,.slice Ai T.init.length ci,.slice Ac n cc,.int .i64 T.q,.int .i64 T.k,.int .i64 T.t,.int .i64 T.r,.string ⟨T.l.toArray⟩,.int .i64 T.v,kv] 32 (0,0))))
 have HBX:=Zh (Blk.new w 32 #[.int .i64 2,.string ⟨T.name.toArray⟩,.string ⟨T.cycle.toArray⟩,.slice Ai T.init.length ci,.slice Ac n cc,.int .i64 T.q,.int .i64 T.k,.int .i64 T.t,.int .i64 T.r,.string ⟨T.l.toArray⟩,.int .i64 T.v,kv])
 have HB0:=Zh (Zad w (.cells #[.int .i64 2,.string ⟨T.name.toArray⟩,.string ⟨T.cycle.toArray⟩,.slice Ai T.init.length ci,.slice Ac n cc,.int .i64 T.q,.int .i64 T.k,.int .i64 T.t,.int .i64 T.r,.string ⟨T.l.toArray⟩,.int .i64 T.v,kv] 32 (0,0)))
 have hcl:=hT.clen
 simp only [Zbm,ha]
 have HN:=Zh hn
 rw [hn] at hcl ⊢
 clear hT ha hn
 by_cases hb1:n<1\/16<n
 ·have HV:=Zh (Zgg (a:=2) (HN.out ▸ hb1))
  exact m_78
 ·have g1:1<=n:=by omega
  have g2:n<=16:=by omega
  clear hb1
  go_enter Tryz.func51,Tryz.ntmps51
  go_wp2_with fail
  generalize hw1:w.alloc (.cells #[.int .i64 2,.string ⟨T.name.toArray⟩,.string ⟨T.cycle.toArray⟩,.slice Ai T.init.length ci,.slice Ac n cc,.int .i64 T.q,.int .i64 T.k,.int .i64 T.t,.int .i64 T.r,.string ⟨T.l.toArray⟩,.int .i64 T.v,kv] 32 (0,0))=w1 at HC HBX HB0 ⊢
  have hsz:w.heap.size<w1.heap.size:=HBX.out.lt
  have k0:=HBX.out.cm 0
  have k4:w1.cell? ⟨w.heap.size,4,none⟩=some (.slice Ac n cc):=HBX.out.cell 4
  clear hw1
  go_loop [3] (fun i=>∃ k:Nat,k<=n/\i=.int .i64 k/\∀ (j:Nat) (c:List Ins),j<k->T.code[j]?=some c->c.length<=256) (fun i=>n - (intOf i).toNat)
  case atStart=>exact⟨0,Nat.zero_le _,rfl,fun j c hj=>absurd hj (Nat.not_lt_zero _)⟩
  case round=>
   obtain⟨k,hk,rfl,hno⟩:=hrel
   have HNO:=Zh hno
   clear hno
   by_cases hlt:k<n
   ·have hlk:k<T.code.length:=by rw [HN.out];exact hlt
    exact m_24
   ·have HL:=Zh (fun (j:Nat) (c:List Ins) (hc:T.code[j]?=some c)=>HNO.out j c (by have:=(List.getElem?_eq_some_iff.1 hc).1;have:=HN.out;omega) hc)
    clear HNO hk
    go_wp2_with fail
    clear hlt
    go_loopw [4] (fun i wr=>∃ k:Nat,k<=n/\i=.int .i64 k/\(∀ (j:Nat) (c:List Ins),j<k->T.code[j]?=some c->Zi5 2 c=0)/\Below w1.heap.size w1 wr) (fun i _=>n - (intOf i).toNat)
    case atStart=>exact⟨0,Nat.zero_le _,rfl,(fun j c hj=>absurd hj (Nat.not_lt_zero _)),Below.refl _ _⟩
    case round=>
     obtain⟨k,hk,rfl,hno,hb⟩:=hrel
     have HNO:=Zh hno
     have HB:=Zh hb
     have hzr:=hb.size
     have k0r:wr.cell? ⟨w.heap.size,0,none⟩=some (.int .i64 2):=Zac k0 hb
     have k4r:wr.cell? ⟨w.heap.size,4,none⟩=some (.slice Ac n cc):=Zac k4 hb
     clear hno hb
     by_cases hlt:k<n
     ·have hlk:k<T.code.length:=by rw [HN.out];exact hlt
      have ex:=List.getElem?_eq_getElem hlk
      obtain⟨c,hx⟩:∃ c,T.code[k]=c:=⟨_,rfl⟩
      rw [hx] at ex
      obtain⟨b,o,A2,c2,rfl,hc0,hA2,hl1,hl2⟩:=HC.out.at_ ex
      have hc256:=HL.out k c ex
      have HX:=Zh ex
      have HA2:=Zh hA2
      have HC0:=Zh hc0
      have hkn:(k:Int)<(n:Int):=by omega
      clear ex hx hlk hA2 hc0
      go_wp2_with fail
      clear k0r k4r
      obtain⟨wi,hwi⟩:∃ wi:World,wi=wr:=⟨_,rfl⟩
      subst hwi
      go_loopw [5] (fun i wr=>∃ i':Nat,i'<=c.length/\i=.int .i64 i'/\(c.take i').all (okX 2)=true/\Below wi.heap.size wi wr) (fun i _=>c.length - (intOf i).toNat)
      case atStart=>exact⟨0,Nat.zero_le _,rfl,by simp,Below.refl _ _⟩
      case round=>
       obtain⟨i,hi,rfl,hall,hbi⟩:=hrel
       have HALL:=Zh hall
       have HBI:=Zh hbi
       have hzi:=hbi.size
       clear hall hbi
       have HBW:=Zh (Zaa HB.out HBI.out)
       have k0i:=Zac k0 HBW.out
       have k4i:=Zac k4 HBW.out
       have hci:=Zac HC0.out HBW.out
       have hsw:w.heap.size<wr.heap.size:=by omega
       by_cases hli:i<c.length
       ·have ey:=List.getElem?_eq_getElem hli
        obtain⟨x,hx⟩:∃ x,c[i]=x:=⟨_,rfl⟩
        rw [hx] at ey
        obtain⟨b2,o2,rfl,hC⟩:=HA2.out.at_ ey
        have hbl:=hC.lt
        obtain⟨c0,c1,c2',c3,c4,c5,c6,c7,l1,l2⟩:=hC.go HBW.out
        have HY:=Zh ey
        have HL1:=Zh l1
        have HL2:=Zh l2
        have hkl:(i:Int)<(c.length:Int):=by omega
        obtain⟨r,hr⟩:∃ r,okX 2 x=r:=⟨_,rfl⟩
        have HR:=Zh hr
        clear ey hx hC hr l1 l2
        cases r
        ·have HV:=Zh (Zgp (a:=2) (e:=91) (by rw [HN.out];exact g1) (by rw [HN.out];exact g2) HL.out HX.out (by unfold Zi5;rw [Znp HY.out HR.out];rfl) (by decide) HNO.out)
         go_wp2_with fail
         refine Zd8 10 (by kernel_rfl) (by kernel_rfl) ?_
         simp only [List.take_succ_cons,List.take_zero,List.drop_succ_cons,List.drop_zero]
         repeat still_step
         refine wpStill_nil ?_
         go_wp2_with (go_at_call 105;refine (Zrl x _ HL1.out HL2.out).mono ?_;rw [HR.out];rintro e w2 ⟨rfl,hb2⟩;have HB2:=Zh (Zar hb2);clear hb2)
         go_ret
         exact⟨Zah HV.out.symm,Zaa HB0.out (Zaa HBW.out HB2.out)⟩
        ·skip
         go_wp2_with fail
         refine Zd8 10 (by kernel_rfl) (by kernel_rfl) ?_
         simp only [List.take_succ_cons,List.take_zero,List.drop_succ_cons,List.drop_zero]
         repeat still_step
         refine wpStill_nil ?_
         go_wp2_with (go_at_call 105;refine (Zrl x _ HL1.out HL2.out).mono ?_;rw [HR.out];rintro e w2 ⟨rfl,hb2⟩;have HB2:=Zh (Zar hb2);clear hb2)
         go_roundw
         case rel=>exact⟨i+1,by omega,by go_num,by rw [Zjf HY.out,HALL.out,HR.out];rfl,Zaa HBI.out HB2.out⟩
         case measure=>simp [intOf];omega
       ·have HALC:=Zh (show c.all (okX 2)=true by have:=HALL.out;rwa [List.take_of_length_le (by omega)] at this)
        clear HALL
        have HTH:=Zh (show Zi5 2 c=(Zfc c).1 by unfold Zi5;rw [HALC.out];rfl)
        by_cases hE:(Zfc c).1=0
        ·go_wp2_with (go_at_call 102;refine (Zzy c A2 c2 wr hc256 (HA2.out.below HBW.out)).mono ?_;rintro e w2 ⟨hres,hb2⟩;have HB2:=Zh hb2;clear hb2;(rcases hres with ⟨hne,rfl⟩ | ⟨heq,A3,c3,rfl,hat3⟩;exact absurd hE hne))
         exact m_73
        ·have HV:=Zh (Zgp (a:=2) (by rw [HN.out];exact g1) (by rw [HN.out];exact g2) HL.out HX.out HTH.out hE HNO.out)
         have hE2:((Zfc c).1 != 0)=true:=by simpa using hE
         have hE3:((Zfc c).1 == 0)=false:=by simpa using hE
         go_wp2_with (go_at_call 102;refine (Zzy c A2 c2 wr hc256 (HA2.out.below HBW.out)).mono ?_;rintro e w2 ⟨hres,hb2⟩;have HB2:=Zh hb2;clear hb2;(rcases hres with ⟨hne,rfl⟩ | ⟨heq,A3,c3,rfl,hat3⟩;rotate_left;exact absurd heq hE))
         exact m_142
     exact m_72
end
end Go.Proofs.YtoegmdnfbemppaaGreatDoor
