/- Layer 13: whether a test's code may be: plain, and the program's coded. -/
import Derived.Test.YtoegmdnfbemppaaGreatDoorTf15
import Derived.Test.YtoegmdnfbemppaaGreatDoorTf18

namespace Go.Proofs.YtoegmdnfbemppaaGreatDoor
open Go.RowKit
section
def Zpz (x:Ins):Bool:=Zh8 x.op x.d x.a x.b x.imm ⟨x.loc.toArray⟩ ⟨x.label.toArray⟩ x.fence
def okX (arch:Int)(x:Ins):Bool:=if arch=1 then Zpz x else Zkx x
def Zi5 (arch:Int)(c:List Ins):Int:=if c.all (okX arch) then (if arch=2 then (Zfc c).1 else 0) else 91
def Zfe (arch:Int)(cs:List (List Ins)):Int:=
 if cs.length<1\/16<cs.length\/cs.any (fun c=>decide (256<c.length))=true then 2
 else ((cs.map (Zi5 arch)).find? (fun e=>decide (e≠0))).getD 0
theorem Zgg {a:Int}{cs:List (List Ins)}(h:cs.length<1\/16<cs.length):Zfe a cs=2:=by
 unfold Zfe
 rw [if_pos]
 rcases h with h | h
 ·exact Or.inl h
 ·exact Or.inr (Or.inl h)
theorem Ze4 {a:Int}{cs:List (List Ins)}{k:Nat}{c:List Ins}(h:cs[k]?=some c)(h2:256<c.length):Zfe a cs=2:=by
 unfold Zfe
 rw [if_pos]
 exact Or.inr (Or.inr (List.any_eq_true.2 ⟨c,List.mem_of_getElem? h,by simpa using h2⟩))
theorem Zxg {l:List Int}{k:Nat}{e:Int}(h:l[k]?=some e)(he:e≠0)(hn:∀ (j:Nat) (x:Int),j<k->l[j]?=some x->x=0):(l.find? (fun e=>decide (e≠0))).getD 0=e:=by
 induction l generalizing k with
 | nil=>simp at h
 | cons y l ih=>
  cases k with
  | zero=>simp at h;subst h;simp [he]
  | succ k=>
   have hy:y=0:=hn 0 y (by omega) (by simp)
   subst hy
   simp only [List.getElem?_cons_succ] at h
   rw [List.find?_cons]
   simp only [ne_eq,not_true_eq_false,decide_false]
   exact ih h (fun j x hj hx=>hn (j+1) x (by omega) (by simpa using hx))
theorem Zmf {a:Int}{cs:List (List Ins)}(h1:1<=cs.length)(h2:cs.length<=16)(h3:∀ (j:Nat) (c:List Ins),cs[j]?=some c->c.length<=256):Zfe a cs=((cs.map (Zi5 a)).find? (fun e=>decide (e≠0))).getD 0:=by
 unfold Zfe
 rw [if_neg]
 rintro (h | h | h)
 ·omega
 ·omega
 ·rw [List.any_eq_true] at h
  obtain⟨c,hc,hl⟩:=h
  obtain⟨j,hj⟩:=List.getElem?_of_mem hc
  have:=h3 j c hj
  simp at hl;omega
theorem Zgp {a:Int}{cs:List (List Ins)}(h1:1<=cs.length)(h2:cs.length<=16)(h3:∀ (j:Nat) (c:List Ins),cs[j]?=some c->c.length<=256){k:Nat}{c:List Ins}(h:cs[k]?=some c){e:Int}(ht:Zi5 a c=e)(he:e≠0)
  (hn:∀ (j:Nat) (c:List Ins),j<k->cs[j]?=some c->Zi5 a c=0):Zfe a cs=e:=by
 rw [Zmf h1 h2 h3]
 refine Zxg (k:=k) (by rw [List.getElem?_map,h];simp [ht]) he (fun j x hj hx=>?_)
 rw [List.getElem?_map] at hx
 obtain⟨c',hc',rfl⟩:=Option.map_eq_some_iff.1 hx
 exact hn j c' hj hc'
theorem Zmd {a:Int}{cs:List (List Ins)}(h1:1<=cs.length)(h2:cs.length<=16)(h3:∀ (j:Nat) (c:List Ins),cs[j]?=some c->c.length<=256)(hn:∀ (j:Nat) (c:List Ins),cs[j]?=some c->Zi5 a c=0):Zfe a cs=0:=by
 rw [Zmf h1 h2 h3,List.find?_eq_none.2]
 ·rfl
 ·intro x hx
  rw [List.mem_map] at hx
  obtain⟨c,hc,rfl⟩:=hx
  obtain⟨j,hj⟩:=List.getElem?_of_mem hc
  simp [hn j c hj]
theorem Zjf {c:List Ins}{j:Nat}{x:Ins}(h:c[j]?=some x)(p:Ins->Bool):(c.take (j+1)).all p=((c.take j).all p&&p x):=by
 obtain⟨h1,rfl⟩:=List.getElem?_eq_some_iff.1 h
 rw [List.take_succ_eq_append_getElem h1,List.all_append]
 simp
theorem Znp {c:List Ins}{j:Nat}{x:Ins}(h:c[j]?=some x){p:Ins->Bool}(hp:p x=false):c.all p=false:=by
 rw [List.all_eq_false]
 exact⟨x,List.mem_of_getElem? h,by simp [hp]⟩
theorem Zzs (x:Ins)(w:World)(h:x.loc.length<=9223372036854775807):Calls Tryz.prog 113 #[Zzt x] w fun e w'=>e=.returned (.int .i64 (Zb6 (Zpz x)))/\Below w.heap.size w w':=
 Z6e x.d x.a x.b x.imm ⟨x.loc.toArray⟩ ⟨x.label.toArray⟩ x.fence w h x.op
theorem Zkg.at_ {w:World}{A:Option Addr}{cs:List (List Ins)}(h:Zkg w A cs){i:Nat}{c:List Ins}(hc:cs[i]?=some c):∃ b o A2 c2,A=some ⟨b,o,none⟩/\w.cell? ⟨b,o+i,none⟩=some (.slice A2 c.length c2)/\Zcm w A2 c/\c.length<=9223372036854775806/\c.length<=c2:=h i c hc
section
set_option maxHeartbeats 4000000
set_option maxRecDepth 100000
variable {w:World} {T:Tst} {Ai Ac:Option Addr} {kv:Value}
theorem Zyc (ci cc:Nat)(ha:T.arch=1)(hT:Zb4 w T Ai Ac kv):Calls Tryz.prog 81 #[Zbm T (.slice Ai T.init.length ci) (.slice Ac T.code.length cc) kv] w fun e w'=>e=.returned (.int .i64 (Zfe 1 T.code))/\Below w.heap.size w w':=by
 have HC:=Zh (hT.code.below (Zad w (.cells #[.int .i64 1,.string ⟨T.name.toArray⟩,.string ⟨T.cycle.toArray⟩,.slice Ai T.init.length ci,.slice Ac T.code.length cc,.int .i64 T.q,.int .i64 T.k,.int .i64 T.t,.int .i64 T.r,.string ⟨T.l.toArray⟩,.int .i64 T.v,kv] 32 (0,0))))
 have HBX:=Zh (Blk.new w 32 #[.int .i64 1,.string ⟨T.name.toArray⟩,.string ⟨T.cycle.toArray⟩,.slice Ai T.init.length ci,.slice Ac T.code.length cc,.int .i64 T.q,.int .i64 T.k,.int .i64 T.t,.int .i64 T.r,.string ⟨T.l.toArray⟩,.int .i64 T.v,kv])
 have HB0:=Zh (Zad w (.cells #[.int .i64 1,.string ⟨T.name.toArray⟩,.string ⟨T.cycle.toArray⟩,.slice Ai T.init.length ci,.slice Ac T.code.length cc,.int .i64 T.q,.int .i64 T.k,.int .i64 T.t,.int .i64 T.r,.string ⟨T.l.toArray⟩,.int .i64 T.v,kv] 32 (0,0)))
 have hcl:=hT.clen
 simp only [Zbm,ha]
 clear hT ha
 obtain⟨n,hn⟩:∃ n,T.code.length=n:=⟨_,rfl⟩
 have HN:=Zh hn
 rw [hn] at HBX HB0 hcl ⊢
 rw [hn] at HC
 by_cases hb1:n<1\/16<n
 ·have HV:=Zh (Zgg (a:=1) (hn ▸ hb1))
  exact m_81
 ·have g1:1<=n:=by omega
  have g2:n<=16:=by omega
  clear hb1
  go_enter Tryz.func81,Tryz.ntmps81
  go_wp2_with fail
  generalize hw1:w.alloc (.cells #[.int .i64 1,.string ⟨T.name.toArray⟩,.string ⟨T.cycle.toArray⟩,.slice Ai T.init.length ci,.slice Ac n cc,.int .i64 T.q,.int .i64 T.k,.int .i64 T.t,.int .i64 T.r,.string ⟨T.l.toArray⟩,.int .i64 T.v,kv] 32 (0,0))=w1 at HC HBX HB0 ⊢
  have hsz:w.heap.size<w1.heap.size:=HBX.out.lt
  have k0:=HBX.out.cell 0
  have k4:=HBX.out.cell 4
  clear hw1
  go_loop [25] (fun i=>∃ k:Nat,k<=n/\i=.int .i64 k/\∀ (j:Nat) (c:List Ins),j<k->T.code[j]?=some c->c.length<=256) (fun i=>n - (intOf i).toNat)
  case atStart=>exact⟨0,Nat.zero_le _,rfl,fun j c hj=>absurd hj (Nat.not_lt_zero _)⟩
  case round=>
   obtain⟨k,hk,rfl,hno⟩:=hrel
   have HNO:=Zh hno
   clear hno
   by_cases hlt:k<n
   ·have hlk:k<T.code.length:=by rw [HN.out];exact hlt
    exact m_23
   ·have HL:=Zh (fun (j:Nat) (c:List Ins) (hc:T.code[j]?=some c)=>HNO.out j c (by have:=(List.getElem?_eq_some_iff.1 hc).1;have:=HN.out;omega) hc)
    clear HNO hk
    go_wp2_with fail
    go_loopw [36] (fun i wr=>∃ k:Nat,k<=n/\i=.int .i64 k/\(∀ (j:Nat) (c:List Ins),j<k->T.code[j]?=some c->Zi5 1 c=0)/\Below w1.heap.size w1 wr) (fun i _=>n - (intOf i).toNat)
    case atStart=>exact⟨0,Nat.zero_le _,rfl,(fun j c hj=>absurd hj (Nat.not_lt_zero _)),Below.refl _ _⟩
    case round=>
     obtain⟨k,hk,rfl,hno,hb⟩:=hrel
     have HNO:=Zh hno
     have HB:=Zh hb
     have hzr:=hb.size
     clear hno hb
     by_cases hlt:k<n
     ·have hlk:k<T.code.length:=by rw [HN.out];exact hlt
      have ex:=List.getElem?_eq_getElem hlk
      obtain⟨c,hx⟩:∃ c,T.code[k]=c:=⟨_,rfl⟩
      rw [hx] at ex
      obtain⟨b,o,A2,c2,rfl,hc0,hA2,hl1,hl2⟩:=HC.out.at_ ex
      have hc256:=HL.out k c ex
      have HX:=Zh ex
      have HA2:=Zh hA2
      have hkn:(k:Int)<(n:Int):=by omega
      have hc0r:=Zac hc0 HB.out
      clear ex hx hlk hA2 hc0
      go_wp2_with fail
      obtain⟨wi,hwi⟩:∃ wi:World,wi=wr:=⟨_,rfl⟩
      subst hwi
      go_loopw [42] (fun i wr=>∃ i':Nat,i'<=c.length/\i=.int .i64 i'/\(c.take i').all (okX 1)=true/\Below wi.heap.size wi wr) (fun i _=>c.length - (intOf i).toNat)
      case atStart=>exact⟨0,Nat.zero_le _,rfl,by simp,Below.refl _ _⟩
      case round=>
       obtain⟨i,hi,rfl,hall,hbi⟩:=hrel
       have HALL:=Zh hall
       have HBI:=Zh hbi
       have hzi:=hbi.size
       clear hall hbi
       have HBW:=Zh (Zaa HB.out HBI.out)
       have k0i:wr.cell? ⟨w.heap.size,0,none⟩=some (.int .i64 1):=(HBX.out.go HBW.out).cell 0
       have hsw:w.heap.size<wr.heap.size:=by omega
       by_cases hli:i<c.length
       ·have ey:=List.getElem?_eq_getElem hli
        obtain⟨x,hx⟩:∃ x,c[i]=x:=⟨_,rfl⟩
        rw [hx] at ey
        obtain⟨b2,o2,rfl,hC⟩:=HA2.out.at_ ey
        have hbl:=hC.lt
        obtain⟨c0,c1,c2',c3,c4,c5,c6,c7,l1,l2⟩:=hC.go HBW.out
        have HY:=Zh ey
        have HL1:=Zh l1
        have HL2:=Zh l2
        have hkl:(i:Int)<(c.length:Int):=by omega
        obtain⟨r,hr⟩:∃ r,okX 1 x=r:=⟨_,rfl⟩
        have HR:=Zh hr
        have HR2:=Zh (show Zpz x=r by rw [<- hr];rfl)
        clear ey hx hC hr l1 l2
        have HB1:=Zh (Zad wr (.cells #[.int .i64 x.op,.int .i64 x.d,.int .i64 x.a,.int .i64 x.b,.int .i64 x.imm,.string ⟨x.loc.toArray⟩,.string ⟨x.label.toArray⟩,.int .i64 x.fence] 77 (0,0)))
        cases r
        ·have HV:=Zh (Zgp (a:=1) (e:=91) (by rw [HN.out];exact g1) (by rw [HN.out];exact g2) HL.out HX.out (by unfold Zi5;rw [Znp HY.out HR.out];rfl) (by decide) HNO.out)
         go_wp2_with (go_at_call 113;refine (Zzs x _ HL1.out).mono ?_;rw [HR2.out];rintro e w2 ⟨rfl,hb2⟩;have HB2:=Zh (Zaa HB1.out hb2);clear hb2;have k02:w2.cell? ⟨w.heap.size,0,none⟩=some (.int .i64 1):=(HBX.out.go (Zaa HBW.out HB2.out)).cell 0)
         exact m_142
        ·go_wp2_with (go_at_call 113;refine (Zzs x _ HL1.out).mono ?_;rw [HR2.out];rintro e w2 ⟨rfl,hb2⟩;have HB2:=Zh (Zaa HB1.out hb2);clear hb2;have k02:w2.cell? ⟨w.heap.size,0,none⟩=some (.int .i64 1):=(HBX.out.go (Zaa HBW.out HB2.out)).cell 0)
         exact m_112
       exact m_47
     exact m_71
theorem Zzm (ci cc:Nat)(ha:T.arch=2)(hT:Zb4 w T Ai Ac kv):Calls Tryz.prog 81 #[Zbm T (.slice Ai T.init.length ci) (.slice Ac T.code.length cc) kv] w fun e w'=>e=.returned (.int .i64 (Zfe 2 T.code))/\Below w.heap.size w w':=by
 have HC:=Zh (hT.code.below (Zad w (.cells #[.int .i64 2,.string ⟨T.name.toArray⟩,.string ⟨T.cycle.toArray⟩,.slice Ai T.init.length ci,.slice Ac T.code.length cc,.int .i64 T.q,.int .i64 T.k,.int .i64 T.t,.int .i64 T.r,.string ⟨T.l.toArray⟩,.int .i64 T.v,kv] 32 (0,0))))
 have HBX:=Zh (Blk.new w 32 #[.int .i64 2,.string ⟨T.name.toArray⟩,.string ⟨T.cycle.toArray⟩,.slice Ai T.init.length ci,.slice Ac T.code.length cc,.int .i64 T.q,.int .i64 T.k,.int .i64 T.t,.int .i64 T.r,.string ⟨T.l.toArray⟩,.int .i64 T.v,kv])
 have HB0:=Zh (Zad w (.cells #[.int .i64 2,.string ⟨T.name.toArray⟩,.string ⟨T.cycle.toArray⟩,.slice Ai T.init.length ci,.slice Ac T.code.length cc,.int .i64 T.q,.int .i64 T.k,.int .i64 T.t,.int .i64 T.r,.string ⟨T.l.toArray⟩,.int .i64 T.v,kv] 32 (0,0)))
 have hcl:=hT.clen
 simp only [Zbm,ha]
 clear hT ha
 obtain⟨n,hn⟩:∃ n,T.code.length=n:=⟨_,rfl⟩
 have HN:=Zh hn
 rw [hn] at HBX HB0 hcl ⊢
 rw [hn] at HC
 by_cases hb1:n<1\/16<n
 ·have HV:=Zh (Zgg (a:=2) (hn ▸ hb1))
  exact m_81
 ·have g1:1<=n:=by omega
  have g2:n<=16:=by omega
  clear hb1
  go_enter Tryz.func81,Tryz.ntmps81
  go_wp2_with fail
  generalize hw1:w.alloc (.cells #[.int .i64 2,.string ⟨T.name.toArray⟩,.string ⟨T.cycle.toArray⟩,.slice Ai T.init.length ci,.slice Ac n cc,.int .i64 T.q,.int .i64 T.k,.int .i64 T.t,.int .i64 T.r,.string ⟨T.l.toArray⟩,.int .i64 T.v,kv] 32 (0,0))=w1 at HC HBX HB0 ⊢
  have hsz:w.heap.size<w1.heap.size:=HBX.out.lt
  have k0:=HBX.out.cell 0
  have k4:=HBX.out.cell 4
  clear hw1
  go_loop [25] (fun i=>∃ k:Nat,k<=n/\i=.int .i64 k/\∀ (j:Nat) (c:List Ins),j<k->T.code[j]?=some c->c.length<=256) (fun i=>n - (intOf i).toNat)
  case atStart=>exact⟨0,Nat.zero_le _,rfl,fun j c hj=>absurd hj (Nat.not_lt_zero _)⟩
  case round=>
   obtain⟨k,hk,rfl,hno⟩:=hrel
   have HNO:=Zh hno
   clear hno
   by_cases hlt:k<n
   ·have hlk:k<T.code.length:=by rw [HN.out];exact hlt
    exact m_24
   ·have HL:=Zh (fun (j:Nat) (c:List Ins) (hc:T.code[j]?=some c)=>HNO.out j c (by have:=(List.getElem?_eq_some_iff.1 hc).1;have:=HN.out;omega) hc)
    clear HNO hk
    go_wp2_with fail
    go_loopw [36] (fun i wr=>∃ k:Nat,k<=n/\i=.int .i64 k/\(∀ (j:Nat) (c:List Ins),j<k->T.code[j]?=some c->Zi5 2 c=0)/\Below w1.heap.size w1 wr) (fun i _=>n - (intOf i).toNat)
    case atStart=>exact⟨0,Nat.zero_le _,rfl,(fun j c hj=>absurd hj (Nat.not_lt_zero _)),Below.refl _ _⟩
    case round=>
     obtain⟨k,hk,rfl,hno,hb⟩:=hrel
     have HNO:=Zh hno
     have HB:=Zh hb
     have hzr:=hb.size
     clear hno hb
     by_cases hlt:k<n
     ·have hlk:k<T.code.length:=by rw [HN.out];exact hlt
      have ex:=List.getElem?_eq_getElem hlk
      obtain⟨c,hx⟩:∃ c,T.code[k]=c:=⟨_,rfl⟩
      rw [hx] at ex
      obtain⟨b,o,A2,c2,rfl,hc0,hA2,hl1,hl2⟩:=HC.out.at_ ex
      have hc256:=HL.out k c ex
      have HX:=Zh ex
      have HA2:=Zh hA2
      have hkn:(k:Int)<(n:Int):=by omega
      have hc0r:=Zac hc0 HB.out
      clear ex hx hlk hA2 hc0
      go_wp2_with fail
      obtain⟨wi,hwi⟩:∃ wi:World,wi=wr:=⟨_,rfl⟩
      subst hwi
      go_loopw [42] (fun i wr=>∃ i':Nat,i'<=c.length/\i=.int .i64 i'/\(c.take i').all (okX 2)=true/\Below wi.heap.size wi wr) (fun i _=>c.length - (intOf i).toNat)
      case atStart=>exact⟨0,Nat.zero_le _,rfl,by simp,Below.refl _ _⟩
      case round=>
       obtain⟨i,hi,rfl,hall,hbi⟩:=hrel
       have HALL:=Zh hall
       have HBI:=Zh hbi
       have hzi:=hbi.size
       clear hall hbi
       have HBW:=Zh (Zaa HB.out HBI.out)
       have k0i:wr.cell? ⟨w.heap.size,0,none⟩=some (.int .i64 2):=(HBX.out.go HBW.out).cell 0
       have hsw:w.heap.size<wr.heap.size:=by omega
       by_cases hli:i<c.length
       ·have ey:=List.getElem?_eq_getElem hli
        obtain⟨x,hx⟩:∃ x,c[i]=x:=⟨_,rfl⟩
        rw [hx] at ey
        obtain⟨b2,o2,rfl,hC⟩:=HA2.out.at_ ey
        have hbl:=hC.lt
        obtain⟨c0,c1,c2',c3,c4,c5,c6,c7,l1,l2⟩:=hC.go HBW.out
        have HY:=Zh ey
        have HL1:=Zh l1
        have HL2:=Zh l2
        have hkl:(i:Int)<(c.length:Int):=by omega
        obtain⟨r,hr⟩:∃ r,okX 2 x=r:=⟨_,rfl⟩
        have HR:=Zh hr
        have HR2:=Zh (show Zkx x=r by rw [<- hr];rfl)
        clear ey hx hC hr l1 l2
        have HB1:=Zh (Zad wr (.cells #[.int .i64 x.op,.int .i64 x.d,.int .i64 x.a,.int .i64 x.b,.int .i64 x.imm,.string ⟨x.loc.toArray⟩,.string ⟨x.label.toArray⟩,.int .i64 x.fence] 77 (0,0)))
        cases r
        ·have HV:=Zh (Zgp (a:=2) (e:=91) (by rw [HN.out];exact g1) (by rw [HN.out];exact g2) HL.out HX.out (by unfold Zi5;rw [Znp HY.out HR.out];rfl) (by decide) HNO.out)
         go_wp2_with (go_at_call 146;refine (Zrr x _ HL2.out).mono ?_;rw [HR2.out];rintro e w2 ⟨rfl,hb2⟩;have HB2:=Zh (Zaa HB1.out hb2);clear hb2;have k02:w2.cell? ⟨w.heap.size,0,none⟩=some (.int .i64 2):=(HBX.out.go (Zaa HBW.out HB2.out)).cell 0)
         exact m_142
        ·go_wp2_with (go_at_call 146;refine (Zrr x _ HL2.out).mono ?_;rw [HR2.out];rintro e w2 ⟨rfl,hb2⟩;have HB2:=Zh (Zaa HB1.out hb2);clear hb2;have k02:w2.cell? ⟨w.heap.size,0,none⟩=some (.int .i64 2):=(HBX.out.go (Zaa HBW.out HB2.out)).cell 0)
         exact m_112
       ·have HALC:=Zh (show c.all (okX 2)=true by have:=HALL.out;rwa [List.take_of_length_le (by omega)] at this)
        clear HALL
        have HTH:=Zh (show Zi5 2 c=(Zfc c).1 by unfold Zi5;rw [HALC.out];rfl)
        by_cases hE:(Zfc c).1=0
        ·go_wp2_with (go_at_call 117;refine (Zzr c A2 c2 wr hc256 hl2 (HA2.out.below HBW.out)).mono ?_;rintro e w2 ⟨hres,hb2⟩;have HB2:=Zh hb2;clear hb2;(rcases hres with ⟨hne,rfl⟩ | ⟨heq,g,hg,rfl,hblk⟩;exact absurd hE hne))
         exact m_73
        ·have HV:=Zh (Zgp (a:=2) (by rw [HN.out];exact g1) (by rw [HN.out];exact g2) HL.out HX.out HTH.out hE HNO.out)
         have hE2:((Zfc c).1 != 0)=true:=by simpa using hE
         have hE3:((Zfc c).1 == 0)=false:=by simpa using hE
         go_wp2_with (go_at_call 117;refine (Zzr c A2 c2 wr hc256 hl2 (HA2.out.below HBW.out)).mono ?_;rintro e w2 ⟨hres,hb2⟩;have HB2:=Zh hb2;clear hb2;(rcases hres with ⟨hne,rfl⟩ | ⟨heq,g,hg,rfl,hblk⟩;rotate_left;exact absurd heq hE))
         exact m_142
     exact m_72
end
end
section
def Zhm (c:List Ins)(w:World)(e:Ending)(w':World):Prop:=
 (((Zfc c).1≠0/\e=.returned (.tuple #[.slice none 0 0,.int .i64 (Zfc c).1,.int .i64 ((Zfc c).2:Int)]))\/
   ((Zfc c).1=0/\∃ A cap,e=.returned (.tuple #[.slice A c.length cap,.int .i64 0,.int .i64 0])/\Zey.At w' A (Znh c)))/\Below w.heap.size w w'
def Zov (c:List Ins)(w:World)(e:Ending)(w':World):Prop:=
 (((Zfc c).1≠0/\e=.returned (.tuple #[.slice none 0 0,.int .i64 (Zfc c).1,.int .i64 ((Zfc c).2:Int)]))\/
   ((Zfc c).1=0/\∃ A cap,e=.returned (.tuple #[.slice A c.length cap,.int .i64 0,.int .i64 0])/\Zey.At w' A (Znh c)/\Zey.Own 3 w.heap.size w' (.slice A c.length cap) (Znh c)))/\Below w.heap.size w w'
theorem Zhm.bad {c:List Ins}{w w':World}{e:Ending}(h:(Zfc c).1≠0)(he:e=.returned (.tuple #[.slice none 0 0,.int .i64 (Zfc c).1,.int .i64 ((Zfc c).2:Int)]))(hb:Below w.heap.size w w'):Zov c w e w':=⟨Or.inl ⟨h,he⟩,hb⟩
theorem Zt1 (x:Ins)(w:World)(h:x.label.length<=9223372036854775807):Calls Tryz.prog 169 #[Zzt x] w fun e w'=>e=.returned (.int .i64 (Zb6 (Zkx x)))/\Below w.heap.size w w':=
 Z5n x.op x.d x.a x.b x.imm ⟨x.loc.toArray⟩ ⟨x.label.toArray⟩ x.fence w h
def Zhb (c:List Ins)(k:Nat):List Int:=(List.range k).map (Zqf c)
theorem Zki (c:List Ins)(k:Nat):Zhb c (k+1)=Zhb c k++[Zqf c k]:=by simp [Zhb,List.range_succ]
theorem Zir (c:List Ins)(k:Nat):(Zhb c k).length=k:=by simp [Zhb]
def AtB (c:List Ins)(i:Nat)(s:List UInt8)(k:Nat)(at_:Int):Prop:=
 (at_=-1/\∀ j x,i<j->j<k->c[j]?=some x->Zcl s x=false)\/
  ∃ m:Nat,at_=(m:Int)/\k=m+1/\i<m/\(c.drop (i+1)).findIdx? (Zcl s)=some (m - (i+1))
theorem AtB.start (c:List Ins)(i:Nat)(s:List UInt8):AtB c i s (i+1) (-1):=Or.inl ⟨rfl,fun j x h1 h2=>by omega⟩
theorem AtB.more {c:List Ins}{i k:Nat}{s:List UInt8}(h:∀ j x,i<j->j<k->c[j]?=some x->Zcl s x=false)(_hik:i+1<=k){y:Ins}(hy:c[k]?=some y)(hl:Zcl s y=false):AtB c i s (k+1) (-1):=by
 refine Or.inl ⟨rfl,fun j x h1 h2 h3=>?_⟩
 by_cases e:j=k
 ·subst e;rw [hy] at h3;cases h3;exact hl
 ·exact h j x h1 (by omega) h3
theorem AtB.hit {c:List Ins}{i k:Nat}{s:List UInt8}(h:∀ j x,i<j->j<k->c[j]?=some x->Zcl s x=false)(hik:i+1<=k){y:Ins}(hy:c[k]?=some y)(hl:Zcl s y=true):AtB c i s (k+1) (k:Int):=by
 refine Or.inr ⟨k,rfl,rfl,by omega,?_⟩
 obtain⟨h1,rfl⟩:=List.getElem?_eq_some_iff.1 hy
 rw [List.findIdx?_eq_some_iff_getElem]
 refine⟨by rw [List.length_drop];omega,by rw [List.getElem_drop];simpa [show i+1+(k - (i+1))=k by omega] using hl,fun j hj=>?_⟩
 rw [List.getElem_drop]
 rw [h (i+1+j) _ (by omega) (by omega) (List.getElem?_eq_getElem (by omega))];simp
theorem AtB.none {c:List Ins}{i k:Nat}{s:List UInt8}(h:∀ j x,i<j->j<k->c[j]?=some x->Zcl s x=false)(hk:c.length<=k):(c.drop (i+1)).any (Zcl s)=false:=by
 rw [List.any_eq_false]
 intro x hx
 obtain⟨j,hj⟩:=List.getElem?_of_mem hx
 rw [List.getElem?_drop] at hj
 rw [h _ x (by omega) (by have:=(List.getElem?_eq_some_iff.1 hj).1;omega) hj];simp
theorem AtB.some_any {c:List Ins}{i m:Nat}{s:List UInt8}(h:(c.drop (i+1)).findIdx? (Zcl s)=some m):(c.drop (i+1)).any (Zcl s)=true:=by
 obtain⟨h1,h2,h3⟩:=List.findIdx?_eq_some_iff_getElem.1 h
 exact List.any_eq_true.2 ⟨_,List.getElem_mem h1,h2⟩
theorem AtB.some_val {c:List Ins}{i m:Nat}{s:List UInt8}(him:i<m)(h:(c.drop (i+1)).findIdx? (Zcl s)=some (m - (i+1))):((i+1+(c.drop (i+1)).findIdx (Zcl s):Nat):Int)=(m:Int):=by
 rw [List.findIdx?_eq_some_iff_findIdx_eq] at h
 rw [h.2];omega
section
set_option maxHeartbeats 4000000
set_option maxRecDepth 100000
theorem Zv9 (c:List Ins)(A:Option Addr)(cap:Nat)(w:World)(hlen:c.length<=256)(hA:Zcm w A c) :
  Calls Tryz.prog 102 #[.slice A c.length cap] w (Zov c w):=by
 have HA:=Zh hA
 have h256:¬ (256:Int)<(c.length:Int):=by omega
 clear hA
 go_enter Tryz.func102,Tryz.ntmps102
 go_wp2_with fail
 go_loopw [6] (fun kk wr=>∃ i:Nat,i<=c.length/\kk=.int .i64 i/\(∀ j,j<i->Zub c j=false)/\Below w.heap.size w wr) (fun kk _=>c.length - (intOf kk).toNat)
 case atStart=>exact⟨0,Nat.zero_le _,rfl,fun j hj=>absurd hj (Nat.not_lt_zero _),Below.refl _ _⟩
 case round=>
  obtain⟨i,hi,rfl,hno,hb⟩:=hrel
  have HNO:=Zh hno
  have HBR:=Zh hb
  have hzr:=hb.size
  clear hno hb
  by_cases hlt:i<c.length
  ·have ex:=List.getElem?_eq_getElem hlt
   obtain⟨x,hx⟩:∃ x,c[i]=x:=⟨_,rfl⟩
   rw [hx] at ex
   obtain⟨b,o,rfl,hC⟩:=HA.out.at_ ex
   have hbl:=hC.lt
   obtain⟨c0,c1,c2,c3,c4,c5,c6,c7,l1,l2⟩:=hC.go HBR.out
   have HX:=Zh ex
   have HL2:=Zh l2
   obtain⟨r,hr⟩:∃ r,Zkx x=r:=⟨_,rfl⟩
   have HR:=Zh hr
   clear hx ex hC hr l1 l2
   have hkl:(i:Int)<(c.length:Int):=by omega
   cases r
   ·go_wp2_with (go_at_call 169;refine (Zt1 x _ HL2.out).mono ?_;rw [HR.out];rintro e w2 ⟨rfl,hb2⟩;have HB2:=Zh hb2;clear hb2)
    refine bodyPost_ret (v:=.tuple #[.slice none 0 0,.int .i64 91,.int .i64 (i:Int)]) (by simp [results,Tryz.results102,go_sem]) rfl ?_
    have e1:=Zrw hlen hlt (by rw [Zmo HX.out,HR.out];rfl) HNO.out
    exact Zhm.bad (by rw [e1];simp) (by rw [e1]) (Zaa HBR.out HB2.out)
   ·go_wp2_with (go_at_call 169;refine (Zt1 x _ HL2.out).mono ?_;rw [HR.out];rintro e w2 ⟨rfl,hb2⟩;have HB2:=Zh hb2;clear hb2)
    go_roundw
    case rel=>exact⟨i+1,by omega,by go_num,fun j hj=>by (rcases Nat.lt_succ_iff_lt_or_eq.1 hj with h | h);exact HNO.out j h;rw [h,Zmo HX.out,HR.out];rfl,Zaa HBR.out HB2.out⟩
    case measure=>simp [intOf];omega
  ·have hkn:i=c.length:=by omega
   subst hkn
   have HOK:=Zh HNO.out
   have HB0:=Zh HBR.out
   clear HNO HBR hi hlt
   go_wp2_with fail
   obtain⟨wa,hwa⟩:∃ wa:World,wa=wr:=⟨_,rfl⟩
   subst hwa
   go_loopw [8,7] (fun kk vv wr=>∃ (i:Nat) (v:Value),i<=c.length/\kk=.int .i64 i/\vv=v/\(∀ j,j<i->Zj0 c j=false)/\Zey.Own 3 w.heap.size wr v (Zhb c i)/\Below w.heap.size w wr) (fun kk _ _=>c.length - (intOf kk).toNat)
   case atStart=>exact⟨0,_,Nat.zero_le _,rfl,rfl,fun j hj=>absurd hj (Nat.not_lt_zero _),Enc.Own.nil _ _ _,HB0.out⟩
   case round=>
    obtain⟨i,v,hi,rfl,rfl,hno,how,hb⟩:=hrel
    obtain⟨Av,cv,rfl⟩:=Enc.Own.shp how
    have HNO:=Zh hno
    have HOW:=Zh how
    have HBI:=Zh hb
    have hzi:=hb.size
    have HRL:=Zh (Zir c i)
    clear hno how hb HB0
    obtain⟨wi,hwi⟩:∃ wi:World,wi=wr:=⟨_,rfl⟩
    subst hwi
    by_cases hlt:i<c.length
    ·have ex:=List.getElem?_eq_getElem hlt
     obtain⟨x,hx⟩:∃ x,c[i]=x:=⟨_,rfl⟩
     rw [hx] at ex
     obtain⟨b,o,rfl,hC⟩:=HA.out.at_ ex
     have hbl:=hC.lt
     obtain⟨c0,c1,c2,c3,c4,c5,c6,c7,_,_⟩:=hC.go HBI.out
     have HX:=Zh ex
     clear hx ex c1 c2 c3 c4 c5 c6 c7
     have hkl:(i:Int)<(c.length:Int):=by omega
     cases he12:(x.op == 12) with
     | true=>
      have he11:(x.op == 11)=false:=by simp at he12;simp [he12]
      go_wp2_with fail
      go_loopw [10] (fun kk wr2=>∃ k:Nat,k<=i/\kk=.int .i64 k/\(c.take k).any (Zcl x.label)=false/\Below wi.heap.size wi wr2) (fun kk _=>i - (intOf kk).toNat)
      case atStart=>exact⟨0,Nat.zero_le _,rfl,by simp,Below.refl _ _⟩
      case round=>
       obtain⟨k,hk,rfl,hno2,hb2⟩:=hrel
       have HN2:=Zh hno2
       have HBK:=Zh hb2
       have hzk:=hb2.size
       clear hno2 hb2
       by_cases hlk:k<i
       ·have ey:=List.getElem?_eq_getElem (show k<c.length by omega)
        obtain⟨y,hy⟩:∃ y,c[k]=y:=⟨_,rfl⟩
        rw [hy] at ey
        have HY:=Zh ey
        have hlki:(k:Int)<(i:Int):=by omega
        have hlkn:(k:Int)<(c.length:Int):=by omega
        obtain⟨b2,o2,e2,hD⟩:=HA.out.at_ ey
        simp only [Option.some.injEq,Addr.mk.injEq,and_true] at e2
        obtain⟨rfl,rfl⟩:=e2
        obtain⟨f0,f1,f2,f3,f4,f5,f6,f7,_,_⟩:=hD.go (Zaa HBI.out HBK.out)
        obtain⟨d0,d1,d2,d3,d4,d5,d6,d7,_,_⟩:=hC.go (Zaa HBI.out HBK.out)
        clear f1 f2 f3 f4 f5 f7 d0 d1 d2 d3 d4 d5 d7 hD
        clear ey hy
        cases hy1:(y.op == 12) with
        | false=>
         have HNX:=Zh (show (c.take (k+1)).any (Zcl x.label)=false by rw [Zjp HY.out,HN2.out];simp [Zcl,hy1])
         exact m_99
        | true=>
         cases hy2:(y.label == x.label) with
         | false=>
          have HNX:=Zh (show (c.take (k+1)).any (Zcl x.label)=false by rw [Zjp HY.out,HN2.out];simp [Zcl,hy2])
          exact m_99
         | true=>
          have HLB:Hid (Zj0 c i=true):=Zh (by
           rw [Zdf HX.out,he12,Bool.true_and,show (c.take i).any (Zcl x.label)=true from Zts (j:=k) (by rw [List.getElem?_take,if_pos hlk];exact HY.out) _ (by simp [Zcl,hy1,hy2])];rfl)
          go_wp2_with fail
          go_quiet (fail)
          go_wp2_with fail
          refine bodyPost_ret (v:=.tuple #[.slice none 0 0,.int .i64 93,.int .i64 (i:Int)]) (by simp [results,Tryz.results102,go_sem]) rfl ?_
          have e1:=Zgl hlen hlt HOK.out HLB.out HNO.out
          exact Zhm.bad (by rw [e1];simp) (by rw [e1]) (Zaa HBI.out (Zan HBK.out _))
       ·have hki:k=i:=by omega
        subst hki
        have HLB:=Zh (show Zj0 c k=false by rw [Zdf HX.out,HN2.out];simp [he11])
        have HLV:=Zh (show Zqf c k=-1 by simp [Zqf,HX.out,he11])
        obtain⟨d0,d1,d2,d3,d4,d5,d6,d7,_,_⟩:=hC.go (Zaa HBI.out HBK.out)
        have HOK2:=Zh (HOW.out.below HBK.out)
        clear d1 d2 d3 d4 d5 d6 d7
        go_wp2_with (at_builtin;refine Enc.app Zw3 _ rfl (.tmp 110) (.tmp 112) rfl (-1) w.heap.size _ _ rfl rfl HOK2.out (by have:=HRL.out;omega) (by have:=HRL.out;omega) (by omega) ?_)
        intro v' w3 hown3 hg3
        obtain⟨Av3,cv3,rfl⟩:=Enc.Own.shp hown3
        have HO3:=Zh hown3
        have HB3:=Zh hg3.below
        clear hown3 hg3
        go_wp2_with fail
        go_roundw
        case rel=>exact⟨k+1,_,by omega,by go_num,rfl,fun j hj=>by (rcases Nat.lt_succ_iff_lt_or_eq.1 hj with h | h);exact HNO.out j h;rw [h];exact HLB.out,by rw [Zki,HLV.out];exact HO3.out,(Zaa HBI.out HBK.out).trans HB3.out⟩
        case measure=>simp [intOf];omega
     | false=>
      cases he11:(x.op == 11) with
      | true=>
       go_wp2_with fail
       go_loopw [11,9] (fun kk aa wr2=>∃ (k:Nat) (at_:Int),i+1<=k/\k<=c.length/\kk=.int .i64 k/\aa=.int .i64 at_/\AtB c i x.label k at_/\Below wi.heap.size wi wr2) (fun kk _ _=>c.length - (intOf kk).toNat)
       case atStart=>exact⟨i+1,-1,Nat.le_refl _,by omega,by go_num,rfl,AtB.start c i _,Below.refl _ _⟩
       case round=>
        obtain⟨k,at_,hik,hk,rfl,rfl,hat,hb2⟩:=hrel
        have HBK:=Zh hb2
        have hzk:=hb2.size
        clear hb2
        have HOKK:=Zh (HOW.out.below HBK.out)
        rcases hat with ⟨rfl,hno2⟩ | ⟨m,rfl,rfl,him,hany⟩
        ·have HN2:=Zh hno2
         clear hno2
         by_cases hlk:k<c.length
         ·have ey:=List.getElem?_eq_getElem hlk
          obtain⟨y,hy⟩:∃ y,c[k]=y:=⟨_,rfl⟩
          rw [hy] at ey
          have HY:=Zh ey
          have hlkn:(k:Int)<(c.length:Int):=by omega
          obtain⟨b2,o2,e2,hD⟩:=HA.out.at_ ey
          simp only [Option.some.injEq,Addr.mk.injEq,and_true] at e2
          obtain⟨rfl,rfl⟩:=e2
          obtain⟨f0,f1,f2,f3,f4,f5,f6,f7,_,_⟩:=hD.go (Zaa HBI.out HBK.out)
          obtain⟨d0,d1,d2,d3,d4,d5,d6,d7,_,_⟩:=hC.go (Zaa HBI.out HBK.out)
          clear f1 f2 f3 f4 f5 f7 d0 d1 d2 d3 d4 d5 d7 hD
          clear ey hy
          cases hy1:(y.op == 12) with
          | false=>
           have HNX:=Zh (AtB.more HN2.out hik HY.out (show Zcl x.label y=false by simp [Zcl,hy1]))
           exact m_92
          | true=>
           cases hy2:(y.label == x.label) with
           | false=>
            have HNX:=Zh (AtB.more HN2.out hik HY.out (show Zcl x.label y=false by simp [Zcl,hy2]))
            exact m_92
           | true=>
            have HNX:=Zh (AtB.hit HN2.out hik HY.out (show Zcl x.label y=true by simp [Zcl,hy1,hy2]))
            go_wp2_with fail
            go_quiet (fail)
            go_wp2_with fail
            go_roundw
            case rel=>exact⟨k+1,k,by omega,by omega,by go_num,rfl,HNX.out,Zan HBK.out _⟩
            case measure=>simp [intOf];omega
         ·have HLB:Hid (Zj0 c i=true):=Zh (by rw [Zdf HX.out,AtB.none HN2.out (by omega)];simp [he11])
          go_wp2_with fail
          refine bodyPost_ret (v:=.tuple #[.slice none 0 0,.int .i64 93,.int .i64 (i:Int)]) (by simp [results,Tryz.results102,go_sem]) rfl ?_
          have e1:=Zgl hlen hlt HOK.out HLB.out HNO.out
          exact Zhm.bad (by rw [e1];simp) (by rw [e1]) (Zaa HBI.out HBK.out)
        ·have HLB:=Zh (show Zj0 c i=false by rw [Zdf HX.out,AtB.some_any hany];simp [he12])
         have HLV:=Zh (show Zqf c i=(m:Int) by simp only [Zqf,HX.out,he11];simp only [if_true];exact AtB.some_val him hany)
         have hm0:¬ (m:Int)<0:=by omega
         clear hany
         by_cases hlk:m+1<c.length
         all_goals
          go_wp2_with (at_builtin;refine Enc.app Zw3 _ rfl (.tmp 110) (.tmp 112) rfl ((m:Int)) w.heap.size _ _ rfl rfl HOKK.out (by have:=HRL.out;omega) (by have:=HRL.out;omega) (by omega) ?_)
          intro v' w3 hown3 hg3
          obtain⟨Av3,cv3,rfl⟩:=Enc.Own.shp hown3
          have HO3:=Zh hown3
          have HB3:=Zh hg3.below
          clear hown3 hg3
          go_wp2_with fail
          go_roundw
          case rel=>exact⟨i+1,_,by omega,by go_num,rfl,fun j hj=>by (rcases Nat.lt_succ_iff_lt_or_eq.1 hj with h | h);exact HNO.out j h;rw [h];exact HLB.out,by rw [Zki,HLV.out];exact HO3.out,(Zaa HBI.out HBK.out).trans HB3.out⟩
          case measure=>simp [intOf];omega
      | false=>
       have HLB:=Zh (show Zj0 c i=false by rw [Zdf HX.out];simp [he11,he12])
       have HLV:=Zh (show Zqf c i=-1 by simp [Zqf,HX.out,he11])
       go_wp2_with (at_builtin;refine Enc.app Zw3 _ rfl (.tmp 110) (.tmp 112) rfl (-1) w.heap.size _ _ rfl rfl HOW.out (by have:=HRL.out;omega) (by have:=HRL.out;omega) (by omega) ?_)
       intro v' w3 hown3 hg3
       obtain⟨Av3,cv3,rfl⟩:=Enc.Own.shp hown3
       have HO3:=Zh hown3
       have HB3:=Zh hg3.below
       clear hown3 hg3
       go_wp2_with fail
       go_roundw
       case rel=>exact⟨i+1,_,by omega,by go_num,rfl,fun j hj=>by (rcases Nat.lt_succ_iff_lt_or_eq.1 hj with h | h);exact HNO.out j h;rw [h];exact HLB.out,by rw [Zki,HLV.out];exact HO3.out,HBI.out.trans HB3.out⟩
       case measure=>simp [intOf];omega
    ·have hkn:i=c.length:=by omega
     subst hkn
     have e1:=Zvh hlen HOK.out HNO.out
     go_wp2_with fail
     refine bodyPost_ret (v:=.tuple #[.slice Av (Zhb c c.length).length cv,.int .i64 0,.int .i64 0]) (by simp [results,Tryz.results102,go_sem]) rfl ?_
     obtain⟨A',cap',e3,hat3,_,_⟩:=HOW.out.at_
     rw [e3]
     refine⟨Or.inr ⟨by rw [e1],A',cap',by rw [Zir],?_⟩,HBI.out⟩
     rw [show Znh c=Zhb c c.length by simp [Znh,e1,Zhb]]
     refine⟨hat3,?_⟩
     have ho:=HOW.out
     rw [e3,Zir] at ho
     exact ho
theorem Zzy (c:List Ins)(A:Option Addr)(cap:Nat)(w:World)(hlen:c.length<=256)(hA:Zcm w A c) :
  Calls Tryz.prog 102 #[.slice A c.length cap] w (Zhm c w):=by
 refine (Zv9 c A cap w hlen hA).mono fun e w' h=>?_
 obtain⟨h | ⟨h1,A',cap',h2,h3,_⟩,hb⟩:=h
 ·exact⟨Or.inl h,hb⟩
 ·exact⟨Or.inr ⟨h1,A',cap',h2,h3⟩,hb⟩
end
end
end Go.Proofs.YtoegmdnfbemppaaGreatDoor
