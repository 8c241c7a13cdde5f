/- Layer 13: whether a test's code may be: plain, and the program's coded. -/
import Derived.Test.YtgjefdaaihgliaaGreatDoorMn19

namespace Go.Proofs.YtgjefdaaihgliaaGreatDoor
open Go.RowKit
section
def Zqe (x:Ins):Bool:=Zfo x.op x.d x.a x.b x.imm ⟨x.loc.toArray⟩ ⟨x.label.toArray⟩ x.fence
def okX (arch:Int)(x:Ins):Bool:=if arch=1 then Zqe x else Zk9 x
def Zku (arch:Int)(c:List Ins):Int:=if c.all (okX arch) then (if arch=2 then (Zfi c).1 else 0) else 91
def Zf7 (arch:Int)(cs:List (List Ins)):Int:=
 if cs.length<1\/16<cs.length\/cs.any (fun c=>decide (256<c.length))=true then 2
 else ((cs.map (Zku arch)).find? (fun e=>decide (e≠0))).getD 0
theorem Zjc {a:Int}{cs:List (List Ins)}(h:cs.length<1\/16<cs.length):Zf7 a cs=2:=by
 unfold Zf7;rw [if_pos];rcases h with h | h
 ·exact Or.inl h
 ·exact Or.inr (Or.inl h)
theorem Zhk {a:Int}{cs:List (List Ins)}{k:Nat}{c:List Ins}(h:cs[k]?=some c)(h2:256<c.length):Zf7 a cs=2:=by
 unfold Zf7;rw [if_pos];exact Or.inr (Or.inr (List.any_eq_true.2 ⟨c,List.mem_of_getElem? h,by simpa using h2⟩))
theorem Zyc {l:List Int}{k:Nat}{e:Int}(h:l[k]?=some e)(he:e≠0)(hn:∀ (j:Nat) (x:Int),j<k->l[j]?=some x->x=0):(l.find? (fun e=>decide (e≠0))).getD 0=e:=by
 induction l generalizing k with
 | nil=>simp at h
 | cons y l ih=>
  cases k with
  | zero=>simp at h;subst h;simp [he]
  | succ k=>
   have hy:y=0:=hn 0 y ω (by simp);subst hy;simp only [List.getElem?_cons_succ] at h;rw [List.find?_cons];simp only [ne_eq,not_true_eq_false,decide_false];exact ih h (fun j x hj hx=>hn (j+1) x ω (by simpa using hx))
theorem Zmk {a:Int}{cs:List (List Ins)}(h1:1<=cs.length)(h2:cs.length<=16)(h3:∀ (j:Nat) (c:List Ins),cs[j]?=some c->c.length<=256):Zf7 a cs=((cs.map (Zku a)).find? (fun e=>decide (e≠0))).getD 0:=by
 unfold Zf7;rw [if_neg];rintro (h | h | h)
 ·omega
 ·omega
 ·rw [List.any_eq_true] at h;obtain⟨c,hc,hl⟩:=h;obtain⟨j,hj⟩:=List.getElem?_of_mem hc;have:=h3 j c hj;simp at hl;omega
theorem Zjb {a:Int}{cs:List (List Ins)}(h1:1<=cs.length)(h2:cs.length<=16)(h3:∀ (j:Nat) (c:List Ins),cs[j]?=some c->c.length<=256){k:Nat}{c:List Ins}(h:cs[k]?=some c){e:Int}(ht:Zku a c=e)(he:e≠0)
  (hn:∀ (j:Nat) (c:List Ins),j<k->cs[j]?=some c->Zku a c=0):Zf7 a cs=e:=by
 rw [Zmk h1 h2 h3];refine Zyc (k:=k) (by rw [List.getElem?_map,h];simp [ht]) he (fun j x hj hx=>?_);rw [List.getElem?_map] at hx;obtain⟨c',hc',rfl⟩:=Option.map_eq_some_iff.1 hx;exact hn j c' hj hc'
theorem Zuf {a:Int}{cs:List (List Ins)}(h1:1<=cs.length)(h2:cs.length<=16)(h3:∀ (j:Nat) (c:List Ins),cs[j]?=some c->c.length<=256)(hn:∀ (j:Nat) (c:List Ins),cs[j]?=some c->Zku a c=0):Zf7 a cs=0:=by
 rw [Zmk h1 h2 h3,List.find?_eq_none.2]
 ·rfl
 ·intro x hx;rw [List.mem_map] at hx;obtain⟨c,hc,rfl⟩:=hx;obtain⟨j,hj⟩:=List.getElem?_of_mem hc;simp [hn j c hj]
theorem Zqy {c:List Ins}{j:Nat}{x:Ins}(h:c[j]?=some x)(p:Ins->Bool):(c.take (j+1)).all p=((c.take j).all p&&p x):=by
 obtain⟨h1,rfl⟩:=List.getElem?_eq_some_iff.1 h;rw [List.take_succ_eq_append_getElem h1,List.all_append];simp
theorem Ztq {c:List Ins}{j:Nat}{x:Ins}(h:c[j]?=some x){p:Ins->Bool}(hp:p x=false):c.all p=false:=by
 rw [List.all_eq_false];exact⟨x,List.mem_of_getElem? h,by simp [hp]⟩
theorem Z0f (x:Ins)(w:World)(h:x.loc.length<=9223372036854775807):Calls Tryz.prog 94 #[Zyj x] w (RB w (.int .i64 (Zb9 (Zqe x)))):=
 Z4n x.d x.a x.b x.imm ⟨x.loc.toArray⟩ ⟨x.label.toArray⟩ x.fence w h x.op
theorem Zis.at_ {w:World}{A:Option Addr}{cs:List (List Ins)}(h:Zis w A cs){i:Nat}{c:List Ins}(hc:cs[i]?=some c):∃ b o A2 c2,A=some ⟨b,o,none⟩/\w.cell? ⟨b,o+i,none⟩=some (.slice A2 c.length c2)/\Zcj w A2 c/\c.length<=9223372036854775806/\c.length<=c2:=h i c hc
section
set_option maxHeartbeats 4000000
set_option maxRecDepth 100000
variable {w:World} {T:Tst} {Ai Ac:Option Addr} {kv:Value}
theorem Zi9 {a:Int}(h:Zef a=true):a=1\/a=2:=by unfold Zef at h;simp at h;omega
theorem Z4s (ci cc:Nat)(hA:Zef T.arch=true)(hT:Zcu w T Ai Ac kv):Calls Tryz.prog 64 #[Zbu T (.slice Ai T.init.length ci) (.slice Ac T.code.length cc) kv] w (RB w (.int .i64 (Zf7 T.arch T.code))):=by
 have HC:=Zh (hT.code.below (Zad w (.cells #[.int .i64 T.arch,.string ⟨T.name.toArray⟩,.string ⟨T.cycle.toArray⟩,.slice Ai T.init.length ci,.slice Ac T.code.length cc,.int .i64 T.q,.int .i64 T.k,.int .i64 T.t,.int .i64 T.r,.string ⟨T.l.toArray⟩,.int .i64 T.v,kv] 32 (0,0))));have HBX:=Zh (Blk.new w 32 #[.int .i64 T.arch,.string ⟨T.name.toArray⟩,.string ⟨T.cycle.toArray⟩,.slice Ai T.init.length ci,.slice Ac T.code.length cc,.int .i64 T.q,.int .i64 T.k,.int .i64 T.t,.int .i64 T.r,.string ⟨T.l.toArray⟩,.int .i64 T.v,kv]);have HB0:=Zh (Zad w (.cells #[.int .i64 T.arch,.string ⟨T.name.toArray⟩,.string ⟨T.cycle.toArray⟩,.slice Ai T.init.length ci,.slice Ac T.code.length cc,.int .i64 T.q,.int .i64 T.k,.int .i64 T.t,.int .i64 T.r,.string ⟨T.l.toArray⟩,.int .i64 T.v,kv] 32 (0,0)));have hcl:=hT.clen;have HA:=Zh (Zi9 hA);simp only [Zbu];clear hT hA;obtain⟨n,hn⟩:∃ n,T.code.length=n:=⟨_,rfl⟩;have HN:=Zh hn;rw [hn] at HBX HB0 hcl ⊢;rw [hn] at HC;by_cases hb1:n<1\/16<n
 ·have HV:=Zh (Zjc (a:=T.arch) (hn ▸ hb1));rcases hb1 with hb1 | hb1
  all_goals
   have f1:decide ((n:Int)<1)=decide (n<1):=by simp;omega
   go_enter Tryz.func64,Tryz.ntmps64
   go_wp2_with fail
   go_ret;exact⟨Zak HV.o.symm,HB0.o⟩
 ·have g1:1<=n:=ω;have g2:n<=16:=ω;clear hb1;go_enter Tryz.func64,Tryz.ntmps64
  go_wp2_with fail
  generalize hw1:w.alloc (.cells #[.int .i64 T.arch,.string ⟨T.name.toArray⟩,.string ⟨T.cycle.toArray⟩,.slice Ai T.init.length ci,.slice Ac n cc,.int .i64 T.q,.int .i64 T.k,.int .i64 T.t,.int .i64 T.r,.string ⟨T.l.toArray⟩,.int .i64 T.v,kv] 32 (0,0))=w1 at HC HBX HB0 ⊢;have hsz:w.heap.size<w1.heap.size:=HBX.o.lt;have k0:=HBX.o.cell 0;have k4:=HBX.o.cell 4;clear hw1
  go_loop [25] (fun i=>∃ k:Nat,k<=n/\i=.int .i64 k/\∀ (j:Nat) (c:List Ins),j<k->T.code[j]?=some c->c.length<=256) (fun i=>n - (intOf i).toNat)
  case atStart=>exact⟨0,Nat.zero_le _,rfl,fun j c hj=>absurd hj (Nat.not_lt_zero _)⟩
  case round=>
   obtain⟨k,hk,rfl,hno⟩:=hrel;have HNO:=Zh hno;clear hno;by_cases hlt:k<n
   ·have hlk:k<T.code.length:=by rw [HN.o];exact hlt
    exact m_16
   ·have HL:=Zh (fun (j:Nat) (c:List Ins) (hc:T.code[j]?=some c)=>HNO.o j c (by have:=(List.getElem?_eq_some_iff.1 hc).1;have:=HN.o;omega) hc);clear HNO hk
    go_wp2_with fail
    go_loopw [36] (fun i wr=>∃ k:Nat,k<=n/\i=.int .i64 k/\(∀ (j:Nat) (c:List Ins),j<k->T.code[j]?=some c->Zku T.arch c=0)/\Below w1.heap.size w1 wr) (fun i _=>n - (intOf i).toNat)
    case atStart=>exact⟨0,Nat.zero_le _,rfl,(fun j c hj=>absurd hj (Nat.not_lt_zero _)),Below.refl _ _⟩
    case round=>
     obtain⟨k,hk,rfl,hno,hb⟩:=hrel;have HNO:=Zh hno;have HB:=Zh hb;have hzr:=hb.size;clear hno hb;by_cases hlt:k<n
     ·have hlk:k<T.code.length:=by rw [HN.o];exact hlt
      have ex:=List.getElem?_eq_getElem hlk;obtain⟨c,hx⟩:∃ c,T.code[k]=c:=⟨_,rfl⟩;rw [hx] at ex;obtain⟨b,o,A2,c2,rfl,hc0,hA2,hl1,hl2⟩:=HC.o.at_ ex;have hc256:=HL.o k c ex;have HX:=Zh ex;have HA2:=Zh hA2;have hkn:(k:Int)<(n:Int):=ω;have hc0r:=Zac hc0 HB.o;clear ex hx hlk hA2 hc0
      go_wp2_with fail
      obtain⟨wi,hwi⟩:∃ wi:World,wi=wr:=⟨_,rfl⟩;subst hwi;go_loopw [42] (fun i wr=>∃ i':Nat,i'<=c.length/\i=.int .i64 i'/\(c.take i').all (okX T.arch)=true/\Below wi.heap.size wi wr) (fun i _=>c.length - (intOf i).toNat)
      case atStart=>exact⟨0,Nat.zero_le _,rfl,by simp,Below.refl _ _⟩
      case round=>
       obtain⟨i,hi,rfl,hall,hbi⟩:=hrel;have HALL:=Zh hall;have HBI:=Zh hbi;have hzi:=hbi.size;clear hall hbi;have HBW:=Zh (Zab HB.o HBI.o);have k0i:=(HBX.o.go HBW.o).k0;have hsw:w.heap.size<wr.heap.size:=ω;by_cases hli:i<c.length
       ·have ey:=List.getElem?_eq_getElem hli;obtain⟨x,hx⟩:∃ x,c[i]=x:=⟨_,rfl⟩;rw [hx] at ey;obtain⟨b2,o2,rfl,hC⟩:=HA2.o.at_ ey;have hbl:=hC.lt;obtain⟨c0,c1,c2',c3,c4,c5,c6,c7,l1,l2⟩:=hC.go HBW.o;have HY:=Zh ey;have HL1:=Zh l1;have HL2:=Zh l2;have hkl:(i:Int)<(c.length:Int):=ω;obtain⟨r,hr⟩:∃ r,okX T.arch x=r:=⟨_,rfl⟩;have HR:=Zh hr;have HR1:=Zh (fun h:T.arch=1=>show Zqe x=r by rw [<- hr,h];rfl);have HR2:=Zh (fun h:T.arch=2=>show Zk9 x=r by rw [<- hr,h];rfl);clear ey hx hC hr l1 l2;have HB1:=Zh (Zad wr (.cells #[.int .i64 x.op,.int .i64 x.d,.int .i64 x.a,.int .i64 x.b,.int .i64 x.imm,.string ⟨x.loc.toArray⟩,.string ⟨x.label.toArray⟩,.int .i64 x.fence] 92 (0,0)));rcases HA.o with ha | ha
        all_goals
         rw [ha] at k0i;have HH:=Zh ha;clear ha;cases r
         ·have HV:=Zh (Zjb (a:=T.arch) (e:=91) (by rw [HN.o];exact g1) (by rw [HN.o];exact g2) HL.o HX.o (by unfold Zku;rw [Ztq HY.o HR.o];rfl) (by decide) HNO.o)
          go_wp2_with (first | (go_at_call 94;refine (Z0f x _ HL1.o).mono ?_;rw [HR1.o HH.o];rintro e w2 ⟨rfl,hb2⟩;have HB2:=Zh (Zab HB1.o hb2);clear hb2;have k02:w2.cell? ⟨w.heap.size,0,none⟩=some (.int .i64 1):=by (have h:=(HBX.o.go (Zab HBW.o HB2.o)).cell 0;rw [HH.o] at h;exact h)) | (go_at_call 111;refine (Zq7 x _ HL2.o).mono ?_;rw [HR2.o HH.o];rintro e w2 ⟨rfl,hb2⟩;have HB2:=Zh (Zab HB1.o hb2);clear hb2;have k02:w2.cell? ⟨w.heap.size,0,none⟩=some (.int .i64 2):=by (have h:=(HBX.o.go (Zab HBW.o HB2.o)).cell 0;rw [HH.o] at h;exact h)))
          go_ret;exact⟨Zak HV.o.symm,Zab HB0.o (Zab HBW.o HB2.o)⟩
         ·go_wp2_with (first | (go_at_call 94;refine (Z0f x _ HL1.o).mono ?_;rw [HR1.o HH.o];rintro e w2 ⟨rfl,hb2⟩;have HB2:=Zh (Zab HB1.o hb2);clear hb2;have k02:w2.cell? ⟨w.heap.size,0,none⟩=some (.int .i64 1):=by (have h:=(HBX.o.go (Zab HBW.o HB2.o)).cell 0;rw [HH.o] at h;exact h)) | (go_at_call 111;refine (Zq7 x _ HL2.o).mono ?_;rw [HR2.o HH.o];rintro e w2 ⟨rfl,hb2⟩;have HB2:=Zh (Zab HB1.o hb2);clear hb2;have k02:w2.cell? ⟨w.heap.size,0,none⟩=some (.int .i64 2):=by (have h:=(HBX.o.go (Zab HBW.o HB2.o)).cell 0;rw [HH.o] at h;exact h)))
          go_roundw
          case rel=>exact⟨i+1,ω,by go_num,by rw [Zqy HY.o,HALL.o,HR.o];rfl,Zab HBI.o HB2.o⟩
          case measure=>exact msr
       ·have HALC:=Zh (show c.all (okX T.arch)=true by have:=HALL.o;rwa [List.take_of_length_le ω] at this);clear HALL;rcases HA.o with ha | ha
        ·have HTH:=Zh (show Zku T.arch c=0 by unfold Zku;rw [HALC.o,ha];rfl);exact m_44
        ·have HTH:=Zh (show Zku T.arch c=(Zfi c).1 by unfold Zku;rw [HALC.o,ha];rfl);rw [ha] at k0i;clear ha;by_cases hE:(Zfi c).1=0
         ·go_wp2_with (go_at_call 97;refine (Z0n c A2 c2 wr hc256 hl2 (HA2.o.below HBW.o)).mono ?_;rintro e w2 ⟨hres,hb2⟩;have HB2:=Zh hb2;clear hb2;(rcases hres with ⟨hne,rfl⟩ | ⟨heq,g,hg,rfl,hblk⟩;exact absurd hE hne))
          exact m_48
         ·have HV:=Zh (Zjb (a:=T.arch) (by rw [HN.o];exact g1) (by rw [HN.o];exact g2) HL.o HX.o HTH.o hE HNO.o);have hE2:((Zfi c).1 != 0)=true:=by simpa using hE
          have hE3:((Zfi c).1 == 0)=false:=by simpa using hE
          go_wp2_with (go_at_call 97;refine (Z0n c A2 c2 wr hc256 hl2 (HA2.o.below HBW.o)).mono ?_;rintro e w2 ⟨hres,hb2⟩;have HB2:=Zh hb2;clear hb2;(rcases hres with ⟨hne,rfl⟩ | ⟨heq,g,hg,rfl,hblk⟩;rotate_left;exact absurd heq hE))
          go_ret;exact⟨Zak HV.o.symm,Zab HB0.o (Zab HBW.o HB2.o)⟩
     exact m_46
end
end
end Go.Proofs.YtgjefdaaihgliaaGreatDoor
