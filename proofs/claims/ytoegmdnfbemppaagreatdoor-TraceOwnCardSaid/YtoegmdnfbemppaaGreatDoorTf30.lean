/- Layer 13: the things that a test asks for, and its locations: the program. -/
import Derived.Test.YtoegmdnfbemppaaGreatDoorTf29

namespace Go.Proofs.YtoegmdnfbemppaaGreatDoor
open Go.RowKit
section
def Za8 (T:Tst):List Th:=Zlt T.q T.k T.t T.r T.l T.v T.kids
def Z6v (T:Tst)(w:World)(e:Ending)(w':World):Prop:=∃ u,e=.returned u/\Zsp w w' u (Za8 T)/\Below w.heap.size w w'
theorem Zet (T:Tst):(Za8 T).length<=1024:=by
 unfold Za8 Zlt
 split
 ·rename_i h
  exact Nat.le_trans (Zq9 _) (Zqi h).2.2.2.2
 ·simp
theorem Zrp {B:Nat}{w:World}{v:Value}{x:Nm}{r:List Nm}(h:Zcx.Own 9 B w v (x :: r)):∃ g cap,v=.slice (some ⟨g,0,none⟩) (r.length+1) cap/\Zcx.At w (some ⟨g,0,none⟩) (x :: r)/\B<=g/\r.length+1<=cap:=by
 obtain⟨A,cap,rfl,hat,hnew,hc⟩:=h.at_
 obtain⟨b,o,e,_⟩:=hat 0 x rfl
 subst e
 rcases h.2 with ⟨e,_⟩ | ⟨g,cap2,cur,e,h1,_⟩
 ·cases e
 ·simp only [Value.slice.injEq,Option.some.injEq,Addr.mk.injEq,and_true,true_and] at e
  obtain⟨⟨rfl,rfl⟩,rfl⟩:=e
  exact⟨b,cap,rfl,hat,h1,hc⟩
theorem Zn8 {w:World}{g:Nat}{x:Nm}{r:List Nm}(h:Zcx.At w (some ⟨g,0,none⟩) (x :: r)):w.cell? ⟨g,0,none⟩=some (.string ⟨x.toArray⟩):=by
 obtain⟨b,o,e,hc⟩:=h 0 x rfl
 cases e
 exact hc 0 _ rfl
theorem Zdx {w:World}{B B2:Nat}{t:TypeId}{z n:Nat}{v:Value}{cs:List Value}(h:w.ownsRow B t z v n cs)(hB:B2<=B):w.ownsRow B2 t z v n cs:=by
 refine⟨h.1,?_⟩
 rcases h.2 with e | ⟨g,cap,cur,e,h1,h2⟩
 ·exact Or.inl e
 ·exact Or.inr ⟨g,cap,cur,e,Nat.le_trans hB h1,h2⟩
theorem Zv7 {w w1:World}{B B2 B3:Nat}{t t2:TypeId}{z n z2 n2:Nat}{v v2:Value}{cs cs2:List Value}(h:w.ownsRow B t z v n cs)(h2:w.ownsRow B2 t2 z2 v2 n2 cs2)(hne:t≠t2)(hg:Z5e w w1 B3 v2):w1.ownsRow B t z v n cs:=by
 refine Zep h (fun b hb=>?_)
 rcases h.2 with ⟨e,_⟩ | ⟨g,cap,cur,e,_,hh,_⟩
 ·subst e;cases hb
 ·subst e
  exact m_53
theorem Zyg {w:World}{A:Option Addr}{L:List Th}(h:Zpp w A L){i:Nat}{x:Th}(hx:L[i]?=some x):∃ b o,A=some ⟨b,o,none⟩/\w.cell? ⟨b,o+i*3,none⟩=some (.int .i64 x.1)/\w.cell? ⟨b,o+i*3+1,none⟩=some (.int .i64 x.2.1)/\w.cell? ⟨b,o+i*3+2,none⟩=some (.string ⟨x.2.2.toArray⟩):=by
 obtain⟨b,o,e,h0,h1,h2⟩:=h i x hx
 exact⟨b,o,e,h0,h1,h2⟩
theorem Z0k (w:World)(a:Nm):Zcx.At (w.alloc (.cells #[.string ⟨a.toArray⟩] 9 (0,0))) (some ⟨w.heap.size,0,none⟩) [a]:=by
 have hB:=Blk.new w 9 #[.string ⟨a.toArray⟩]
 intro i x hx
 refine⟨w.heap.size,0,rfl,fun j u hj=>?_⟩
 have hj0:j=0:=by
  have:=(List.getElem?_eq_some_iff.1 hj).1
  simp at this;omega
 subst hj0
 simp at hj
 subst hj
 rw [show 0+i*Zcx.size+0=i from by show 0+i*1+0=i;omega,hB.cell]
 match i,hx with
 | 0,hx=>simp at hx;subst hx;rfl
theorem Z4x (w:World)(a b:Nm):Zcx.At (w.alloc (.cells #[.string ⟨a.toArray⟩,.string ⟨b.toArray⟩] 9 (0,0))) (some ⟨w.heap.size,0,none⟩) [a,b]:=by
 have hB:=Blk.new w 9 #[.string ⟨a.toArray⟩,.string ⟨b.toArray⟩]
 intro i x hx
 refine⟨w.heap.size,0,rfl,fun j u hj=>?_⟩
 have hj0:j=0:=by
  have:=(List.getElem?_eq_some_iff.1 hj).1
  simp at this;omega
 subst hj0
 simp at hj
 subst hj
 rw [show 0+i*Zcx.size+0=i from by show 0+i*1+0=i;omega,hB.cell]
 match i,hx with
 | 0,hx=>simp at hx;subst hx;rfl
 | 1,hx=>simp at hx;subst hx;rfl
section
set_option maxHeartbeats 4000000
set_option maxRecDepth 100000
variable {w:World} {T:Tst} {Ai Ac:Option Addr} {kv:Value}
theorem Z0e (ci cc:Nat)(hT:Zb4 w T Ai Ac kv):Calls Tryz.prog 84 #[Zbm T (.slice Ai T.init.length ci) (.slice Ac T.code.length cc) kv] w (Z6v T w):=by
 have HB:=Zh (Zad w (.cells #[.int .i64 T.arch,.string ⟨T.name.toArray⟩,.string ⟨T.cycle.toArray⟩,.slice Ai T.init.length ci,.slice Ac T.code.length cc,.int .i64 T.q,.int .i64 T.k,.int .i64 T.t,.int .i64 T.r,.string ⟨T.l.toArray⟩,.int .i64 T.v,kv] 32 (0,0)))
 have HK:=Zh (Zd7.below hT.kids (Nat.le_refl _) HB.out)
 have HL:=Zh hT.llen
 clear hT
 go_enter Tryz.func84,Tryz.ntmps84
 go_wp2_with (go_at_call 31;refine (Z6r w.heap.size kv (by simp) HK.out HL.out).mono ?_;rintro e w2 ⟨u,rfl,hown,hb2⟩;have HO:=Zh hown;have HB2:=Zh hb2;clear hown hb2)
 go_ret
 exact⟨u,rfl,HO.out.old (by simp),Zaa HB.out HB2.out⟩
def Z64 (L:List Nm)(w:World)(e:Ending)(w':World):Prop:=∃ A cap,e=.returned (.slice A L.length cap)/\Zcx.At w' A L/\(∀ p,A=some p->w.heap.size<=p.block)/\Below w.heap.size w w'
theorem Zbx {α:Type}{l:List α}{k:Nat}{x:α}(h:l[k]?=some x):l.drop k=x :: l.drop (k+1):=by
 obtain⟨h1,rfl⟩:=List.getElem?_eq_some_iff.1 h
 exact List.drop_eq_getElem_cons h1
theorem Zvy (ci cc:Nat)(hraw:(Zel T).length<=1000000)(hT:Zb4 w T Ai Ac kv):Calls Tryz.prog 85 #[Zbm T (.slice Ai T.init.length ci) (.slice Ac T.code.length cc) kv] w (Z64 (Zdl (Zel T)) w):=by
 have HI:=Zh hT.init
 have HC:=Zh hT.code
 have HASK:=Zh (fun (w2:World) (hb:Below w.heap.size w w2)=>Z0e (w:=w2) (T:=T) (Ai:=Ai) (Ac:=Ac) (kv:=kv) ci cc (hT.below hb))
 have hil:=hT.ilen
 have hcl:=hT.clen
 have hrawl:∀ n m,T.init.length=n->T.code.length=m->2*n<=(Zel T).length:=fun n m h1 _=>by
  unfold Zel
  rw [List.length_append,<- h1]
  have:(T.init.flatMap fun x=>[x.loc,x.vl]).length=2*T.init.length:=by
   induction T.init with
   | nil=>rfl
   | cons x r ih=>rw [List.flatMap_cons,List.length_append,ih];simp;omega
  omega
 simp only [Zbm] at HASK ⊢
 obtain⟨n,hn⟩:∃ n,T.init.length=n:=⟨_,rfl⟩
 obtain⟨m,hm⟩:∃ m,T.code.length=m:=⟨_,rfl⟩
 have HN:=Zh hn
 have HM:=Zh hm
 obtain⟨R,hR⟩:∃ R,Zel T=R:=⟨_,rfl⟩
 have HR:=Zh hR
 have h2n:=hrawl n m hn hm
 rw [hR] at hraw h2n ⊢
 have HRL:=Zh hraw
 rw [hn,hm] at HASK ⊢
 rw [hn] at hil
 rw [hm] at hcl
 clear hT hn hm hR hraw hrawl h2n
 have HBX:=Zh (Blk.new w 32 #[.int .i64 T.arch,.string ⟨T.name.toArray⟩,.string ⟨T.cycle.toArray⟩,.slice Ai n ci,.slice Ac m cc,.int .i64 T.q,.int .i64 T.k,.int .i64 T.t,.int .i64 T.r,.string ⟨T.l.toArray⟩,.int .i64 T.v,kv])
 have HB0:=Zh (Zad w (.cells #[.int .i64 T.arch,.string ⟨T.name.toArray⟩,.string ⟨T.cycle.toArray⟩,.slice Ai n ci,.slice Ac m cc,.int .i64 T.q,.int .i64 T.k,.int .i64 T.t,.int .i64 T.r,.string ⟨T.l.toArray⟩,.int .i64 T.v,kv] 32 (0,0)))
 go_enter Tryz.func85,Tryz.ntmps85
 go_wp2_with fail
 generalize hw1:w.alloc (.cells #[.int .i64 T.arch,.string ⟨T.name.toArray⟩,.string ⟨T.cycle.toArray⟩,.slice Ai n ci,.slice Ac m cc,.int .i64 T.q,.int .i64 T.k,.int .i64 T.t,.int .i64 T.r,.string ⟨T.l.toArray⟩,.int .i64 T.v,kv] 32 (0,0))=w1 at HBX HB0 ⊢
 have hsz:w.heap.size<w1.heap.size:=HBX.out.lt
 clear hw1
 go_loopw [15,3] (fun i vv wr=>∃ (k:Nat) (l:List Nm),k<=n/\i=.int .i64 k/\Zcx.Own 9 w1.heap.size wr vv l/\l++((T.init.drop k).flatMap (fun x=>[x.loc,x.vl])++((T.code.flatMap fun c=>c.map fun x=>x.loc)++(Za8 T).map fun x=>x.2.2))=R/\Below w1.heap.size w1 wr) (fun i _ _=>n - (intOf i).toNat)
 case atStart=>exact⟨0,[],Nat.zero_le _,rfl,Enc.Own.nil _ _ _,by rw [List.nil_append,List.drop_zero];exact HR.out,Below.refl _ _⟩
 case round=>
  obtain⟨k,l,hk,rfl,hv,hl,hb⟩:=hrel
  obtain⟨Av,cv,rfl⟩:=hv.shp
  have HV:=Zh hv
  have HL:=Zh hl
  have HBR:=Zh hb
  have hzr:=hb.size
  have hsw:w.heap.size<wr.heap.size:=by omega
  clear hv hl hb
  have HBW:=Zh (Zaa HB0.out HBR.out)
  by_cases hlt:k<n
  ·have hlk:k<T.init.length:=by rw [HN.out];exact hlt
   have ex:=List.getElem?_eq_getElem hlk
   obtain⟨x,hx⟩:∃ x,T.init[k]=x:=⟨_,rfl⟩
   rw [hx] at ex
   obtain⟨b,o,rfl,c0,c1,c2,c3,c4,l1,l2,l3,l4⟩:=HI.out.at_ ex
   have hbl:b<w.heap.size:=World.block_lt_of_cell? w _ c0
   have d0:=Zac c0 HBW.out
   have d1:=Zac c1 HBW.out
   have d2:=Zac c2 HBW.out
   have d3:=Zac c3 HBW.out
   have d4:=Zac c4 HBW.out
   have hblr:b<wr.heap.size:=by omega
   have hkn:(k:Int)<(n:Int):=by omega
   have HL2:=Zh (show (l++[x.loc,x.vl])++((T.init.drop (k+1)).flatMap (fun x=>[x.loc,x.vl])++((T.code.flatMap fun c=>c.map fun x=>x.loc)++(Za8 T).map fun x=>x.2.2))=R by rw [<- HL.out,Zbx ex];simp)
   have HLEN:=Zh (show l.length+2<=1000000 by have:=congrArg List.length HL2.out;have:=HRL.out;simp only [List.length_append,List.length_cons,List.length_nil] at *;omega)
   clear ex hx hlk c0 c1 c2 c3 c4 l1 l2 l3 l4
   have HYS:=Zh (Z4x (wr.alloc (.cells #[.int .i64 x.th,.int .i64 x.rg,.string ⟨x.loc.toArray⟩,.string ⟨x.vl.toArray⟩,.int .i64 x.vn] 102 (0,0))) x.loc x.vl)
   have HB1:=Zh (Zap wr (.cells #[.int .i64 x.th,.int .i64 x.rg,.string ⟨x.loc.toArray⟩,.string ⟨x.vl.toArray⟩,.int .i64 x.vn] 102 (0,0)) (.cells #[.string ⟨x.loc.toArray⟩,.string ⟨x.vl.toArray⟩] 9 (0,0)))
   go_wp2_with (at_builtin;refine Enc.appL Zoy _ rfl (.tmp 19) (.tmp 25) rfl [x.loc,x.vl] w1.heap.size l _ (wr.heap.size+1) 0 2 rfl rfl (by have:=HYS.out;simpa using this) (HV.out.below HB1.out) (by have:=HLEN.out;simp;omega) (by have:=HLEN.out;simp;omega) (by simp;omega) ?_;intro v' w3 hown3 hg3;have HO3:=Zh hown3;have HB3:=Zh hg3.below;clear hown3 hg3)
   go_roundw
   case rel=>exact⟨k+1,_,by omega,by go_num,HO3.out,HL2.out,(HBR.out.trans (HB1.out.mono (by omega))).trans HB3.out⟩
   case measure=>simp [intOf];omega
  ·have hkn:k=n:=by omega
   subst hkn
   have HL1:=Zh (show l++((T.code.flatMap fun c=>c.map fun x=>x.loc)++(Za8 T).map fun x=>x.2.2)=R by have:=HL.out;rw [List.drop_of_length_le (by have:=HN.out;omega)] at this;simpa using this)
   have HV0:=Zh HV.out
   have HBA:=Zh HBR.out
   have k4:=(HBX.out.go HBR.out).cell 4
   go_wp2_with fail
   clear HL HV HBR HBW k4
   obtain⟨wa,hwa⟩:∃ wa:World,wa=wr:=⟨_,rfl⟩
   subst hwa
   go_loopw [31,3] (fun i vv wr=>∃ (k:Nat) (l:List Nm),k<=m/\i=.int .i64 k/\Zcx.Own 9 w1.heap.size wr vv l/\l++(((T.code.drop k).flatMap fun c=>c.map fun x=>x.loc)++(Za8 T).map fun x=>x.2.2)=R/\Below w1.heap.size w1 wr) (fun i _ _=>m - (intOf i).toNat)
   case atStart=>exact⟨0,l,Nat.zero_le _,rfl,HV0.out,by rw [List.drop_zero];exact HL1.out,HBA.out⟩
   case round=>
    obtain⟨k2,l2,hk2,rfl,hv,hl,hb⟩:=hrel
    obtain⟨Av2,cv2,rfl⟩:=hv.shp
    have HV:=Zh hv
    have HL:=Zh hl
    have HBR:=Zh hb
    have hzr:=hb.size
    have hsw:w.heap.size<wr.heap.size:=by omega
    clear hv hl hb
    have HBW:=Zh (Zaa HB0.out HBR.out)
    by_cases hlt:k2<m
    ·have hlk:k2<T.code.length:=by rw [HM.out];exact hlt
     have ex:=List.getElem?_eq_getElem hlk
     obtain⟨c,hx⟩:∃ c,T.code[k2]=c:=⟨_,rfl⟩
     rw [hx] at ex
     obtain⟨b,o,A2,c2,rfl,hc0,hA2,hl1,hl2⟩:=HC.out.at_ ex
     have HCL:=Zh (show l2++((c.map fun x=>x.loc)++(((T.code.drop (k2+1)).flatMap fun c=>c.map fun x=>x.loc)++(Za8 T).map fun x=>x.2.2))=R by rw [<- HL.out,Zbx ex];simp)
     have HA2:=Zh hA2
     have hkn:(k2:Int)<(m:Int):=by omega
     have hc0r:=Zac hc0 HBW.out
     clear ex hx hlk hA2 hc0 HL
     go_wp2_with fail
     clear hc0r
     obtain⟨wi,hwi⟩:∃ wi:World,wi=wr:=⟨_,rfl⟩
     subst hwi
     go_loopw [37,3] (fun i vv wr=>∃ (i':Nat) (l:List Nm),i'<=c.length/\i=.int .i64 i'/\Zcx.Own 9 w1.heap.size wr vv l/\l++(((c.drop i').map fun x=>x.loc)++(((T.code.drop (k2+1)).flatMap fun c=>c.map fun x=>x.loc)++(Za8 T).map fun x=>x.2.2))=R/\Below w1.heap.size w1 wr) (fun i _ _=>c.length - (intOf i).toNat)
     case atStart=>exact⟨0,l2,Nat.zero_le _,rfl,HV.out,by rw [List.drop_zero];exact HCL.out,HBR.out⟩
     case round=>
      obtain⟨i,l3,hi,rfl,hv3,hl3,hb3⟩:=hrel
      obtain⟨Av3,cv3,rfl⟩:=hv3.shp
      clear HV HCL HBR HBW hzr hsw
      have HV:=Zh hv3
      have HCL:=Zh hl3
      have HBR:=Zh hb3
      have hzr:=hb3.size
      have hsw:w.heap.size<wr.heap.size:=by omega
      clear hv3 hl3 hb3
      have HBW:=Zh (Zaa HB0.out HBR.out)
      by_cases hli:i<c.length
      ·have ey:=List.getElem?_eq_getElem hli
       obtain⟨x,hx⟩:∃ x,c[i]=x:=⟨_,rfl⟩
       rw [hx] at ey
       obtain⟨b2,o2,rfl,hCi⟩:=HA2.out.at_ ey
       have hbl:=hCi.lt
       have hblr:b2<wr.heap.size:=by omega
       obtain⟨c0,c1,c2',c3,c4,c5,c6,c7,_,_⟩:=hCi.go HBW.out
       have hkl:(i:Int)<(c.length:Int):=by omega
       have HL2:=Zh (show (l3++[x.loc])++(((c.drop (i+1)).map fun x=>x.loc)++(((T.code.drop (k2+1)).flatMap fun c=>c.map fun x=>x.loc)++(Za8 T).map fun x=>x.2.2))=R by rw [<- HCL.out,Zbx ey];simp)
       have HLEN:=Zh (show l3.length+1<=1000000 by have:=congrArg List.length HL2.out;have:=HRL.out;simp only [List.length_append,List.length_cons,List.length_nil] at *;omega)
       have HYS:=Zh (Z0k (wr.alloc (.cells #[.int .i64 x.op,.int .i64 x.d,.int .i64 x.a,.int .i64 x.b,.int .i64 x.imm,.string ⟨x.loc.toArray⟩,.string ⟨x.label.toArray⟩,.int .i64 x.fence] 77 (0,0))) x.loc)
       have HB1:=Zh (Zap wr (.cells #[.int .i64 x.op,.int .i64 x.d,.int .i64 x.a,.int .i64 x.b,.int .i64 x.imm,.string ⟨x.loc.toArray⟩,.string ⟨x.label.toArray⟩,.int .i64 x.fence] 77 (0,0)) (.cells #[.string ⟨x.loc.toArray⟩] 9 (0,0)))
       clear ey hx hCi
       go_wp2_with (at_builtin;refine Enc.appL Zoy _ rfl (.tmp 41) (.tmp 44) rfl [x.loc] w1.heap.size l3 _ (wr.heap.size+1) 0 1 rfl rfl (by have:=HYS.out;simpa using this) (HV.out.below HB1.out) (by have:=HLEN.out;simp;omega) (by have:=HLEN.out;simp;omega) (by simp;omega) ?_;intro v' w3 hown3 hg3;have HO3:=Zh hown3;have HB3:=Zh hg3.below;clear hown3 hg3)
       go_roundw
       case rel=>exact⟨i+1,_,by omega,by go_num,HO3.out,HL2.out,(HBR.out.trans (HB1.out.mono (by omega))).trans HB3.out⟩
       case measure=>simp [intOf];omega
      ·have HL3:=Zh (show l3++(((T.code.drop (k2+1)).flatMap fun c=>c.map fun x=>x.loc)++(Za8 T).map fun x=>x.2.2)=R by have:=HCL.out;rw [List.drop_of_length_le (by omega)] at this;simpa using this)
       go_wp2_with fail
       go_roundw
       case rel=>exact⟨k2+1,l3,by omega,by go_num,HV.out,HL3.out,HBR.out⟩
       case measure=>simp [intOf];omega
    ·have hkm:k2=m:=by omega
     subst hkm
     have HL1:=Zh (show l2++((Za8 T).map fun x=>x.2.2)=R by have:=HL.out;rw [List.drop_of_length_le (by have:=HM.out;omega)] at this;simpa using this)
     have HV0:=Zh HV.out
     have HBA:=Zh HBR.out
     have HBRX:=Zh (HBX.out.go HBR.out)
     have k0:=HBRX.out.cell 0
     have k1:=HBRX.out.cell 1
     have k2:=HBRX.out.cell 2
     have k3:=HBRX.out.cell 3
     have k4:=HBRX.out.cell 4
     have k5:=HBRX.out.cell 5
     have k6:=HBRX.out.cell 6
     have k7:=HBRX.out.cell 7
     have k8:=HBRX.out.cell 8
     have k9:=HBRX.out.cell 9
     have k10:=HBRX.out.cell 10
     have k11:=HBRX.out.cell 11
     go_wp2_with (go_at_call 84;refine (HASK.out _ HBW.out).mono ?_;rintro e w2 ⟨u,rfl,hown,hb2⟩;obtain⟨Au,cu,rfl⟩:=Zbw hown;have HOU:=Zh hown;have HB2:=Zh hb2;clear hown hb2)
     clear k0 k1 k2 k3 k4 k5 k6 k7 k8 k9 k10 k11
     have HV2:=Zh (HV0.out.below HB2.out)
     have HB4:=Zh (Zaa HBR.out HB2.out)
     clear HL HV HBR
     have hq1024:=Zet T
     obtain⟨wc,hwc⟩:∃ wc:World,wc=w2:=⟨_,rfl⟩
     subst hwc
     go_loopw [51,3] (fun i vv wr=>∃ (k:Nat) (l:List Nm),k<=(Za8 T).length/\i=.int .i64 k/\Zcx.Own 9 w1.heap.size wr vv l/\l++((Za8 T).drop k).map (fun x=>x.2.2)=R/\wr.ownsRow w1.heap.size 25 3 (.slice Au (Za8 T).length cu) (Za8 T).length (Zay (Za8 T))/\Below w1.heap.size w1 wr) (fun i _ _=>(Za8 T).length - (intOf i).toNat)
     case atStart=>exact⟨0,l2,Nat.zero_le _,rfl,HV2.out,by rw [List.drop_zero];exact HL1.out,Zdx HOU.out (by omega),HB4.out⟩
     case round=>
      obtain⟨j,l4,hj,rfl,hv,hl,hou,hb⟩:=hrel
      obtain⟨Av4,cv4,rfl⟩:=hv.shp
      clear HOU HV2 HL1 HB4 HV0 HBW HBRX HBA
      have HV:=Zh hv
      have HL:=Zh hl
      have HOU:=Zh hou
      have HBR:=Zh hb
      have hzr:=hb.size
      have hsw:w.heap.size<wr.heap.size:=by omega
      obtain⟨A5,c5,e5,hth⟩:=Zes hou
      simp only [Value.slice.injEq,true_and] at e5
      obtain⟨rfl,rfl⟩:=e5
      have HTH:=Zh hth
      clear hv hl hou hb hth
      by_cases hlj:j<(Za8 T).length
      ·have ey:=List.getElem?_eq_getElem hlj
       obtain⟨x,hx⟩:∃ x,(Za8 T)[j]=x:=⟨_,rfl⟩
       rw [hx] at ey
       obtain⟨b2,o2,rfl,g0,g1,g2⟩:=Zyg HTH.out ey
       have hbl:b2<wr.heap.size:=World.block_lt_of_cell? wr _ g0
       have hjl:(j:Int)<((Za8 T).length:Int):=by omega
       have HL2:=Zh (show (l4++[x.2.2])++((Za8 T).drop (j+1)).map (fun x=>x.2.2)=R by rw [<- HL.out,Zbx ey];simp)
       have HLEN:=Zh (show l4.length+1<=1000000 by have:=congrArg List.length HL2.out;have:=HRL.out;simp only [List.length_append,List.length_cons,List.length_nil] at *;omega)
       have HYS:=Zh (Z0k (wr.alloc (.cells #[.int .i64 x.1,.int .i64 x.2.1,.string ⟨x.2.2.toArray⟩] 25 (0,0))) x.2.2)
       have HB1:=Zh (Zap wr (.cells #[.int .i64 x.1,.int .i64 x.2.1,.string ⟨x.2.2.toArray⟩] 25 (0,0)) (.cells #[.string ⟨x.2.2.toArray⟩] 9 (0,0)))
       clear ey hx
       go_wp2_with (at_builtin;refine Enc.appL Zoy _ rfl (.tmp 55) (.tmp 58) rfl [x.2.2] w1.heap.size l4 _ (wr.heap.size+1) 0 1 rfl rfl (by have:=HYS.out;simpa using this) (HV.out.below HB1.out) (by have:=HLEN.out;simp;omega) (by have:=HLEN.out;simp;omega) (by simp;omega) ?_;intro v' w3 hown3 hg3;have HO3:=Zh hown3;have HG3:=Zh hg3;clear hown3 hg3)
       go_roundw
       case rel=>exact⟨j+1,_,by omega,by go_num,HO3.out,HL2.out,Zv7 (Zau HOU.out HB1.out) (HV.out.below HB1.out) (by decide) HG3.out,(HBR.out.trans (HB1.out.mono (by omega))).trans HG3.out.below⟩
       case measure=>simp [intOf];omega
      ·have HLR:=Zh (show l4=R by have:=HL.out;rw [List.drop_of_length_le (by omega)] at this;simpa using this)
       have HLEN:=Zh (show l4.length<=1000000 by rw [HLR.out];exact HRL.out)
       have HU0:=Zh (show Lib.compact (Ze5 l4)=Zkz R by rw [HLR.out];rfl)
       have HLO:=Zh (show Zdl R=Zqk (Zkz R) from rfl)
       obtain⟨U,hU⟩:∃ U,Zkz R=U:=⟨_,rfl⟩
       have HU:Hid (Lib.compact (Ze5 l4)=U):=Zh (HU0.out.trans hU)
       have HUL:=Zh (show U.length<=1000000 by rw [<- hU];exact Nat.le_trans (Zt2 R) HRL.out)
       rw [hU] at HLO
       clear hU HU0
       rcases U with _ | ⟨s,r⟩
       ·go_wp2_with (first | (go_at_call 150;refine (Z1c _ l4 w1.heap.size _ HV.out HLEN.out).mono ?_;rintro e w3 ⟨rfl,hown3,hb3⟩;have HO3:=Zh hown3;have HB3:=Zh hb3;clear hown3 hb3) | (go_at_call 151;refine (Z14 _ (Ze5 l4) w1.heap.size _ HO3.out (by rw [(Zdm l4).length_eq];exact HLEN.out)).mono ?_;rintro e w5 ⟨v5,rfl,hown5,hb5⟩;rw [HU.out] at hown5;obtain⟨A6,c6,rfl,hat6,hnew6,_⟩:=hown5.at_;have HAT6:=Zh hat6;have HNEW6:=Zh hnew6;clear hat6 hnew6;have HB5:=Zh hb5;clear hown5 hb5))
        go_ret
        rw [HLO.out]
        exact⟨A6,c6,rfl,HAT6.out,fun p hp=>Nat.le_trans (by omega) (HNEW6.out p hp),Zaa HB0.out ((HBR.out.trans HB3.out).trans HB5.out)⟩
       ·have hul:=HUL.out
        simp only [List.length_cons] at hul
        by_cases hs:s=[]
        ·subst hs
         go_wp2_with (first | (go_at_call 150;refine (Z1c _ l4 w1.heap.size _ HV.out HLEN.out).mono ?_;rintro e w3 ⟨rfl,hown3,hb3⟩;have HO3:=Zh hown3;have HB3:=Zh hb3;clear hown3 hb3) | (go_at_call 151;refine (Z14 _ (Ze5 l4) w1.heap.size _ HO3.out (by rw [(Zdm l4).length_eq];exact HLEN.out)).mono ?_;rintro e w5 ⟨v5,rfl,hown5,hb5⟩;rw [HU.out] at hown5;obtain⟨g6,c6,rfl,hat6,hg6,hcap6⟩:=Zrp hown5;have HAT6:=Zh hat6;have d6:=Zn8 hat6;clear hat6;have HB5:=Zh hb5;clear hown5 hb5))
         all_goals
          go_ret
          rw [HLO.out]
         ·rename_i hcap1
          have hr0:r=[]:=by cases r with | nil=>rfl | cons _ _=>simp at hcap6;omega
          subst hr0
          exact⟨_,_,rfl,Enc.At.nil _ _,(fun p hp=>by cases hp;show w.heap.size<=g6;omega),Zaa HB0.out ((HBR.out.trans HB3.out).trans HB5.out)⟩
         ·exact⟨_,_,rfl,HAT6.out.drop 1,(fun p hp=>by cases hp;show w.heap.size<=g6;omega),Zaa HB0.out ((HBR.out.trans HB3.out).trans HB5.out)⟩
        ·have hs2:(s == [])=false:=by simpa using hs
         have hs3:s.isEmpty=false:=by simpa using hs
         have HCH:=Zh (show Zqk (s :: r)=s :: r by cases s with | nil=>exact absurd rfl hs | cons _ _=>rfl)
         go_wp2_with (first | (go_at_call 150;refine (Z1c _ l4 w1.heap.size _ HV.out HLEN.out).mono ?_;rintro e w3 ⟨rfl,hown3,hb3⟩;have HO3:=Zh hown3;have HB3:=Zh hb3;clear hown3 hb3) | (go_at_call 151;refine (Z14 _ (Ze5 l4) w1.heap.size _ HO3.out (by rw [(Zdm l4).length_eq];exact HLEN.out)).mono ?_;rintro e w5 ⟨v5,rfl,hown5,hb5⟩;rw [HU.out] at hown5;obtain⟨g6,c6,rfl,hat6,hg6,hcap6⟩:=Zrp hown5;have HAT6:=Zh hat6;have d6:=Zn8 hat6;clear hat6;have HB5:=Zh hb5;clear hown5 hb5))
         go_ret
         rw [HLO.out,HCH.out]
         exact⟨some ⟨g6,0,none⟩,c6,rfl,HAT6.out,(fun p hp=>by cases hp;show w.heap.size<=g6;omega),Zaa HB0.out ((HBR.out.trans HB3.out).trans HB5.out)⟩
end
end
def shC (f:Int)(c:UInt8):Bool:=decide (f<=(c.toNat:Int))&&decide ((c.toNat:Int)<=126)&&!decide ((c.toNat:Int)=34)
theorem Zfm {f:Int}{s:ByteArray}{k:Nat}(hk:k<s.size)(h:shC f s[k]=false):s.data.toList.all (shC f)=false:=by
 have hl:s.data.toList.length=s.size:=rfl
 rw [List.all_eq_false]
 exact⟨s.data.toList[k]'(by omega),List.getElem_mem _,by rw [show s.data.toList[k]'(by omega)=s[k] from rfl,h];simp⟩
theorem Zmk {f:Int}{s:ByteArray}(h:∀ i (hi:i<s.size),shC f s[i]=true):s.data.toList.all (shC f)=true:=by
 have hl:s.data.toList.length=s.size:=rfl
 rw [List.all_eq_true]
 intro x hx
 obtain⟨j,hj,rfl⟩:=List.getElem_of_mem hx
 exact h j (by omega)
set_option maxHeartbeats 400000 in
theorem Zuk (f:Int)(s:ByteArray)(w:World)(hs:s.size<=9223372036854775807):Calls Tryz.prog 79 #[.string s,.int .u8 f] w fun e w'=>e=.returned (.bool (s.data.toList.all (shC f)))/\w=w':=by
 obtain⟨r,hr⟩:∃ r,s.data.toList.all (shC f)=r:=⟨_,rfl⟩
 rw [hr]
 have HR:=Zh hr
 clear hr
 go_enter Tryz.func79,Tryz.ntmps79
 go_wp2
 go_loop [5] (fun i=>∃ k:Nat,k<=s.size/\i=.int .i64 k/\∀ j (hj:j<s.size),j<k->shC f s[j]=true) (fun i=>s.size - (intOf i).toNat)
 case atStart=>exact⟨0,Nat.zero_le _,rfl,fun j _ h=>absurd h (Nat.not_lt_zero _)⟩
 case round=>
  obtain⟨k,hk,rfl,hall⟩:=hrel
  have H:=Zh hall
  clear hall
  by_cases hlt:k<s.size
  ·by_cases b1:(s[k].toNat:Int)<f
   ·have a1:decide ((s[k].toNat:Int)<f)=true:=decide_eq_true b1
    have HF:=Zh (Zfm (f:=f) hlt (by simp [shC];omega))
    clear b1
    exact m_141
   have a1:decide ((s[k].toNat:Int)<f)=false:=decide_eq_false b1
   by_cases b2:(126:Int)<(s[k].toNat:Int)
   ·have a2:decide ((126:Int)<(s[k].toNat:Int))=true:=decide_eq_true b2
    have HF:=Zh (Zfm (f:=f) hlt (by simp [shC];omega))
    clear b1 b2
    exact m_141
   have a2:decide ((126:Int)<(s[k].toNat:Int))=false:=decide_eq_false b2
   by_cases b3:(s[k].toNat:Int)=34
   ·have a3:((s[k].toNat:Int) == 34)=true:=by simpa using b3
    have HF:=Zh (Zfm (f:=f) hlt (by simp [shC];omega))
    exact m_138
   have a3:((s[k].toNat:Int) == 34)=false:=by simpa using b3
   have HK:=Zh (show shC f s[k]=true by simp [shC];omega)
   clear b1 b2 b3
   go_wp2_with fail
   go_round
   case rel=>exact⟨k+1,by omega,by go_num,fun j hj h=>by
    by_cases e:j<k
    ·exact H.out j hj e
    ·obtain rfl:j=k:=by omega
     exact HK.out⟩
   case measure=>simp [intOf];omega
  ·have HF:=Zh (Zmk (f:=f) (s:=s) (fun i hi=>H.out i hi (by omega)))
   exact m_141
def Zgx (l:List UInt8):Bool:=decide (1<=l.length)&&decide (l.length<=1024)&&l.all (shC 33)
theorem Zls {s:ByteArray}(h1:1<=s.size)(h2:s.size<=1024):Zgx s.data.toList=s.data.toList.all (shC 33):=by
 have hl:s.data.toList.length=s.size:=rfl
 simp only [Zgx,hl]
 rw [decide_eq_true h1,decide_eq_true h2]
 simp
theorem Znw {s:ByteArray}(h:s.size<1\/1024<s.size):Zgx s.data.toList=false:=by
 have hl:s.data.toList.length=s.size:=rfl
 simp only [Zgx,hl]
 rcases h with h | h
 ·rw [decide_eq_false (p:=1<=s.size) (by omega)];rfl
 ·rw [decide_eq_false (p:=s.size<=1024) (by omega),Bool.and_false];rfl
set_option maxHeartbeats 400000 in
theorem Z1i (s:ByteArray)(w:World)(hs:s.size<=9223372036854775807):Calls Tryz.prog 49 #[.string s] w fun e w'=>e=.returned (.bool (Zgx s.data.toList))/\w=w':=by
 by_cases h1:s.size<1\/1024<s.size
 ·have HF:=Zh (Znw h1)
  rcases h1 with h1 | h1
  all_goals
   go_enter Tryz.func49,Tryz.ntmps49
   go_wp2_with fail
   go_ret
   exact⟨Zae HF.out.symm,rfl⟩
 have h2:1<=s.size/\s.size<=1024:=by omega
 have HT:=Zh (Zls h2.1 h2.2)
 have h3:=h2.1
 have h4:=h2.2
 clear h1 h2
 rw [HT.out]
 obtain⟨r,hr⟩:∃ r,s.data.toList.all (shC 33)=r:=⟨_,rfl⟩
 rw [hr]
 have HR:=Zh hr
 clear hr
 go_enter Tryz.func49,Tryz.ntmps49
 go_wp2
 go_loop [3] (fun i=>∃ k:Nat,k<=s.size/\i=.int .i64 k/\∀ j (hj:j<s.size),j<k->shC 33 s[j]=true) (fun i=>s.size - (intOf i).toNat)
 case atStart=>exact⟨0,Nat.zero_le _,rfl,fun j _ h=>absurd h (Nat.not_lt_zero _)⟩
 case round=>
  obtain⟨k,hk,rfl,hall⟩:=hrel
  have H:=Zh hall
  clear hall
  by_cases hlt:k<s.size
  ·by_cases b1:(s[k].toNat:Int)<33
   ·have a1:decide ((s[k].toNat:Int)<33)=true:=decide_eq_true b1
    have HF:=Zh (Zfm (f:=33) hlt (by simp [shC];omega))
    clear b1
    exact m_141
   have a1:decide ((s[k].toNat:Int)<33)=false:=decide_eq_false b1
   by_cases b2:(126:Int)<(s[k].toNat:Int)
   ·have a2:decide ((126:Int)<(s[k].toNat:Int))=true:=decide_eq_true b2
    have HF:=Zh (Zfm (f:=33) hlt (by simp [shC];omega))
    clear b1 b2
    exact m_141
   have a2:decide ((126:Int)<(s[k].toNat:Int))=false:=decide_eq_false b2
   by_cases b3:(s[k].toNat:Int)=34
   ·have a3:((s[k].toNat:Int) == 34)=true:=by simpa using b3
    have HF:=Zh (Zfm (f:=33) hlt (by simp [shC];omega))
    exact m_138
   have a3:((s[k].toNat:Int) == 34)=false:=by simpa using b3
   have HK:=Zh (show shC 33 s[k]=true by simp [shC];omega)
   clear b1 b2 b3
   go_wp2_with fail
   go_round
   case rel=>exact⟨k+1,by omega,by go_num,fun j hj h=>by
    by_cases e:j<k
    ·exact H.out j hj e
    ·obtain rfl:j=k:=by omega
     exact HK.out⟩
   case measure=>simp [intOf];omega
  ·have HF:=Zh (Zmk (f:=33) (s:=s) (fun i hi=>H.out i hi (by omega)))
   exact m_141
def Zh6 (l:List UInt8):Bool:=l.isEmpty||(decide (((l.headD 0).toNat:Int)≠32)&&decide (((l.getLastD 0).toNat:Int)≠32))
theorem Ztc {s:ByteArray}(h:s.size=0):Zh6 s.data.toList=true:=by
 have hl:s.data.toList.length=s.size:=rfl
 rw [List.eq_nil_of_length_eq_zero (hl.trans h)]
 rfl
theorem Z1y:∀ (l:List UInt8) (n:Nat) (hn:l.length=n) (h:0<n),Zh6 l=(decide (((l[0]'(by omega)).toNat:Int)≠32)&&decide (((l[n - 1]'(by omega)).toNat:Int)≠32))
 | [],n,hn,h=>by simp at hn;omega
 | c :: r,n,hn,h=>by
  have he:(c :: r).getLastD 0=(c :: r)[n - 1]'(by omega):=by
   rw [List.getLastD_eq_getLast?,List.getLast?_eq_getElem?,List.getElem?_eq_getElem (by simp)]
   simp only [Option.getD_some,hn]
  simp only [Zh6,he,List.headD_cons,List.isEmpty_cons,Bool.false_or,List.getElem_cons_zero]
  rfl
theorem Zp6 {s:ByteArray}(h:0<s.size):Zh6 s.data.toList=(decide ((s[0].toNat:Int)≠32)&&decide (((s[s.size - 1]'(by omega)).toNat:Int)≠32)):=
 Z1y s.data.toList s.size rfl h
def Ze1 (l:List UInt8):Bool:=decide (l.length<=262144)&&l.all (shC 32)&&Zh6 l
set_option maxHeartbeats 400000 in
theorem Z2f (s:ByteArray)(w:World)(hs:s.size<=9223372036854775807):Calls Tryz.prog 50 #[.string s] w fun e w'=>e=.returned (.bool (Ze1 s.data.toList))/\w=w':=by
 have hl:s.data.toList.length=s.size:=rfl
 by_cases h1:262144<s.size
 ·have HF:=Zh (show Ze1 s.data.toList=false by simp only [Ze1,hl];rw [decide_eq_false (p:=s.size<=262144) (by omega)];rfl)
  clear hl
  go_enter Tryz.func50,Tryz.ntmps50
  go_wp2_with fail
  go_ret
  exact⟨Zae HF.out.symm,rfl⟩
 have HT:=Zh (show Ze1 s.data.toList=(s.data.toList.all (shC 32)&&Zh6 s.data.toList) by simp only [Ze1,hl];rw [decide_eq_true (p:=s.size<=262144) (by omega)];simp)
 have h2:s.size<=262144:=by omega
 clear h1 hl
 rw [HT.out]
 obtain⟨r,hr⟩:∃ r,(s.data.toList.all (shC 32)&&Zh6 s.data.toList)=r:=⟨_,rfl⟩
 rw [hr]
 have HR:=Zh hr
 clear hr
 go_enter Tryz.func50,Tryz.ntmps50
 go_wp2
 go_loop [3] (fun i=>∃ k:Nat,k<=s.size/\i=.int .i64 k/\∀ j (hj:j<s.size),j<k->shC 32 s[j]=true) (fun i=>s.size - (intOf i).toNat)
 case atStart=>exact⟨0,Nat.zero_le _,rfl,fun j _ h=>absurd h (Nat.not_lt_zero _)⟩
 case round=>
  obtain⟨k,hk,rfl,hall⟩:=hrel
  have H:=Zh hall
  clear hall
  by_cases hlt:k<s.size
  ·by_cases b1:(s[k].toNat:Int)<32
   ·have a1:decide ((s[k].toNat:Int)<32)=true:=decide_eq_true b1
    have HF:=Zh (Zfm (f:=32) hlt (by simp [shC];omega))
    clear b1
    exact m_140
   have a1:decide ((s[k].toNat:Int)<32)=false:=decide_eq_false b1
   by_cases b2:(126:Int)<(s[k].toNat:Int)
   ·have a2:decide ((126:Int)<(s[k].toNat:Int))=true:=decide_eq_true b2
    have HF:=Zh (Zfm (f:=32) hlt (by simp [shC];omega))
    clear b1 b2
    exact m_140
   have a2:decide ((126:Int)<(s[k].toNat:Int))=false:=decide_eq_false b2
   by_cases b3:(s[k].toNat:Int)=34
   ·have a3:((s[k].toNat:Int) == 34)=true:=by simpa using b3
    have HF:=Zh (Zfm (f:=32) hlt (by simp [shC];omega))
    clear b1 b2 b3
    exact m_140
   have a3:((s[k].toNat:Int) == 34)=false:=by simpa using b3
   have HK:=Zh (show shC 32 s[k]=true by simp [shC];omega)
   clear b1 b2 b3
   go_wp2_with fail
   go_round
   case rel=>exact⟨k+1,by omega,by go_num,fun j hj h=>by
    by_cases e:j<k
    ·exact H.out j hj e
    ·obtain rfl:j=k:=by omega
     exact HK.out⟩
   case measure=>simp [intOf];omega
  ·have HF:=Zh (Zmk (f:=32) (s:=s) (fun i hi=>H.out i hi (by omega)))
   by_cases h0:s.size=0
   ·have hz:((s.size:Int) == 0)=true:=by simp [h0]
    have HG:=Zh (Ztc h0)
    clear h0
    go_wp2_with fail
    go_ret
    exact⟨Zae (by rw [<- HR.out,HF.out,HG.out];rfl),rfl⟩
   have hz:((s.size:Int) == 0)=false:=beq_eq_false_iff_ne.2 (by omega)
   have hp:0<s.size:=by omega
   have hw:IntKind.i64.wrap ((s.size:Int) - 1)=((s.size - 1:Nat):Int):=by rw [IntWalk.i64_in _ (by omega)];omega
   have hp1:s.size - 1<s.size:=by omega
   by_cases q0:(s[0].toNat:Int)=32
   ·have b0:((s[0].toNat:Int) != 32)=false:=by simpa using q0
    have HG:=Zh (show Zh6 s.data.toList=false by rw [Zp6 hp,decide_eq_false (by simpa using q0)];rfl)
    clear h0 q0
    go_wp2_with fail
    go_ret
    exact⟨Zae (by rw [<- HR.out,HF.out,HG.out];rfl),rfl⟩
   have b0:((s[0].toNat:Int) != 32)=true:=by simpa using q0
   by_cases q1:((s[s.size - 1]'hp1).toNat:Int)=32
   ·have b1:(((s[s.size - 1]'hp1).toNat:Int) != 32)=false:=by simpa using q1
    have HG:=Zh (show Zh6 s.data.toList=false by rw [Zp6 hp,decide_eq_false (p:=((s[s.size - 1]'hp1).toNat:Int)≠32) (by simpa using q1),Bool.and_false])
    exact m_129
   have b1:(((s[s.size - 1]'hp1).toNat:Int) != 32)=true:=by simpa using q1
   have HG:=Zh (show Zh6 s.data.toList=true by rw [Zp6 hp,decide_eq_true (p:=(s[0].toNat:Int)≠32) q0,decide_eq_true (p:=((s[s.size - 1]'hp1).toNat:Int)≠32) q1];rfl)
   exact m_129
theorem Zur (p:UInt8->Bool):∀ l:List UInt8,(l.dropWhile p).length<=l.length
 | []=>by simp
 | c :: r=>by
  rw [List.dropWhile_cons]
  split
  ·have:=Zur p r;simp;omega
  ·simp
theorem Z08 (p:UInt8->Bool)(l:List UInt8)(h:(l.dropWhile p).length=l.length):l.dropWhile p=l:=by
 cases l with
 | nil=>rfl
 | cons c r=>
  rw [List.dropWhile_cons] at h ⊢
  split
  ·rename_i hc
   rw [if_pos hc] at h
   have:=Zur p r
   simp at h;omega
  ·rfl
theorem Znq (p:UInt8->Bool)(c:UInt8)(r:List UInt8):(c :: r).dropWhile p=c :: r↔p c=false:=by
 rw [List.dropWhile_cons]
 cases h:p c with
 | false=>simp
 | true=>
  simp only [if_true]
  refine⟨fun e=>?_,fun e=>by cases e⟩
  have:=congrArg List.length e
  have:=Zur p r
  simp at *;omega
theorem Zt6 (l:List UInt8):decide (Lib.trimB l 32=l)=Zh6 l:=by
 cases hl:l with
 | nil=>rfl
 | cons c r=>
  rw [<- hl]
  have hne:l≠[]:=by rw [hl];simp
  have hh:l.headD 0=c:=by rw [hl];rfl
  have hlast:l.reverse=l.getLastD 0 :: (l.reverse.tail):=by
   cases hr:l.reverse with
   | nil=>exact absurd (List.reverse_eq_nil_iff.1 hr) hne
   | cons d q=>
    have:l=(d :: q).reverse:=by rw [<- hr,List.reverse_reverse]
    rw [this]
    simp
  have key:Lib.trimB l 32=l↔((c == 32)=false/\(l.getLastD 0 == 32)=false):=by
   unfold Lib.trimB Lib.trimLeftB Lib.trimRightB
   constructor
   ·intro h
    have h1:=Zur (· == 32) (l.reverse.dropWhile (· == 32)).reverse
    have h2:=Zur (· == 32) l.reverse
    have h3:=congrArg List.length h
    simp only [List.length_reverse] at h1 h2
    have h4:l.reverse.dropWhile (· == 32)=l.reverse:=Z08 _ _ (by rw [List.length_reverse];omega)
    rw [h4,List.reverse_reverse] at h
    refine⟨?_,?_⟩
    ·rw [hl] at h;exact (Znq (· == 32) c r).1 h
    ·rw [hlast] at h4;exact (Znq (· == 32) (l.getLastD 0) l.reverse.tail).1 h4
   ·rintro⟨h1,h2⟩
    have h4:l.reverse.dropWhile (· == 32)=l.reverse:=by rw [hlast];exact (Znq (· == 32) (l.getLastD 0) l.reverse.tail).2 h2
    rw [h4,List.reverse_reverse,hl]
    exact (Znq (· == 32) c r).2 h1
  have hb:∀ d:UInt8,(d == 32)=false↔((d.toNat:Int)≠32):=fun d=>by
   rw [beq_eq_false_iff_ne,ne_eq,ne_eq,<- UInt8.toNat_inj]
   show ¬ d.toNat=32↔_
   omega
  rw [Bool.eq_iff_iff,decide_eq_true_iff,key]
  unfold Zh6
  have he:l.isEmpty=false:=by rw [hl];rfl
  rw [he,hh,hb,hb]
  simp
def Za5 (T:Tst):Int:=
 if Zd0 T.arch=false then 5
 else if (Zgx T.name&&Ze1 T.cycle)=false then 130
 else if Zfe T.arch T.code≠0 then Zfe T.arch T.code
 else if Zfu T.arch T.code.length T.init≠0 then Zfu T.arch T.code.length T.init
 else if Zbd T.arch T.q T.k T.t T.r T.l T.v T.kids≠0 then Zbd T.arch T.q T.k T.t T.r T.l T.v T.kids
 else if (Za8 T).any (fun x=>decide ((T.code.length:Int)<=x.1)) then 80
 else if 64<(Zdl (Zel T)).length then 2 else 0
def Z65 (T:List Th)(E:Int)(w:World)(e:Ending)(w':World):Prop:=∃ A cap,e=.returned (.tuple #[.slice A T.length cap,.int .i64 E])/\Ztj w.heap.size w' A cap T/\Below w.heap.size w w'
section
variable {w:World} {q k t r v:Int} {l:List UInt8} {kids:Fr}
set_option maxHeartbeats 2000000 in
set_option maxRecDepth 100000 in
theorem Z54 (hi:Nat)(kv:Value)(hhi:hi<=w.heap.size)(hs:Zd7 w hi kv kids)(hl:l.length<=9223372036854775807) :
  Calls Tryz.prog 38 #[Zzf q k t r l v kv] w (Z65 (Zlt q k t r l v kids) (Zbd 2 q k t r l v kids) w):=by
 obtain⟨A,cap,rfl,s'⟩:=hs
 have hs2:Zd7 w hi (.slice A kids.len cap) kids:=⟨A,cap,rfl,s'⟩
 have hb1:=Zad w (.cells #[.int .i64 q,.int .i64 k,.int .i64 t,.int .i64 r,.string ⟨l.toArray⟩,.int .i64 v,.slice A kids.len cap] 30 (0,0))
 have hs3:=hs2.below hhi hb1
 have HS:=Zh hs3
 have HSU:=Zh (hs3.up (show hi<=(w.alloc (.cells #[.int .i64 q,.int .i64 k,.int .i64 t,.int .i64 r,.string ⟨l.toArray⟩,.int .i64 v,.slice A kids.len cap] 30 (0,0))).heap.size by simp;omega))
 have HB1:=Zh hb1
 have HBN:=Zh (Blk.new w 30 #[.int .i64 q,.int .i64 k,.int .i64 t,.int .i64 r,.string ⟨l.toArray⟩,.int .i64 v,.slice A kids.len cap])
 by_cases hck:Zbd 2 q k t r l v kids=0
 ·obtain⟨ho,hk,hall,hv,hnl⟩:=Zqi hck
  have HCK:=Zh hck
  have hN:=Zwg (k:=k) (t:=t) (r:=r) (l:=l) (v:=v) ho hk
  have HTP:=Zh (fun (w2:World) (h3:w.heap.size<=w2.heap.size) (h1:hi<=w2.heap.size) (h2:Zd7 w2 hi (.slice A kids.len cap) kids)=>hN w2 hi _ none 0 [] w.heap.size h3 h1 h2 (Ztj.nil _ _) (by simp;omega))
  rw [show Zlt q k t r l v kids=Zko (atL k t r l++Za2 kids) [] by unfold Zlt;rw [if_pos hck,Zpk hv],hck]
  obtain⟨T,hT⟩:∃ T,Zko (atL k t r l++Za2 kids) []=T:=⟨_,rfl⟩
  rw [hT] at HTP ⊢
  clear s' hs2 hs3 hb1 hv hck hT ho hk hall hN
  go_enter Tryz.func38,Tryz.ntmps38
  go_wp2_with (first
   | (go_at_call 99;refine (Zuf 2 q k t r l v _ kids _ hl HSU.out).mono ?_;rw [HCK.out];rintro e w2 ⟨rfl,hb2⟩;have hB:=HBN.out.go hb2;have c1:=hB.cell 1;have c2:=hB.cell 2;have c3:=hB.cell 3;have c4:=hB.cell 4;have c5:=hB.cell 5;have c6:=hB.cell 6;have HB2:=Zh hb2;have hz2:=hb2.size;simp at hz2;have HS2:=Zh (HS.out.below (by simp;omega) hb2);clear hB hb2)
   | (go_at_call 100;refine (HTP.out _ (by omega) (by omega) HS2.out).mono ?_;rintro e w3 ⟨g,cg,rfl,ht,hb3⟩;have HT:=Zh ht;have HB3:=Zh hb3;clear ht hb3))
  go_ret2
  exact⟨g,cg,rfl,HT.out,Zaa HB1.out (Zaa HB2.out HB3.out)⟩
 ·obtain⟨E,hE⟩:∃ E,Zbd 2 q k t r l v kids=E:=⟨_,rfl⟩
  rw [show Zlt q k t r l v kids=[] by unfold Zlt;rw [if_neg hck],hE]
  rw [hE] at hck
  have HCK:=Zh hE
  have e1:(E != 0)=true:=by simpa using hck
  clear s' hs2 hs3 hb1 hck hE
  go_enter Tryz.func38,Tryz.ntmps38
  go_wp2_with (go_at_call 99;refine (Zuf 2 q k t r l v _ kids _ hl HSU.out).mono ?_;rw [HCK.out];rintro e w2 ⟨rfl,hb2⟩)
  go_ret2
  exact⟨none,0,rfl,(Ztj.nil _ _),Zaa HB1.out hb2⟩
end
end Go.Proofs.YtoegmdnfbemppaaGreatDoor
