/- MachNobody walked: true is returned, and what was there stays. -/
import Derived.Test.YtgjefdaaihgliaaGreatDoorMn47
import Derived.Test.YtgjefdaaihgliaaGreatDoorMn48
import Derived.Test.YtgjefdaaihgliaaGreatDoorMn49

namespace Go.Proofs.YtgjefdaaihgliaaGreatDoor
open Go.RowKit
section
def ShS (w:World)(B z n:Nat)(v:Value):Prop:=∃ A cap,v=.slice A n cap/\∀ i,i<n->∃ b,A=some ⟨b,0,none⟩/\B<=b/\∀ j,j<z->(w.cell? ⟨b,i*z+j,none⟩).isSome=true/\w.frozen? ⟨b,i*z+j,none⟩=false
theorem Zqo {w:World}{B z n:Nat}{T:TypeId}{v:Value}{xs:List Value}(h:w.ownsRow B T z v n xs):ShS w B z n v:=by
 obtain⟨h1,h2⟩:=h;rcases h2 with ⟨e,h0⟩ | ⟨b,cap,cur,e,hg,hh,hnc,hcm,hcs,ht⟩
 ·subst h0;exact⟨_,_,e,fun i hi=>absurd hi (Nat.not_lt_zero _)⟩
 ·refine⟨_,_,e,fun i hi=>⟨b,rfl,hg,fun j hj=>⟨?_,Blk.frozen hh _⟩⟩⟩;have hlt:i*z+j<n*z:=by
   have:=Nat.mul_le_mul_right z (show i+1<=n by omega);rw [Nat.add_mul,Nat.one_mul] at this;omega
  have hz:i*z+j<cur.size:=by
   have h3:=congrArg List.length ht;rw [List.length_take] at h3;have:cur.toList.length=cur.size:=Array.length_toList;omega
  rw [Blk.cell hh,Array.getElem?_eq_getElem hz];rfl
theorem ShS.set {w:World}{B z n:Nat}{v:Value}(h:ShS w B z n v)(p:Addr)(u:Value):ShS (w.setCell p u) B z n v:=by
 obtain⟨A,cap,e,h⟩:=h;refine⟨A,cap,e,fun i hi=>?_⟩;obtain⟨b,e2,hb,k⟩:=h i hi;exact⟨b,e2,hb,fun j hj=>⟨Zgo (k j hj).1,by rw [World.frozen?_setCell];exact (k j hj).2⟩⟩
theorem ShS.low {w:World}{B B' z n:Nat}{v:Value}(h:ShS w B z n v)(hB:B'<=B):ShS w B' z n v:=by
 obtain⟨A,cap,e,h⟩:=h;refine⟨A,cap,e,fun i hi=>?_⟩;obtain⟨b,e2,hb,k⟩:=h i hi;exact⟨b,e2,Nat.le_trans hB hb,k⟩
theorem ShS.below {w w':World}{B z n:Nat}{v:Value}(h:ShS w B z n v)(hb:Below w.heap.size w w'):ShS w' B z n v:=by
 obtain⟨A,cap,e,h⟩:=h;refine⟨A,cap,e,fun i hi=>?_⟩;obtain⟨b,e2,hle,k⟩:=h i hi;refine⟨b,e2,hle,fun j hj=>?_⟩;obtain⟨u,hu⟩:=Option.isSome_iff_exists.1 (k j hj).1;refine⟨by rw [Zac hu hb];rfl,?_⟩;have:=(k j hj).2;have hlt:=World.block_lt_of_cell? w _ hu;have he:=hb.block b hlt;unfold World.frozen? at this ⊢;simp only [he] at this ⊢;exact this
section
set_option maxHeartbeats 4000000
set_option maxRecDepth 100000
theorem Zqu (T:Tst)(Ai Ac:Option Addr)(ci cc:Nat)(kv:Value)(pick:Int)(w:World)(hT:Zcu w T Ai Ac kv) :
  Calls Tryz.prog 3 #[Zbu T (.slice Ai T.init.length ci) (.slice Ac T.code.length cc) kv,.int .i64 pick] w fun e w'=>e=.returned (.bool true)/\Below w.heap.size w w':=by
 obtain⟨A0,q0,rfl⟩:∃ A c,kv=.slice A T.kids.len c:=by obtain⟨A,cap,e,_⟩:=hT.kids;exact⟨A,cap,e⟩
 simp only [Zbu];have HT:=Zh (fun (W:World) (hW:Below w.heap.size w W)=>hT.below hW);clear hT;obtain⟨W0,hW0⟩:∃ W0,W0=((w.alloc (.cells #[.int .i64 T.arch,.string ⟨T.name.toArray⟩,.string ⟨T.cycle.toArray⟩,.slice Ai T.init.length ci,.slice Ac T.code.length cc,.int .i64 T.q,.int .i64 T.k,.int .i64 T.t,.int .i64 T.r,.string ⟨T.l.toArray⟩,.int .i64 T.v,.slice A0 T.kids.len q0] 32 (0,0))).alloc (.cells #[.bool false,.int .i64 0,.slice none 0 0,.slice none 0 0,.slice none 0 0,.slice none 0 0,.slice none 0 0] 39 (0,0))).alloc (.cells #[.pointer none,.pointer (some ⟨w.heap.size+1,0,none⟩)] 33 (0,0)):=⟨_,rfl⟩;have HB0:Hid (Below w.heap.size w W0):=Zh (hW0 ▸ Zaa (Zau w _ _) _);have HK0:Hid (Blk W0 w.heap.size 32 #[.int .i64 T.arch,.string ⟨T.name.toArray⟩,.string ⟨T.cycle.toArray⟩,.slice Ai T.init.length ci,.slice Ac T.code.length cc,.int .i64 T.q,.int .i64 T.k,.int .i64 T.t,.int .i64 T.r,.string ⟨T.l.toArray⟩,.int .i64 T.v,.slice A0 T.kids.len q0]):=Zh (hW0 ▸ ((Blk.new w _ _).alloc _).alloc _);have HN0:Hid (Zti W0 (.pointer (some ⟨w.heap.size+1,0,none⟩))):=Zh (.inr ⟨_,_,_,_,_,_,_,rfl,hW0 ▸ (Zfl w _ _ _).alloc _⟩)
 have HS0:Hid (Blk W0 (w.heap.size+1+1) 33 #[.pointer none,.pointer (some ⟨w.heap.size+1,0,none⟩)]):=Zh (by have:=Zfl (w.alloc (.cells #[.int .i64 T.arch,.string ⟨T.name.toArray⟩,.string ⟨T.cycle.toArray⟩,.slice Ai T.init.length ci,.slice Ac T.code.length cc,.int .i64 T.q,.int .i64 T.k,.int .i64 T.t,.int .i64 T.r,.string ⟨T.l.toArray⟩,.int .i64 T.v,.slice A0 T.kids.len q0] 32 (0,0))) (.cells #[.bool false,.int .i64 0,.slice none 0 0,.slice none 0 0,.slice none 0 0,.slice none 0 0,.slice none 0 0] 39 (0,0)) 33 #[.pointer none,.pointer (some ⟨w.heap.size+1,0,none⟩)];rw [World.size_alloc] at this;rw [hW0];exact this);go_enter Tryz.func3,Tryz.ntmps3
 go_wp2_with fail
 rw [<- hW0];clear hW0;go_loopw [6] (fun v wr=>∃ i:Nat,i<=2/\v=.int .i64 i/\Below W0.heap.size W0 wr) (fun v _=>2 - (intOf v).toNat)
 case atStart=>exact⟨0,Nat.zero_le _,rfl,Below.refl _ _⟩
 case round=>
  obtain⟨i,hi,rfl,hb⟩:=hrel;have HB:=Zh hb;clear hb;have hii:(0:Int)<=(i:Int):=ω;by_cases hlt:i<2
  ·have hij:(i:Int)<2:=ω;obtain⟨q,hq,hn⟩:∃ q,W0.cell? ⟨w.heap.size+1+1,i,none⟩=some (.pointer q)/\Zti W0 (.pointer q):=by
    rcases (show i=0\/i=1 by omega) with rfl | rfl
    ·exact⟨_,HS0.o.cl 0,.inl rfl⟩
    ·exact⟨_,HS0.o.cl 1,HN0.o⟩
   have hq:=Zac hq HB.o;have HN:=Zh (hn.below HB.o);clear hn
   go_wp2_with fail
   refine (Z79 HN.o pick).mono ?_;rintro e w1 ⟨rfl,hb1⟩;have hX:=Zad w1 (.cells #[.int .i64 0,.int .i64 0] 42 (0,0));have HY:=Zh (Blk.new w1 42 #[.int .i64 0,.int .i64 0]);have HB:=Zh (Zab (Zab HB.o hb1) hX);have HN:=Zh ((HN.o.below hb1).below hX);have y0:=HY.o.cl 0;have y1:=HY.o.cl 1;clear hb1 hX
   go_wp2_with fail
   refine (Zy8 HN.o).mono ?_;rintro e wn ⟨rfl,hb9⟩;have HB:=Zh (Zab HB.o hb9);have HN:=Zh (HN.o.below hb9);have y0:=Zac y0 hb9;have y1:=Zac y1 hb9;clear hb9
   go_wp2_with fail
   refine (Zvt HN.o).mono ?_;rintro e wn ⟨rfl,hb9⟩;have HB:=Zh (Zab HB.o hb9);have HN:=Zh (HN.o.below hb9);have y0:=Zac y0 hb9;have y1:=Zac y1 hb9;clear hb9
   go_wp2_with fail
   refine (Zy9 HN.o).mono ?_;rintro e wn ⟨rfl,hb9⟩;have HB:=Zh (Zab HB.o hb9);have HN:=Zh (HN.o.below hb9);have y0:=Zac y0 hb9;have y1:=Zac y1 hb9;clear hb9
   go_wp2_with fail
   refine (Z2u HN.o).mono ?_;rintro e wn ⟨rfl,hb9⟩;have HB:=Zh (Zab HB.o hb9);have HN:=Zh (HN.o.below hb9);have y0:=Zac y0 hb9;have y1:=Zac y1 hb9;clear hb9
   go_wp2_with fail
   refine (Z5w HN.o).mono ?_;rintro e wn ⟨rfl,hb9⟩;have HB:=Zh (Zab HB.o hb9);have HN:=Zh (HN.o.below hb9);have y0:=Zac y0 hb9;have y1:=Zac y1 hb9;clear hb9
   go_wp2_with fail
   go_roundw
   case rel=>exact⟨i+1,ω,by go_num,HB.o⟩
   case measure=>simp [intOf];omega
  ·have hil:i=2:=ω;subst hil;have HK:=Zh (HK0.o.go HB.o);have HB:=Zh (Zab HB0.o HB.o);clear HK0 HB0 HN0 HS0;have c0:=HK.o.cl 0;have c1:=HK.o.cl 1;have c2:=HK.o.cl 2;have c3:=HK.o.cl 3;have c4:=HK.o.cl 4;have c5:=HK.o.cl 5;have c6:=HK.o.cl 6;have c7:=HK.o.cl 7;have c8:=HK.o.cl 8;have c9:=HK.o.cl 9;have c10:=HK.o.cl 10;have c11:=HK.o.cl 11;rcases htr:Zcs T with ⟨c,k⟩ | a
   ·have hc:=Zmn htr;have HM:=Zh (fun (W:World) (hW:Below w.heap.size w W)=>Z75 T Ai Ac ci cc _ W (HT.o W hW) c k htr);have HR:=Zh (fun (W:World) (hW:Below w.heap.size w W)=>Z76 T Ai Ac ci cc _ W (HT.o W hW) c k htr);clear htr
    go_wp2_with fail
    refine (HM.o _ HB.o).mono ?_;rintro e w1 ⟨rfl,hb1⟩;have HB:=Zh (Zab HB.o hb1);have HK:=Zh (HK.o.go hb1);clear HM hb1;clear c0 c1 c2 c3 c4 c5 c6 c7 c8 c9 c10 c11;have c0:=HK.o.cl 0;have c1:=HK.o.cl 1;have c2:=HK.o.cl 2;have c3:=HK.o.cl 3;have c4:=HK.o.cl 4;have c5:=HK.o.cl 5;have c6:=HK.o.cl 6;have c7:=HK.o.cl 7;have c8:=HK.o.cl 8;have c9:=HK.o.cl 9;have c10:=HK.o.cl 10;have c11:=HK.o.cl 11
    go_wp2_with fail
    refine (HR.o _ HB.o).mono ?_;rintro e w2 ⟨rfl,hb2⟩;have HB:=Zh (Zab HB.o hb2);clear HR hb2;clear c0 c1 c2 c3 c4 c5 c6 c7 c8 c9 c10 c11
    go_wp2_with fail
    refine (Z0a _).mono ?_;rintro e w3 ⟨rfl,hb3⟩;have HB3:=Zh (Zab (Zab HB.o (Zad _ _)) hb3);clear hb3
    go_wp2_with fail
    go_ret;exact⟨rfl,HB3.o⟩
   ·have hE:=Zir htr;have hso:=Zzj hE;have hze:=Zxc hE;have hcl:(Zby T).code.length=(Zby T).tds.length:=by show T.code.length=((List.range _).map _).length;simp
    have hn2:(Zby T).tds.length<=256:=by
     obtain⟨_,_,_,hcod,_⟩:=Za0 hE;rw [<- hcl];exact Nat.le_trans (Zca hcod).1 (by decide)
    have hml:(Zby T).mem.length<=1000000:=by show (Ze3 (Zaq T) T.init).length<=_;rw [Zf8];exact hso.ll
    have hla:(Zj9 (Zby T)).length<=1000000:=Nat.le_trans (Zgs _ _) ω;have hlc:(Zdj (Zby T)).length<=1000000:=by have:=hso.len;unfold Zdj;rw [List.length_map];omega
    obtain⟨na,hna⟩:∃ n,(Zj9 (Zby T)).length=n:=⟨_,rfl⟩;obtain⟨nb,hnb⟩:∃ n,(Zby T).mem.length=n:=⟨_,rfl⟩;obtain⟨nc,hnc⟩:∃ n,(Zdj (Zby T)).length=n:=⟨_,rfl⟩;have hla:na<=1000000:=hna ▸ hla;have hlb:nb<=1000000:=hnb ▸ hml;have hlc:nc<=1000000:=hnc ▸ hlc;have HM:=Zh (fun (W:World) (hW:Below w.heap.size w W)=>Z5v T Ai Ac ci cc _ W (HT.o W hW) a htr);have HR:=Zh (fun (W:World) (hW:Below w.heap.size w W)=>Z77 T Ai Ac ci cc _ W (HT.o W hW) a htr);clear htr
    go_wp2_with fail
    refine (HM.o _ HB.o).mono ?_;rintro e w1 ⟨g,V,rfl,hm,hb1⟩;have HB:=Zh (Zab HB.o hb1);have HK:=Zh (HK.o.go hb1);have HP:=Zh hm;clear HM hb1 hm;clear c0 c1 c2 c3 c4 c5 c6 c7 c8 c9 c10 c11;have c0:=HK.o.cl 0;have c1:=HK.o.cl 1;have c2:=HK.o.cl 2;have c3:=HK.o.cl 3;have c4:=HK.o.cl 4;have c5:=HK.o.cl 5;have c6:=HK.o.cl 6;have c7:=HK.o.cl 7;have c8:=HK.o.cl 8;have c9:=HK.o.cl 9;have c10:=HK.o.cl 10;have c11:=HK.o.cl 11
    go_wp2_with fail
    refine (HR.o _ HB.o).mono ?_;rintro e w2 ⟨U,rfl,uA,uC,ui,uc,uk,hrm,hb2⟩;have HB:=Zh (Zab HB.o hb2);have HK:=Zh (HK.o.go hb2);have HP:=Zh (HP.o.below hb2);have HRm:=Zh hrm;clear HR hb2;obtain⟨Al,cl,elv,_⟩:=hrm.locs;obtain⟨At,ct,etv,_⟩:=hrm.ths;obtain⟨Ap,cp,epv,_,_⟩:=Enc.Own.at_ hrm.thr.own;obtain⟨Am,cm,emv,_,_⟩:=Enc.Own.at_ hrm.mem;clear hrm;clear c0 c1 c2 c3 c4 c5 c6 c7 c8 c9 c10 c11;have hrv:rmV T U=.agg #[.int .i64 T.arch,.string ⟨T.name.toArray⟩,.string ⟨T.cycle.toArray⟩,.slice Ai T.init.length ci,.slice Ac T.code.length cc,.int .i64 T.q,.int .i64 T.k,.int .i64 T.t,.int .i64 T.r,.string ⟨T.l.toArray⟩,.int .i64 T.v,.slice A0 T.kids.len q0,.slice Al (Zby T).locs.length cl,.slice Ap U.tr.length cp,.slice Am nb cm,.slice At (Zby T).ths.length ct]:=by unfold rmV rmC;rw [uA,uC,ui,uc,uk,elv,etv,epv,emv,hnb]
    rw [hrv];have HRV:=Zh hrv;clear uA uC ui uc uk elv etv epv emv hrv;have HBx:=Zh (Zad w2 (.cells #[.int .i64 T.arch,.string ⟨T.name.toArray⟩,.string ⟨T.cycle.toArray⟩,.slice Ai T.init.length ci,.slice Ac T.code.length cc,.int .i64 T.q,.int .i64 T.k,.int .i64 T.t,.int .i64 T.r,.string ⟨T.l.toArray⟩,.int .i64 T.v,.slice A0 T.kids.len q0,.slice Al (Zby T).locs.length cl,.slice Ap U.tr.length cp,.slice Am nb cm,.slice At (Zby T).ths.length ct] 54 (0,0)));have HXx:=Zh (Blk.new w2 54 #[.int .i64 T.arch,.string ⟨T.name.toArray⟩,.string ⟨T.cycle.toArray⟩,.slice Ai T.init.length ci,.slice Ac T.code.length cc,.int .i64 T.q,.int .i64 T.k,.int .i64 T.t,.int .i64 T.r,.string ⟨T.l.toArray⟩,.int .i64 T.v,.slice A0 T.kids.len q0,.slice Al (Zby T).locs.length cl,.slice Ap U.tr.length cp,.slice Am nb cm,.slice At (Zby T).ths.length ct])
    go_wp2_with fail
    generalize w2.alloc _=W2 at *;have HB:=Zh (Zab HB.o HBx.o);have HK:=Zh (HK.o.go HBx.o);have HP:=Zh (HP.o.below HBx.o);have HRm:=Zh (HRm.o.below HBx.o);have HX:=Zh HXx.o;clear HBx HXx;generalize w2.heap.size=p2 at *;go_loopw [16] (fun v wr=>∃ i:Nat,i<=3/\v=.int .i64 i/\Below W2.heap.size W2 wr) (fun v _=>3 - (intOf v).toNat)
    case atStart=>exact⟨0,Nat.zero_le _,rfl,Below.refl _ _⟩
    case round=>
     generalize wr=wo at *;obtain⟨i,hi,rfl,hb⟩:=hrel;have HC:=Zh hb;clear hb;have hii:(0:Int)<=(i:Int):=ω;by_cases hlt:i<3
     ·have hij:(i:Int)<3:=ω
      go_wp2_with fail
      refine (Z69 (HP.o.below HC.o) hn2 hcl).mono ?_;rintro e x1 ⟨va,rfl,ha,hb1⟩;have ha:=Zqo ha;rw [hna] at ha;have HA:=Zh (ha.low HC.o.size);obtain⟨Aa,ca,rfl,_⟩:=ha;have HC:=Zh (Zab HC.o hb1);clear hb1
      go_wp2_with fail
      refine (mmP (HP.o.below HC.o) hml).mono ?_;rintro e x2 ⟨vb,rfl,ha,hb1⟩;have ha:=Zqo ha;rw [hnb] at ha;have HA:=Zh (HA.o.below hb1);have HE:=Zh (ha.low HC.o.size);obtain⟨Ab,cb,rfl,_⟩:=ha;have HC:=Zh (Zab HC.o hb1);clear hb1
      go_wp2_with fail
      refine (stP (HP.o.below HC.o) hso).mono ?_;rintro e x3 ⟨vc,rfl,ha,hb1⟩;have ha:=Zqo ha;rw [hnc] at ha;have HA:=Zh (HA.o.below hb1);have HE:=Zh (HE.o.below hb1);have HF:=Zh (ha.low HC.o.size);obtain⟨Ac2,cc2,rfl,_⟩:=ha;have HC:=Zh (Zab HC.o hb1);have hbx:=HX.o.go HC.o;have c0:=hbx.cl 0;have c1:=hbx.cl 1;have c2:=hbx.cl 2;have c3:=hbx.cl 3;have c4:=hbx.cl 4;have c5:=hbx.cl 5;have c6:=hbx.cl 6;have c7:=hbx.cl 7;have c8:=hbx.cl 8;have c9:=hbx.cl 9;have c10:=hbx.cl 10;have c11:=hbx.cl 11;have c12:=hbx.cl 12;have c13:=hbx.cl 13;have c14:=hbx.cl 14;have c15:=hbx.cl 15;clear hb1 hbx
      go_wp2_with fail
      refine (show Calls _ _ _ _ _ from by rw [<- HRV.o];exact isM (HP.o.below HC.o) (HRm.o.below HC.o) hso hze hn2 hcl hml).mono ?_;rintro e x4 ⟨rfl,hb1⟩;have HA:=Zh (HA.o.below hb1);have HE:=Zh (HE.o.below hb1);have HF:=Zh (HF.o.below hb1);have HC:=Zh (Zab HC.o hb1);clear hb1 c0 c1 c2 c3 c4 c5 c6 c7 c8 c9 c10 c11 c12 c13 c14 c15
      go_wp2_with fail
      go_loopw [20] (fun v wr=>∃ j:Nat,j<=na/\v=.int .i64 j/\Below W2.heap.size W2 wr/\ShS wr W2.heap.size 2 na (.slice Aa na ca)/\ShS wr W2.heap.size 1 nb (.slice Ab nb cb)/\ShS wr W2.heap.size 1 nc (.slice Ac2 nc cc2)) (fun v _=>na - (intOf v).toNat)
      case atStart=>exact⟨0,Nat.zero_le _,rfl,HC.o,HA.o,HE.o,HF.o⟩
      case round=>
      obtain⟨j,hj,rfl,hb,ha,hb2,hc2⟩:=hrel;have HC:=Zh hb;have HA:=Zh ha;have HE:=Zh hb2;have HF:=Zh hc2;clear hb ha hb2 hc2;have hjj:(0:Int)<=(j:Int):=ω;by_cases hlt2:j<na
      ·have hij2:(j:Int)<(na:Int):=ω;obtain⟨A',cap',e',kk⟩:=HA.o;simp only [Value.slice.injEq,true_and] at e';obtain⟨rfl,rfl⟩:=e';obtain⟨pb,rfl,hpb,kk⟩:=kk j hlt2;obtain⟨u0,k0⟩:=Option.isSome_iff_exists.1 (kk 0 ω).1;have f0:=(kk 0 ω).2;obtain⟨u1,k1⟩:=Option.isSome_iff_exists.1 (kk 1 ω).1;have f1:=(kk 1 ω).2;simp only [Nat.add_zero] at k0 f0 k1 f1;clear kk
       go_wp2_with fail
       go_roundw
       case rel=>exact⟨j+1,ω,by go_num,by repeat (first | exact HC.o | (refine Below.setCell ?_ (by dsimp only;omega) _) | refine Below.drew ?_),by repeat (first | exact HA.o | refine ShS.set ?_ _ _),by repeat (first | exact HE.o | refine ShS.set ?_ _ _),by repeat (first | exact HF.o | refine ShS.set ?_ _ _)⟩
       case measure=>simp [intOf];omega
      ·have hjl:j=na:=ω;have g5:¬ (j:Int)<(na:Int):=ω
       go_wp2_with fail
       go_loopw [21] (fun v wr=>∃ j:Nat,j<=nb/\v=.int .i64 j/\Below W2.heap.size W2 wr/\ShS wr W2.heap.size 2 na (.slice Aa na ca)/\ShS wr W2.heap.size 1 nb (.slice Ab nb cb)/\ShS wr W2.heap.size 1 nc (.slice Ac2 nc cc2)) (fun v _=>nb - (intOf v).toNat)
       case atStart=>exact⟨0,Nat.zero_le _,rfl,HC.o,HA.o,HE.o,HF.o⟩
       case round=>
       obtain⟨j,hj,rfl,hb,ha,hb2,hc2⟩:=hrel;have HC:=Zh hb;have HA:=Zh ha;have HE:=Zh hb2;have HF:=Zh hc2;clear hb ha hb2 hc2;have hjj:(0:Int)<=(j:Int):=ω;by_cases hlt2:j<nb
       ·have hij2:(j:Int)<(nb:Int):=ω;obtain⟨A',cap',e',kk⟩:=HE.o;exact m_14
       ·have hjl:j=nb:=ω;have g5:¬ (j:Int)<(nb:Int):=ω
        go_wp2_with fail
        go_loopw [22] (fun v wr=>∃ j:Nat,j<=nc/\v=.int .i64 j/\Below W2.heap.size W2 wr/\ShS wr W2.heap.size 2 na (.slice Aa na ca)/\ShS wr W2.heap.size 1 nb (.slice Ab nb cb)/\ShS wr W2.heap.size 1 nc (.slice Ac2 nc cc2)) (fun v _=>nc - (intOf v).toNat)
        case atStart=>exact⟨0,Nat.zero_le _,rfl,HC.o,HA.o,HE.o,HF.o⟩
        case round=>
        obtain⟨j,hj,rfl,hb,ha,hb2,hc2⟩:=hrel;have HC:=Zh hb;have HA:=Zh ha;have HE:=Zh hb2;have HF:=Zh hc2;clear hb ha hb2 hc2;have hjj:(0:Int)<=(j:Int):=ω;by_cases hlt2:j<nc
        ·have hij2:(j:Int)<(nc:Int):=ω;obtain⟨A',cap',e',kk⟩:=HF.o;exact m_14
        ·have hjl:j=nc:=ω;have g5:¬ (j:Int)<(nc:Int):=ω
         go_wp2_with fail
         go_roundw
         case rel=>exact⟨i+1,ω,by go_num,HC.o⟩
         case measure=>simp [intOf];omega
     ·have hil:i=3:=ω;subst hil;have HK:=Zh (HK.o.go HC.o);have hbx:=HX.o.go HC.o;have HB:=Zh (Zab HB.o HC.o);have c0:=HK.o.cl 0;have c1:=HK.o.cl 1;have c2:=HK.o.cl 2;have c3:=HK.o.cl 3;have c4:=HK.o.cl 4;have c5:=HK.o.cl 5;have c6:=HK.o.cl 6;have c7:=HK.o.cl 7;have c8:=HK.o.cl 8;have c9:=HK.o.cl 9;have c10:=HK.o.cl 10;have c11:=HK.o.cl 11;have d0:=hbx.cl 0;have d1:=hbx.cl 1;have d2:=hbx.cl 2;have d3:=hbx.cl 3;have d4:=hbx.cl 4;have d5:=hbx.cl 5;have d6:=hbx.cl 6;have d7:=hbx.cl 7;have d8:=hbx.cl 8;have d9:=hbx.cl 9;have d10:=hbx.cl 10;have d11:=hbx.cl 11;clear hbx
      go_wp2_with fail
      refine (Z28 T Ai Ac ci cc _ _ (HT.o _ HB.o) hE).mono ?_;rintro e w3 ⟨rfl,hb3⟩;have HB:=Zh (Zab HB.o hb3);clear hb3;clear c0 c1 c2 c3 c4 c5 c6 c7 c8 c9 c10 c11;clear d0 d1 d2 d3 d4 d5 d6 d7 d8 d9 d10 d11
      go_wp2_with fail
      refine (Z0a _).mono ?_;rintro e w4 ⟨rfl,hb4⟩;have HB4:=Zh (Zab HB.o hb4);clear hb4
      go_wp2_with fail
      go_ret;exact⟨rfl,HB4.o⟩
end
end
end Go.Proofs.YtgjefdaaihgliaaGreatDoor
