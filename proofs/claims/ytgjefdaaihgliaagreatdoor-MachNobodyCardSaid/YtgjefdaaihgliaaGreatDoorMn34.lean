/- Layer 9: the program's Do, where it tells no error. -/
import Derived.Test.YtgjefdaaihgliaaGreatDoorMn31

namespace Go.Proofs.YtgjefdaaihgliaaGreatDoor
open Go.RowKit
section
def Z84 (vs:List (List UInt8×Int))(at_:Int)(ac:Ac)(w:World)(e:Ending)(w':World):Prop:=
 ∃ g cap,e=.returned (.tuple #[Z2l (.slice (some ⟨g,0,none⟩) vs.length cap) at_,Ztp ac,.int .i64 0])/\Zb1 w' w.heap.size g cap vs/\Below w.heap.size w w'
def Z7d (W:World)(at_:Int)(vs:List (List UInt8×Int))(s:Value)(x:World):Prop:=
 ∃ Bo g cap,s=.pointer (some ⟨Bo,0,none⟩)/\W.heap.size<=Bo/\Blk x Bo 65 #[.slice (some ⟨g,0,none⟩) vs.length cap,.int .i64 (at_+1)]/\Zb1 x W.heap.size g cap vs/\Below W.heap.size W x
theorem Z43 {W x1 w3:World}{at_:Int}{vs:List (List UInt8×Int)}{g cap:Nat}{u0 u1:Value}(hB:Below W.heap.size W x1)
  (ho:Zb1 w3 (x1.alloc (.cells #[u0,u1] 65 (0,0))).heap.size g cap vs) (hb:Below (x1.alloc (.cells #[u0,u1] 65 (0,0))).heap.size (x1.alloc (.cells #[u0,u1] 65 (0,0))) w3) :
  Z7d W at_ vs (.pointer (some ⟨x1.heap.size,0,none⟩)) ((w3.setCell ⟨x1.heap.size,0,none⟩ (.slice (some ⟨g,0,none⟩) vs.length cap)).setCell ⟨x1.heap.size,1,none⟩ (.int .i64 (at_+1))):=by
 obtain⟨hg1,hg2,_,_,cur,hcur⟩:=ho.blk;have hz1:=hB.size;have hz2:=hb.size;rw [World.size_alloc] at hg1 hz2;have k0:=(((Blk.new x1 65 #[u0,u1]).go hb).set_ 0 (.slice (some ⟨g,0,none⟩) vs.length cap)).set_ 1 (.int .i64 (at_+1));refine⟨x1.heap.size,g,cap,rfl,ω,k0,?_,?_⟩
 ·exact Za3 (Zgu (Zgu ho (by simp;omega) _) (by simp;omega) _) (by rw [World.size_alloc];omega)
 ·have h1:Below W.heap.size W w3:=hB.trans (((Zad x1 _).mono hz1).trans (hb.mono (by rw [World.size_alloc];omega)));exact (h1.setCell (by simpa using hz1) _).setCell (by simpa using hz1) _
theorem Z44 {W x1 w3:World}{at_:Int}{vs:List (List UInt8×Int)}{g cap:Nat}(hB:Below W.heap.size W x1)
  (ho:Zb1 w3 x1.heap.size g cap vs) (hb:Below x1.heap.size x1 w3) :
  Z7d W at_ vs (.pointer (some ⟨w3.heap.size,0,none⟩)) (w3.alloc (.cells #[.slice (some ⟨g,0,none⟩) vs.length cap,.int .i64 (at_+1)] 65 (0,0))):=by
 have hz1:=hB.size;have hz2:=hb.size;exact⟨w3.heap.size,g,cap,rfl,ω,Blk.new _ _ _,Zah (Za3 ho hz1) (Zad _ _),(hB.trans (hb.mono hz1)).alloc (Nat.le_trans hz1 hz2) _⟩
theorem Z9a (w:World)(t0 t1 t2 t3:TypeId)(c0 c1 c2 c3:Array Value){w':World}(hb:Below ((((w.alloc (.cells c0 t0 (0,0))).alloc (.cells c1 t1 (0,0))).alloc (.cells c2 t2 (0,0))).alloc (.cells c3 t3 (0,0))).heap.size ((((w.alloc (.cells c0 t0 (0,0))).alloc (.cells c1 t1 (0,0))).alloc (.cells c2 t2 (0,0))).alloc (.cells c3 t3 (0,0))) w') :
  Blk w' w.heap.size t0 c0/\Blk w' (w.heap.size+1) t1 c1/\Blk w' (w.heap.size+1+1) t2 c2/\Blk w' (w.heap.size+1+1+1) t3 c3/\Below w.heap.size w w'/\w.heap.size+4<=w'.heap.size:=by
 have e1:(w.alloc (.cells c0 t0 (0,0))).heap.size=w.heap.size+1:=by simp
 have e2:((w.alloc (.cells c0 t0 (0,0))).alloc (.cells c1 t1 (0,0))).heap.size=w.heap.size+1+1:=by simp
 have e3:(((w.alloc (.cells c0 t0 (0,0))).alloc (.cells c1 t1 (0,0))).alloc (.cells c2 t2 (0,0))).heap.size=w.heap.size+1+1+1:=by simp
 have k1:=(Blk.new (w.alloc (.cells c0 t0 (0,0))) t1 c1);have k2:=(Blk.new ((w.alloc (.cells c0 t0 (0,0))).alloc (.cells c1 t1 (0,0))) t2 c2);have k3:=(Blk.new (((w.alloc (.cells c0 t0 (0,0))).alloc (.cells c1 t1 (0,0))).alloc (.cells c2 t2 (0,0))) t3 c3);rw [e1] at k1;rw [e2] at k2;rw [e3] at k3;refine⟨((((Blk.new w t0 c0).alloc _).alloc _).alloc _).go hb,((k1.alloc _).alloc _).go hb,(k2.alloc _).go hb,k3.go hb,Zab (Zaa (Zaa (Zaa (Zad _ _) _) _) _) hb,?_⟩;have:=hb.size;simp at this;omega
theorem Z54 {w:World}{B:Nat}{t:TypeId}{z n:Nat}{v:Value}{xs:List Value}(h:w.ownsRow B t z v n xs):w.drew.ownsRow B t z v n xs:=h
theorem Z15 {op d a imm:Int}{loc:List UInt8}{vs vs':List (List UInt8×Int)}{ac:Ac}(h:doL op d a imm loc vs=some (vs',ac)):vs'.length=vs.length:=by
 unfold doL at h
 repeat' split at h
 all_goals first | (cases h;simp) | cases h
theorem Zyi {op d a b imm:Int}{loc:List UInt8}{label:ByteArray}{fence:Int}(h:Zfo op d a b imm ⟨loc.toArray⟩ label fence=true):loc.length<=32:=by
 have e:∀ l:List UInt8,(⟨l.toArray⟩:ByteArray).toList=l:=fun l=>ByteArray.toList_eq _
 unfold Zfo at h;simp only [Bool.and_eq_true,e] at h;have h2:=h.2
 repeat' split at h2
 ·simp only [Bool.and_eq_true] at h2;exact Zhs h2.1.1.1
 ·simp only [Bool.and_eq_true] at h2;exact Zhs h2.1.1.1
 ·simp only [Bool.and_eq_true] at h2;exact Zhs h2.1.1.1
 ·simp only [Bool.and_eq_true,List.isEmpty_iff] at h2;rw [h2.1.1.1];simp
 ·simp only [Bool.and_eq_true,List.isEmpty_iff] at h2;rw [h2.1.1.1];simp
 ·cases h2
theorem Z6s (k:Nat)(hk:k<5):Zft[k*2]?=some (.int .i64 ((k:Int)+1))/\Zft[k*2+1]?=some (.func (.func (Z8k k)) #[] #[]):=by
 match k,hk with
 | 0,_=>exact⟨rfl,rfl⟩
 | 1,_=>exact⟨rfl,rfl⟩
 | 2,_=>exact⟨rfl,rfl⟩
 | 3,_=>exact⟨rfl,rfl⟩
 | 4,_=>exact⟨rfl,rfl⟩
section
set_option maxHeartbeats 4000000
set_option maxRecDepth 100000
theorem doP (A:Option Addr)(cap:Nat)(vs vs':List (List UInt8×Int))(ac:Ac)(op d a b imm:Int)(loc:List UInt8)(at_:Int)(w:World)(h:Zfo op d a b imm ⟨loc.toArray⟩ ⟨#[]⟩ 0=true)(hd:doL op d a imm loc vs=some (vs',ac))
  (hv:Zd2.At w A vs) (ht:Ziq 15 at_ vs=true) :
  Calls Tryz.prog 56 #[Zcl op d a b imm ⟨loc.toArray⟩ ⟨#[]⟩ 0,Z2l (.slice A vs.length cap) at_] w (Z84 vs' (at_+1) ac w):=by
 have hs:(⟨loc.toArray⟩:ByteArray).size<=9223372036854775807:=by
  have:=Zyi h;rw [Zfs];omega
 obtain⟨t1,t2,h15,_⟩:=Zkn.1 ht;have H:=Zh h;have HT:=Zh ht;have HD:=Zh hd;have HV:=Zh hv;have HL:=Zh h15;have b6:IntKind.i64.wrap (at_+1)=at_+1:=IntWalk.i64_in _ ω;clear h ht hd hv h15;go_enter Tryz.func56,Tryz.ntmps56
 go_wp2_with fail
 refine (Z4n d a b imm ⟨loc.toArray⟩ ⟨#[]⟩ 0 _ hs op).mono ?_;rw [H.o];rintro e w1 ⟨rfl,hb1⟩;obtain⟨i1,l1,p1,q1,hbw,hz⟩:=Z9a _ _ _ _ _ _ _ _ _ hb1;have HBW:=Zh hbw;have HI:=Zh i1;have HLo:=Zh l1;have HP:=Zh p1;have HQ:=Zh q1;have e0:=l1.cl 0;have e1:=l1.cl 1;clear hb1 hbw i1 l1 p1 q1
 go_wp2_with fail
 refine (Z9d A cap at_ vs _ (HV.o.below HBW.o) HT.o).mono ?_;rintro e w2 ⟨rfl,hb2⟩;have e0:=Zac e0 hb2;have e1:=Zac e1 hb2;have HB2:=Zh hb2;have hz2:=hb2.size;clear hb2
 go_upto_region 6 with fail
 have HS:=Zh (show ∀ x,Below w2.heap.size w2 x->(x.cell? ⟨w.heap.size+1,0,none⟩=some (.slice A vs.length cap)/\x.cell? ⟨w.heap.size+1,1,none⟩=some (.int .i64 at_)/\Zd2.At x A vs/\Below w2.heap.size w2 x) from fun x hx=>⟨Zac e0 hx,Zac e1 hx,((HV.o.below HBW.o).below HB2.o).below hx,hx⟩)
 go_cut [8] (fun s8 wx=>Z7d w2 at_ vs s8 wx)
 case first=>
  go_region_held3 (fun x=>x.cell? ⟨w.heap.size+1,0,none⟩=some (.slice A vs.length cap)/\x.cell? ⟨w.heap.size+1,1,none⟩=some (.int .i64 at_)/\Zd2.At x A vs/\Below w2.heap.size w2 x)
   ((refine HS.o _ ?_;repeat (first | exact Below.refl _ _ | refine Zab ?_ hb' | refine Below.drew ?_ | refine Zaa ?_ _ | refine Below.setCell ?_ (by simp) _)))
   (first | (go_at_call 20;have hh:=‹World.cell? _ _=_/\_›;refine (Z12 A cap vs _ hh.2.2.1 (by have:=HL.o;omega) (by have:=HL.o;omega)).mono ?_;rintro e w' ⟨g,cap,rfl,hown,hb'⟩;obtain⟨hcx,hfx⟩:=Z7m hb';have hzx:=hb'.size))
  all_goals
   go_wp2
   go_meet
   first
    | exact Z44 (Below.refl _ _).drew hown hb'
    | exact Z43 (Below.refl _ _) hown ⟨hb'.os,hb'.tape,hb'.output,hb'.size,hb'.block⟩
 case rest=>
  obtain⟨Bo,g,cp,rfl,hB1,hbo,hrg,hbx⟩:=hcut;have HX:=Zh hbx;have HBo:=Zh hbo;have HRg:=Zh hrg;clear hbx hbo hrg HS e0 e1 b6
  go_wp2_with (go_at_call 96;refine (Z6t _).mono ?_;rintro e w3 ⟨rfl,rfl⟩)
  have hBe:=Zad wc (.cells Zft 191 (0,0));have HX3:=Zh (HB2.o.trans ((HX.o.trans (hBe.mono HX.o.size)).mono hz2));have HT3:=Zh (Blk.new wc 191 Zft);have HBo3:=Zh (HBo.o.go hBe);have HRg3:=Zh (Zb1.below HRg.o hBe);clear hBe HBo HRg;have hopm:∃ m:Nat,op=(m:Int)+1/\m<5:=by
   have hh:=H.o;unfold Zfo at hh;simp only [Bool.and_eq_true] at hh;have h2:=hh.2
   repeat' split at h2
   all_goals first | (subst_vars;exact⟨_,rfl,by decide⟩) | cases h2
  obtain⟨m,hm,hm5⟩:=hopm;have hzt:wc.heap.size<(wc.alloc (.cells Zft 191 (0,0))).heap.size:=by simp
  generalize hW3:wc.alloc (.cells Zft 191 (0,0))=W3 at *;generalize hT:wc.heap.size=T at *;clear hW3 hT HX;have HM:=Zh hm;clear hm;go_loopw [10,34] (fun _ i wr=>∃ k:Nat,k<=m/\i=.int .i64 k/\Below W3.heap.size W3 wr) (fun _ i _=>5 - (intOf i).toNat)
  case atStart=>exact⟨0,ω,rfl,Below.refl _ _⟩
  case round=>
   obtain⟨k,hk,rfl,hr0⟩:=hrel;have HR:=Zh hr0;have hzr:=hr0.size;obtain⟨c0,c1⟩:=Z6s k ω;have tk0:=(HT3.o.go HR.o).cl (k*2) c0;have tk1:=(HT3.o.go HR.o).cl (k*2+1) c1;have hi:=(HI.o.go HX3.o).go HR.o;have i0:=hi.cl 0;have hz3:=HX3.o.size;have z1:w.heap.size<wr.heap.size:=ω;have z2:Bo<wr.heap.size:=Nat.lt_of_lt_of_le HBo3.o.lt hzr;have z3:T<wr.heap.size:=Nat.lt_of_lt_of_le hzt hzr;by_cases hkm:k=m
   ·subst hkm;have HII:=Zh hi;have i1:=hi.cl 1;have i2:=hi.cl 2;have i3:=hi.cl 3;have i4:=hi.cl 4;have i5:=hi.cl 5;have i6:=hi.cl 6;have i7:=hi.cl 7;have g1:(((k:Int)+1) != op)=false:=by rw [HM.o];simp
    clear hi c0 c1;rcases (by omega:k=0\/k=1\/k=2\/k=3\/k=4) with rfl | rfl | rfl | rfl | rfl
    all_goals
     simp only [Z8k] at tk1
     go_wp2_with fail
     refine (Z7q _ g cp Bo vs vs' ac op d a b imm loc (at_+1) _ H.o HD.o HL.o (Zah HRg3.o (Zab HR.o (Zad _ _))) (HBo3.o.go (Zab HR.o (Zad _ _))) _ HM.o hm5).mono ?_;rintro e w4 ⟨rfl,hown,honly⟩;have HN:=Zh (Zd1.trans (Zd1.of_below (g:=g) (Zab (Zab HX3.o HR.o) (Zad _ _))) honly);obtain⟨hgB,_,_,_,cur,hcur⟩:=Zb1.blk HRg3.o;have hgo:Bo≠g:=Zg0 HBo3.o hcur (by decide);have HP4:=Zh (HP.o.only HN.o ω);have HQ4:=Zh (HQ.o.only HN.o ω);have HO4:=Zh (((HBo3.o.go HR.o).alloc _).only honly hgo);have HW4:=Zh (Zd1.below (HBW.o) ω HN.o);have HOwn:=Zh hown;have z4:=honly.size;have z5:w.heap.size+1+1+1<w4.heap.size:=by simp at z4;omega
     have z7:w.heap.size+1+1<w4.heap.size:=ω;have z6:Bo<w4.heap.size:=HO4.o.lt;have p0:=HP4.o.cl 0;have p1:=HP4.o.cl 1;have q0:=HQ4.o.cl 0;have q1:=HQ4.o.cl 1;have q2:=HQ4.o.cl 2;have q3:=HQ4.o.cl 3;have q4:=HQ4.o.cl 4;have pf:=HP4.o.frozen;have qf:=HQ4.o.frozen;have o0:w4.cell? ⟨Bo,0,none⟩=some (.slice (some ⟨g,0,none⟩) vs'.length cp):=by rw [Z15 HD.o];exact HO4.o.cl 0
     have o1:=HO4.o.cl 1;clear hown honly i0 i1 i2 i3 i4 i5 i6 i7 tk0 tk1 hcur z1 z2 z3 z4 g1
     go_wp2_with fail
     go_region
     all_goals
      go_wp2;refine bodyPost_ret (v:=.tuple #[Z2l (.slice (some ⟨g,0,none⟩) vs'.length cp) (at_+1),Ztp ac,.int .i64 0]) (by simp [results,Tryz.results56,go_sem, *]) rfl ⟨g,cp,rfl,?_,?_⟩
      ·refine Za3 (B:=w2.heap.size) ?_ ω
       repeat (first | with_reducible exact HOwn.o | with_reducible refine Zgu ?_ (by simp <;> omega) _ | with_reducible refine Z54 ?_ | with_reducible refine Zah ?_ (Zad _ _))
      ·repeat (first | with_reducible exact HW4.o | with_reducible refine Below.drew ?_ | with_reducible refine Zaa ?_ _ | with_reducible refine Below.setCell ?_ (by simp <;> omega) _)
   ·have g1:(((k:Int)+1) != op)=true:=by rw [HM.o];simp;omega
    clear hi c0 c1
    go_wp2_with fail
    go_roundw
    case rel=>exact⟨k+1,ω,by go_num,Zaa HR.o _⟩
    case measure=>simp [intOf];omega
end
end
end Go.Proofs.YtgjefdaaihgliaaGreatDoor
