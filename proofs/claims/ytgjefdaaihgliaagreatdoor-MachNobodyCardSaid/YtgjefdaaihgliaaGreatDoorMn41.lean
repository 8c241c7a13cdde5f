/- Layer 21: how the things stand: the program's State. -/
import Derived.Test.YtgjefdaaihgliaaGreatDoorMn35
import Derived.Test.YtgjefdaaihgliaaGreatDoorMn39

namespace Go.Proofs.YtgjefdaaihgliaaGreatDoor
open Go.RowKit
section
theorem Z0t {P:Program}{f:FuncId}{args:Array Value}{w:World}{n:Nat}{v:Value}(h:Calls P f args (w.drewN n) fun e w'=>e=.returned v/\∃ q,w'=(w.drewN n).drewN q):Calls P f args (w.drewN n) fun e w''=>e=.returned v/\∃ m,w''=w.drewN m:=
 h.mono fun _ _ ⟨he,q,hm⟩=>⟨he,n+q,by rw [hm,World.drewN_drewN]⟩
structure SOM (m:BMc):Prop extends SOK m where
 str:Zi3 m.locs
 th1:∀ x∈m.ths,x.1<0->x.1=-1
section
set_option maxHeartbeats 4000000
set_option maxRecDepth 100000
variable {w:World} {B g:Nat} {m:BMc} {V:MMv}
theorem stP (h:Zb3 w B g m V)(hs:SOM m) :
  Calls Tryz.prog 7 #[.pointer (some ⟨g,0,none⟩)] w (Zn1 (Zdj m) w):=by
 have HB:=Zh h;have HI:=Zh (fun (W:World) (hW:Below w.heap.size w W)=>Z67 (h.below hW));have HSk:=Zh hs;have hgw:=h.blk.lt;have hlen:=hs.len;obtain⟨n,hne⟩:∃ n,m.ths.length=n:=⟨_,rfl⟩;have HL:Hid (Zdj m=sts m n):=Zh (by rw [<- hne];unfold Zdj sts;rw [List.take_length]);obtain⟨At,ct,et⟩:=h.ths.shp;have k4:w.cell? ⟨g,4,none⟩=some (.slice At n ct):=by
  have:=h.blk.cl 4;rw [show V.tv=.slice At m.ths.length ct from et,hne] at this;exact this
 have HNE:=Zh hne;rw [hne] at hlen;have HEt:=Zh et;clear h hs hne et;go_enter Tryz.func7,Tryz.ntmps7
 go_wp2_with (go_at_call 15;refine (HI.o _ (by repeat (first | exact Below.refl _ _ | refine Zag ?_ _ | refine Below.drew ?_ | refine Zaa ?_ _))).mono ?_;rintro e w1 ⟨rfl,rfl⟩)
 go_loopw [3,16] (fun out i wr=>∃ (k:Nat) (v:Value),out=v/\k<=n/\i=.int .i64 k/\Zde.Own 3 w1.heap.size wr v (sts m k)/\Below w1.heap.size w1 wr) (fun _ i _=>n - (intOf i).toNat)
 case atStart=>exact⟨0,_,rfl,Nat.zero_le _,rfl,Enc.Own.nil _ _ _,Below.refl _ _⟩
 case round=>
  obtain⟨k,v,rfl,hk,rfl,hown,hbw⟩:=hrel;have HO:=Zh hown;have HW:=Zh hbw;have hz:=hbw.size;by_cases hkn:k<n
  ·have hkm:k<m.ths.length:=by rw [HNE.o];exact hkn
   have hx:=List.getElem?_eq_getElem hkm;obtain⟨x,hxe⟩:∃ x,m.ths[k]=x:=⟨_,rfl⟩;rw [hxe] at hx;have hmem:=List.mem_of_getElem? hx;obtain⟨tb,tc,et2,ht0⟩:=Zcx HB.o.ths hx;rw [HEt.o] at et2;simp only [Value.slice.injEq] at et2;obtain⟨rfl,_,rfl⟩:=et2;obtain⟨N,hN⟩:∃ N,Zg3 m x=N:=⟨_,rfl⟩
   have HS:=Zh (show sts m (k+1)=sts m k++[N] from by
    unfold sts
    rw [List.take_succ_eq_append_getElem hkm,List.map_append,hxe,<- hN];rfl)
   have hsl:(sts m k).length<=k:=by unfold sts;rw [List.length_map,List.length_take];omega
   obtain⟨Av,nv,cv,rfl⟩:=Zav hown;obtain⟨th,rg,loc⟩:=x;have t0:wr.cell? ⟨tb,k*3,none⟩=some (.int .i64 th):=Zac (ht0 0 _ rfl) hbw;have t1:wr.cell? ⟨tb,k*3+1,none⟩=some (.int .i64 rg):=Zac (ht0 1 _ rfl) hbw;have t2:wr.cell? ⟨tb,k*3+2,none⟩=some (.string ⟨loc.toArray⟩):=Zac (ht0 2 _ rfl) hbw;have z1:(0:Int)<=(k:Int):=ω;have z2:(k:Int)<(n:Int):=ω;have HTx:=Zh (Blk.new wr 25 #[.int .i64 th,.int .i64 rg,.string ⟨loc.toArray⟩]);have hbx:=Zad wr (.cells #[.int .i64 th,.int .i64 rg,.string ⟨loc.toArray⟩] 25 (0,0));have HOA:=Zh (Zah hown hbx);have HWA:=Zh (Zaa hbw (.cells #[.int .i64 th,.int .i64 rg,.string ⟨loc.toArray⟩] 25 (0,0)));have HBA:=Zh (HB.o.below HWA.o);clear hx hxe ht0 hown hbw HO HW hbx;by_cases hth:th<0
   ·obtain⟨hlo,hix⟩:=HSk.o.mem _ hmem hth;obtain rfl:th=-1:=HSk.o.th1 _ hmem hth;simp only at hlo hix;obtain⟨Al,cl,el,hlat,_⟩:=Enc.Own.at_ HBA.o.locs;have k3:=HBA.o.blk.cl 3;rw [el] at k3;have HLc:=Zh (fun (W:World) (hW:Below (wr.alloc (.cells #[.int .i64 (-1),.int .i64 rg,.string ⟨loc.toArray⟩] 25 (0,0))).heap.size (wr.alloc (.cells #[.int .i64 (-1),.int .i64 rg,.string ⟨loc.toArray⟩] 25 (0,0))) W)=>Zno Al cl m.locs loc W (hlat.below hW) HSk.o.ll HSk.o.str hlo);obtain⟨ix,hixe⟩:∃ ix,m.locs.idxOf loc=ix:=⟨_,rfl⟩;rw [hixe] at hix HLc;have hm0:=List.getElem?_eq_getElem hix;obtain⟨mv,hmv⟩:∃ mv,m.mem[ix]=mv:=⟨_,rfl⟩;rw [hmv] at hm0;obtain⟨mb,mc,em,hmb⟩:=Zcx HBA.o.mem hm0;obtain rfl:mv=N:=by
     rw [<- hN];unfold Zg3;rw [if_pos hth];simp only;rw [hixe,hm0];rfl
    have k6:=HBA.o.blk.cl 6;rw [em] at k6;have m0:=hmb 0 _ rfl;simp only [Nat.mul_one,Nat.add_zero] at m0;have x0:=HTx.o.cl 0;have x2:=HTx.o.cl 2;have y1:(0:Int)<=(ix:Int):=ω;have y2:(ix:Int)<(m.mem.length:Int):=ω;clear hlo hix hixe hm0 hmv em hmb hmem hN el hlat hth
    go_wp2_with fail
    generalize wr.alloc _=w9 at *
    go_quiet ((go_at_call 19;exact Z0t (HLc.o _ (by repeat (first | exact Below.refl _ _ | refine Zag ?_ _ | refine Below.drew ?_ | refine Zaa ?_ _)))))
    have HOA:=Zh (Zah HOA.o (show Below w9.heap.size w9 (w9.drewN nq) from Zag (Below.refl _ _) _));have HWA:=Zh (Zag HWA.o nq);replace k6:(w9.drewN nq).cell? _=_:=k6;replace m0:(w9.drewN nq).cell? _=_:=m0;generalize w9.drewN nq=w9 at *
    go_wp2_with (at_builtin;refine Enc.appW Zmm _ rfl (.tmp 33) (.tmp 41) rfl [mv] w1.heap.size (sts m k) (.slice Av nv cv) _ 0 1 rfl rfl (Zht Zde _ _ mv) (Zah HOA.o (by repeat (first | exact Below.refl _ _ | refine Zag ?_ _ | refine Below.drew ?_ | refine Zaa ?_ _))) (by simp;omega) (by simp;omega) (by have:=HWA.o.size;simp;omega) ?_;intro v3 w3 hown3 hg3;have HO3:=Zh hown3;have HB3:=Zh (Below.trans (a:=w1) (HWA.o.trans (Below.mono (by repeat (first | exact Below.refl _ _ | refine Zag ?_ _ | refine Below.drew ?_ | refine Zaa ?_ _)) HWA.o.size)) hg3.below);clear hown3 hg3)
    exact m_90
   ·obtain⟨kk,r,t,hk1,hr1,ht,hrl⟩:=HSk.o.reg _ hmem (by simp only;omega);simp only at hk1 hr1;subst hk1;subst hr1;obtain⟨pb,cp,b,cap,ep,p0,_,hreg,_⟩:=HBA.o.thr.get ht;have hv:=List.getElem?_eq_getElem hrl;obtain⟨v0,hv0⟩:∃ v0,t.vs[r]=v0:=⟨_,rfl⟩;rw [hv0] at hv;obtain⟨_,r1,_,_⟩:=hreg.at_ hv;obtain⟨L,mv⟩:=v0;obtain rfl:mv=N:=by
     rw [<- hN];unfold Zg3;rw [if_neg hth];simp only [Int.toNat_natCast];rw [ht];simp only [hv];rfl
    have k5:=HBA.o.blk.cl 5;rw [ep] at k5;have x0:=HTx.o.cl 0;have x1:=HTx.o.cl 1;have hkl:=(List.getElem?_eq_some_iff.1 ht).1;have y1:(0:Int)<=(kk:Int):=ω;have y2:(kk:Int)<(m.tds.length:Int):=ω;have y3:(0:Int)<=(r:Int):=ω;have y4:(r:Int)<(t.vs.length:Int):=ω;have g1:((kk:Int) == -1)=false:=beq_eq_false_iff_ne.2 ω;clear ht hrl hv hv0 ep hreg hkl hmem hN hth
    go_wp2_with fail
    generalize wr.alloc _=w9 at *;refine wz (fun y:World=>y.cell? ⟨g,5,none⟩=some (.slice (some ⟨pb,0,none⟩) m.tds.length cp)/\y.cell? ⟨wr.heap.size,0,none⟩=some (.int .i64 (kk:Int))/\y.cell? ⟨pb,kk*2,none⟩=some (.slice (some ⟨b,0,none⟩) t.vs.length cap)/\y.cell? ⟨wr.heap.size,1,none⟩=some (.int .i64 (r:Int))/\y.cell? ⟨b,r*2+1,none⟩=some (.int .i64 mv)) [4,6,9,11,14] ⟨k5,x0,p0,x1,r1⟩ (fun hHeld=>?_);refine wq 0 ?_;refine wq 1 ?_;refine wq 2 ?_;refine wq 3 ?_;refine wq 5 ?_;refine wq 10 ?_;refine wt 4 (by assumption) ?_;refine wt 6 (by assumption) ?_;refine wq 7 ?_;refine wq 8 ?_;refine wt 9 (by assumption) ?_;refine wt 11 (by assumption) ?_;refine wq 12 ?_;refine wq 13 ?_;refine wt 14 (by assumption) ?_;refine wl 15 ?_;clear hHeld
    go_wp2_with (at_builtin;refine Enc.appW Zmm _ rfl (.tmp 43) (.tmp 58) rfl [mv] w1.heap.size (sts m k) (.slice Av nv cv) _ 0 1 rfl rfl (Zht Zde _ _ mv) (Zah HOA.o (by repeat (first | exact Below.refl _ _ | refine Zag ?_ _ | refine Below.drew ?_ | refine Zaa ?_ _))) (by simp;omega) (by simp;omega) (by have:=HWA.o.size;simp;omega) ?_;intro v3 w3 hown3 hg3;have HO3:=Zh hown3;have HB3:=Zh (Below.trans (a:=w1) (HWA.o.trans (Below.mono (by repeat (first | exact Below.refl _ _ | refine Zag ?_ _ | refine Below.drew ?_ | refine Zaa ?_ _)) HWA.o.size)) hg3.below);clear hown3 hg3)
    exact m_90
  ·have hkn2:k=n:=ω;have HE:=Zh (show Zdj m=sts m k by rw [HL.o,hkn2]);exact m_97
end
end
end Go.Proofs.YtgjefdaaihgliaaGreatDoor
