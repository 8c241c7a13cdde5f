/- Layer 21: put, step: the program's. -/
import Derived.Test.YtgjefdaaihgliaaGreatDoorMn42
import Derived.Test.YtgjefdaaihgliaaGreatDoorMn45

namespace Go.Proofs.YtgjefdaaihgliaaGreatDoor
open Go.RowKit
section
def Z8d (w:World)(arch:Int)(rb reg:Nat)(n:Int):World:=if arch=2/\reg=0 then w else (w.setCell ⟨rb,reg*2,none⟩ (.string ⟨#[]⟩)).setCell ⟨rb,reg*2+1,none⟩ (.int .i64 n)
def Z20 (arch:Int)(vs:List (List UInt8×Int))(reg:Nat)(n:Int):List (List UInt8×Int):=if arch=2/\reg=0 then vs else vs.set reg ([],n)
section
set_option maxHeartbeats 4000000
set_option maxRecDepth 100000
theorem Z8a {w:World}{B g la rb cap:Nat}{arch a1:Int}{vs:List (List UInt8×Int)}(reg:Nat)(n:Int)(ha:w.cell? ⟨g,1,none⟩=some (.int .i64 arch))(hl:Blk w la 65 #[.slice (some ⟨rb,0,none⟩) vs.length cap,.int .i64 a1])(hr:Zb1 w B rb cap vs)(hg:reg<vs.length) :
  Calls Tryz.prog 36 #[.pointer (some ⟨g,0,none⟩),.pointer (some ⟨la,0,none⟩),.int .i64 (reg:Int),.int .i64 n] w fun e w'=>e=.returned (.tuple #[])/\w'=Z8d w arch rb reg n:=by
 obtain⟨c0,c1,fz,hth⟩:=Zb1.at_ hr (List.getElem?_eq_getElem hg);have k0:=hl.cl 0;have hi1:(0:Int)<=(reg:Int):=ω;have hi2:(reg:Int)<(vs.length:Int):=ω;clear hl hr hth;unfold Z8d;by_cases h2:arch=2
 ·subst h2;by_cases h0:reg=0
  ·subst h0;rw [if_pos ⟨rfl,rfl⟩];exact m_75
  ·rw [if_neg (by simp [h0])];have g1:((reg:Int) != 0)=true:=by simp;omega
   exact m_75
 ·rw [if_neg (by simp [h2])];have g1:(arch != 2)=true:=by simpa using h2
  exact m_75
theorem Z8b {w:World}{B g la rb cap:Nat}{arch a1:Int}{vs:List (List UInt8×Int)}(reg:Nat)(n:Int)(ha:w.cell? ⟨g,1,none⟩=some (.int .i64 arch))(hl:Blk w la 65 #[.slice (some ⟨rb,0,none⟩) vs.length cap,.int .i64 a1])(hr:Zb1 w B rb cap vs)(hg:reg<vs.length) :
  Calls Tryz.prog 36 #[.pointer (some ⟨g,0,none⟩),.pointer (some ⟨la,0,none⟩),.int .i64 (reg:Int),.int .i64 n] w fun e w'=>e=.returned (.tuple #[])/\Zb1 w' B rb cap (Z20 arch vs reg n)/\Blk w' la 65 #[.slice (some ⟨rb,0,none⟩) vs.length cap,.int .i64 a1]/\Below B w w':=by
 refine (Z8a reg n ha hl hr hg).mono ?_;rintro e w' ⟨rfl,rfl⟩;refine⟨rfl,?_⟩;unfold Z8d Z20;by_cases h:arch=2/\reg=0
 ·rw [if_pos h,if_pos h];exact⟨hr,hl,Below.refl _ _⟩
 ·rw [if_neg h,if_neg h];obtain⟨hB,_,_,_,cur,hcur⟩:=hr.blk;have hs:=hr.set reg ([],n);have hne:la≠rb:=Zg0 hl hcur (by decide);refine⟨?_,(hl.far (p:=⟨rb,reg*2,none⟩) hne (.string ⟨#[]⟩)).far (p:=⟨rb,reg*2+1,none⟩) hne (.int .i64 n),((Below.refl B w).setCell (p:=⟨rb,reg*2,none⟩) hB (.string ⟨#[]⟩)).setCell (p:=⟨rb,reg*2+1,none⟩) hB (.int .i64 n)⟩;show Zd2.Own _ _ _ (.slice _ (vs.set reg ([],n)).length _) _;rw [List.length_set];exact hs
theorem Zzf (arch:Int)(vs:List (List UInt8×Int))(reg:Nat)(n:Int):(Z20 arch vs reg n).length=vs.length:=by
 unfold Z20
 split <;> simp
theorem Zip {α:Type}{E:Enc α}{T:TypeId}{w:World}{B b n cap:Nat}{l:List α}(h:E.Own T B w (.slice (some ⟨b,0,none⟩) n cap) l){i:Nat}(hi:i<l.length):w.there b (i*E.size) E.size:=fun j hj=>by
 obtain⟨cur,hc,_⟩:=Zdi h rfl;have hB:Blk w b T cur:=hc;refine⟨?_,hB.frozen _⟩;obtain⟨A,cap',e,hat,_⟩:=Enc.Own.at_ h;simp only [Value.slice.injEq] at e;obtain⟨b',o,e2,hcs⟩:=hat i _ (List.getElem?_eq_getElem hi);rw [<- e.1] at e2;simp only [Option.some.injEq,Addr.mk.injEq,and_true] at e2;obtain⟨rfl,rfl⟩:=e2;have:=hcs j _ (List.getElem?_eq_getElem (by rw [E.len];exact hj));rw [Nat.zero_add] at this;rw [this];rfl
variable {w:World} {B g:Nat} {m:BMc} {V:MMv}
structure AcM (m:BMc) (vs:List (List UInt8×Int)) (ac:Ac):Prop where
 loc:ac.loc∈m.locs/\m.locs.idxOf ac.loc<m.mem.length
 str:Zi3 m.locs
 ll:m.locs.length<=1000000
 reg:ac.kind=2->0<=ac.reg/\ac.reg<vs.length
def Znp (m:BMc)(k:Nat)(t:BTd)(ac:Ac):BMc:=
 if ac.kind=2 then { m with tds:=m.tds.set k { t with vs:=Z20 m.arch t.vs ac.reg.toNat ((m.mem[m.locs.idxOf ac.loc]?).getD 0) } }
 else if ac.kind=3 then { m with tds:=m.tds.set k t,mem:=m.mem.set (m.locs.idxOf ac.loc) ac.val }
 else { m with tds:=m.tds.set k t }
def Zd0 (w w':World):Prop:=∀ b t cs,Blk w b t cs->t≠65->t≠3->Blk w' b t cs
theorem Zd0.of_below {w w':World}(h:Below w.heap.size w w'):Zd0 w w':=fun _ _ _ hb _ _=>hb.go h
theorem Zd0.trans {w w1 w':World}(h:Zd0 w w1)(k:Zd0 w1 w'):Zd0 w w':=fun b t cs hb h1 h2=>k b t cs (h b t cs hb h1 h2) h1 h2
theorem Zd0.sets {w w1:World}(h:Zd0 w w1){p:Nat}{tp:TypeId}{cur:Array Value}(hp:Blk w1 p tp cur)(ht:tp = 65\/tp = 3)(vs:List Value)(k:Nat):Zd0 w (w1.setCells p k vs):=fun b t cs hb h1 h2=>
 Zal (h b t cs hb h1 h2) (Zg0 (h b t cs hb h1 h2) hp (fun e=>by rcases ht with e2 | e2;exact h1 (e.trans e2);exact h2 (e.trans e2))) vs k
theorem Zd0.setN {w w1:World}(h:Zd0 w w1){p:Addr}(hp:w.heap.size<=p.block)(u:Value):Zd0 w (w1.setCell p u):=fun b t cs hb h1 h2=>(h b t cs hb h1 h2).far (fun e=>by have:=hb.lt;omega) u
theorem Zb3.far {w1:World}(h:Zb3 w B g m V){F:Nat->Prop}{l:List TypeId}(hF:TyF w F l)(hc:Chg F w w1)(h1:∀ t∈l,t∉[39,66,92,9,25,3,65,71]):Zb3 w1 B g m V:=
 ⟨Zdg hF hc h.blk (fun e=>h1 _ e (by simp)),h.hg,Zcd hF hc h.code (fun e=>h1 _ e (by simp)),fun k c hk=>by
  obtain⟨A,cap,e1,e2⟩:=h.rows k c hk
  exact⟨A,cap,e1,Zcd hF hc e2 (fun e=>h1 _ e (by simp))⟩,Zcd hF hc h.locs (fun e=>h1 _ e (by simp)),Zcd hF hc h.ths (fun e=>h1 _ e (by simp)),Zcd hF hc h.mem (fun e=>h1 _ e (by simp)),h.thr.chg hF hc (fun e=>h1 _ e (by simp)) (fun e=>h1 _ e (by simp)),h.crl⟩
theorem Zd0.drew {w w1:World}(h:Zd0 w w1):Zd0 w w1.drew:=h
def Z8r (B g:Nat)(m:BMc)(v:Value)(w:World)(e:Ending)(w':World):Prop:=∃ V,e=.returned v/\Zb3 w' B g m V/\Below B w w'/\Zd0 w w'
theorem Zb3.putThr (h:Zb3 w B g m V){k pb n cp rb cap:Nat}{t t':BTd}(hk:m.tds[k]?=some t)(epv:V.pv=.slice (some ⟨pb,0,none⟩) n cp)(hr:Zb1 w B rb cap t'.vs) :
  ∃ tr',Zb3 (w.setCells pb (k*2) [.slice (some ⟨rb,0,none⟩) t'.vs.length cap,.int .i64 t'.at_]) B g { m with tds:=m.tds.set k t' } { V with tr:=tr' }:=by
 obtain⟨tr',h1⟩:=h.thr.put epv hk hr;obtain⟨cur,hcur,_⟩:=Zdi (b:=pb) h.thr.own (by rw [epv];rfl);exact⟨tr',h.turn (F:=fun b=>b=pb) (fun b hb=>⟨_,cur,hb ▸ hcur,by simp⟩) (Chg.set (F:=fun b=>b=pb) (p:=⟨pb,k*2+1,none⟩) (Chg.set (F:=fun b=>b=pb) (p:=⟨pb,k*2,none⟩) Chg.refl rfl _) rfl _) h1⟩
theorem Z6h (h:Zb3 w B g m V)(hB:B<=w.heap.size){k:Nat}{t t1:BTd}{ac:Ac}(hk:m.tds[k]?=some t)(hn:∀ W,Below w.heap.size w W->Calls Tryz.prog 35 #[.pointer (some ⟨g,0,none⟩),.int .i64 (k:Int)] W (Z7f t1.vs t1.at_ ac W))(hok:AcM m t1.vs ac) :
  Calls Tryz.prog 17 #[.pointer (some ⟨g,0,none⟩),.int .i64 (k:Int)] w (Z8r B g (Znp m k t1 ac) (.tuple #[]) w):=by
 have HN:=Zh hn;have HH:=Zh h;have HOk:=Zh hok;have HK:=Zh hk;have hkl:k<m.tds.length:=(List.getElem?_eq_some_iff.1 hk).1;have z1:(0:Int)<=(k:Int):=ω;have z2:(k:Int)<(m.tds.length:Int):=ω;clear hn h hok hk hkl;obtain⟨vs1,at1,q1⟩:=t1;obtain⟨kind,al,val,reg,fe⟩:=ac;go_enter Tryz.func17,Tryz.ntmps17
 go_wp2_with (go_at_call 35;refine (HN.o _ (by repeat (first | exact Below.refl _ _ | refine Below.drew ?_ | refine Zaa ?_ _))).mono ?_;rintro e w1 ⟨rb,cap,rfl,hr,hb⟩;have HR:=Zh hr;have HB:=Zh hb;clear hr hb;simp only [Z2l,Ztp])
 have hz1:=HB.o.size;have hb2:=Zau w1 (.cells #[.slice (some ⟨rb,0,none⟩) vs1.length cap,.int .i64 at1] 65 (0,0)) (.cells #[.int .i64 kind,.string ⟨al.toArray⟩,.int .i64 val,.int .i64 reg,.int .i64 fe] 107 (0,0));have HB2:=Zh (Zab HB.o hb2);have HR2:=Zh (HR.o.below hb2);have HL2:=Zh ((Blk.new w1 65 #[.slice (some ⟨rb,0,none⟩) vs1.length cap,.int .i64 at1]).alloc (.cells #[.int .i64 kind,.string ⟨al.toArray⟩,.int .i64 val,.int .i64 reg,.int .i64 fe] 107 (0,0)));have HA2:=Zh (Zfl w1 (.cells #[.slice (some ⟨rb,0,none⟩) vs1.length cap,.int .i64 at1] 65 (0,0)) 107 #[.int .i64 kind,.string ⟨al.toArray⟩,.int .i64 val,.int .i64 reg,.int .i64 fe]);clear hb2 HB HR HN;generalize ((w1.alloc _).alloc _)=W2 at *;obtain⟨Al,cl,el,hlat,_⟩:=Enc.Own.at_ (HH.o.below HB2.o).locs;have k3:=(HH.o.below HB2.o).blk.cl 3;rw [el] at k3;have hal:=HOk.o.loc.1;simp only at hal;have HLc:=Zh (fun (W:World) (hW:Below W2.heap.size W2 W)=>Zno Al cl m.locs al W (hlat.below hW) HOk.o.ll HOk.o.str hal);obtain⟨ix,hix⟩:∃ ix,m.locs.idxOf al=ix:=⟨_,rfl⟩;rw [hix] at HLc;have HIx:=Zh hix;have hmem:ix<m.mem.length:=by rw [<- hix];exact HOk.o.loc.2
 have a0:=HA2.o.cl 0;have a1:=HA2.o.cl 1;have a2:=HA2.o.cl 2;have a3:=HA2.o.cl 3;have l0:=HL2.o.cl 0;have l1:=HL2.o.cl 1;have hm0:=List.getElem?_eq_getElem hmem;obtain⟨mv,hmv⟩:∃ mv,m.mem[ix]=mv:=⟨_,rfl⟩;rw [hmv] at hm0;obtain⟨mb,mc,em,hmb⟩:=Zcx (HH.o.below HB2.o).mem hm0;have k6:=(HH.o.below HB2.o).blk.cl 6;rw [em] at k6;have m0:=hmb 0 _ rfl;simp only [Nat.mul_one,Nat.add_zero] at m0;have y1:(0:Int)<=(ix:Int):=ω;have y2:(ix:Int)<(m.mem.length:Int):=ω;obtain⟨pb,cp,b,cb,ep,p0,p1,_,_⟩:=(HH.o.below HB2.o).thr.get HK.o;have k5:=(HH.o.below HB2.o).blk.cl 5;rw [ep] at k5;have k1:=(HH.o.below HB2.o).blk.cl 1;have HE5:=Zh ep;have HE6:=Zh em;have HM0:=Zh hm0;clear hix hal hmv em hmb el hlat p0 p1 ep hm0
 go_quiet ((go_at_call 19;exact Z0t (HLc.o _ (by repeat (first | exact HB3.o | exact Below.refl _ _ | exact HB0.o | refine Zag ?_ _ | refine Below.drew ?_ | refine Zaa ?_ _)))))
 have HBx:=Zh (show ∀ X,Below W2.heap.size W2 X->Below w.heap.size w X from fun X hX=>HB2.o.trans (Below.mono hX HB2.o.size));by_cases h2:kind=2
 ·subst h2;obtain⟨hr1,hr2⟩:=HOk.o.reg rfl;simp only at hr1 hr2;obtain⟨rn,rfl⟩:∃ rn:Nat,reg=(rn:Int):=⟨reg.toNat,ω⟩;have HPt:=Zh (fun (W:World) (hW:Below W2.heap.size W2 W)=>Z8b (B:=w.heap.size) (arch:=m.arch) (a1:=at1) (vs:=vs1) rn mv (Zac k1 hW) (HL2.o.go hW) (HR2.o.below hW) ω)
  have HQ:=Zh (show Znp m k ⟨vs1,at1,q1⟩ ⟨2,al,val,(rn:Int),fe⟩={ m with tds:=m.tds.set k ⟨Z20 m.arch vs1 rn mv,at1,q1⟩ } by
   unfold Znp;rw [if_pos rfl]
   simp only [HIx.o,HM0.o,Int.toNat_natCast,Option.getD_some])
  clear hr1 hr2
  go_wp2_with fail
  refine wz (fun y:World=>y.cell? ⟨w1.heap.size+1,3,none⟩=some (.int .i64 (rn:Int))/\y.cell? ⟨g,6,none⟩=some (.slice (some ⟨mb,0,none⟩) m.mem.length mc)/\y.cell? ⟨mb,ix,none⟩=some (.int .i64 mv)) [2,6,8,9] ⟨a3,k6,m0⟩ (fun hHeld=>?_);refine wq 0 ?_;refine wq 1 ?_;refine wq 3 ?_;refine wq 4 ?_;refine wq 5 ?_;refine wq 7 ?_;refine wt 2 (by assumption) ?_;refine wt 6 (by assumption) ?_;refine wt 8 (by assumption) ?_;refine wt 9 (by assumption) ?_;refine wl 10 ?_;clear hHeld
  go_wp2_with (go_at_call 36;refine (HPt.o _ (by repeat (first | exact HB3.o | exact Below.refl _ _ | exact HB0.o | refine Zag ?_ _ | refine Below.drew ?_ | refine Zaa ?_ _))).mono ?_;rintro e w9 ⟨rfl,hr9,hl9,hb9⟩;have HR9:=Zh hr9;have HL9:=Zh hl9;have HB9:=Zh ((HBx.o _ (by repeat (first | exact HB3.o | exact Below.refl _ _ | exact HB0.o | refine Zag ?_ _ | refine Below.drew ?_ | refine Zaa ?_ _))).trans hb9);clear hr9 hl9 hb9)
  have HM9:=Zh ((HH.o.below HB9.o).low (Nat.le_refl B));clear HPt a0 a1 a2 a3 l0 l1 k1 k3 k5 k6 m0 HBx HL2 HA2 HR2 HLc;have hk5:=HM9.o.blk.cl 5;rw [HE5.o] at hk5;have b0:=HL9.o.cl 0;have b1:=HL9.o.cl 1;have htl:V.tr.length=m.tds.length:=HM9.o.thr.len;have HTE:=Zh (Zip (i:=k) (by rw [<- HE5.o];exact HM9.o.thr.own) (by rw [htl];omega));obtain⟨tr',hf⟩:=HM9.o.putThr (t':=⟨Z20 m.arch vs1 rn mv,at1,q1⟩) HK.o HE5.o (Za3 HR9.o hB);have HF:=Zh hf;obtain⟨curp,hcp,hpB⟩:=Zdi (b:=pb) HM9.o.thr.own (by rw [HE5.o];rfl);have HCp:=Zh (show Blk _ pb 65 curp from hcp);have HKp:=Zh (Zd0.of_below HB9.o);clear hcp;have HB8:=Zh (HB9.o.mono hB);clear htl hf;refine wz (fun y:World=>y.cell? ⟨g,5,none⟩=some (.slice (some ⟨pb,0,none⟩) m.tds.length cp)/\y.cell? ⟨w1.heap.size,0,none⟩=some (.slice (some ⟨rb,0,none⟩) vs1.length cap)/\y.cell? ⟨w1.heap.size,1,none⟩=some (.int .i64 at1)) [3,5] ⟨hk5,b0,b1⟩ (fun hHeld=>?_);refine wq 0 ?_;refine wq 1 ?_;refine wq 2 ?_;refine wq 4 ?_;refine wt 3 (by assumption) ?_;refine wt 5 (by assumption) ?_;refine wq 6 ?_;refine wl 7 ?_;clear hHeld;refine wpList_store_mid rfl _ _ _ rfl pb (k*2) #[.slice (some ⟨rb,0,none⟩) vs1.length cap,.int .i64 at1] rfl rfl HTE.o κ κ ?_
  go_wp2_with fail
  go_end0
  refine⟨{ V with tr:=tr' },rfl,?_,Zam HB8.o.drew hpB _ _,Zd0.sets HKp.o.drew HCp.o.drew (.inl rfl) _ _⟩;rw [HQ.o];have:=HF.o;simp only [Zzf] at this;exact this.drew
 ·by_cases h3:kind=3
  ·subst h3
   have HQ:=Zh (show Znp m k ⟨vs1,at1,q1⟩ ⟨3,al,val,reg,fe⟩={ m with tds:=m.tds.set k ⟨vs1,at1,q1⟩,mem:=m.mem.set ix val } by
    unfold Znp;rw [if_neg (show ¬ (3:Int)=2 by decide),if_pos rfl]
    simp only [HIx.o])
   have hmem2:=(HH.o.below HB2.o).mem;obtain⟨curm,hcm,hmB⟩:=Zdi (b:=mb) hmem2 (by rw [HE6.o];rfl);have hcm:Blk W2 mb 3 curm:=hcm;have mf:=hcm.frozen;have HCm:=Zh hcm;clear hmem2 hcm
   go_wp2_with fail
   refine wz (fun y:World=>y.cell? ⟨w1.heap.size+1,2,none⟩=some (.int .i64 val)/\y.cell? ⟨g,6,none⟩=some (.slice (some ⟨mb,0,none⟩) m.mem.length mc)) [3,6] ⟨a2,k6⟩ (fun hHeld=>?_);refine wq 0 ?_;refine wq 1 ?_;refine wq 2 ?_;refine wq 4 ?_;refine wq 5 ?_;refine wt 3 (by assumption) ?_;refine wt 6 (by assumption) ?_;refine wq 7 ?_;refine wl 8 ?_;clear hHeld;have hX:Below W2.heap.size W2 (W2.drewN nq).drew:=by repeat (first | exact HB3.o | exact Below.refl _ _ | exact HB0.o | refine Zag ?_ _ | refine Below.drew ?_ | refine Zaa ?_ _)
   have HM9:=Zh ((HH.o.below (HBx.o _ hX)).memory HE6.o ix val);have HL9:=Zh ((HL2.o.go hX).far (p:=⟨mb,ix,none⟩) (Zg0 (HL2.o.go hX) (HCm.o.go hX) (by decide)) (.int .i64 val));have HR9:=Zh (Zae (HR2.o.below hX) (HCm.o.go hX) (by decide) ix (.int .i64 val));have HB9:=Zh (((HBx.o _ hX).mono hB).setCell (p:=⟨mb,ix,none⟩) hmB (.int .i64 val));have HK9:=Zh (Zd0.sets (Zd0.of_below (HBx.o _ hX)) (HCm.o.go hX) (.inr rfl) [.int .i64 val] ix);clear hX HLc HBx HL2 HA2 HR2 HCm
   go_wp2_with fail
   clear a0 a1 a2 a3 l0 l1 k1 k3 k5 k6 m0 mf;have hk5:=HM9.o.blk.cl 5;rw [HE5.o] at hk5;have b0:=HL9.o.cl 0;have b1:=HL9.o.cl 1;have htl:V.tr.length=m.tds.length:=HM9.o.thr.len;have HTE:=Zh (Zip (i:=k) (by rw [<- HE5.o];exact HM9.o.thr.own) (by rw [htl];omega));obtain⟨tr',hf⟩:=HM9.o.putThr (t':=⟨vs1,at1,q1⟩) HK.o HE5.o (Za3 HR9.o hB);have HF:=Zh hf;obtain⟨curp,hcp,hpB⟩:=Zdi (b:=pb) HM9.o.thr.own (by rw [HE5.o];rfl);have HCp:=Zh (show Blk _ pb 65 curp from hcp);have HKp:=Zh (HK9.o);clear hcp;have HB8:=Zh (HB9.o);clear htl hf;refine wz (fun y:World=>y.cell? ⟨g,5,none⟩=some (.slice (some ⟨pb,0,none⟩) m.tds.length cp)/\y.cell? ⟨w1.heap.size,0,none⟩=some (.slice (some ⟨rb,0,none⟩) vs1.length cap)/\y.cell? ⟨w1.heap.size,1,none⟩=some (.int .i64 at1)) [3,5] ⟨hk5,b0,b1⟩ (fun hHeld=>?_);refine wq 0 ?_;refine wq 1 ?_;refine wq 2 ?_;refine wq 4 ?_;refine wt 3 (by assumption) ?_;refine wt 5 (by assumption) ?_;refine wq 6 ?_;refine wl 7 ?_;clear hHeld;refine wpList_store_mid rfl _ _ _ rfl pb (k*2) #[.slice (some ⟨rb,0,none⟩) vs1.length cap,.int .i64 at1] rfl rfl HTE.o κ κ ?_
   go_wp2_with fail
   go_end0
   refine⟨{ V with tr:=tr' },rfl,?_,Zam HB8.o.drew hpB _ _,Zd0.sets HKp.o.drew HCp.o.drew (.inl rfl) _ _⟩;rw [HQ.o];exact HF.o.drew
  ·have HQ:=Zh (show Znp m k ⟨vs1,at1,q1⟩ ⟨kind,al,val,reg,fe⟩={ m with tds:=m.tds.set k ⟨vs1,at1,q1⟩ } by
    unfold Znp
    rw [if_neg h2,if_neg h3])
   have g2:(kind == 2)=false:=beq_eq_false_iff_ne.2 h2;have g3:(kind == 3)=false:=beq_eq_false_iff_ne.2 h3;have hX:Below W2.heap.size W2 (W2.drewN nq):=by repeat (first | exact HB3.o | exact Below.refl _ _ | exact HB0.o | refine Zag ?_ _ | refine Below.drew ?_ | refine Zaa ?_ _)
   have HM9:=Zh (HH.o.below (HBx.o _ hX));have HL9:=Zh (HL2.o.go hX);have HR9:=Zh (HR2.o.below hX);have HB9:=Zh ((HBx.o _ hX).mono hB);have HK9:=Zh (Zd0.of_below (HBx.o _ hX));clear hX HLc HBx HL2 HA2 HR2
   go_wp2_with fail
   clear a0 a1 a2 a3 l0 l1 k1 k3 k5 k6 m0;have hk5:=HM9.o.blk.cl 5;rw [HE5.o] at hk5;have b0:=HL9.o.cl 0;have b1:=HL9.o.cl 1;have htl:V.tr.length=m.tds.length:=HM9.o.thr.len;have HTE:=Zh (Zip (i:=k) (by rw [<- HE5.o];exact HM9.o.thr.own) (by rw [htl];omega));obtain⟨tr',hf⟩:=HM9.o.putThr (t':=⟨vs1,at1,q1⟩) HK.o HE5.o (Za3 HR9.o hB);have HF:=Zh hf;obtain⟨curp,hcp,hpB⟩:=Zdi (b:=pb) HM9.o.thr.own (by rw [HE5.o];rfl);have HCp:=Zh (show Blk _ pb 65 curp from hcp);have HKp:=Zh (HK9.o);clear hcp;have HB8:=Zh (HB9.o);clear htl hf;refine wz (fun y:World=>y.cell? ⟨g,5,none⟩=some (.slice (some ⟨pb,0,none⟩) m.tds.length cp)/\y.cell? ⟨w1.heap.size,0,none⟩=some (.slice (some ⟨rb,0,none⟩) vs1.length cap)/\y.cell? ⟨w1.heap.size,1,none⟩=some (.int .i64 at1)) [3,5] ⟨hk5,b0,b1⟩ (fun hHeld=>?_);refine wq 0 ?_;refine wq 1 ?_;refine wq 2 ?_;refine wq 4 ?_;refine wt 3 (by assumption) ?_;refine wt 5 (by assumption) ?_;refine wq 6 ?_;refine wl 7 ?_;clear hHeld;refine wpList_store_mid rfl _ _ _ rfl pb (k*2) #[.slice (some ⟨rb,0,none⟩) vs1.length cap,.int .i64 at1] rfl rfl HTE.o κ κ ?_
   go_wp2_with fail
   go_end0
   refine⟨{ V with tr:=tr' },rfl,?_,Zam HB8.o.drew hpB _ _,Zd0.sets HKp.o.drew HCp.o.drew (.inl rfl) _ _⟩;rw [HQ.o];exact HF.o.drew
end
end
section
def nxL (arch:Int)(c:List Ins)(t:BTd):Option (BTd×Ac):=if arch=1 then (match c[t.at_.toNat]? with
 | some x=>if decide (0<=t.at_)&&Zfo x.op x.d x.a x.b x.imm ⟨x.loc.toArray⟩ ⟨x.label.toArray⟩ x.fence&&Ziq 15 t.at_ t.vs then (match doL x.op x.d x.a x.imm x.loc t.vs with
  | some r=>some (⟨r.1,t.at_+1,[]⟩,r.2)
  | none=>none) else none
 | none=>none) else none
theorem nxP {w:World}{B g:Nat}{m:BMc}{V:MMv}(h:Zb3 w B g m V){k:Nat}{t t1:BTd}{c:List Ins}{ac:Ac}(hk:m.tds[k]?=some t)(hc:m.code[k]?=some c)(hn:nxL m.arch c t=some (t1,ac)) :
  Calls Tryz.prog 35 #[.pointer (some ⟨g,0,none⟩),.int .i64 (k:Int)] w (Z7f t1.vs t1.at_ ac w):=by
 unfold nxL at hn
 split at hn
 ·rename_i ha
  split at hn
  ·rename_i x hx
   split at hn
   ·rename_i hb;simp only [Bool.and_eq_true,decide_eq_true_eq] at hb;obtain⟨⟨h0,h1⟩,h2⟩:=hb
    split at hn
    ·rename_i r hr;simp only [Option.some.injEq,Prod.mk.injEq] at hn;obtain⟨rfl,rfl⟩:=hn;obtain⟨j,hj⟩:∃ j:Nat,t.at_=(j:Int):=⟨t.at_.toNat,ω⟩;rw [hj] at h2 hx ⊢;rw [Int.toNat_natCast] at hx;exact Z78 h hk hc hj hx ha h1 h2 hr
    ·cases hn
   ·cases hn
  ·cases hn
 ·cases hn
theorem Zy7 {m:BMc}{x:Int×Int}(hx:x∈Zj9 m):∃ (k:Nat) (t:BTd) (c:List Ins),x=(1,(k:Int))/\m.tds[k]?=some t/\m.code[k]?=some c/\t.at_<c.length:=by
 unfold Zj9 Zin at hx;obtain⟨k,_,h⟩:=List.mem_flatMap.1 hx;unfold Z5q at h
 split at h
 ·rename_i c t hc ht;unfold Z68 at h
  split at h
  ·rename_i hl;simp only [List.mem_singleton] at h;exact⟨k,t,c,h,ht,hc,hl⟩
  ·cases h
 ·cases h
structure MOM (m:BMc):Prop where
 n1:m.tds.length<=256
 cl:m.code.length=m.tds.length
 can:∀ (k:Nat) (t:BTd) (c:List Ins),m.tds[k]?=some t->m.code[k]?=some c->t.at_<c.length->∃ t1 ac,nxL m.arch c t=some (t1,ac)/\AcM m t1.vs ac
def Zsw (m:BMc)(x:Int×Int):BMc:=match m.code[x.2.toNat]?,m.tds[x.2.toNat]? with
 | some c,some t=>(match nxL m.arch c t with
  | some r=>Znp m x.2.toNat r.1 r.2
  | none=>m)
 | _,_=>m
section
set_option maxHeartbeats 4000000
set_option maxRecDepth 100000
theorem Z2z (pick:Int)(n:Nat)(h:0<n)(hm:n<=1000)(w:World):Calls Tryz.prog 16 #[.int .i64 pick,.int .i64 (n:Int)] w fun e w'=>e=.returned (.int .i64 ((Zs0 pick n:Nat):Int))/\w'=w:=by
 have hrem:=Zzd pick h;obtain⟨hb2,hb1⟩:=Z2y pick h;obtain⟨rm,hrm⟩:∃ rm,pick.tmod (n:Int)=rm:=⟨_,rfl⟩;rw [hrm] at hrem hb1 hb2;have hn0:¬ (n:Int)=0:=ω;by_cases hneg:rm<0
 ·rw [if_pos hneg] at hrem;rw [hrem];have hw:wrap64 (rm+(n:Int))=rm+(n:Int):=by unfold wrap64;omega
  have g1:decide (rm<0)=true:=decide_eq_true hneg;clear hrem hb1 hb2;go_enter Tryz.func16,Tryz.ntmps16
  go_wp2_with fail
  go_ret;exact⟨by show Ending.returned (Value.int IntKind.i64 (wrap64 (rm+(n:Int))))=_;rw [hw],rfl⟩
 ·rw [if_neg hneg] at hrem;rw [hrem];have g1:decide (rm<0)=false:=decide_eq_false hneg;clear hrem hb1 hb2;go_enter Tryz.func16,Tryz.ntmps16
  go_wp2_with fail
  go_ret;exact⟨rfl,rfl⟩
variable {w:World} {B g:Nat} {m:BMc} {V:MMv}
theorem Z4w (h:Zb3 w B g m V)(hm:MOM m)(pick:Int)(hB:B<=w.heap.size)(x:Int×Int)(hx:(Zj9 m)[Zs0 pick (Zj9 m).length]?=some x) :
  Calls Tryz.prog 4 #[.pointer (some ⟨g,0,none⟩),.int .i64 pick] w (Z8r B g (Zsw m x) (.tuple #[.agg #[.int .i64 x.1,.int .i64 x.2],.int .i64 0]) w):=by
 have HI:=Zh (fun (W:World) (hW:Below w.heap.size w W)=>Z67 (h.below hW));have HMv:=Zh (fun (W:World) (hW:Below w.heap.size w W)=>Z69 (h.below hW) hm.n1 hm.cl);have HMo:=Zh (Zy7 (List.mem_of_getElem? hx));have hl2:(Zj9 m).length<=256:=Nat.le_trans (Zgs m m.tds.length) hm.n1;obtain⟨mv,hmv⟩:∃ mv,Zj9 m=mv:=⟨_,rfl⟩;rw [hmv] at HMv hx hl2;have hl1:0<mv.length:=by have:=(List.getElem?_eq_some_iff.1 hx).1;omega
 have HPk:=Zh (fun (W:World)=>Z2z pick mv.length hl1 ω W);obtain⟨ix,hix⟩:∃ ix,Zs0 pick mv.length=ix:=⟨_,rfl⟩;rw [hix] at hx HPk;have hixl:=(List.getElem?_eq_some_iff.1 hx).1;have HX:=Zh hx;have HH:=Zh h;have HMk:=Zh hm;have HR:=Zh (Blk.new w 42 #[.int .i64 0,.int .i64 0]);have n1:((mv.length:Int) == 0)=false:=beq_eq_false_iff_ne.2 ω;have i1:(0:Int)<=(ix:Int):=ω;have i2:(ix:Int)<(mv.length:Int):=ω;clear h hm hx hix hmv;obtain⟨k,t,c,rfl,ht,hc,hlt⟩:=HMo.o;obtain⟨t1,ac,hn,hok⟩:=HMk.o.can k t c ht hc hlt
 have HE:=Zh (show Zsw m (1,(k:Int))=Znp m k t1 ac by
  unfold Zsw
  simp only [Int.toNat_natCast,hc,ht,hn])
 have HS:=Zh (fun (W:World) (hW:Below w.heap.size w W)=>Z6h (HH.o.below hW) (Nat.le_trans hB hW.size) ht (fun W2 hW2=>nxP ((HH.o.below hW).below hW2) ht hc hn) hok);clear ht hc hlt hn hok HMo;go_enter Tryz.func4,Tryz.ntmps4
 go_wp2_with (first | (go_at_call 15;refine (HI.o _ (by repeat (first | exact Below.refl _ _ | refine Zag ?_ _ | refine Below.drew ?_ | refine Zaa ?_ _))).mono ?_;rintro e w9 ⟨rfl,rfl⟩) | (go_at_call 5;refine (HMv.o _ (by repeat (first | exact Below.refl _ _ | refine Zag ?_ _ | refine Below.drew ?_ | refine Zaa ?_ _))).mono ?_;rintro e w2 ⟨v,rfl,hown,hb2⟩;obtain⟨rb,rc,rfl,hrow⟩:=Zcx hown HX.o;have c0:w2.cell? ⟨rb,ix*2,none⟩=some (.int .i64 1):=hrow 0 _ rfl;have c1:w2.cell? ⟨rb,ix*2+1,none⟩=some (.int .i64 (k:Int)):=hrow 1 _ rfl;have HB2:=Zh (Zab (W:=w) (by repeat (first | exact Below.refl _ _ | refine Zag ?_ _ | refine Below.drew ?_ | refine Zaa ?_ _)) hb2);have HR2:=Zh (HR.o.go hb2);clear hb2 hown hrow) | (go_at_call 16;refine (HPk.o _).mono ?_;rintro e w9 ⟨rfl,rfl⟩) | (go_at_call 17;refine (HS.o _ (Zaa HB2.o _)).mono ?_;rintro e w5 ⟨V5,rfl,hm5,hb5,hk5⟩;have HM5:=Zh hm5;have HB5:=Zh (((Zaa HB2.o (.cells #[.int .i64 1,.int .i64 (k:Int)] 42 (0,0))).mono hB).trans hb5);have HK5:=Zh (Zd0.trans (Zd0.of_below (Zaa HB2.o (.cells #[.int .i64 1,.int .i64 (k:Int)] 42 (0,0)))) hk5);have HX5:=Zh (hk5 _ _ _ (Blk.new w9 42 #[.int .i64 1,.int .i64 (k:Int)]) (by decide) (by decide));have HR5:=Zh (hk5 _ _ _ (HR2.o.alloc _) (by decide) (by decide));have x0:=HX5.o.cl 0;have x1:=HX5.o.cl 1;have r0:=HR5.o.cl 0;have r1:=HR5.o.cl 1;have rf:=HR5.o.frozen;have rz:=HR5.o.lt;clear hm5 hb5 hk5))
 refine bodyPost_ret (v:=.tuple #[.agg #[.int .i64 1,.int .i64 (k:Int)],.int .i64 0]) (by simp [results,Tryz.results4,go_sem,r0,r1]) rfl ⟨V5,rfl,?_,(HB5.o.setCell (p:=⟨w.heap.size,0,none⟩) hB _).setCell (p:=⟨w.heap.size,1,none⟩) hB _,(HK5.o.setN (p:=⟨w.heap.size,0,none⟩) (Nat.le_refl _) _).setN (p:=⟨w.heap.size,1,none⟩) (Nat.le_refl _) _⟩;rw [HE.o];exact HM5.o.far (F:=fun b=>b=w.heap.size) (l:=[42]) (fun b hb=>⟨_,_,hb ▸ HR5.o,by simp⟩) (Chg.set (F:=fun b=>b=w.heap.size) (p:=⟨w.heap.size,1,none⟩) (Chg.set (F:=fun b=>b=w.heap.size) (p:=⟨w.heap.size,0,none⟩) Chg.refl rfl _) rfl _) (by decide)
end
end
section
def Zvs (m:BMc)(pick:Int):Option (Int×Int):=(Zj9 m)[Zs0 pick (Zj9 m).length]?
def Zfy (m0:BMc)(script:List Int):Nat->BMc×List (Int×Int)
 | 0=>(m0,[])
 | k+1=>match Zvs (Zfy m0 script k).1 ((script[k]?).getD 0) with
  | some x=>(Zsw (Zfy m0 script k).1 x,(Zfy m0 script k).2++[x])
  | none=>Zfy m0 script k
structure Z8t (m0:BMc) (script:List Int) (n:Nat):Prop where
 ok:∀ k,k<=n->MOM (Zfy m0 script k).1
 go:∀ k,k<n->∃ x,Zvs (Zfy m0 script k).1 ((script[k]?).getD 0)=some x
 stop:Zj9 (Zfy m0 script n).1=[]
 som:SOM (Zfy m0 script n).1
 small:n<=100000
theorem Zrx (m0:BMc)(script:List Int):∀ k,(Zfy m0 script k).2.length<=k
 | 0=>Nat.le_refl _
 | k+1=>by
  have ih:=Zrx m0 script k;unfold Zfy
  split
  ·rw [List.length_append];simp;omega
  ·omega
theorem Zz1 {P:Program}{a:Act}{w:World}{Q:Exit->Act->World->Prop}{c rest:Code}(l:Nat)(J:Act->World->Prop)(μ:Act->World->Nat)(hf:findLabel c l=some (Code.skip.seq rest))
  (first:(∀ a w,J a w->rest.wp P (Exit.jump l J Q) a w)->c.wp P (Exit.jump l J Q) a w)
  (pass:∀ a w,J a w->rest.wp P (Exit.jump l (fun a' w'=>J a' w'/\μ a' w'<μ a w) Q) a w):(Code.scope c).wp P Q a w:=
 wp_scope_jumps l J μ hf (first fun a w h=>Code.wp_mono (fun e a w q=>by
  cases e <;> first | exact q | exact⟨q.1,q.2.1⟩) (pass a w h)) (fun a w h=>wp_seq (wp_skip (pass a w h)))
theorem Zpc {w w':World}{B:Nat}{t:TypeId}{z n:Nat}{v:Value}{cs:List Value}(h:w.ownsRow B t z v n cs)(hk:Zd0 w w')(h1:t≠65)(h2:t≠3):w'.ownsRow B t z v n cs:=
 Zb7 h fun b hb=>by
  obtain⟨cur,hc,_⟩:=Zdi h hb;exact (hk b t cur hc h1 h2).trans hc.symm
def Z30 (w:World)(g ob:Nat)(As:Option Addr)(cs:Nat)(script:List Int)(m0:BMc)(n:Nat)(a:Act)(wr:World):Prop:=
 ∃ (f:Nat->Value) (k:Nat) (M:MMv) (mvv:Value),k<=n/\a={ tmps:=#[f 0,.slice As script.length cs,f 2,f 3,.pointer (some ⟨w.heap.size+1,0,none⟩),f 5,.pointer (some ⟨g,0,none⟩),f 7,.pointer (some ⟨ob,0,none⟩),.int .i64 (k:Int),f 10,f 11,f 12,f 13,f 14,f 15,f 16,f 17,f 18,f 19,f 20,f 21,f 22,f 23,f 24,f 25,f 26,f 27,f 28,f 29,f 30,f 31,f 32,f 33,f 34,f 35,f 36,f 37,f 38,f 39,f 40,f 41,f 42,f 43,f 44,f 45,f 46,f 47,f 48,f 49,f 50,f 51,f 52,f 53,f 54,f 55],defers:=[] }/\Zb3 wr (w.heap.size+2) g (Zfy m0 script k).1 M/\Below w.heap.size w wr/\Blk wr (w.heap.size+1) 96 #[.slice none 0 0,.slice none 0 0]/\Blk wr ob 96 #[.slice none 0 0,mvv]/\Zsg.Own 42 (w.heap.size+2) wr mvv (Zfy m0 script k).2/\w.heap.size+2<=ob
theorem Ztt (t:Array Value)(n:Nat)(h:t.size=n):t=((List.range n).map (fun i=>t.getD i undef)).toArray:=by
 apply Array.ext
 ·simp [h]
 ·intro i h1 h2;simp [h1]
theorem Z30.intro {w wr:World}{g ob:Nat}{As:Option Addr}{cs:Nat}{script:List Int}{m0:BMc}{n k:Nat}{a:Act}{M:MMv}{mvv:Value}(hs:a.tmps.size=56)(hd:a.defers=[])(h1:a.tmps.getD 1 undef=.slice As script.length cs)(h4:a.tmps.getD 4 undef=.pointer (some ⟨w.heap.size+1,0,none⟩))(h6:a.tmps.getD 6 undef=.pointer (some ⟨g,0,none⟩))(h8:a.tmps.getD 8 undef=.pointer (some ⟨ob,0,none⟩))(h9:a.tmps.getD 9 undef=.int .i64 (k:Int))
  (hk:k<=n) (hm:Zb3 wr (w.heap.size+2) g (Zfy m0 script k).1 M) (hb:Below w.heap.size w wr) (hr:Blk wr (w.heap.size+1) 96 #[.slice none 0 0,.slice none 0 0]) (ho:Blk wr ob 96 #[.slice none 0 0,mvv]) (hv:Zsg.Own 42 (w.heap.size+2) wr mvv (Zfy m0 script k).2) (hob:w.heap.size+2<=ob):Z30 w g ob As cs script m0 n a wr:=by
 obtain⟨tm,df⟩:=a;simp only at hs hd h1 h4 h6 h8 h9;subst hd;refine⟨fun i=>tm.getD i undef,k,M,mvv,hk,?_,hm,hb,hr,ho,hv,hob⟩;rw [<- h1,<- h4,<- h6,<- h8,<- h9];exact congrArg (fun x=>({ tmps:=x,defers:=[] }:Act)) (Ztt tm 56 hs)
def Z7g (st:List Int)(mv:List (Int×Int))(w:World)(e:Ending)(w':World):Prop:=∃ v1 v2,e=.returned (.tuple #[.agg #[v1,v2],.int .i64 0])/\Zde.Own 3 w.heap.size w' v1 st/\Zsg.Own 42 w.heap.size w' v2 mv/\Below w.heap.size w w'
section
set_option maxHeartbeats 8000000
set_option maxRecDepth 100000
theorem Z6d (T:Tst)(Ai Ac As:Option Addr)(ci cc cs:Nat)(kv:Value)(script:List Int)(w:World)(hT:Zcu w T Ai Ac kv)(a:Tr)(ha:Zcs T=.ok a)(hS:Zde.At w As script)(hsl:script.length<=65536)(n:Nat)(hr:Z8t (Zby T) script n) :
  Calls Tryz.prog 27 #[Zbu T (.slice Ai T.init.length ci) (.slice Ac T.code.length cc) kv,.slice As script.length cs] w (Z7g (Zdj (Zfy (Zby T) script n).1) (Zfy (Zby T) script n).2 w):=by
 obtain⟨A0,l0,q0,rfl⟩:∃ A n c,kv=.slice A n c:=by obtain⟨A,cap,e,_⟩:=hT.kids;exact⟨A,_,cap,e⟩
 simp only [Zbu];have hB0:=Zau w (.cells #[.int .i64 T.arch,.string ⟨T.name.toArray⟩,.string ⟨T.cycle.toArray⟩,.slice Ai T.init.length ci,.slice Ac T.code.length cc,.int .i64 T.q,.int .i64 T.k,.int .i64 T.t,.int .i64 T.r,.string ⟨T.l.toArray⟩,.int .i64 T.v,.slice A0 l0 q0] 32 (0,0)) (.cells #[.slice none 0 0,.slice none 0 0] 96 (0,0));have hRes:=Zfl w (.cells #[.int .i64 T.arch,.string ⟨T.name.toArray⟩,.string ⟨T.cycle.toArray⟩,.slice Ai T.init.length ci,.slice Ac T.code.length cc,.int .i64 T.q,.int .i64 T.k,.int .i64 T.t,.int .i64 T.r,.string ⟨T.l.toArray⟩,.int .i64 T.v,.slice A0 l0 q0] 32 (0,0)) 96 #[.slice none 0 0,.slice none 0 0];have HNew:=Zh (Z5v T Ai Ac ci cc (.slice A0 l0 q0) _ (hT.below hB0) a ha);have HB0:=Zh hB0;have HRes:=Zh hRes;have HS:=Zh hS;have HR:=Zh hr;have hns:=hr.small;simp only [Zbu] at HNew;clear hT hB0 hRes ha hS hr;go_enter Tryz.func27,Tryz.ntmps27
 go_wp2_with fail
 refine Zz1 0 (fun a wr=>∃ g ob,Z30 w g ob As cs script (Zby T) n a wr) (fun a _=>n - (intOf (a.tmps.getD 9 undef)).toNat) rfl ?_ ?_
 ·intro HP;have HP:=Zh HP;have g0:¬ (65536:Int)<(script.length:Int):=ω
  go_wp2_with (go_at_call 10;refine HNew.o.mono ?_;rintro e w1 ⟨g,V,rfl,hM,hb1⟩;have HM:=Zh hM;have HB1:=Zh hb1;clear hM hb1)
  go_step3
  have hs2:((w.alloc (.cells #[.int .i64 T.arch,.string ⟨T.name.toArray⟩,.string ⟨T.cycle.toArray⟩,.slice Ai T.init.length ci,.slice Ac T.code.length cc,.int .i64 T.q,.int .i64 T.k,.int .i64 T.t,.int .i64 T.r,.string ⟨T.l.toArray⟩,.int .i64 T.v,.slice A0 l0 q0] 32 (0,0))).alloc (.cells #[.slice none 0 0,.slice none 0 0] 96 (0,0))).heap.size=w.heap.size+2:=by simp
  have hz:=HB1.o.size;have hal:=Zad w1 (.cells #[.slice none 0 0,.slice none 0 0] 96 (0,0));rename_i hKx;refine hKx _ _ ?_;refine HP.o _ _ ?_;refine⟨g,w1.heap.size,Z30.intro (k:=0) (M:=V) (mvv:=.slice none 0 0) rfl rfl rfl rfl rfl rfl rfl (Nat.zero_le _) ?_ (Zab (Zab HB0.o HB1.o) hal) ((HRes.o.go HB1.o).alloc _) (Blk.new w1 _ _) (Enc.Own.nil _ _ _) (by rw [hs2] at hz;exact hz)⟩;have:=HM.o.below hal;rw [hs2] at this;exact this
 ·rintro a wr ⟨g,ob,f,k,M,mvv,hk,rfl,hm,hbw,hrs,hob,hmo,hob2⟩;have hobn:ob≠w.heap.size+1:=ω;have hobw:w.heap.size<=ob:=ω;have HM:=Zh hm;have HW:=Zh hbw;have HRs:=Zh hrs;have HOb:=Zh hob;have HO:=Zh hmo;have HS2:=Zh (HS.o.below hbw);have hz:=hbw.size;have hlr:=Zrx (Zby T) script k;have hB2:w.heap.size+2<=wr.heap.size:=hrs.lt;have hobl:=hob.lt;have HOK:=Zh (HR.o.ok k hk);obtain⟨m,hm2⟩:∃ m,(Zfy (Zby T) script k).1=m:=⟨_,rfl⟩;obtain⟨ms,hms⟩:∃ ms,(Zfy (Zby T) script k).2=ms:=⟨_,rfl⟩;rw [hm2] at HM HOK;rw [hms] at HO hlr;obtain⟨Av,cv,emv⟩:=Zbe HO.o;subst emv;have HMv:=Zh (fun (W:World) (hW:Below wr.heap.size wr W)=>Z69 (HM.o.below hW) HOK.o.n1 HOK.o.cl);clear hm hbw hrs hob hmo;by_cases hkn:k<n
  ·obtain⟨x,hx⟩:=HR.o.go k hkn
   have HE:=Zh (show Zfy (Zby T) script (k+1)=(Zsw m x,ms++[x]) by
    show (match Zvs (Zfy (Zby T) script k).1 ((script[k]?).getD 0) with
     | some x=>(Zsw (Zfy (Zby T) script k).1 x,(Zfy (Zby T) script k).2++[x])
     | none=>Zfy (Zby T) script k)=_
    rw [hx,hm2,hms])
   rw [hm2] at hx;unfold Zvs at hx;have hml:0<(Zj9 m).length:=by have:=(List.getElem?_eq_some_iff.1 hx).1;omega
   have HX:=Zh hx;have gm:(0:Int)<((Zj9 m).length:Int):=ω;clear hx hm2 hms hml;by_cases hks:k<script.length
   ·obtain⟨p1,hp1⟩:∃ p1,script[k]=p1:=⟨_,rfl⟩;have hx1:=List.getElem?_eq_getElem hks;rw [hp1] at hx1;obtain⟨sb,so,rfl,hsc⟩:=HS2.o k p1 hx1;have s0:wr.cell? ⟨sb,so+k*1,none⟩=some (.int .i64 p1):=hsc 0 _ rfl;rw [Nat.mul_one] at s0;rw [hx1] at HX;have g1:(k:Int)<(script.length:Int):=ω;have g2:(0:Int)<=(k:Int):=ω;have HD:=Zh (fun (W:World) (hW:Below wr.heap.size wr W)=>Z4w (HM.o.below hW) HOK.o p1 (Nat.le_trans hB2 hW.size) x HX.o);clear hx1 hp1 hsc hks
    go_wp2_with (first | (go_at_call 5;refine (HMv.o _ (by repeat (first | exact Below.refl _ _ | refine Zag ?_ _ | refine Below.drew ?_ | refine Zaa ?_ _))).mono ?_;rintro e w2 ⟨v,rfl,hown,hb2⟩;obtain⟨Av2,cv2,rfl⟩:=Zbe hown;have HB2:=Zh hb2;have s0:=Zac s0 hb2;clear hown hb2) | (go_at_call 4;refine (HD.o _ HB2.o).mono ?_;rintro e w3 ⟨V3,rfl,h3,hb3,hk3⟩;have HM3:=Zh h3;have HB3:=Zh hb3;have HK3:=Zh hk3;have HOb4:=Zh ((hk3 _ _ _ (HOb.o.go HB2.o) (by decide) (by decide)).alloc (.cells #[.int .i64 x.1,.int .i64 x.2] 42 (0,0)));have o1:=HOb4.o.cl 1;have of:=HOb4.o.frozen;have oz:=HOb4.o.lt;clear h3 hb3 hk3) | (at_builtin;refine Hid.o ?_))
    exact m_6
   ·rw [show script[k]?=none from List.getElem?_eq_none ω] at HX;have g1:¬ (k:Int)<(script.length:Int):=ω;have HD:=Zh (fun (W:World) (hW:Below wr.heap.size wr W)=>Z4w (HM.o.below hW) HOK.o 0 (Nat.le_trans hB2 hW.size) x HX.o);clear hks
    go_wp2_with (first | (go_at_call 5;refine (HMv.o _ (by repeat (first | exact Below.refl _ _ | refine Zag ?_ _ | refine Below.drew ?_ | refine Zaa ?_ _))).mono ?_;rintro e w2 ⟨v,rfl,hown,hb2⟩;obtain⟨Av2,cv2,rfl⟩:=Zbe hown;have HB2:=Zh hb2;skip;clear hown hb2) | (go_at_call 4;refine (HD.o _ HB2.o).mono ?_;rintro e w3 ⟨V3,rfl,h3,hb3,hk3⟩;have HM3:=Zh h3;have HB3:=Zh hb3;have HK3:=Zh hk3;have HOb4:=Zh ((hk3 _ _ _ (HOb.o.go HB2.o) (by decide) (by decide)).alloc (.cells #[.int .i64 x.1,.int .i64 x.2] 42 (0,0)));have o1:=HOb4.o.cl 1;have of:=HOb4.o.frozen;have oz:=HOb4.o.lt;clear h3 hb3 hk3) | (at_builtin;refine Hid.o ?_))
    exact m_6
  ·have hkn2:k=n:=ω;subst hkn2;have hn0:Zj9 m=[]:=by rw [<- hm2];exact HR.o.stop
   have HSo:=Zh (fun (W:World) (hW:Below wr.heap.size wr W)=>stP (HM.o.below hW) (by rw [<- hm2];exact HR.o.som));have HE:=Zh (show Zdj (Zfy (Zby T) script k).1=Zdj m/\(Zfy (Zby T) script k).2=ms from⟨by rw [hm2],hms⟩);rw [hn0] at HMv;have hno:¬ ob=w.heap.size+1:=hobn;have hno2:¬ w.heap.size+1=ob:=fun e=>hobn e.symm
   clear hm2 hms hkn hn0
   go_wp2_with (first | (go_at_call 5;refine (HMv.o _ (by repeat (first | exact Below.refl _ _ | refine Zag ?_ _ | refine Below.drew ?_ | refine Zaa ?_ _))).mono ?_;rintro e w2 ⟨v,rfl,hown,hb2⟩;obtain⟨Av2,cv2,rfl⟩:=Zbe hown;have HB2:=Zh hb2;clear hown hb2;simp only [List.length_nil]) | (go_at_call 7;refine (HSo.o _ HB2.o).mono ?_;rintro e w3 ⟨v1,rfl,hs1,hb3⟩;obtain⟨Av1,nv1,cv1,rfl⟩:=Zav hs1;have HB3:=Zh (Zab HB2.o hb3);have HV1:=Zh (Za3 hs1 (Nat.le_trans hz HB2.o.size));have HOb3:=Zh (HOb.o.go HB3.o);have HR3:=Zh (HRs.o.go HB3.o);have o0:=HOb3.o.cl 0;have o1:=HOb3.o.cl 1;have of:=HOb3.o.frozen;have oz:=HOb3.o.lt;have r0:=HR3.o.cl 0;have r1:=HR3.o.cl 1;have rf:=HR3.o.frozen;have rz:=HR3.o.lt;clear hs1 hb3))
   have HVm:=Zh (Za3 (Zah HO.o HB3.o) (Nat.le_add_right w.heap.size 2));simp only [Exit.jump];refine bodyPost_ret (v:=.tuple #[.agg #[.slice Av1 nv1 cv1,.slice Av ms.length cv],.int .i64 0]) (by simp [results,Tryz.results27,go_sem,r0,r1,o0,o1,hno,hno2]) rfl ⟨_,_,rfl,?_,?_,?_⟩
   ·rw [HE.o.1];exact Zae (Zae (Zae HV1.o HOb3.o (by decide) 0 _) (HR3.o.far (p:=⟨ob,0,none⟩) hno2 _) (by decide) 0 _) ((HR3.o.far (p:=⟨ob,0,none⟩) hno2 _).set_ 0 _) (by decide) 1 _
   ·rw [HE.o.2];exact Zae (Zae (Zae HVm.o HOb3.o (by decide) 0 _) (HR3.o.far (p:=⟨ob,0,none⟩) hno2 _) (by decide) 0 _) ((HR3.o.far (p:=⟨ob,0,none⟩) hno2 _).set_ 0 _) (by decide) 1 _
   ·exact (((HW.o.trans (HB3.o.mono hz)).setCell (p:=⟨ob,0,none⟩) hobw _).setCell (p:=⟨w.heap.size+1,0,none⟩) (Nat.le_succ _) _).setCell (p:=⟨w.heap.size+1,1,none⟩) (Nat.le_succ _) _
end
end
def smT:Tst:=⟨1,[116],[],[],[[⟨1,0,0,0,7,[120],[],0⟩],[⟨3,0,0,0,0,[120],[],0⟩]],1,2,1,0,[],0,.nil⟩
def smA:Tr:=⟨[⟨0,0,2,0,7,0⟩,⟨1,0,1,0,0,0⟩],[],[],[],[],[(2,1)]⟩
def smM:BMc:=⟨1,smT.code,[[120]],[(1,0,[])],[0],[⟨List.replicate 15 ([],0),0,[]⟩,⟨List.replicate 15 ([],0),0,[]⟩]⟩
set_option maxRecDepth 100000 in
theorem Zry:Zbg 2 1 2 1 0 [] 0 .nil=0/\Zbg 1 1 2 1 0 [] 0 .nil=0:=by decide
set_option maxRecDepth 100000 in
theorem Zrz:Za8 smT=[(1,0,[])]:=by
 unfold Za8 Zl9;rw [if_pos (show Zbg 2 smT.q smT.k smT.t smT.r smT.l smT.v smT.kids=0 from Zry.1),<- Zop]
 ·decide
 ·intro x hx;have:x=(1,0,[]):=by simpa [smT,atL,Za4] using hx
  subst this;exact (by decide:Zbd 2 1 0 []=true)
theorem Zqq:Zaq smT=[[120]]:=by
 refine Zhc (Zgb _) (by unfold Zi3;simp) (fun x=>?_);unfold Zaq;rw [Ze9];have:Zel smT=[[120],[120],[]]:=by
  unfold Zel;rw [show Zl9 smT.q smT.k smT.t smT.r smT.l smT.v smT.kids=[(1,0,[])] from Zrz];rfl
 rw [this];simp
 constructor
 ·rintro⟨h | h,h2⟩ <;> simp_all
 ·rintro rfl;simp
set_option maxRecDepth 100000 in
theorem Z29:Zbb smT=0:=by
 unfold Zbb;rw [if_neg (by decide +kernel),if_neg (by decide +kernel),if_neg (by decide +kernel),if_neg (by decide +kernel),if_neg (by rw [show smT.arch=1 from rfl];exact fun h=>h Zry.2),Zrz,if_neg (by decide),if_neg (by rw [show Zdq (Zel smT)=[[120]] from Zqq];decide)]
set_option maxRecDepth 100000 in
theorem Z6e:Zcs smT=.ok smA:=by
 unfold Zcs;rw [if_neg (by rw [Z29];decide),Zqq,Zrz]
 first | kernel_rfl | rfl | decide
theorem Zwo:Zby smT=smM:=by
 unfold Zby
 rw [Zqq,Zrz];rfl
def Z8u (m:BMc)(vs:List (List UInt8×Int))(ac:Ac):Bool:=m.locs.contains ac.loc&&decide (m.locs.idxOf ac.loc<m.mem.length)&&decide (m.locs.length<=1000000)&&(ac.kind != 2||(decide (0<=ac.reg)&&decide (ac.reg<(vs.length:Int))))
def Z74 (m:BMc):Bool:=decide (m.tds.length<=256)&&decide (m.code.length=m.tds.length)&&(m.tds.zip m.code).all (fun y=>!decide (y.1.at_<(y.2.length:Int))||(match nxL m.arch y.2 y.1 with
 | some r=>Z8u m r.1.vs r.2
 | none=>false))
theorem Z5o {m:BMc}(hs:Zi3 m.locs)(h:Z74 m=true):MOM m:=by
 unfold Z74 at h;simp only [Bool.and_eq_true,decide_eq_true_eq] at h;obtain⟨⟨h1,h2⟩,h3⟩:=h;refine⟨h1,h2,fun k t c ht hc hl=>?_⟩;have h4:=List.all_eq_true.1 h3 (t,c) (List.mem_of_getElem? (i:=k) (by rw [List.getElem?_zip_eq_some];exact⟨ht,hc⟩));simp only [Bool.or_eq_true,Bool.not_eq_true',decide_eq_false_iff_not] at h4;have h5:=h4.resolve_left (fun e=>e hl);cases hn:nxL m.arch c t with
 | none=>rw [hn] at h5;cases h5
 | some r=>
  rw [hn] at h5;refine⟨r.1,r.2,rfl,?_⟩;simp only [Z8u,Bool.and_eq_true,Bool.or_eq_true,bne_iff_ne,decide_eq_true_eq,List.contains_iff_mem] at h5;obtain⟨⟨⟨h6,h7⟩,h8⟩,h9⟩:=h5;exact⟨⟨h6,h7⟩,hs,h8,fun e=>h9.resolve_left (fun a=>a e)⟩
set_option maxRecDepth 100000 in
theorem Z0v (p:List Int)(hp:p=[]\/p=[1]):Z8t (Zby smT) p 2:=by
 rw [Zwo];have hl:∀ i,i<=2->(Zfy smM p i).1.locs=[[120]]:=by
  rcases hp with rfl | rfl <;> decide +kernel
 have hb:∀ i,i<=2->Z74 (Zfy smM p i).1=true:=by
  rcases hp with rfl | rfl <;> decide +kernel
 have hg:∀ i,i<2->(Zvs (Zfy smM p i).1 ((p[i]?).getD 0)).isSome=true:=by
  rcases hp with rfl | rfl <;> decide +kernel
 have hst:Zj9 (Zfy smM p 2).1=[]:=by
  rcases hp with rfl | rfl <;> decide +kernel
 have ht:(Zfy smM p 2).1.ths=[(1,0,[])]/\(Zfy smM p 2).1.tds.length=2/\∀ t∈(Zfy smM p 2).1.tds,t.vs.length=15:=by
  rcases hp with rfl | rfl <;> decide +kernel
 have hs:Zi3 [[(120:UInt8)]]:=by unfold Zi3;simp
 refine⟨fun i hi=>Z5o (by rw [hl i hi];exact hs) (hb i hi),fun i hi=>Option.isSome_iff_exists.1 (hg i hi),hst,⟨⟨by rw [ht.2.1];decide,by rw [ht.1];decide,by rw [hl 2 (Nat.le_refl _)];decide,fun x hx hn=>?_,fun x hx hn=>?_⟩,by rw [hl 2 (Nat.le_refl _)];exact hs,fun x hx hn=>?_⟩,by decide⟩
 ·rw [ht.1] at hx;simp at hx;subst hx;simp at hn
 ·rw [ht.1] at hx;simp at hx;subst hx;have h1:1<(Zfy smM p 2).1.tds.length:=by rw [ht.2.1];decide
  exact⟨1,0,_,rfl,rfl,List.getElem?_eq_getElem h1,by rw [ht.2.2 _ (List.getElem_mem h1)];decide⟩
 ·rw [ht.1] at hx;simp at hx;subst hx;simp at hn
set_option maxRecDepth 100000 in
theorem Zqp:Zdj (Zfy (Zby smT) [] 2).1=[7]/\Zdj (Zfy (Zby smT) [1] 2).1=[0]/\(Zfy (Zby smT) [1] 2).2.length=2:=by
 rw [Zwo]
 decide +kernel
section
set_option maxHeartbeats 4000000
set_option maxRecDepth 100000
theorem Z8x {w:World}{b:Nat}{op imm:Int}(h:Blk w b 92 #[.int .i64 op,.int .i64 0,.int .i64 0,.int .i64 0,.int .i64 imm,.string ⟨#[120]⟩,.string ⟨#[]⟩,.int .i64 0]):Zcj w (some ⟨b,0,none⟩) [⟨op,0,0,0,imm,[120],[],0⟩]:=by
 intro j x hx
 match j,hx with
 | 0,hx=>
  simp at hx;subst hx;exact⟨_,0,rfl,(h.cell 0).trans rfl,(h.cell 1).trans rfl,(h.cell 2).trans rfl,(h.cell 3).trans rfl,(h.cell 4).trans rfl,(h.cell 5).trans rfl,(h.cell 6).trans rfl,(h.cell 7).trans rfl,by simp,Nat.zero_le _⟩
 | j+1,hx=>simp at hx
theorem smP (w:World):Calls Tryz.prog 28 #[] w fun e w'=>∃ Ac kv,e=.returned (Zbu smT (.slice none 0 0) (.slice Ac 2 2) kv)/\Zcu w' smT none Ac kv/\Below w.heap.size w w':=by
 go_enter Tryz.func28,Tryz.ntmps28
 go_wp2_with fail
 refine bodyPost_ret (v:=Zbu smT (.slice none 0 0) (.slice (some ⟨w.heap.size+1+1+1+1,0,none⟩) 2 2) (.slice none 0 0)) (by simp [results,Tryz.results28,go_sem,smT]) rfl ?_;obtain⟨W,hW⟩:∃ W,W=((((w.alloc (.cells #[.int .i64 1,.string ⟨#[116]⟩,.string ⟨#[]⟩,.slice none 0 0,.slice (some ⟨w.heap.size+1+1+1+1,0,none⟩) 2 2,.int .i64 1,.int .i64 2,.int .i64 1,.int .i64 0,.string ⟨#[]⟩,.int .i64 0,.slice none 0 0] 32 (0,0))).alloc (.cells #[.int .i64 1,.int .i64 0,.string ⟨#[]⟩] 25 (0,0))).alloc (.cells #[.int .i64 1,.int .i64 0,.int .i64 0,.int .i64 0,.int .i64 7,.string ⟨#[120]⟩,.string ⟨#[]⟩,.int .i64 0] 92 (0,0))).alloc (.cells #[.int .i64 3,.int .i64 0,.int .i64 0,.int .i64 0,.int .i64 0,.string ⟨#[120]⟩,.string ⟨#[]⟩,.int .i64 0] 92 (0,0))).alloc (.cells #[.slice (some ⟨w.heap.size+1+1,0,none⟩) 1 1,.slice (some ⟨w.heap.size+1+1+1,0,none⟩) 1 1] 66 (0,0)):=⟨_,rfl⟩;have e2:((w.alloc (.cells #[.int .i64 1,.string ⟨#[116]⟩,.string ⟨#[]⟩,.slice none 0 0,.slice (some ⟨w.heap.size+1+1+1+1,0,none⟩) 2 2,.int .i64 1,.int .i64 2,.int .i64 1,.int .i64 0,.string ⟨#[]⟩,.int .i64 0,.slice none 0 0] 32 (0,0))).alloc (.cells #[.int .i64 1,.int .i64 0,.string ⟨#[]⟩] 25 (0,0))).heap.size=w.heap.size+1+1:=by simp
 have e3:(((w.alloc (.cells #[.int .i64 1,.string ⟨#[116]⟩,.string ⟨#[]⟩,.slice none 0 0,.slice (some ⟨w.heap.size+1+1+1+1,0,none⟩) 2 2,.int .i64 1,.int .i64 2,.int .i64 1,.int .i64 0,.string ⟨#[]⟩,.int .i64 0,.slice none 0 0] 32 (0,0))).alloc (.cells #[.int .i64 1,.int .i64 0,.string ⟨#[]⟩] 25 (0,0))).alloc (.cells #[.int .i64 1,.int .i64 0,.int .i64 0,.int .i64 0,.int .i64 7,.string ⟨#[120]⟩,.string ⟨#[]⟩,.int .i64 0] 92 (0,0))).heap.size=w.heap.size+1+1+1:=by simp
 have e4:((((w.alloc (.cells #[.int .i64 1,.string ⟨#[116]⟩,.string ⟨#[]⟩,.slice none 0 0,.slice (some ⟨w.heap.size+1+1+1+1,0,none⟩) 2 2,.int .i64 1,.int .i64 2,.int .i64 1,.int .i64 0,.string ⟨#[]⟩,.int .i64 0,.slice none 0 0] 32 (0,0))).alloc (.cells #[.int .i64 1,.int .i64 0,.string ⟨#[]⟩] 25 (0,0))).alloc (.cells #[.int .i64 1,.int .i64 0,.int .i64 0,.int .i64 0,.int .i64 7,.string ⟨#[120]⟩,.string ⟨#[]⟩,.int .i64 0] 92 (0,0))).alloc (.cells #[.int .i64 3,.int .i64 0,.int .i64 0,.int .i64 0,.int .i64 0,.string ⟨#[120]⟩,.string ⟨#[]⟩,.int .i64 0] 92 (0,0))).heap.size=w.heap.size+1+1+1+1:=by simp
 have h2:Blk W (w.heap.size+1+1) 92 #[.int .i64 1,.int .i64 0,.int .i64 0,.int .i64 0,.int .i64 7,.string ⟨#[120]⟩,.string ⟨#[]⟩,.int .i64 0]:=by have h:=Blk.new ((w.alloc (.cells #[.int .i64 1,.string ⟨#[116]⟩,.string ⟨#[]⟩,.slice none 0 0,.slice (some ⟨w.heap.size+1+1+1+1,0,none⟩) 2 2,.int .i64 1,.int .i64 2,.int .i64 1,.int .i64 0,.string ⟨#[]⟩,.int .i64 0,.slice none 0 0] 32 (0,0))).alloc (.cells #[.int .i64 1,.int .i64 0,.string ⟨#[]⟩] 25 (0,0))) 92 #[.int .i64 1,.int .i64 0,.int .i64 0,.int .i64 0,.int .i64 7,.string ⟨#[120]⟩,.string ⟨#[]⟩,.int .i64 0];rw [e2] at h;rw [hW];exact (h.alloc _).alloc _
 have h3:Blk W (w.heap.size+1+1+1) 92 #[.int .i64 3,.int .i64 0,.int .i64 0,.int .i64 0,.int .i64 0,.string ⟨#[120]⟩,.string ⟨#[]⟩,.int .i64 0]:=by have h:=Blk.new (((w.alloc (.cells #[.int .i64 1,.string ⟨#[116]⟩,.string ⟨#[]⟩,.slice none 0 0,.slice (some ⟨w.heap.size+1+1+1+1,0,none⟩) 2 2,.int .i64 1,.int .i64 2,.int .i64 1,.int .i64 0,.string ⟨#[]⟩,.int .i64 0,.slice none 0 0] 32 (0,0))).alloc (.cells #[.int .i64 1,.int .i64 0,.string ⟨#[]⟩] 25 (0,0))).alloc (.cells #[.int .i64 1,.int .i64 0,.int .i64 0,.int .i64 0,.int .i64 7,.string ⟨#[120]⟩,.string ⟨#[]⟩,.int .i64 0] 92 (0,0))) 92 #[.int .i64 3,.int .i64 0,.int .i64 0,.int .i64 0,.int .i64 0,.string ⟨#[120]⟩,.string ⟨#[]⟩,.int .i64 0];rw [e3] at h;rw [hW];exact h.alloc _
 have h4:Blk W (w.heap.size+1+1+1+1) 66 #[.slice (some ⟨w.heap.size+1+1,0,none⟩) 1 1,.slice (some ⟨w.heap.size+1+1+1,0,none⟩) 1 1]:=by have h:=Blk.new ((((w.alloc (.cells #[.int .i64 1,.string ⟨#[116]⟩,.string ⟨#[]⟩,.slice none 0 0,.slice (some ⟨w.heap.size+1+1+1+1,0,none⟩) 2 2,.int .i64 1,.int .i64 2,.int .i64 1,.int .i64 0,.string ⟨#[]⟩,.int .i64 0,.slice none 0 0] 32 (0,0))).alloc (.cells #[.int .i64 1,.int .i64 0,.string ⟨#[]⟩] 25 (0,0))).alloc (.cells #[.int .i64 1,.int .i64 0,.int .i64 0,.int .i64 0,.int .i64 7,.string ⟨#[120]⟩,.string ⟨#[]⟩,.int .i64 0] 92 (0,0))).alloc (.cells #[.int .i64 3,.int .i64 0,.int .i64 0,.int .i64 0,.int .i64 0,.string ⟨#[120]⟩,.string ⟨#[]⟩,.int .i64 0] 92 (0,0))) 66 #[.slice (some ⟨w.heap.size+1+1,0,none⟩) 1 1,.slice (some ⟨w.heap.size+1+1+1,0,none⟩) 1 1];rw [e4] at h;rw [hW];exact h
 have hb:Below w.heap.size w W:=by rw [hW];exact Zaa (Zaa (Zaa (Zau _ _ _) _) _) _
 rw [<- hW];refine⟨_,_,rfl,⟨?_,?_,⟨none,0,rfl,by decide,by decide,fun h=>absurd h (by decide)⟩,by decide,by decide,by decide,by decide,by decide⟩,hb⟩
 ·intro i x hx;simp [smT] at hx
 ·intro i c hc
  match i,hc with
  | 0,hc=>
   simp [smT] at hc;subst hc;exact⟨_,0,_,1,rfl,h4.cell 0,Z8x h2,by decide,by decide⟩
  | 1,hc=>
   simp [smT] at hc;subst hc;exact⟨_,0,_,1,rfl,h4.cell 1,Z8x h3,by decide,by decide⟩
  | i+2,hc=>simp [smT] at hc
theorem Z0a (w:World):Calls Tryz.prog 12 #[] w fun e w'=>e=.returned (.bool true)/\Below w.heap.size w w':=by
 go_enter Tryz.func12,Tryz.ntmps12
 go_wp2_with fail
 refine (smP w).mono ?_;rintro e w1 ⟨Ac,kv,rfl,hT,hb1⟩;have HB1:=Zh hb1;have HRun:=Zh (Z6d smT none Ac none 0 2 0 kv [] w1 hT smA Z6e (Enc.At.nil _ _) (by decide) 2 (Z0v [] (.inl rfl)));rw [Zqp.1] at HRun;clear hT hb1;simp only [show smT.init.length=0 from rfl,show smT.code.length=2 from rfl,List.length_nil] at HRun;generalize Zbu smT (.slice none 0 0) (.slice Ac 2 2) kv=tv at *
 go_wp2_with fail
 refine HRun.o.mono ?_;rintro e w2 ⟨v1,v2,rfl,hv1,hv2,hb2⟩;obtain⟨A2,c2,rfl⟩:=Zbe hv2;obtain⟨q1,c1,rfl,hq1⟩:=Zcx hv1 (i:=0) (x:=7) rfl;have k1:w2.cell? ⟨q1,0,none⟩=some (.int .i64 7):=hq1 0 _ rfl;have HB2:=Zh (HB1.o.trans (hb2.mono HB1.o.size));have hO:=Blk.new w2 96 #[.slice (some ⟨q1,0,none⟩) 1 c1,.slice A2 (Zfy (Zby smT) [] 2).2.length c2];have hal:=Zad w2 (.cells #[.slice (some ⟨q1,0,none⟩) 1 c1,.slice A2 (Zfy (Zby smT) [] 2).2.length c2] 96 (0,0));have HO:=Zh hO;have HX:=Zh hal;have k1:=Zac k1 hal;clear hv1 hv2 hq1 hb2 HRun hO hal
 go_wp2_with fail
 refine (smP _).mono ?_;rintro e w3 ⟨Ac3,kv3,rfl,hT,hb3⟩;have HB3:=Zh (Zab (Zab HB2.o HX.o) hb3);have HO3:=Zh (HO.o.go hb3);have k1:=Zac k1 hb3;have hal:=Zad w3 (.cells #[.int .i64 1] 3 (0,0));have HX3:=Zh hal;have HRun:=Zh (Z6d smT none Ac3 (some ⟨w3.heap.size,0,none⟩) 0 2 1 kv3 [1] _ (hT.below hal) smA Z6e (Zht Zde w3 3 1) (by decide) 2 (Z0v [1] (.inr rfl)));rw [Zqp.2.1] at HRun;clear hT hb3 HO HX HB2 hal;simp only [show smT.init.length=0 from rfl,show smT.code.length=2 from rfl,List.length_singleton] at HRun;generalize Zbu smT (.slice none 0 0) (.slice Ac3 2 2) kv3=tv at *
 go_wp2_with fail
 refine HRun.o.mono ?_;rintro e w4 ⟨v1,v2,rfl,hv1,hv2,hb4⟩;obtain⟨A4,c4,rfl⟩:=Zbe hv2;obtain⟨q4,c5,rfl,hq4⟩:=Zcx hv1 (i:=0) (x:=0) rfl;have k4:w4.cell? ⟨q4,0,none⟩=some (.int .i64 0):=hq4 0 _ rfl;have hb34:=Zab HX3.o hb4;have k1:=Zac k1 hb34;have HB4:=Zh (Zab HB3.o hb34);have HO4:=Zh (HO3.o.go hb34);have hl:=Zqp.2.2;rw [hl] at *;have hal:=Zad w4 (.cells #[.slice (some ⟨q4,0,none⟩) 1 c5,.slice A4 2 c4] 96 (0,0));have HO5:=Zh (Blk.new w4 96 #[.slice (some ⟨q4,0,none⟩) 1 c5,.slice A4 2 c4]);have k1:=Zac k1 hal;have k4:=Zac k4 hal;have o0:=(HO4.o.go hal).cl 0;have p0:=HO5.o.cl 0;have p1:=HO5.o.cl 1;clear hv1 hv2 hq4 hb4 hb34 HRun hal HX3 hl
 go_wp2_with fail
 go_ret;exact⟨rfl,Zaa HB4.o _⟩
end
end Go.Proofs.YtgjefdaaihgliaaGreatDoor
