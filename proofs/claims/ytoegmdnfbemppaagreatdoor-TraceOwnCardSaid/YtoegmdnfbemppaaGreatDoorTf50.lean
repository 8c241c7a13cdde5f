/- - -/
import Derived.Test.YtoegmdnfbemppaaGreatDoorTf47
import Derived.Test.YtoegmdnfbemppaaGreatDoorTf48

namespace Go.Proofs.YtoegmdnfbemppaaGreatDoor
open Go.RowKit
section
theorem Blk.setAny {w:World}{b:Nat}{t:TypeId}{cs:Array Value}(h:Blk w b t cs)(q i:Nat)(u:Value):∃ cs':Array Value,Blk (w.setCell ⟨q,i,none⟩ u) b t cs'/\cs'.size=cs.size:=by
 by_cases e:b=q
 ·subst e
  exact⟨_,h.set_ i u,by simp⟩
 ·exact⟨cs,h.far (p:=⟨q,i,none⟩) e u,rfl⟩
theorem Zim.set {t:TypeId}{z B:Nat}{w:World}{s:Sl}(h:Zim t z B w s)(q i:Nat)(u:Value):Zim t z B (w.setCell ⟨q,i,none⟩ u) s:=by
 rcases h with h | ⟨g,cs,e,hb,hz,hB⟩
 ·exact Or.inl h
 ·obtain⟨cs',hb',hs'⟩:=hb.setAny q i u
  exact Or.inr ⟨g,cs',e,hb',by rw [hs'];exact hz,hB⟩
theorem Zim.below {t:TypeId}{z B:Nat}{w w':World}{s:Sl}(h:Zim t z B w s)(hb:Below w.heap.size w w'):Zim t z B w' s:=by
 rcases h with h | ⟨g,cs,e,hg,hz,hB⟩
 ·exact Or.inl h
 ·exact Or.inr ⟨g,cs,e,hg.go hb,hz,hB⟩
theorem Zim.sets {t:TypeId}{z B:Nat}{s:Sl}(q:Nat):∀ (vs:List Value) (k:Nat) (w:World),Zim t z B w s->Zim t z B (w.setCells q k vs) s
 | [],_,_,h=>h
 | v :: vs,k,_w,h=>Zim.sets q vs (k+1) _ (h.set q k v)
theorem Zrx.sets {B:Nat}{w:World}{V:Zfl}(h:Zrx B w V)(q k:Nat)(vs:List Value):Zrx B (w.setCells q k vs) V:=
 ⟨h.lo.sets q vs k w,h.ini.sets q vs k w,h.ev.sets q vs k w,h.ad.sets q vs k w,h.ct.sets q vs k w,h.th.sets q vs k w,h.en.sets q vs k w⟩
theorem Zrx.below {B:Nat}{w w':World}{V:Zfl}(h:Zrx B w V)(hb:Below w.heap.size w w'):Zrx B w' V:=
 ⟨h.lo.below hb,h.ini.below hb,h.ev.below hb,h.ad.below hb,h.ct.below hb,h.th.below hb,h.en.below hb⟩
theorem Zim.at_ {t:TypeId}{z B:Nat}{w:World}{s:Sl}(h:Zim t z B w s){i:Nat}(hi:i<s.n):∃ q cs,s.A=some ⟨q,0,none⟩/\B<=q/\Blk w q t cs/\w.there q (i*z) z:=by
 rcases h with h | ⟨q,cs,e,hb,hz,hB⟩
 ·omega
 ·refine⟨q,cs,e,hB,hb,fun j hj=>?_⟩
  have h1:(i+1)*z<=s.n*z:=Nat.mul_le_mul_right _ hi
  rw [Nat.succ_mul] at h1
  refine⟨?_,hb.frozen _⟩
  rw [hb.cell,Option.isSome_iff_exists]
  exact⟨_,Array.getElem?_eq_getElem (by omega)⟩
theorem _root_.Go.RowKit.Hid.o{p:Prop}(h:Hid p):p:=h.out
theorem Yq3 {w w0:World}{O q B:Nat}{t:TypeId}{cs:Array Value}{V:Zfl}(h:Blk w O t cs/\Zrx B w V/\Below B w0 w)(n:O≠q)(m:B<=q)(k:Nat)(a:Array Value):Blk (w.setCells q k a.toList) O t cs/\Zrx B (w.setCells q k a.toList) V/\Below B w0 (w.setCells q k a.toList):=⟨Za6 h.1 n _ _,h.2.1.sets q k _,Zaq h.2.2 m _ _⟩
theorem Yq6{w:World}{p:Addr}{s:Sl}{A:Option Addr}(h:w.cell? p=some s.v)(e:s.A=A):w.cell? p=some (.slice A s.n s.c):=by rw [h,<-e]
theorem Yq1 (w:World):Blk (w.alloc (.cells #[.slice none 0 0,.slice none 0 0,.slice none 0 0,.slice none 0 0,.slice none 0 0,.slice none 0 0,.slice none 0 0,.slice none 0 0,.slice none 0 0] 41 (0,0))) w.heap.size 41 #[.slice none 0 0,.slice none 0 0,.slice none 0 0,.slice none 0 0,.slice none 0 0,.slice none 0 0,.slice none 0 0,.slice none 0 0,.slice none 0 0]:=Blk.new w _ _
theorem Yq2 (w:World)(V:Zfl):Below w.heap.size w ((w.alloc (.cells #[.slice none 0 0,.slice none 0 0,.slice none 0 0,.slice none 0 0,.slice none 0 0,.slice none 0 0,.slice none 0 0,.slice none 0 0,.slice none 0 0] 41 (0,0))).setRow w.heap.size (Zek V)):=below_setRow (Zad w _) (Nat.le_refl _) _
abbrev OwI (O7:Nat)(V:Zfl)(b:World)(n:Nat)(v:Value)(w:World):Prop:=∃ i:Nat,i<=n/\v=.int .i64 (i:Int)/\Blk w O7 41 (Zek V)/\Zrx b.heap.size w V/\Below b.heap.size b w
theorem Yq4 {T:Tst}(h:Za5 T≠0):Zzd T=Za5 T:=by
 unfold Zzd Zc8
 rw [if_pos h]
section
set_option maxHeartbeats 4000000
set_option maxRecDepth 100000
theorem Yq5 (T:Tst)(Ai Ac:Option Addr)(ci cc:Nat)(kv:Value)(w:World)(hT:Zb4 w T Ai Ac kv):Calls Tryz.prog 5 #[Zbm T (.slice Ai T.init.length ci) (.slice Ac T.code.length cc) kv] w fun e w'=>e=.returned (.bool true)/\Below w.heap.size w w':=by
 have hbad:Za5 T≠0->Zzd T=Za5 T:=Yq4
 obtain⟨cT,hct⟩:∃ c,Zzd T=c:=⟨_,rfl⟩
 obtain⟨pT,hpt⟩:∃ c,plT T=c:=⟨_,rfl⟩
 obtain⟨L,hL⟩:∃ c,Zzv T=c:=⟨_,rfl⟩
 have HT0:=Zh hT
 obtain⟨tc,htc⟩:∃ c:Array Value,c=#[.int .i64 T.arch,.string ⟨T.name.toArray⟩,.string ⟨T.cycle.toArray⟩,.slice Ai T.init.length ci,.slice Ac T.code.length cc,.int .i64 T.q,.int .i64 T.k,.int .i64 T.t,.int .i64 T.r,.string ⟨T.l.toArray⟩,.int .i64 T.v,kv]:=⟨_,rfl⟩
 have HTZ:=Zh (show tc.size=12 by rw [htc];rfl)
 have HP:Hid (∀ y,Zb4 y T Ai Ac kv->Calls Tryz.prog 9 #[.agg tc] y fun e w'=>∃ V:Zfl,e=.returned (.tuple #[.agg (Zek V),.int .i64 cT,.int .i64 (pT:Int)])/\Zc0 w' L V/\Zrx y.heap.size w' V/\Below y.heap.size y w'):=Zh (fun y h=>by rw [htc,<- hct,<- hpt,<- hL];exact Z6l T Ai Ac ci cc kv y h)
 have HR:Hid (∀ y,Zb4 y T Ai Ac kv->Calls Tryz.prog 10 #[.agg tc] y fun e w'=>∃ V:Zfl,e=.returned (.tuple #[.agg (Zek V),.int .i64 cT,.int .i64 (pT:Int)])/\Zc0 w' L V/\Below y.heap.size y w'):=Zh (fun y h=>by rw [htc,<- hct,<- hpt,<- hL];exact Z6k T Ai Ac ci cc kv y h)
 have HSM:=Zh (show Z0q L by rw [<- hL];exact Zle T)
 have HSA:=Zh (fun (V V':Zfl) (y:World) (h:Zc0 y L V) (h':Zc0 y L V')=>Z3k L V V' y h h' HSM.o.l0 HSM.o.l1 HSM.o.l2 HSM.o.l3 HSM.o.l4 HSM.o.l5 HSM.o.l6 HSM.o.l7 (by rw [HSM.o.l8];exact HSM.o.l7))
 rw [show Zbm T (.slice Ai T.init.length ci) (.slice Ac T.code.length cc) kv=.agg tc by rw [htc]]
 have HCK:Hid (∀ y,Zb4 y T Ai Ac kv->Calls Tryz.prog 15 #[.agg tc] y fun e y'=>e=.returned (.int .i64 (Za5 T))/\Below y.heap.size y y'):=Zh (fun y h=>by rw [htc];exact Zqe ci cc h)
 have HBD:=Zh (show Za5 T≠0->cT=Za5 T by rw [<- hct];exact hbad)
 clear hT htc hct hpt hL hbad
 go_enter Tryz.func5,Tryz.ntmps5
 apply wp_seq_k
 intro K hK
 have HK:=Zh hK
 clear hK
 go_wp2_with fail
 refine Z25 (P:=fun X=>K _ X) w _ _ ?_
 intro W b0 hz hbW
 refine HK.o _ _ ?_
 clear HK K hz
 have HTB:=Zh b0
 have HBW:=Zh hbW
 clear b0 hbW
 repeat (first | ((with_reducible refine Zao ?_);refine Zaw 32 1 w.heap.size rfl rfl HTB.o Tryz.underlying32 rfl (by rw [HTZ.o];kernel_rfl) rfl ?_) | (go_at_call 10;refine Hid.o ?_) | go_step)
 refine Zh ?_
 refine (HR.o W (HT0.o.below HBW.o)).mono ?_
 rintro e w2 ⟨Vr,rfl,hV,hb⟩
 generalize hvc:Zek Vr=cv
 dsimp only
 have HVC:=Zh hvc
 clear hvc
 have HZ:=Zh (Yq1 w2)
 repeat (first | ((with_reducible refine Zao ?_);refine Zam 41 3 19 w2.heap.size rfl rfl rfl HZ.o (by rw [<- HVC.o];rfl) (by rw [<- HVC.o];kernel_rfl) (by rw [<- HVC.o];exact Zhu _) rfl rfl ?_;refine Hid.o ?_) | go_step)
 refine Zh ?_
 have hvc:=HVC.o
 clear HVC
 subst hvc
 have hn:=Yq2 w2 Vr
 have hr:=HZ.o.row (Zek Vr)
 have HV:=Zh (hV.below hn)
 have HT3:=Zh ((HTB.o.go hb).go hn)
 have HO3:=Zh hr
 have HB3:=Zh (Zaa (Zaa HBW.o hb) hn)
 generalize World.setRow _ w2.heap.size (Zek Vr)=W3 at *
 generalize w2.heap.size=O3 at *
 clear hn hr hb hV HZ HTB HBW HR
 go_wp2_with fail
 go_loopw [6] (fun v wr=>∃ k:Nat,k<=3/\v=.int .i64 (k:Int)/\Blk wr w.heap.size 32 tc/\Blk wr O3 41 (Zek Vr)/\Zc0 wr L Vr/\Below w.heap.size w wr) (fun v _=>3 - (intOf v).toNat)
 case atStart=>exact⟨0,by omega,rfl,HT3.o,HO3.o,HV.o,HB3.o⟩
 case round=>
  obtain⟨k,hk,rfl,ht,ho,hv,hb⟩:=hrel
  obtain⟨wr0,hwr0⟩:∃ z:World,z=wr:=⟨_,rfl⟩
  subst hwr0
  clear HT3 HO3 HV HB3
  have HT3:=Zh ht
  have HO3:=Zh ho
  have HV:=Zh hv
  have HB3:=Zh hb
  clear ht ho hv hb
  by_cases hlt3:k<3
  ·have hk3:(k:Int)<3:=by omega
   go_wp2_with (first | ((with_reducible refine Zao ?_);refine Zaw 32 1 w.heap.size rfl rfl HT3.o Tryz.underlying32 rfl (by rw [HTZ.o];kernel_rfl) rfl ?_) | (go_at_call 9;refine Hid.o ?_))
   refine Zh ?_
   refine (HP.o wr0 (HT0.o.below HB3.o)).mono ?_
   rintro e w5 ⟨V,rfl,hV,hW,hb⟩
   generalize hvc:Zek V=cv
   dsimp only
   have HVC:=Zh hvc
   clear hvc
   have HZ:=Zh (Yq1 w5)
   repeat (first | ((with_reducible refine Zao ?_);refine Zam 41 7 29 w5.heap.size rfl rfl rfl HZ.o (by rw [<- HVC.o];rfl) (by rw [<- HVC.o];kernel_rfl) (by rw [<- HVC.o];exact Zhu _) rfl rfl ?_;refine Hid.o ?_) | go_step)
   refine Zh ?_
   have hvc:=HVC.o
   clear HVC
   subst hvc
   have hn:=Yq2 w5 V
   have hr:=HZ.o.row (Zek V)
   have HV5:=Zh ((HV.o.below hb).below hn)
   have HV6:=Zh (hV.below hn)
   have HW6:=Zh (hW.below hn)
   have HO5:=Zh ((HO3.o.go hb).go hn)
   have HO7:=Zh hr
   have HB6:=Zh (Zaa hb hn)
   generalize World.setRow _ w5.heap.size (Zek V)=W6 at *
   generalize w5.heap.size=O7 at *
   have g1:(cT != cT)=false:=by simp
   clear hn hr hb hV hW HZ
   obtain⟨c0,c1,c2,c3,c4,c5,c6,c7,c8⟩:=Zcy HO7.o
   obtain⟨j0,j1,j2,j3,j4,j5,j6,j7,j8⟩:=Zcy HO5.o
   go_wp2_with ((go_at_call 11;refine Hid.o ?_))
   refine Zh ?_
   refine (HSA.o V Vr W6 HV6.o HV5.o).mono ?_
   rintro e w7 ⟨rfl,hb⟩
   have HB7:=Zh (Zaa HB6.o hb)
   have HO77:=Zh (HO7.o.go hb)
   have HW7:=Zh (HW6.o.below hb)
   have HNTH:=Zh (show V.en.n=V.th.n by rw [HV6.o.nen,HV6.o.nth,HSM.o.l8])
   have bn0:V.ev.n<=1000000:=by rw [HV6.o.nev];exact HSM.o.l2
   have bn1:V.lo.n<=1000000:=by rw [HV6.o.nlo];exact HSM.o.l0
   have bn2:V.ini.n<=1000000:=by rw [HV6.o.nini];exact HSM.o.l1
   have bn3:V.ad.n<=1000000:=by rw [HV6.o.nad];exact HSM.o.l4
   have bn4:V.ct.n<=1000000:=by rw [HV6.o.nct];exact HSM.o.l6
   have bn5:V.th.n<=1000000:=by rw [HV6.o.nth];exact HSM.o.l7
   clear hb HB6 HO5 HO7 HV5 HV6 HW6 c0 c1 c2 c3 c4 c5 c6 c7 c8 j0 j1 j2 j3 j4 j5 j6 j7 j8
   dsimp only
   go_wp2_with fail
   clear g1
   have HX9:=Zh (And.intro HO77.o (And.intro HW7.o HB7.o))
   clear HO77 HW7 HB7
   go_loopw [10] (fun v wq=>OwI O7 V wr0 V.ev.n v wq) (fun v _=>V.ev.n - (intOf v).toNat)
   case atStart=>exact⟨0,Nat.zero_le _,rfl,HX9.o⟩
   case round=>
    obtain⟨i,hi,rfl,hO,hW,hB⟩:=hrel
    have HO:=Zh hO
    have HW:=Zh hW
    have HB:=Zh hB
    have hO7:=hO.lt
    clear hO hW hB HX9
    have k1:wr.cell? ⟨O7,2,none⟩=some V.ev.v:=HO.o.cell 2
    have hii:(0:Int)<=(i:Int):=by omega
    by_cases hlt:i<V.ev.n
    ·obtain⟨q,cs,hA,hBq,hq,hth⟩:=HW.o.ev.at_ hlt
     have hij:(i:Int)<(V.ev.n:Int):=by omega
     have HTE:=Zh hth
     have hne:=Zaz HO.o hq (by decide)
     have HN:=Zh (Yq3 ⟨HO.o,HW.o,HB.o⟩ hne hBq (i*6) #[.int .i64 (-7),.int .i64 0,.int .i64 0,.int .i64 0,.int .i64 (k:Int),.int .i64 0])
     have k2:=Yq6 k1 hA
     clear hA hth hq k1
     go_wp2_with ((with_reducible refine Zao ?_);refine Zia (.store 50 (.tmp 53) (.tmp 52)) rfl ?_)
     refine Zh ?_
     refine wpList_store_mid rfl _ _ _ rfl q (i*6) #[.int .i64 (-7),.int .i64 0,.int .i64 0,.int .i64 0,.int .i64 (k:Int),.int .i64 0] rfl rfl HTE.o (by kernel_rfl) (by kernel_rfl) ?_
     have hN:=HN.o
     clear HN HO HW HB HTE k2
     generalize wr.setCells q _ _=Wn at hN ⊢
     exact m_101
    ·have hie:i=V.ev.n:=by omega
     have hij:¬ (i:Int)<(V.ev.n:Int):=by omega
     have HX10:=Zh (And.intro HO.o (And.intro HW.o HB.o))
     clear HO HW HB
     go_wp2_with fail
     clear k1
     go_loopw [11] (fun v wq=>OwI O7 V wr0 V.lo.n v wq) (fun v _=>V.lo.n - (intOf v).toNat)
     case atStart=>exact⟨0,Nat.zero_le _,rfl,HX10.o⟩
     case round=>
      obtain⟨i,hi,rfl,hO,hW,hB⟩:=hrel
      have HO:=Zh hO
      have HW:=Zh hW
      have HB:=Zh hB
      have hO7:=hO.lt
      clear hO hW hB HX10
      have k1:wr.cell? ⟨O7,0,none⟩=some V.lo.v:=HO.o.cell 0
      have hii:(0:Int)<=(i:Int):=by omega
      by_cases hlt:i<V.lo.n
      ·obtain⟨q,cs,hA,hBq,hq,hth⟩:=HW.o.lo.at_ hlt
       have hij:(i:Int)<(V.lo.n:Int):=by omega
       obtain⟨h1,h2⟩:=hth 0 (by omega)
       rw [Nat.add_zero,Nat.mul_one] at h1 h2
       obtain⟨v0,h1⟩:=Option.isSome_iff_exists.1 h1
       have hne:=Zaz HO.o hq (by decide)
       have HOn:=Zh (HO.o.far (p:=⟨q,i,none⟩) hne (.string ⟨#[115,112,111,105,108,116]⟩))
       have HWn:=Zh (HW.o.sets q i [.string ⟨#[115,112,111,105,108,116]⟩])
       have HBn:=Zh (HB.o.setCell (p:=⟨q,i,none⟩) hBq (.string ⟨#[115,112,111,105,108,116]⟩))
       have k2:=Yq6 k1 hA
       exact m_111
      ·have hie:i=V.lo.n:=by omega
       have hij:¬ (i:Int)<(V.lo.n:Int):=by omega
       have HX11:=Zh (And.intro HO.o (And.intro HW.o HB.o))
       clear HO HW HB
       go_wp2_with fail
       clear k1
       go_loopw [12] (fun v wq=>OwI O7 V wr0 V.ini.n v wq) (fun v _=>V.ini.n - (intOf v).toNat)
       case atStart=>exact⟨0,Nat.zero_le _,rfl,HX11.o⟩
       case round=>
        obtain⟨i,hi,rfl,hO,hW,hB⟩:=hrel
        have HO:=Zh hO
        have HW:=Zh hW
        have HB:=Zh hB
        have hO7:=hO.lt
        clear hO hW hB HX11
        have k1:wr.cell? ⟨O7,1,none⟩=some V.ini.v:=HO.o.cell 1
        have hii:(0:Int)<=(i:Int):=by omega
        by_cases hlt:i<V.ini.n
        ·obtain⟨q,cs,hA,hBq,hq,hth⟩:=HW.o.ini.at_ hlt
         have hij:(i:Int)<(V.ini.n:Int):=by omega
         obtain⟨h1,h2⟩:=hth 0 (by omega)
         rw [Nat.add_zero,Nat.mul_one] at h1 h2
         obtain⟨v0,h1⟩:=Option.isSome_iff_exists.1 h1
         have hne:=Zaz HO.o hq (by decide)
         have HOn:=Zh (HO.o.far (p:=⟨q,i,none⟩) hne (.int .i64 (-77)))
         have HWn:=Zh (HW.o.sets q i [.int .i64 (-77)])
         have HBn:=Zh (HB.o.setCell (p:=⟨q,i,none⟩) hBq (.int .i64 (-77)))
         have k2:=Yq6 k1 hA
         exact m_111
        ·have hie:i=V.ini.n:=by omega
         have hij:¬ (i:Int)<(V.ini.n:Int):=by omega
         have HX12:=Zh (And.intro HO.o (And.intro HW.o HB.o))
         clear HO HW HB
         go_wp2_with fail
         clear k1
         go_loopw [13] (fun v wq=>OwI O7 V wr0 V.ad.n v wq) (fun v _=>V.ad.n - (intOf v).toNat)
         case atStart=>exact⟨0,Nat.zero_le _,rfl,HX12.o⟩
         case round=>
          obtain⟨i,hi,rfl,hO,hW,hB⟩:=hrel
          have HO:=Zh hO
          have HW:=Zh hW
          have HB:=Zh hB
          have hO7:=hO.lt
          clear hO hW hB HX12
          have k1:wr.cell? ⟨O7,4,none⟩=some V.ad.v:=HO.o.cell 4
          have hii:(0:Int)<=(i:Int):=by omega
          by_cases hlt:i<V.ad.n
          ·obtain⟨q,cs,hA,hBq,hq,hth⟩:=HW.o.ad.at_ hlt
           have hij:(i:Int)<(V.ad.n:Int):=by omega
           have HTE:=Zh hth
           have hne:=Zaz HO.o hq (by decide)
           have HN:=Zh (Yq3 ⟨HO.o,HW.o,HB.o⟩ hne hBq (i*2) #[.int .i64 (-7),.int .i64 0])
           have k2:=Yq6 k1 hA
           clear hA hth hq k1
           go_wp2_with ((with_reducible refine Zao ?_);refine Zia (.store 52 (.tmp 87) (.tmp 86)) rfl ?_)
           refine Zh ?_
           refine wpList_store_mid rfl _ _ _ rfl q (i*2) #[.int .i64 (-7),.int .i64 0] rfl rfl HTE.o (by kernel_rfl) (by kernel_rfl) ?_
           have hN:=HN.o
           clear HN HO HW HB HTE k2
           generalize wr.setCells q _ _=Wn at hN ⊢
           exact m_101
          ·have hie:i=V.ad.n:=by omega
           have hij:¬ (i:Int)<(V.ad.n:Int):=by omega
           have HX13:=Zh (And.intro HO.o (And.intro HW.o HB.o))
           clear HO HW HB
           go_wp2_with fail
           clear k1
           go_loopw [14] (fun v wq=>OwI O7 V wr0 V.ct.n v wq) (fun v _=>V.ct.n - (intOf v).toNat)
           case atStart=>exact⟨0,Nat.zero_le _,rfl,HX13.o⟩
           case round=>
            obtain⟨i,hi,rfl,hO,hW,hB⟩:=hrel
            have HO:=Zh hO
            have HW:=Zh hW
            have HB:=Zh hB
            have hO7:=hO.lt
            clear hO hW hB HX13
            have k1:wr.cell? ⟨O7,6,none⟩=some V.ct.v:=HO.o.cell 6
            have hii:(0:Int)<=(i:Int):=by omega
            by_cases hlt:i<V.ct.n
            ·obtain⟨q,cs,hA,hBq,hq,hth⟩:=HW.o.ct.at_ hlt
             have hij:(i:Int)<(V.ct.n:Int):=by omega
             have HTE:=Zh hth
             have hne:=Zaz HO.o hq (by decide)
             have HN:=Zh (Yq3 ⟨HO.o,HW.o,HB.o⟩ hne hBq (i*2) #[.int .i64 (-8),.int .i64 0])
             have k2:=Yq6 k1 hA
             clear hA hth hq k1
             go_wp2_with ((with_reducible refine Zao ?_);refine Zia (.store 52 (.tmp 99) (.tmp 98)) rfl ?_)
             refine Zh ?_
             refine wpList_store_mid rfl _ _ _ rfl q (i*2) #[.int .i64 (-8),.int .i64 0] rfl rfl HTE.o (by kernel_rfl) (by kernel_rfl) ?_
             have hN:=HN.o
             clear HN HO HW HB HTE k2
             generalize wr.setCells q _ _=Wn at hN ⊢
             exact m_101
            ·have hie:i=V.ct.n:=by omega
             have hij:¬ (i:Int)<(V.ct.n:Int):=by omega
             have HX14:=Zh (And.intro HO.o (And.intro HW.o HB.o))
             clear HO HW HB
             go_wp2_with fail
             clear k1
             go_loopw [15] (fun v wq=>OwI O7 V wr0 V.th.n v wq) (fun v _=>V.th.n - (intOf v).toNat)
             case atStart=>exact⟨0,Nat.zero_le _,rfl,HX14.o⟩
             case round=>
              obtain⟨i,hi,rfl,hO,hW,hB⟩:=hrel
              have HO:=Zh hO
              have HW:=Zh hW
              have HB:=Zh hB
              have hO7:=hO.lt
              clear hO hW hB HX14
              have k1:wr.cell? ⟨O7,7,none⟩=some V.th.v:=HO.o.cell 7
              have hii:(0:Int)<=(i:Int):=by omega
              by_cases hlt:i<V.th.n
              ·obtain⟨q,cs,hA,hBq,hq,hth⟩:=HW.o.th.at_ hlt
               obtain⟨q2,cs2,hA2,hBq2,hq2,hth2⟩:=HW.o.en.at_ (show i<V.en.n by rw [HNTH.o];exact hlt)
               have hij:(i:Int)<(V.th.n:Int):=by omega
               have hij2:(i:Int)<(V.en.n:Int):=by rw [HNTH.o];exact hij
               have HTE:=Zh hth
               have hne:=Zaz HO.o hq (by decide)
               have hne2:=Zaz HO.o hq2 (by decide)
               have HN:=Zh (Yq3 ⟨HO.o,HW.o,HB.o⟩ hne hBq (i*3) #[.int .i64 (-9),.int .i64 0,.string ⟨#[]⟩])
               have k2:=Yq6 k1 hA
               clear hA hA2 hth hth2 hq hq2 k1
               go_wp2_with ((with_reducible refine Zao ?_);refine Zia (.store 25 (.tmp 111) (.tmp 110)) rfl ?_)
               refine Zh ?_
               refine wpList_store_mid rfl _ _ _ rfl q (i*3) #[.int .i64 (-9),.int .i64 0,.string ⟨#[]⟩] rfl rfl HTE.o (by kernel_rfl) (by kernel_rfl) ?_
               have hN:=HN.o
               clear HN HO HW HB HTE k2
               generalize wr.setCells q _ _=wn at hN ⊢
               have HN:=Zh hN
               clear hN
               obtain⟨q3,cs3,hA3,hBq3,hq3,hth3⟩:=HN.o.2.1.en.at_ (show i<V.en.n by rw [HNTH.o];exact hlt)
               have HTE:=Zh hth3
               have hne3:=Zaz HN.o.1 hq3 (by decide)
               have HM:=Zh (Yq3 HN.o hne3 hBq3 (i*2) #[.int .i64 (-9),.int .i64 0])
               have k3:=Yq6 (s:=V.en) (HN.o.1.cell 8) hA3
               clear hA3 hth3 hq3
               go_wp2_with ((with_reducible refine Zao ?_);refine Zia (.store 54 (.tmp 116) (.tmp 115)) rfl ?_)
               refine Zh ?_
               refine wpList_store_mid rfl _ _ _ rfl q3 (i*2) #[.int .i64 (-9),.int .i64 0] rfl rfl HTE.o (by kernel_rfl) (by kernel_rfl) ?_
               have hM:=HM.o
               clear HM HN HTE k3
               generalize wn.setCells q3 _ _=wm at hM ⊢
               have HM:=Zh hM
               clear hM
               go_wp2_with fail
               go_roundw
               case rel=>exact⟨i+1,by omega,by go_num,HM.o.1,HM.o.2.1,HM.o.2.2⟩
               case measure=>simp [intOf];omega
              ·have hie:i=V.th.n:=by omega
               have hij:¬ (i:Int)<(V.th.n:Int):=by omega
               have HX15:=Zh (And.intro HO.o (And.intro HW.o HB.o))
               clear HO HW HB
               go_wp2_with fail
               clear k1
               go_roundw
               case rel=>exact⟨k+1,by omega,by go_num,HT3.o.go HX15.o.2.2,HO3.o.go HX15.o.2.2,HV.o.below HX15.o.2.2,Zaa HB3.o HX15.o.2.2⟩
               case measure=>simp [intOf];omega
  ·have hk3:k=3:=by omega
   subst hk3
   go_wp2_with (first | ((with_reducible refine Zao ?_);refine Zaw 32 1 w.heap.size rfl rfl HT3.o Tryz.underlying32 rfl (by rw [HTZ.o];kernel_rfl) rfl ?_) | (go_at_call 15;refine Hid.o ?_))
   refine Zh ?_
   refine (HCK.o wr0 (HT0.o.below HB3.o)).mono ?_
   rintro e w5 ⟨rfl,hb⟩
   dsimp only
   have HB5:=Zh (Zaa HB3.o hb)
   clear hb HP HSA
   by_cases hE:Za5 T=0
   ·rw [hE]
    exact m_93
   ·have e1:=HBD.o hE
    subst e1
    have g1:(Za5 T == 0)=false:=by simpa using hE
    have g2:(Za5 T != 0)=true:=by simpa using hE
    clear hE
    exact m_93
end
end
end Go.Proofs.YtoegmdnfbemppaaGreatDoor
