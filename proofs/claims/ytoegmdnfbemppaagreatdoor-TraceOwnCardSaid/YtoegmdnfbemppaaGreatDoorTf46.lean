/- - -/
import Derived.Test.YtoegmdnfbemppaaGreatDoorTf45

namespace Go.Proofs.YtoegmdnfbemppaaGreatDoor
open Go.RowKit
section
theorem Zuc {w:World}{g:Nat}{v0 v1 v2 v3 v4 v5 v6 v7 v8:Value}(h:Blk w g 41 #[v0,v1,v2,v3,v4,v5,v6,v7,v8]):(loadVar 41 ⟨g,0,none⟩).run Tryz.prog w=.ok (.agg #[v0,v1,v2,v3,v4,v5,v6,v7,v8]) w:=
 run_loadVar_row w g 41 41 #[v0,v1,v2,v3,v4,v5,v6,v7,v8] (0,0) _ h Tryz.underlying41 rfl (by kernel_rfl)
theorem Zy4 {P:Program}{ops:Array Oper}{rest:List Oper}{o:Oper}{a:Act}{W:World}{Q:Exit->Act->World->Prop}(T:TypeId)(tp:Nat){A:Addr}{v:Value}
  (h1:o.op=.load T (.tmp tp)) (g1:o.guard=none) (ha:a.tmps.getD tp undef=.pointer (some A)) (hl:(loadVar T A).run P W=.ok v W) (hK:wpList P ops Q rest (a.put o.dst v) W):wpList P ops Q (o :: rest) a W:=
 wpList_plain g1 fun K1 hK1=>by
  unfold Oper.wp execOp
  simp only [h1,Act.eval,ha,Instr.loadAt,Instr.sureAddr,Sem.run_bind,Sem.run_pure,Result.andThen_ok,hl]
  exact hK1 _ _ hK
theorem Zkh {P:Program}{ops:Array Oper}{rest:List Oper}{o:Oper}{a:Act}{W:World}{Q:Exit->Act->World->Prop}(sl:Nat)
  (h1:o.op=.assign (.tmp sl)) (g1:o.guard=none) (hK:wpList P ops Q rest (a.put o.dst (a.tmps.getD sl undef)) W):wpList P ops Q (o :: rest) a W:=
 wpList_plain g1 fun K1 hK1=>by
  unfold Oper.wp execOp
  simp only [h1,Act.eval,Sem.run_pure]
  exact hK1 _ _ hK
theorem Zia {P:Program}{ops:Array Oper}{rest:List Oper}{o:Oper}{a:Act}{W:World}{Q:Exit->Act->World->Prop}(op:Op)(_:o.op=op)(h:Hid (wpList P ops Q (o :: rest) a W)):wpList P ops Q (o :: rest) a W:=h.out
theorem Zhu (V:Zfl):(Zek V).all (·.oneCell')=true:=by simp [Zek,Value.oneCell']
def OfR (T:Tst)(w:World)(e:Ending)(w':World):Prop:=(match Zc8 T with
 | .error (c,k)=>e=.returned (.tuple #[.agg #[.slice none 0 0,.slice none 0 0,.slice none 0 0,.slice none 0 0,.slice none 0 0,.slice none 0 0,.slice none 0 0,.slice none 0 0,.slice none 0 0],.int .i64 c,.int .i64 (k:Int)])
 | .ok a=>∃ V:Zfl,e=.returned (.tuple #[Zgj V,.int .i64 0,.int .i64 0])/\Zc0 w' ⟨Zas T,Zjg (Zas T) T.init,Za8 T,a⟩ V)/\Below w.heap.size w w'
theorem OfR.bad {T:Tst}{w w':World}{c:Int}{k:Nat}(h:Zc8 T=.error (c,k))(hb:Below w.heap.size w w'):OfR T w (.returned (.tuple #[.agg #[.slice none 0 0,.slice none 0 0,.slice none 0 0,.slice none 0 0,.slice none 0 0,.slice none 0 0,.slice none 0 0,.slice none 0 0,.slice none 0 0],.int .i64 c,.int .i64 (k:Int)])) w':=by
 unfold OfR
 rw [h]
 exact⟨rfl,hb⟩
theorem OfR.ok {T:Tst}{w w':World}{a:Tr}{v:Value}{V:Zfl}(h:Zc8 T=.ok a)(e:v=Zgj V)(ht:Zc0 w' ⟨Zas T,Zjg (Zas T) T.init,Za8 T,a⟩ V)(hb:Below w.heap.size w w'):OfR T w (.returned (.tuple #[v,.int .i64 0,.int .i64 0])) w':=by
 unfold OfR
 rw [h]
 exact⟨⟨V,by rw [e],ht⟩,hb⟩
theorem Z0m (o:Option (Int×Int)):∃ p1 p2 okb,Zun o=.tuple #[.agg #[.int .i64 p1,.int .i64 p2],.bool okb]/\((okb=true/\o=some (p1,p2))\/(okb=false/\o=none)):=by
 cases o with
 | none=>exact⟨0,0,false,rfl,Or.inr ⟨rfl,rfl⟩⟩
 | some p=>exact⟨p.1,p.2,true,rfl,Or.inl ⟨rfl,rfl⟩⟩
section
set_option maxHeartbeats 100000000
set_option maxRecDepth 100000
theorem ofR (T:Tst)(Ai Ac:Option Addr)(ci cc:Nat)(kv:Value)(w:World)(hT:Zb4 w T Ai Ac kv) :
  Calls Tryz.prog 10 #[Zbm T (.slice Ai T.init.length ci) (.slice Ac T.code.length cc) kv] w (OfR T w):=by
 obtain⟨A0,l0,q0,rfl⟩:∃ A n c,kv=.slice A n c:=by obtain⟨A,cap,e,_⟩:=hT.kids;exact⟨A,_,cap,e⟩
 have HT0:=Zh hT
 obtain⟨tc,htc⟩:∃ c:Array Value,c=#[.int .i64 T.arch,.string ⟨T.name.toArray⟩,.string ⟨T.cycle.toArray⟩,.slice Ai T.init.length ci,.slice Ac T.code.length cc,.int .i64 T.q,.int .i64 T.k,.int .i64 T.t,.int .i64 T.r,.string ⟨T.l.toArray⟩,.int .i64 T.v,.slice A0 l0 q0]:=⟨_,rfl⟩
 have HCK:Hid (∀ y,Zb4 y T Ai Ac (.slice A0 l0 q0)->Calls Tryz.prog 15 #[.agg tc] y fun e y'=>e=.returned (.int .i64 (Za5 T))/\Below y.heap.size y y'):=Zh (fun y h=>by rw [htc];exact Zqe ci cc h)
 have HLO:Hid (∀ y,Zb4 y T Ai Ac (.slice A0 l0 q0)->Calls Tryz.prog 36 #[.agg tc] y (Z3t T y)):=Zh (fun y h=>by rw [htc];exact Z6f ci cc h)
 rw [show Zbm T (.slice Ai T.init.length ci) (.slice Ac T.code.length cc) (.slice A0 l0 q0)=.agg tc by rw [htc]]
 have HTC:=Zh htc
 have HTZ:=Zh (show tc.size=12 by rw [htc];rfl)
 have hil:=hT.ilen
 have hcl:=hT.clen
 clear hT htc
 go_enter Tryz.func10,Tryz.ntmps10
 apply wp_seq_k
 intro K hK
 have HK:=Zh hK
 clear hK
 go_wp2_with fail
 refine Z5h (P:=fun X=>K _ X) w _ _ _ _ ?_
 intro W b0 b1 hz hbW
 refine HK.out _ _ ?_
 clear HK K
 have HTB:=Zh b0
 have HRB:=Zh b1
 have HBW:=Zh hbW
 clear b0 b1 hbW hz
 repeat (first | ((with_reducible refine Zao ?_);refine Zaw 32 1 w.heap.size rfl rfl HTB.out Tryz.underlying32 rfl (by rw [HTZ.out];kernel_rfl) rfl ?_) | (go_at_call 15;refine Hid.out ?_) | go_step)
 refine Zh ?_
 refine (HCK.out W (HT0.out.below HBW.out)).mono ?_
 rintro e w2 ⟨rfl,hb⟩
 dsimp only
 have HB2:=Zh (Zaa HBW.out hb)
 have HTB2:=Zh (HTB.out.go hb)
 have HRB2:=Zh (HRB.out.go hb)
 have hz2:w.heap.size+1<w2.heap.size:=HRB2.out.lt
 clear hb HTB HRB HBW HCK
 by_cases hE:Za5 T=0
 ·have HE:=Zh hE
  have f1:(Za5 T != 0)=false:=by simpa using hE
  have HSM:=Zh (Zbe hE)
  have HB3:=Zh (Zad w2 (.cells #[.slice none 0 0,.slice none 0 0,.slice none 0 0,.slice none 0 0,.slice none 0 0,.slice none 0 0,.slice none 0 0,.slice none 0 0,.slice none 0 0] 41 (0,0)))
  have HTB3:=Zh (HTB2.out.alloc (.cells #[.slice none 0 0,.slice none 0 0,.slice none 0 0,.slice none 0 0,.slice none 0 0,.slice none 0 0,.slice none 0 0,.slice none 0 0,.slice none 0 0] 41 (0,0)))
  clear hE
  go_wp2_with (first | ((with_reducible refine Zao ?_);refine Zaw 32 1 w.heap.size rfl rfl HTB3.out Tryz.underlying32 rfl (by rw [HTZ.out];kernel_rfl) rfl ?_) | (go_at_call 36;refine Hid.out ?_))
  refine Zh ?_
  refine (HLO.out _ (HT0.out.below (Zaa HB2.out HB3.out))).mono ?_
  rintro e w3 ⟨hor,hb⟩
  rcases hor with ⟨hne,_⟩ | ⟨hz0,Al,cl,rfl,hown⟩
  ·exact absurd HE.out hne
  clear hz0
  dsimp only
  obtain⟨nl,hnl⟩:∃ n,(Zdl (Zel T)).length=n:=⟨_,rfl⟩
  have HNL:=Zh hnl
  have HLW:Hid (Zcx.Own 9 w.heap.size w3 (.slice Al nl cl) (Zas T)):=by
   rw [<- hnl]
   exact Zh (Zdx hown (show w.heap.size<=(w2.alloc (.cells #[.slice none 0 0,.slice none 0 0,.slice none 0 0,.slice none 0 0,.slice none 0 0,.slice none 0 0,.slice none 0 0,.slice none 0 0,.slice none 0 0] 41 (0,0))).heap.size by simp;omega))
  rw [hnl]
  have hnl64:nl<=64:=by have:=HSM.out.2.1;omega
  have HTB4:=Zh (HTB3.out.go hb)
  have HRB4:=Zh ((HRB2.out.alloc (.cells #[.slice none 0 0,.slice none 0 0,.slice none 0 0,.slice none 0 0,.slice none 0 0,.slice none 0 0,.slice none 0 0,.slice none 0 0,.slice none 0 0] 41 (0,0))).go hb)
  have HOB4:=Zh ((Blk.new w2 41 #[.slice none 0 0,.slice none 0 0,.slice none 0 0,.slice none 0 0,.slice none 0 0,.slice none 0 0,.slice none 0 0,.slice none 0 0,.slice none 0 0]).go hb)
  have HB4:=Zh (Zaa HB2.out (Zaa HB3.out hb))
  have hz4:w2.heap.size<w3.heap.size:=HOB4.out.lt
  clear hb hown hnl HTB2 HTB3 HRB2 HB2 HB3 HLO
  have o0:=HOB4.out.cell 0
  have o1:=HOB4.out.cell 1
  have fo:=HOB4.out.frozen
  have hmk:=Zme nl (by omega)
  go_wp2_with fail
  have HOX:=Zh (show Blk (((w3.setCell ⟨w2.heap.size,0,none⟩ (.slice Al nl cl)).setCell ⟨w2.heap.size,1,none⟩ (.slice (some ⟨w3.heap.size,0,none⟩) nl nl)).alloc (.cells (Zbo (List.replicate nl 0)) 3 (0,0))) w2.heap.size 41 #[.slice Al nl cl,.slice (some ⟨w3.heap.size,0,none⟩) nl nl,.slice none 0 0,.slice none 0 0,.slice none 0 0,.slice none 0 0,.slice none 0 0,.slice none 0 0,.slice none 0 0] from ((HOB4.out.set_ 0 (.slice Al nl cl)).set_ 1 (.slice (some ⟨w3.heap.size,0,none⟩) nl nl)).alloc _)
  have HQX:Hid (Blk (((w3.setCell ⟨w2.heap.size,0,none⟩ (.slice Al nl cl)).setCell ⟨w2.heap.size,1,none⟩ (.slice (some ⟨w3.heap.size,0,none⟩) nl nl)).alloc (.cells (Zbo (List.replicate nl 0)) 3 (0,0))) w3.heap.size 3 (Zey.flat (List.replicate nl 0)).toArray):=by
   have:=Blk.new ((w3.setCell ⟨w2.heap.size,0,none⟩ (.slice Al nl cl)).setCell ⟨w2.heap.size,1,none⟩ (.slice (some ⟨w3.heap.size,0,none⟩) nl nl)) 3 (Zbo (List.replicate nl 0))
   simp only [World.size_setCell] at this
   rw [Zkf] at this ⊢
   exact Zh this
  have HLX:=Zh (Zau (Zaf (Zaf HLW.out HOB4.out (by decide) 0 (.slice Al nl cl)) (HOB4.out.set_ 0 (.slice Al nl cl)) (by decide) 1 (.slice (some ⟨w3.heap.size,0,none⟩) nl nl)) (Zad _ (.cells (Zbo (List.replicate nl 0)) 3 (0,0))))
  have HTX:=Zh (((HTB4.out.far (p:=⟨w2.heap.size,0,none⟩) (show w.heap.size≠w2.heap.size by omega) (.slice Al nl cl)).far (p:=⟨w2.heap.size,1,none⟩) (show w.heap.size≠w2.heap.size by omega) (.slice (some ⟨w3.heap.size,0,none⟩) nl nl)).alloc (.cells (Zbo (List.replicate nl 0)) 3 (0,0)))
  have HRX:=Zh (((HRB4.out.far (p:=⟨w2.heap.size,0,none⟩) (show w.heap.size+1≠w2.heap.size by omega) (.slice Al nl cl)).far (p:=⟨w2.heap.size,1,none⟩) (show w.heap.size+1≠w2.heap.size by omega) (.slice (some ⟨w3.heap.size,0,none⟩) nl nl)).alloc (.cells (Zbo (List.replicate nl 0)) 3 (0,0)))
  have HBX:=Zh (Zab ((HB4.out.setCell (p:=⟨w2.heap.size,0,none⟩) (show w.heap.size<=w2.heap.size by omega) (.slice Al nl cl)).setCell (p:=⟨w2.heap.size,1,none⟩) (show w.heap.size<=w2.heap.size by omega) (.slice (some ⟨w3.heap.size,0,none⟩) nl nl)) (.cells (Zbo (List.replicate nl 0)) 3 (0,0)))
  generalize ((w3.setCell ⟨w2.heap.size,0,none⟩ (.slice Al nl cl)).setCell ⟨w2.heap.size,1,none⟩ (.slice (some ⟨w3.heap.size,0,none⟩) nl nl)).alloc (.cells (Zbo (List.replicate nl 0)) 3 (0,0))=w4 at *
  clear o0 o1 fo hmk HOB4 HTB4 HRB4 HB4 HLW
  go_loopw [9] (fun v wr=>∃ (i:Nat) (I:List Int),i<=T.init.length/\v=.int .i64 i/\I=(T.init.take i).foldl (Zpv (Zas T)) (List.replicate nl 0)/\I.length=nl/\Blk wr w2.heap.size 41 #[.slice Al nl cl,.slice (some ⟨w3.heap.size,0,none⟩) nl nl,.slice none 0 0,.slice none 0 0,.slice none 0 0,.slice none 0 0,.slice none 0 0,.slice none 0 0,.slice none 0 0]/\Blk wr w3.heap.size 3 (Zey.flat I).toArray/\Zcx.Own 9 w.heap.size wr (.slice Al nl cl) (Zas T)/\Blk wr w.heap.size 32 tc/\Blk wr (w.heap.size+1) 41 #[.slice none 0 0,.slice none 0 0,.slice none 0 0,.slice none 0 0,.slice none 0 0,.slice none 0 0,.slice none 0 0,.slice none 0 0,.slice none 0 0]/\Below w.heap.size w wr) (fun v _=>T.init.length - (intOf v).toNat)
  case atStart=>exact⟨0,_,Nat.zero_le _,rfl,rfl,by simp,HOX.out,HQX.out,HLX.out,HTX.out,HRX.out,HBX.out⟩
  case round=>
   obtain⟨i,I,hi,rfl,hI,hIl,ho,hq,hlo,ht,hr,hb⟩:=hrel
   have HII:=Zh hI
   have HO:=Zh ho
   have HQ:=Zh hq
   have HLO:=Zh hlo
   have HTB:=Zh ht
   have HRB:=Zh hr
   have HB:=Zh hb
   have b3:wr.cell? ⟨w.heap.size,3,none⟩=some (.slice Ai T.init.length ci):=(by have:=ht.cell 3;rw [this,HTC.out];rfl)
   clear hI ho hq hlo ht hr hb HOX HQX HLX HTX HRX HBX
   by_cases hlt:i<T.init.length
   ·have ex:=List.getElem?_eq_getElem hlt
    obtain⟨x,hx⟩:∃ x,T.init[i]=x:=⟨_,rfl⟩
    rw [hx] at ex
    have HNX:=Zh (show (T.init.take (i+1)).foldl (Zpv (Zas T)) (List.replicate nl 0)=Zpv (Zas T) I x by
     obtain⟨h1,h2⟩:=List.getElem?_eq_some_iff.1 ex
     rw [List.take_succ_eq_append_getElem h1,List.foldl_append,<- HII.out,h2];rfl)
    have hok:=Znu HE.out (List.mem_of_getElem? ex)
    obtain⟨b,o,hA,c0,c1,c2,c3,c4,_⟩:=(HT0.out.below HB.out).init i x ex
    subst hA
    have hii:(0:Int)<=(i:Int):=by omega
    have hij:(i:Int)<(T.init.length:Int):=by omega
    clear ex hx
    by_cases hth:x.th=-1
    ·obtain⟨hm,_⟩:=hok.mem hth
     obtain⟨k,hk⟩:∃ k,(Zas T).idxOf x.loc=k:=⟨_,rfl⟩
     have hkn:k<nl:=by have h1:=List.idxOf_lt_length_of_mem hm;have h2:(Zas T).length=nl:=HNL.out;omega
     rw [hth] at c0
     have HPL:Hid (∀ y:World,Zcx.At y Al (Zas T)->Calls Tryz.prog 37 #[.agg #[.slice Al nl cl,.slice (some ⟨w3.heap.size,0,none⟩) nl nl,.slice none 0 0,.slice none 0 0,.slice none 0 0,.slice none 0 0,.slice none 0 0,.slice none 0 0,.slice none 0 0],.string ⟨x.loc.toArray⟩] y fun e y'=>e=.returned (.int .i64 (k:Int))/\Below y.heap.size y y'):=Zh (fun y hy=>by rw [<- hk];exact Zl0 ⟨⟨Al,nl,cl⟩,⟨some ⟨w3.heap.size,0,none⟩,nl,nl⟩,⟨none,0,0⟩,⟨none,0,0⟩,⟨none,0,0⟩,⟨none,0,0⟩,⟨none,0,0⟩,⟨none,0,0⟩,⟨none,0,0⟩⟩ (Zas T) x.loc y hy HNL.out.symm (by have:(Zas T).length=nl:=HNL.out;omega) hm)
     have HFS:=Zh (show Zpv (Zas T) I x=I.set k x.vn by unfold Zpv;rw [if_pos hth,hk])
     have HAT:Hid (Zcx.At wr Al (Zas T)):=by
      obtain⟨A',cap',e,hat,_⟩:=Enc.Own.at_ (E:=Zcx) HLO.out
      simp only [Value.slice.injEq] at e
      obtain⟨rfl,_⟩:=e
      exact Zh hat
     have HS:=Zh (And.intro HO.out.drew (And.intro (HO.out.drew.cell 1) (And.intro (show wr.drew.cell? ⟨w.heap.size,3,none⟩=_ from b3) (And.intro (show wr.drew.cell? ⟨b,o+i*5+2,none⟩=_ from c2) (show wr.drew.cell? ⟨b,o+i*5+4,none⟩=_ from c4)))))
     clear hok hth hm hk
     go_wp2_with fail
     refine wz (fun y:World=>Blk y w2.heap.size 41 #[.slice Al nl cl,.slice (some ⟨w3.heap.size,0,none⟩) nl nl,.slice none 0 0,.slice none 0 0,.slice none 0 0,.slice none 0 0,.slice none 0 0,.slice none 0 0,.slice none 0 0]/\y.cell? ⟨w2.heap.size,1,none⟩=some (.slice (some ⟨w3.heap.size,0,none⟩) nl nl)/\y.cell? ⟨w.heap.size,3,none⟩=some (.slice (some ⟨b,o,none⟩) T.init.length ci)/\y.cell? ⟨b,o+i*5+2,none⟩=some (.string ⟨x.loc.toArray⟩)/\y.cell? ⟨b,o+i*5+4,none⟩=some (.int .i64 x.vn)) [1,2,4,6,7,8,9,11,13,14,15,16] HS.out (fun hHeld=>?_)
     refine wq 0 ?_
     refine wq 3 ?_
     refine wq 5 ?_
     refine wq 10 ?_
     refine wq 12 ?_
     refine wt 1 (by assumption) ?_
     refine wv 2 ((.agg #[.slice Al nl cl,.slice (some ⟨w3.heap.size,0,none⟩) nl nl,.slice none 0 0,.slice none 0 0,.slice none 0 0,.slice none 0 0,.slice none 0 0,.slice none 0 0,.slice none 0 0])) rfl (fun x' hS=>Za0 rfl rfl (Zuc hS.1)) (by assumption) ?_
     refine wt 4 (by assumption) ?_
     refine wt 6 (by assumption) ?_
     refine wt 7 (by assumption) ?_
     refine wt 8 (by assumption) ?_
     refine wt 11 (by assumption) ?_
     refine wt 13 (by assumption) ?_
     refine wt 14 (by assumption) ?_
     refine wt 15 (by assumption) ?_
     refine wt 16 (by assumption) ?_
     refine Zav (i:=9) (by kernel_rfl) rfl (fun K hK=>?_)
     go_simp
     go_at_call 37
     refine (HPL.out _ (show Zcx.At wr.drew Al (Zas T) from HAT.out)).mono ?_
     rintro e w6 ⟨rfl,hb6⟩
     have HB6:=Zh (Zar hb6)
     refine hK.out _ _ ⟨hHeld.1.go hb6,Zac hHeld.2.1 hb6,Zac hHeld.2.2.1 hb6,Zac hHeld.2.2.2.1 hb6,Zac hHeld.2.2.2.2 hb6⟩ ?_
     clear hK K hHeld hb6 HS HAT HPL
     refine pu ?_
     refine wl 17 ?_
     have HQ6:=Zh (HQ.out.go HB6.out)
     have hki:(k:Int)<(nl:Int):=by omega
     have hki0:(0:Int)<=(k:Int):=by omega
     obtain⟨n0,hn0⟩:∃ n0,I[k]?=some n0:=⟨_,List.getElem?_eq_getElem (by omega)⟩
     have z0:w6.cell? ⟨w3.heap.size,k,none⟩=some (.int .i64 n0):=(by have h1:=Zey.flat_at hn0 (show 0<1 by omega);rw [show k*Zey.size+0=k by show k*1+0=k;omega] at h1;rw [HQ6.out.cell,List.getElem?_toArray];exact h1)
     have f0:=HQ6.out.frozen k
     clear hn0
     go_wp2_with fail
     have HW:=Zh (show Blk (w6.setCell ⟨w3.heap.size,k,none⟩ (.int .i64 x.vn)) w3.heap.size 3 (Zey.flat (I.set k x.vn)).toArray by
      have:=HQ6.out.set_ k (.int .i64 x.vn)
      rw [Zn2 _ _ _ (by omega)] at this
      exact this)
     go_roundw
     case rel=>
      exact⟨i+1,I.set k x.vn,by omega,by go_num,by rw [HNX.out,HFS.out],by simp [hIl],(HO.out.go HB6.out).far (by simp;omega) _,HW.out,Zaf (Zau HLO.out HB6.out) HQ6.out (by decide) _ _,(HTB.out.go HB6.out).far (by simp;omega) _,(HRB.out.go HB6.out).far (by simp;omega) _,(Zaa HB.out HB6.out).setCell (p:=⟨w3.heap.size,k,none⟩) (show w.heap.size<=w3.heap.size by omega) _⟩
     case measure=>simp [intOf];omega
    ·have HSM2:=Zh (show Zpv (Zas T) I x=I from if_neg hth)
     have htf:(x.th == -1)=false:=by simpa using hth
     clear hok
     go_wp2_with fail
     go_roundw
     case rel=>exact⟨i+1,I,by omega,by go_num,by rw [HNX.out,HSM2.out],hIl,HO.out,HQ.out,HLO.out,HTB.out,HRB.out,HB.out⟩
     case measure=>simp [intOf];omega
   ·have hie:i=T.init.length:=by omega
    have hij:¬ (i:Int)<(T.init.length:Int):=by omega
    have HFI:=Zh (show I=Zjg (Zas T) T.init by
     rw [HII.out,hie,List.take_length];unfold Zjg;rw [show (Zas T).length=nl from HNL.out])
    have b5:wr.cell? ⟨w.heap.size,5,none⟩=some (.int .i64 T.q):=(by have:=HTB.out.cell 5;rw [this,HTC.out];rfl)
    have b6:wr.cell? ⟨w.heap.size,6,none⟩=some (.int .i64 T.k):=(by have:=HTB.out.cell 6;rw [this,HTC.out];rfl)
    have b7:wr.cell? ⟨w.heap.size,7,none⟩=some (.int .i64 T.t):=(by have:=HTB.out.cell 7;rw [this,HTC.out];rfl)
    have b8:wr.cell? ⟨w.heap.size,8,none⟩=some (.int .i64 T.r):=(by have:=HTB.out.cell 8;rw [this,HTC.out];rfl)
    have b9:wr.cell? ⟨w.heap.size,9,none⟩=some (.string ⟨T.l.toArray⟩):=(by have:=HTB.out.cell 9;rw [this,HTC.out];rfl)
    have b10:wr.cell? ⟨w.heap.size,10,none⟩=some (.int .i64 T.v):=(by have:=HTB.out.cell 10;rw [this,HTC.out];rfl)
    have b11:wr.cell? ⟨w.heap.size,11,none⟩=some (.slice A0 l0 q0):=(by have:=HTB.out.cell 11;rw [this,HTC.out];rfl)
    have HK:=Zh (Zd7.below HT0.out.kids (Nat.le_refl _) HB.out)
    have HL:=Zh HT0.out.llen
    have hbz:=HB.out.size
    go_wp2_with (go_at_call 38;refine Hid.out ?_)
    refine Zh ?_
    refine (Z54 w.heap.size _ hbz HK.out HL.out).mono ?_
    rw [show Zlt T.q T.k T.t T.r T.l T.v T.kids=Za8 T from rfl]
    rintro e w5 ⟨At,ct,rfl,hths,hb⟩
    dsimp only
    obtain⟨nt,hnt⟩:∃ n,(Za8 T).length=n:=⟨_,rfl⟩
    have HTO:Hid (w5.ownsRow w.heap.size 25 3 (.slice At nt ct) (Za8 T).length (Zay (Za8 T))):=by
     rw [<- hnt]
     exact Zh (Zdx hths.2.2 hbz)
    rw [hnt]
    have HNT:=Zh hnt
    have hnt3:nt<=1024:=by rw [<- hnt];exact Zet T
    have HO5:=Zh (HO.out.go hb)
    have HQ5:=Zh (HQ.out.go hb)
    have HLO5:=Zh (Zau HLO.out hb)
    have HTB5:=Zh (HTB.out.go hb)
    have HRB5:=Zh (HRB.out.go hb)
    have HB5:=Zh (Zaa HB.out hb)
    have hqo:=Zaz HO.out HQ.out (by decide)
    have hwo:w2.heap.size<w5.heap.size:=HO5.out.lt
    have hwt:w.heap.size<w5.heap.size:=HTB5.out.lt
    clear hb hths hnt b3 b5 b6 b7 b8 b9 b10 b11 HO HQ HLO HTB HRB HB HK HL
    have o7:=HO5.out.cell 7
    have o8:=HO5.out.cell 8
    have fo:=HO5.out.frozen
    have hmk:=Ztb nt (by omega)
    go_wp2_with fail
    have HOS:=Zh (HO5.out.set_ 7 (.slice At nt ct))
    have HOF:Hid (OfS w (((w5.setCell ⟨w2.heap.size,7,none⟩ (.slice At nt ct)).setCell ⟨w2.heap.size,8,none⟩ (.slice (some ⟨w5.heap.size,0,none⟩) nt nt)).alloc (.cells (Zbg.flat (List.replicate nt ((0:Int),(0:Int)))).toArray 54 (0,0))) w2.heap.size ⟨Zas T,Zjg (Zas T) T.init,Za8 T,tr0 (Za8 T)⟩ ⟨⟨Al,nl,cl⟩,⟨some ⟨w3.heap.size,0,none⟩,nl,nl⟩,⟨none,0,0⟩,⟨none,0,0⟩,⟨none,0,0⟩,⟨none,0,0⟩,⟨none,0,0⟩,⟨At,nt,ct⟩,⟨some ⟨w5.heap.size,0,none⟩,nt,nt⟩⟩ tc):=by
     have hb:=Blk.new ((w5.setCell ⟨w2.heap.size,7,none⟩ (.slice At nt ct)).setCell ⟨w2.heap.size,8,none⟩ (.slice (some ⟨w5.heap.size,0,none⟩) nt nt)) 54 (Zbg.flat (List.replicate nt ((0:Int),(0:Int)))).toArray
     simp only [World.size_setCell] at hb
     have hq:=((HQ5.out.far (p:=⟨w2.heap.size,7,none⟩) (Ne.symm hqo) (.slice At nt ct)).far (p:=⟨w2.heap.size,8,none⟩) (Ne.symm hqo) (.slice (some ⟨w5.heap.size,0,none⟩) nt nt)).alloc (.cells (Zbg.flat (List.replicate nt ((0:Int),(0:Int)))).toArray 54 (0,0))
     rw [HFI.out] at hq
     refine Zh ⟨⟨(HOS.out.set_ 8 (.slice (some ⟨w5.heap.size,0,none⟩) nt nt)).alloc _,by omega,Zau (Zaf (Zaf HLO5.out HO5.out (by decide) _ _) HOS.out (by decide) _ _) (Zad _ _),⟨w3.heap.size,?_,hq,by omega⟩,Enc.Own.nil _ _ _,Enc.Own.nil _ _ _,Enc.Own.nil _ _ _,Enc.Own.nil _ _ _,Enc.Own.nil _ _ _,Zau (Zaf (Zaf HTO.out HO5.out (by decide) _ _) HOS.out (by decide) _ _) (Zad _ _),⟨w5.heap.size,?_,?_,by omega⟩,(fun x hx=>by cases hx),(fun x hx=>by cases hx),(fun x hx=>by cases hx)⟩,
      (((HTB5.out.far (p:=⟨w2.heap.size,7,none⟩) (show w.heap.size≠w2.heap.size by omega) (.slice At nt ct)).far (p:=⟨w2.heap.size,8,none⟩) (show w.heap.size≠w2.heap.size by omega) (.slice (some ⟨w5.heap.size,0,none⟩) nt nt)).alloc (.cells (Zbg.flat (List.replicate nt ((0:Int),(0:Int)))).toArray 54 (0,0))),
      (((HRB5.out.far (p:=⟨w2.heap.size,7,none⟩) (show w.heap.size+1≠w2.heap.size by omega) (.slice At nt ct)).far (p:=⟨w2.heap.size,8,none⟩) (show w.heap.size+1≠w2.heap.size by omega) (.slice (some ⟨w5.heap.size,0,none⟩) nt nt)).alloc (.cells (Zbg.flat (List.replicate nt ((0:Int),(0:Int)))).toArray 54 (0,0))),
      (Zab ((HB5.out.setCell (p:=⟨w2.heap.size,7,none⟩) (show w.heap.size<=w2.heap.size by omega) (.slice At nt ct)).setCell (p:=⟨w2.heap.size,8,none⟩) (show w.heap.size<=w2.heap.size by omega) (.slice (some ⟨w5.heap.size,0,none⟩) nt nt)) (.cells (Zbg.flat (List.replicate nt ((0:Int),(0:Int)))).toArray 54 (0,0))),hz2⟩
     ·show (.slice (some ⟨w3.heap.size,0,none⟩) nl nl:Value)=_
      rw [<- HFI.out,hIl]
     ·show (.slice (some ⟨w5.heap.size,0,none⟩) nt nt:Value)=_
      simp only [tr0,List.length_replicate,HNT.out]
     ·simp only [tr0,HNT.out];exact hb
    generalize ((w5.setCell ⟨w2.heap.size,7,none⟩ (.slice At nt ct)).setCell ⟨w2.heap.size,8,none⟩ (.slice (some ⟨w5.heap.size,0,none⟩) nt nt)).alloc (.cells (Zbg.flat (List.replicate nt ((0:Int),(0:Int)))).toArray 54 (0,0))=w6 at *
    clear HO5 HQ5 HLO5 HTB5 HRB5 HB5 HTO HOS o7 o8 fo hmk hqo hij
    obtain⟨X,hX⟩:∃ X,Zhp (isR T) (Zas T) T.init (Za8 T) 0 T.code (tr0 (Za8 T))=X:=⟨_,rfl⟩
    have HX:=Zh hX
    have HTR:=Zh (Zj3 HE.out hX)
    clear hX
    go_loopw [12] (fun v wr=>∃ (k:Nat) (a' a:Tr) (V:Zfl),k<=T.code.length/\v=.int .i64 k/\Zhp (isR T) (Zas T) T.init (Za8 T) k (T.code.drop k) a=X/\Zpa k a' a/\Zwp nt k a/\OfS w wr w2.heap.size ⟨Zas T,Zjg (Zas T) T.init,Za8 T,a'⟩ V tc) (fun v _=>T.code.length - (intOf v).toNat)
    case atStart=>exact⟨0,tr0 (Za8 T),tr0 (Za8 T),_,Nat.zero_le _,rfl,by rw [List.drop_zero];exact HX.out,Z4g _,by have:=Z1n T;rw [HNT.out] at this;exact this,HOF.out⟩
    case round=>
     obtain⟨k,a',a,V,hk,rfl,hgo,hraw,hok,hof⟩:=hrel
     obtain⟨wk,hwk⟩:∃ z:World,z=wr:=⟨_,rfl⟩
     subst hwk
     clear HOF
     have HGO:=Zh hgo
     have HRW:=Zh hraw
     have HTK:=Zh hok
     have HOF:=Zh hof
     obtain⟨qe,hqe⟩:=hof.out.enS
     simp only [hraw.ends,hok.ends] at hqe
     have HQE:=Zh hqe
     obtain⟨oc,hoc⟩:∃ c,c=Zek V:=⟨_,rfl⟩
     have HOC:=Zh hoc
     have HOZ:=Zh (show oc.size=9 by rw [hoc];rfl)
     have HOB:=Zh (show Blk wk w2.heap.size 41 oc by rw [hoc];exact hof.out.blk)
     have HTB:=Zh hof.tst
     have b4:wk.cell? ⟨w.heap.size,4,none⟩=some (.slice Ac T.code.length cc):=(by have:=hof.tst.cell 4;rw [this,HTC.out];rfl)
     have hwk1:w2.heap.size<wk.heap.size:=hof.out.blk.lt
     clear hgo hraw hok hof hqe hoc
     by_cases hlt:k<T.code.length
     ·obtain⟨c,hc⟩:∃ c,T.code[k]?=some c:=⟨_,List.getElem?_eq_getElem hlt⟩
      have HC:=Zh hc
      have HDC:=Zh (show T.code.drop k=c :: T.code.drop (k+1) from Zbx hc)
      have hii:(0:Int)<=(k:Int):=by omega
      have hij:(k:Int)<(T.code.length:Int):=by omega
      obtain⟨bs,os,_,_,hAc,_⟩:=HT0.out.code k c hc
      subst hAc
      obtain⟨S,hS⟩:∃ S,S=rrS T Ai bs os ci cc A0 l0 q0 k V a':=⟨_,rfl⟩
      have HSD:=Zh hS
      have HRN:Hid (Calls Tryz.prog 39 #[.agg tc,.agg oc,.int .i64 (k:Int)] wk (Zef w.heap.size S (goL ⟨k,isR T,a.evs.length,Zas T⟩ c 0 (rn0 (isR T) T.init k)) wk)):=by
       have:=Z6g HE.out HT0.out hc HRW.out HTK.out HOF.out (ci:=ci) (cc:=cc)
       rw [<- hS,HRW.out.evs] at this
       rw [HTC.out,HOC.out]
       exact Zh this
      clear hc hS
      go_wp2_with (first | ((with_reducible refine Zao ?_);refine Zaw 32 1 w.heap.size rfl rfl HTB.out Tryz.underlying32 rfl (by rw [HTZ.out];kernel_rfl) rfl ?_) | ((with_reducible refine Zao ?_);refine Zaw 41 6 w2.heap.size rfl rfl HOB.out Tryz.underlying41 rfl (by rw [HOZ.out];kernel_rfl) rfl ?_) | (go_at_call 39;refine Hid.out ?_))
      refine Zh ?_
      refine HRN.out.mono ?_
      rintro e w5 ⟨r1,fl,V1,rfl,hr1,hk1,hg1⟩
      dsimp only
      have HZ:=Zh (Blk.new w5 121 #[.int .i64 0,.string ⟨#[]⟩,.string ⟨#[]⟩,.slice none 0 0,.slice none 0 0,.int .i64 0,.int .i64 0,.int .i64 0,.int .i64 0,.string ⟨#[]⟩,.int .i64 0,.slice none 0 0,.int .i64 0,.slice none 0 0,.int .u64 0,.slice none 0 0,.slice none 0 0,.slice none 0 0,.slice none 0 0,.slice none 0 0,.slice none 0 0,.slice none 0 0,.slice none 0 0,.slice none 0 0,.bool false,.bool false])
      repeat (first | ((with_reducible refine Zao ?_);refine Zam 121 13 92 w5.heap.size rfl rfl rfl HZ.out (by rfl) (by kernel_rfl) (Zbf _ _ _ _) rfl rfl ?_;refine Hid.out ?_) | go_step)
      refine Zh ?_
      have HE9:=Zh (HOF.out.ran (fl:=fl) hr1 hk1 (by rw [HSD.out]) (by rw [HSD.out]) (by rw [HSD.out]) #[.int .i64 0,.string ⟨#[]⟩,.string ⟨#[]⟩,.slice none 0 0,.slice none 0 0,.int .i64 0,.int .i64 0,.int .i64 0,.int .i64 0,.string ⟨#[]⟩,.int .i64 0,.slice none 0 0,.int .i64 0,.slice none 0 0,.int .u64 0,.slice none 0 0,.slice none 0 0,.slice none 0 0,.slice none 0 0,.slice none 0 0,.slice none 0 0,.slice none 0 0,.slice none 0 0,.slice none 0 0,.bool false,.bool false])
      have HG1:=Zh hg1
      generalize ((w5.alloc (.cells #[.int .i64 0,.string ⟨#[]⟩,.string ⟨#[]⟩,.slice none 0 0,.slice none 0 0,.int .i64 0,.int .i64 0,.int .i64 0,.int .i64 0,.string ⟨#[]⟩,.int .i64 0,.slice none 0 0,.int .i64 0,.slice none 0 0,.int .u64 0,.slice none 0 0,.slice none 0 0,.slice none 0 0,.slice none 0 0,.slice none 0 0,.slice none 0 0,.slice none 0 0,.slice none 0 0,.slice none 0 0,.bool false,.bool false] 121 (0,0))).setRow w5.heap.size (rrC S r1 fl V1))=W9 at *
      generalize w5.heap.size=G at *
      generalize (rrV S r1 fl V1:Value)=x92
      generalize (Value.agg oc)=x90
      clear hr1 hk1 hg1 HZ HRN HOB HTB b4
      have k25:=HE9.out.blk.cm 25
      have k24:=HE9.out.blk.cm 24
      have HRR:=Zh HE9.out.res
      cases hfl:r1.full with
      | true=>
       rw [hfl] at k25
       have HXE:=Zh (show X=.error (2,k) by
        rcases HG1.out with ⟨_,h⟩ | ⟨_,_,h⟩
        ·exact Zen HGO.out HDC.out (Zn5 rfl h hfl)
        ·rw [hfl] at h;cases h)
       have HTX:=Zh (show Zc8 T=.error (2,k) by rw [HTR.out,HXE.out];rfl)
       clear hfl
       have r0:=HRR.out.cell 0
       have r1:=HRR.out.cell 1
       have r2:=HRR.out.cell 2
       have r3:=HRR.out.cell 3
       have r4:=HRR.out.cell 4
       have r5:=HRR.out.cell 5
       have r6:=HRR.out.cell 6
       have r7:=HRR.out.cell 7
       have r8':=HRR.out.cell 8
       have fr:=HRR.out.frozen
       go_wp2_with fail
       refine bodyPost_ret (v:=.tuple #[.agg #[.slice none 0 0,.slice none 0 0,.slice none 0 0,.slice none 0 0,.slice none 0 0,.slice none 0 0,.slice none 0 0,.slice none 0 0,.slice none 0 0],.int .i64 2,.int .i64 (k:Int)]) (by simp [results,Tryz.results10,go_sem, *]) rfl ?_
       exact OfR.bad HTX.out (Zfo (HE9.out.bel) (Nat.le_succ _) _ _ _ _ _ _ _ _ _)
      | false=>
       rw [hfl] at k25
       have HFL:=Zh hfl
       clear hfl
       obtain⟨Y,hY⟩:∃ Y,Zd2 k a.evs.length r1 0 (Za8 T) a.ends=Y:=⟨_,rfl⟩
       have HY:=Zh hY
       have HP0:=Zh (show ((!fl)=true/\goL ⟨k,isR T,a.evs.length,Zas T⟩ c 0 (rn0 (isR T) T.init k)=some r1/\Zd2 k a.evs.length r1 0 ((Za8 T).drop 0) a'.ends=Y)\/((!fl)=false/\X=.error (150,k)) by
        rcases HG1.out with ⟨h0,h⟩ | ⟨h0,h,_⟩
        ·exact Or.inl ⟨by rw [h0];rfl,h,by rw [List.drop_zero,HRW.out.ends];exact hY⟩
        ·exact Or.inr ⟨by rw [h0];rfl,Zen HGO.out HDC.out (Zo3 rfl h)⟩)
       clear hY HRR HG1
       go_wp2_with fail
       clear k24 k25
       go_loopw [15,14] (fun v u wq=>∃ (i:Nat) (m:List (Int×Int)) (ok:Bool),i<=nt/\v=.int .i64 i/\u=.bool ok/\((ok=true/\goL ⟨k,isR T,a.evs.length,Zas T⟩ c 0 (rn0 (isR T) T.init k)=some r1/\Zd2 k a.evs.length r1 i ((Za8 T).drop i) m=Y)\/(ok=false/\X=.error (150,k)))/\Zsj w wq w2.heap.size G S r1 fl V1 (Zjg (Zas T) T.init) (Za8 T) m tc) (fun v _ _=>nt - (intOf v).toNat)
       case atStart=>exact⟨0,_,!fl,Nat.zero_le _,rfl,rfl,HP0.out,HE9.out⟩
       case round=>
        obtain⟨i,m,ok,hi,rfl,rfl,hpp,hes⟩:=hrel
        have HPP:=Zh hpp
        have HES:=Zh hes
        obtain⟨zo,hzo,hzo9,hzo7⟩:=hes.out
        obtain⟨At1,ct1,hth0,hth⟩:=Zes hes.th
        have o7:wr.cell? ⟨w2.heap.size,7,none⟩=some (.slice At1 nt ct1):=by rw [hzo.cell,hzo7,hth0,HNT.out]
        have HZO:=Zh hzo
        have HZN:=Zh hzo9
        have HRR:=Zh hes.res
        have HEQ:Hid (S.en=⟨some ⟨qe,0,none⟩,nt,nt⟩):=Zh (by rw [HSD.out];exact HQE.out)
        have hgw:G<wr.heap.size:=hes.blk.lt
        have how:w2.heap.size<wr.heap.size:=hzo.lt
        clear hpp hes HE9 HP0 hzo hzo9 hzo7 hth0
        by_cases hgo:i<nt/\ok=true
        ·obtain⟨hlt2,hok1⟩:=hgo
         subst hok1
         have HEN:=Zh (show goL ⟨k,isR T,a.evs.length,Zas T⟩ c 0 (rn0 (isR T) T.init k)=some r1/\Zd2 k a.evs.length r1 i ((Za8 T).drop i) m=Y by
          rcases HPP.out with ⟨_,h⟩ | ⟨h,_⟩
          ·exact h
          ·cases h)
         obtain⟨x,hx⟩:∃ x,(Za8 T)[i]?=some x:=⟨_,List.getElem?_eq_getElem (by rw [HNT.out];exact hlt2)⟩
         obtain⟨tb,to,hA,c0,c1,c2⟩:=hth i x hx
         subst hA
         obtain⟨xt,xr,xl⟩:=x
         simp only at c0 c1 c2
         have HXM:=Zh (List.mem_of_getElem? hx)
         have HDX:=Zh (show (Za8 T).drop i=(xt,xr,xl) :: (Za8 T).drop (i+1) from Zbx hx)
         clear hx hth HPP
         have hii2:(0:Int)<=(i:Int):=by omega
         have hij2:(i:Int)<(nt:Int):=by omega
         by_cases hxt:xt=(k:Int)
         ·have hI8:=Zmz (fun j x hx=>Zit HE.out rfl HC.out hx) c.length 0 _ _ (Nat.sub_le _ _) (Nat.zero_le _) (Z26 HE.out rfl HTK.out.evs k) HEN.out.1
          obtain⟨_,hx1,hx2⟩:=Zt9 HE.out HXM.out (show xt≠-1 by omega)
          simp only at hx1 hx2
          obtain⟨d,rfl⟩:=Int.eq_ofNat_of_zero_le hx1
          have hdl:d<r1.regs.length:=by have:=hI8.rlen;omega
          obtain⟨y,hy⟩:∃ y,r1.regs[d]?=some y:=⟨_,List.getElem?_eq_getElem hdl⟩
          subst hxt
          obtain⟨q1,cp,hvr,hrat⟩:=HES.out.ref.rgAt (by omega)
          have HST:=Zh (show Zwq k a.evs.length r1 m i ((k:Int),(d:Int),xl)=(Zr7 a.evs.length y.h).map fun e=>m.set i e by unfold Zwq;rw [if_pos rfl];simp only [Zh3 hy])
          have HEI:=Zh (show (Zwq k a.evs.length r1 m i ((k:Int),(d:Int),xl)).bind (fun m'=>Zd2 k a.evs.length r1 (i+1) ((Za8 T).drop (i+1)) m')=Y by
           have:=HEN.out.2
           rw [HDX.out] at this
           exact this)
          obtain⟨p1,p2,okb,hev,hpo⟩:=Z0m (Zr7 a.evs.length y.h)
          have HP2:=Zh (show (okb=true/\goL ⟨k,isR T,a.evs.length,Zas T⟩ c 0 (rn0 (isR T) T.init k)=some r1/\Zd2 k a.evs.length r1 (i+1) ((Za8 T).drop (i+1)) (m.set i (p1,p2))=Y)\/(okb=false/\X=.error (150,k)) by
           have h:=HEI.out
           rw [HST.out] at h
           rcases hpo with ⟨h0,h1⟩ | ⟨h0,h1⟩
           ·rw [h1] at h
            exact Or.inl ⟨h0,HEN.out.1,h⟩
           ·rw [h1] at h
            exact Or.inr ⟨h0,Zen HGO.out HDC.out (Zhz rfl HEN.out.1 HFL.out (HY.out.trans h.symm))⟩)
          have HEP:Hid (∀ z,Calls Tryz.prog 40 #[Za3 S.C.ahead y] z fun e w'=>e=.returned (.tuple #[.agg #[.int .i64 p1,.int .i64 p2],.bool okb])/\Below z.heap.size z w'):=Zh (fun z=>by
           have:=Z5j S.C.ahead y z
           rw [show S.C.ahead=a.evs.length by rw [HSD.out,<- HRW.out.evs],hev] at this
           rw [show S.C.ahead=a.evs.length by rw [HSD.out,<- HRW.out.evs]]
           exact this)
          have k13:wr.cell? ⟨G,13,none⟩=some (.slice (some ⟨q1,0,none⟩) r1.regs.length cp):=by rw [<- hvr];exact HES.out.blk.cell 13
          have HSS:=Zh (show ∀ z,Below wr.heap.size wr z->(fun z:World=>(Zdi S.C.ahead).At z (some ⟨q1,0,none⟩) r1.regs/\z.cell? ⟨G,13,none⟩=some (.slice (some ⟨q1,0,none⟩) r1.regs.length cp)/\z.cell? ⟨w2.heap.size,7,none⟩=some (.slice (some ⟨tb,to,none⟩) nt ct1)/\z.cell? ⟨tb,to+i*3+1,none⟩=some (.int .i64 (d:Int))) z from fun z hb=>⟨hrat.below hb,Zac k13 hb,Zac o7 hb,Zac c1 hb⟩)
          have hd1:(0:Int)<=(d:Int):=by omega
          have hd2:(d:Int)<(r1.regs.length:Int):=by omega
          have htk:((k:Int) == (k:Int))=true:=by simp
          have HYY:=Zh hy
          clear hI8 hx1 hx2 hdl hrat hvr hpo hev HRR k13
          go_wp2_with fail
          rename_i K hK
          have HK:=Zh hK
          clear hK
          apply Zv0 (K:=K) (F:=fun la _ W3=>Zsj w W3 w2.heap.size G S r1 fl V1 (Zjg (Zas T) T.init) (Za8 T) m tc/\Blk W3 la 54 #[.int .i64 p1,.int .i64 p2])
          ·intro HM
           have HM:=Zh HM
           refine wz (fun z:World=>(Zdi S.C.ahead).At z (some ⟨q1,0,none⟩) r1.regs/\z.cell? ⟨G,13,none⟩=some (.slice (some ⟨q1,0,none⟩) r1.regs.length cp)/\z.cell? ⟨w2.heap.size,7,none⟩=some (.slice (some ⟨tb,to,none⟩) nt ct1)/\z.cell? ⟨tb,to+i*3+1,none⟩=some (.int .i64 (d:Int))) [1,3,5,6,7,9,14] (HSS.out _ (Below.refl _ _).drew) (fun hHeld=>?_)
           refine wq 0 ?_
           refine wq 2 ?_
           refine wq 4 ?_
           refine wt 1 (by assumption) ?_
           refine wt 3 (by assumption) ?_
           refine wt 5 (by assumption) ?_
           refine wt 6 (by assumption) ?_
           refine wt 7 (by assumption) ?_
           refine wq 8 ?_
           refine wv 9 ((Za3 S.C.ahead y)) rfl (fun x' hS=>Za0 rfl rfl (Zdq hS.1 HYY.out)) (by assumption) ?_
           clear hHeld
           refine Zd1 (i:=10) (j:=14) (by kernel_rfl) rfl rfl (fun K hK=>?_) (fun K hK=>?_)
           ·go_simp
            go_at_call 40
            refine (HEP.out _).mono ?_
            rintro e w10 ⟨rfl,hb10⟩
            have HB10:=Zh (Zar hb10)
            refine hK.out _ _ (HSS.out _ HB10.out) ?_
            clear hK K hb10
            refine pu ?_
            refine wq 11 ?_
            refine wq 12 ?_
            refine wq 13 ?_
            refine Zav (i:=14) (by kernel_rfl) rfl (fun K hK=>?_)
            go_simp
            refine hK.out _ _ (HSS.out _ (Zab HB10.out _)) ?_
            clear hK K
            refine pu ?_
            refine wl 15 ?_
            refine Zam 54 16 130 w10.heap.size rfl rfl rfl (Blk.new w10 54 #[.int .i64 0,.int .i64 0]) (by rfl) (by kernel_rfl) (by kernel_rfl) rfl rfl ?_
            have hF:Zsj w ((w10.alloc (.cells #[.int .i64 0,.int .i64 0] 54 (0,0))).setRow w10.heap.size #[.int .i64 p1,.int .i64 p2]) w2.heap.size G S r1 fl V1 (Zjg (Zas T) T.init) (Za8 T) m tc/\Blk ((w10.alloc (.cells #[.int .i64 0,.int .i64 0] 54 (0,0))).setRow w10.heap.size #[.int .i64 p1,.int .i64 p2]) w10.heap.size 54 #[.int .i64 p1,.int .i64 p2]:=
             ⟨HES.out.below (below_setRow (Zab HB10.out _) HB10.out.size _),(Blk.new w10 54 #[.int .i64 0,.int .i64 0]).row _⟩
            generalize ((w10.alloc (.cells #[.int .i64 0,.int .i64 0] 54 (0,0))).setRow w10.heap.size #[.int .i64 p1,.int .i64 p2])=W3 at hF ⊢
            generalize w10.heap.size=l1 at hF ⊢
            exact m_102
           ·go_simp
            refine hK.out _ _ (HSS.out _ (Zab (Below.refl _ _).drew _)) ?_
            clear hK K
            refine pu ?_
            have HZ:=Zh (Blk.new wr.drew 54 #[.int .i64 0,.int .i64 0])
            have HBZ:=Zh (Zab (Below.refl wr.heap.size wr).drew (.cells #[.int .i64 0,.int .i64 0] 54 (0,0)))
            refine Zav (i:=10) (by kernel_rfl) rfl (fun K hK=>?_)
            go_simp
            go_at_call 40
            refine (HEP.out _).mono ?_
            rintro e w10 ⟨rfl,hb10⟩
            have HB10:=Zh (Zaa HBZ.out hb10)
            have HZ10:=Zh (HZ.out.go hb10)
            refine hK.out _ _ (HSS.out _ HB10.out) ?_
            clear hK K hb10 HZ
            refine pu ?_
            refine wq 11 ?_
            refine wq 12 ?_
            refine wq 13 ?_
            refine wl 15 ?_
            refine Zam 54 16 130 wr.heap.size rfl rfl rfl HZ10.out (by rfl) (by kernel_rfl) (by kernel_rfl) rfl rfl ?_
            have hF:Zsj w (w10.setRow wr.heap.size #[.int .i64 p1,.int .i64 p2]) w2.heap.size G S r1 fl V1 (Zjg (Zas T) T.init) (Za8 T) m tc/\Blk (w10.setRow wr.heap.size #[.int .i64 p1,.int .i64 p2]) wr.heap.size 54 #[.int .i64 p1,.int .i64 p2]:=
             ⟨HES.out.below (below_setRow HB10.out (Nat.le_refl _) _),HZ10.out.row _⟩
            clear HZ10 HB10 HBZ
            generalize (w10.setRow wr.heap.size #[.int .i64 p1,.int .i64 p2])=W3 at hF ⊢
            generalize wr.heap.size=l1 at hF ⊢
            exact m_102
          ·intro la lb W3 ⟨hE3,hL3⟩
           refine HK.out _ _ ?_
           clear HK K HSS HEP
           have HE3:=Zh hE3
           have HL3:=Zh hL3
           have k23:W3.cell? ⟨G,23,none⟩=some (.slice (some ⟨qe,0,none⟩) nt nt):=by have:=hE3.blk.cell 23;rw [this];show some S.en.v=_;rw [HEQ.out]
           obtain⟨hEB,hqB,hml⟩:=hE3.en_blk HEQ.out
           obtain⟨e9,he9⟩:∃ e9,m[i]?=some e9:=⟨_,List.getElem?_eq_getElem (by omega)⟩
           have hcc:=Zg7 hEB he9
           have d0:=hcc.1
           have d1:=hcc.2
           have fz0:=hEB.frozen (i*2)
           have fz1:=hEB.frozen (i*2+1)
           have l0:=hL3.cell 0
           have l1:=hL3.cell 1
           have HE4:=Zh (hE3.put p1 p2 hlt2 HEQ.out)
           clear hE3 hL3 hEB hcc he9 o7 c0 c1 c2
           go_wp2_with fail
           go_roundw
           case rel=>exact⟨i+1,m.set i (p1,p2),okb,by omega,by go_num,rfl,HP2.out,HE4.out⟩
           case measure=>simp [intOf];omega
         ·have hxf:(xt == (k:Int))=false:=by simpa using hxt
          have HNE:=Zh (show Zd2 k a.evs.length r1 (i+1) ((Za8 T).drop (i+1)) m=Y by
           have:=HEN.out.2
           rw [HDX.out] at this
           unfold Zd2 Zwq at this
           rw [if_neg hxt] at this
           exact this)
          clear hxt
          go_wp2_with fail
          go_roundw
          case rel=>exact⟨i+1,m,true,by omega,by go_num,rfl,Or.inl ⟨rfl,HEN.out.1,HNE.out⟩,HES.out⟩
          case measure=>simp [intOf];omega
        ·cases ok with
         | true=>
          have hie:i=nt:=by
           refine Decidable.byContradiction fun h=>hgo ⟨by omega,rfl⟩
          have hij2:¬ (i:Int)<(nt:Int):=by omega
          have HYM:=Zh (show goL ⟨k,isR T,a.evs.length,Zas T⟩ c 0 (rn0 (isR T) T.init k)=some r1/\Y=some m by
           rcases HPP.out with ⟨_,h1,h2⟩ | ⟨h,_⟩
           ·refine⟨h1,?_⟩
            rw [List.drop_eq_nil_of_le (by rw [HNT.out];omega)] at h2
            rw [<- h2];rfl
           ·cases h)
          have HXO:=Zh (Ztw rfl HYM.out.1 HFL.out (HY.out.trans HYM.out.2))
          have HGN:=Zh (Zv5 HGO.out HDC.out HXO.out)
          have hcl2:=((Zco HSM.out.2.2.2.1).2.2 k c HC.out).1
          have hml:m.length=nt:=(HES.out.en_blk HEQ.out).2.2
          have HI8:=Zh (Zmz (fun j x hx=>Zit HE.out rfl HC.out hx) c.length 0 _ _ (Nat.sub_le _ _) (Nat.zero_le _) (Z26 HE.out rfl HTK.out.evs k) HYM.out.1)
          have HTJ:=Zh (HTK.out.join (C:=⟨k,isR T,a.evs.length,Zas T⟩) rfl HI8.out hcl2 hml)
          have HRJ:=Zh (HRW.out.join (C:=⟨k,isR T,a.evs.length,Zas T⟩) rfl HI8.out (es:=m))
          have HFN:=Zh (HES.out.fin (by rw [HSD.out]))
          rw [show S.C.locs=Zas T by rw [HSD.out],show S.a=a' by rw [HSD.out]] at HFN
          have hlo:=Zjr HES.out.blk
          clear hcl2 hth hgo HPP
          go_wp2_with ((with_reducible refine Zao ?_);refine Zia (.fieldAddr 121 (.tmp 13) 4) rfl ?_)
          refine Zh ?_
          repeat (first | ((with_reducible refine Zao ?_);refine Zy4 41 143 (A:=⟨G,15,none⟩) rfl rfl rfl hlo ?_;refine Hid.out ?_) | go_step)
          refine Zh ?_
          go_simp
          refine Zam 41 6 144 w2.heap.size rfl rfl rfl HZO.out (by exact HZN.out) (by kernel_rfl) (Zhu ⟨S.lo,S.ini,V1.ev,V1.br,V1.ad,V1.da,V1.ct,S.th,S.en⟩) rfl rfl ?_
          repeat go_step
          go_roundw
          case rel=>exact⟨k+1,Z2v a' r1 m,Zh5 a r1 m,_,by omega,by go_num,HGN.out,HRJ.out,HTJ.out,HFN.out⟩
          case measure=>simp [intOf];omega
         | false=>
          have HTX:=Zh (show Zc8 T=.error (150,k) by
           rcases HPP.out with ⟨h,_⟩ | ⟨_,h⟩
           ·cases h
           ·rw [HTR.out,h];rfl)
          clear hth hgo HPP
          by_cases hlt2:i<nt
          ·have hij2:(i:Int)<(nt:Int):=by omega
           exact m_21
          ·have hij2:¬ (i:Int)<(nt:Int):=by omega
           exact m_21
     ·have hke:k=T.code.length:=by omega
      have hij:¬ (k:Int)<(T.code.length:Int):=by omega
      have HXA:=Zh (show X=.ok a by have:=HGO.out;rw [hke,List.drop_length] at this;rw [<- this];rfl)
      obtain⟨Z,hZ⟩:∃ Z,Znv (Zas T) 0 (Za8 T) a.ends=Z:=⟨_,rfl⟩
      have HZ:=Zh hZ
      clear hZ HOB HTB HOC HGO
      go_wp2_with fail
      clear b4
      go_loopw [18] (fun v wq=>∃ (i:Nat) (m:List (Int×Int)),i<=nt/\v=.int .i64 i/\Znv (Zas T) i ((Za8 T).drop i) m=Z/\m.length=nt/\OfS w wq w2.heap.size ⟨Zas T,Zjg (Zas T) T.init,Za8 T,{ a' with ends:=m }⟩ V tc) (fun v _=>nt - (intOf v).toNat)
      case atStart=>exact⟨0,a'.ends,Nat.zero_le _,rfl,by rw [List.drop_zero,HRW.out.ends];exact HZ.out,by rw [HRW.out.ends];exact HTK.out.ends,HOF.out⟩
      case round=>
       obtain⟨i,m,hi,rfl,hfin,hml,hoq⟩:=hrel
       have HFN:=Zh hfin
       have HOQ:=Zh hoq
       obtain⟨At1,ct1,hth0,hth⟩:=Zes hoq.out.th
       have o7:wr.cell? ⟨w2.heap.size,7,none⟩=some (.slice At1 nt ct1):=by rw [hoq.out.blk.cell 7,<- HNT.out,<- hth0];rfl
       have how:w2.heap.size<wr.heap.size:=hoq.out.blk.lt
       clear hfin hoq HOF hth0
       by_cases hlt2:i<nt
       ·obtain⟨x,hx⟩:∃ x,(Za8 T)[i]?=some x:=⟨_,List.getElem?_eq_getElem (by rw [HNT.out];exact hlt2)⟩
        obtain⟨tb,to,hA,c0,c1,c2⟩:=hth i x hx
        subst hA
        obtain⟨xt,xr,xl⟩:=x
        simp only at c0 c1 c2
        have HXM:=Zh (List.mem_of_getElem? hx)
        have HFX:=Zh (show Znv (Zas T) (i+1) ((Za8 T).drop (i+1)) (Zz2 (Zas T) m i (xt,xr,xl))=Z by
         have:=HFN.out
         rw [Zbx hx] at this
         exact this)
        clear hx hth
        have hii2:(0:Int)<=(i:Int):=by omega
        have hij2:(i:Int)<(nt:Int):=by omega
        by_cases hxt:xt=-1
        ·have HLC:=Zh (Zwh HE.out HXM.out hxt)
         subst hxt
         obtain⟨j,hj⟩:∃ j,(Zas T).idxOf xl=j:=⟨_,rfl⟩
         have HFY:=Zh (show Znv (Zas T) (i+1) ((Za8 T).drop (i+1)) (m.set i (3,(j:Int)))=Z by
          have:=HFX.out
          unfold Zz2 at this
          rw [if_pos rfl,hj] at this
          exact this)
         have HPL:Hid (∀ y:World,Zcx.At y V.lo.A (Zas T)->Calls Tryz.prog 37 #[.agg #[V.lo.v,V.ini.v,V.ev.v,V.br.v,V.ad.v,V.da.v,V.ct.v,V.th.v,V.en.v],.string ⟨xl.toArray⟩] y fun e y'=>e=.returned (.int .i64 (j:Int))/\Below y.heap.size y y'):=Zh (fun y hy=>by rw [<- hj];exact Zl0 V (Zas T) xl y hy (Zpw HOQ.out.out.lo) HSM.out.2.1 HLC.out)
         have HAT:Hid (Zcx.At wr V.lo.A (Zas T)):=by
          obtain⟨A',cap',e,hat,_⟩:=Enc.Own.at_ (E:=Zcx) HOQ.out.out.lo
          simp only [Value.slice.injEq] at e
          rw [<- e.1] at hat
          exact Zh hat
         have o8:wr.cell? ⟨w2.heap.size,8,none⟩=some (.slice (some ⟨qe,0,none⟩) nt nt):=by have:=HOQ.out.out.blk.cell 8;rw [this];show some V.en.v=_;rw [HQE.out]
         have HS:=Zh (show (fun z:World=>Blk z w2.heap.size 41 #[V.lo.v,V.ini.v,V.ev.v,V.br.v,V.ad.v,V.da.v,V.ct.v,V.th.v,V.en.v]/\z.cell? ⟨w2.heap.size,8,none⟩=some (.slice (some ⟨qe,0,none⟩) nt nt)/\z.cell? ⟨w2.heap.size,7,none⟩=some (.slice (some ⟨tb,to,none⟩) nt ct1)/\z.cell? ⟨tb,to+i*3+2,none⟩=some (.string ⟨xl.toArray⟩)) wr.drew from⟨HOQ.out.out.blk,o8,o7,c2⟩)
         clear hj o8
         go_wp2_with fail
         refine wz (fun z:World=>Blk z w2.heap.size 41 #[V.lo.v,V.ini.v,V.ev.v,V.br.v,V.ad.v,V.da.v,V.ct.v,V.th.v,V.en.v]/\z.cell? ⟨w2.heap.size,8,none⟩=some (.slice (some ⟨qe,0,none⟩) nt nt)/\z.cell? ⟨w2.heap.size,7,none⟩=some (.slice (some ⟨tb,to,none⟩) nt ct1)/\z.cell? ⟨tb,to+i*3+2,none⟩=some (.string ⟨xl.toArray⟩)) [1,3,5,7,8,9,10,11] HS.out (fun hHeld=>?_)
         refine wq 0 ?_
         refine wq 2 ?_
         refine wq 4 ?_
         refine wq 6 ?_
         refine wt 1 (by assumption) ?_
         refine wv 3 ((.agg #[V.lo.v,V.ini.v,V.ev.v,V.br.v,V.ad.v,V.da.v,V.ct.v,V.th.v,V.en.v])) rfl (fun x' hS=>Za0 rfl rfl (Zuc hS.1)) (by assumption) ?_
         refine wt 5 (by assumption) ?_
         refine wt 7 (by assumption) ?_
         refine wt 8 (by assumption) ?_
         refine wt 9 (by assumption) ?_
         refine Zav (i:=10) (by kernel_rfl) rfl (fun K hK=>?_)
         go_simp
         go_at_call 37
         refine (HPL.out _ (show Zcx.At wr.drew V.lo.A (Zas T) from HAT.out)).mono ?_
         rintro e w6 ⟨rfl,hb6⟩
         have HB6:=Zh (Zar hb6)
         have hHeld6:=show (fun z:World=>Blk z w2.heap.size 41 #[V.lo.v,V.ini.v,V.ev.v,V.br.v,V.ad.v,V.da.v,V.ct.v,V.th.v,V.en.v]/\z.cell? ⟨w2.heap.size,8,none⟩=some (.slice (some ⟨qe,0,none⟩) nt nt)/\z.cell? ⟨w2.heap.size,7,none⟩=some (.slice (some ⟨tb,to,none⟩) nt ct1)/\z.cell? ⟨tb,to+i*3+2,none⟩=some (.string ⟨xl.toArray⟩)) w6 from⟨hHeld.1.go hb6,Zac hHeld.2.1 hb6,Zac hHeld.2.2.1 hb6,Zac hHeld.2.2.2 hb6⟩
         refine hK.out _ _ hHeld6 ?_
         clear hK K hHeld hb6 HS HAT HPL
         refine pu ?_
         refine Zav (i:=11) (by kernel_rfl) rfl (fun K hK=>?_)
         go_simp
         refine hK.out _ _ hHeld6 ?_
         clear hK K
         refine pu ?_
         refine wl 12 ?_
         have HO6:=Zh (HOQ.out.below HB6.out)
         obtain⟨hEB,hqB⟩:=HO6.out.out.en_blk (show (Z3b V).en=.slice (some ⟨qe,0,none⟩) nt nt by show V.en.v=_;rw [HQE.out])
         obtain⟨e9,he9⟩:∃ e9,m[i]?=some e9:=⟨_,List.getElem?_eq_getElem (by omega)⟩
         have hcc:=Zg7 hEB he9
         have d0:=hcc.1
         have d1:=hcc.2
         have fz0:=hEB.frozen (i*2)
         have fz1:=hEB.frozen (i*2+1)
         have HO7:=Zh (HO6.out.en_ (3,(j:Int)) hml hlt2 HQE.out)
         clear hEB hcc he9 hHeld6 o7 c0 c1 c2
         go_wp2_with fail
         go_roundw
         case rel=>exact⟨i+1,m.set i (3,(j:Int)),by omega,by go_num,HFY.out,by simp [hml],HO7.out⟩
         case measure=>simp [intOf];omega
        ·have hxf:(xt == -1)=false:=by simpa using hxt
         have HFY:=Zh (show Znv (Zas T) (i+1) ((Za8 T).drop (i+1)) m=Z by
          have:=HFX.out
          unfold Zz2 at this
          rw [if_neg hxt] at this
          exact this)
         clear hxt
         go_wp2_with fail
         go_roundw
         case rel=>exact⟨i+1,m,by omega,by go_num,HFY.out,hml,HOQ.out⟩
         case measure=>simp [intOf];omega
       ·have hie:i=nt:=by omega
        have hij2:¬ (i:Int)<(nt:Int):=by omega
        have HMZ:=Zh (show m=Z by
         have:=HFN.out
         rw [List.drop_eq_nil_of_le (by rw [HNT.out];omega)] at this
         exact this)
        have hk16:k<=16:=by have:=(Zco HSM.out.2.2.2.1).1;omega
        have n1:a'.addr.length<=1000000:=by have:=HRW.out.n1;omega
        have n2:a'.data.length<=1000000:=by have:=HRW.out.n2;omega
        have n3:a'.hang.length<=1000000:=by have:=HRW.out.n3;omega
        have k4:wr.cell? ⟨w2.heap.size,4,none⟩=some (.slice V.ad.A V.ad.n V.ad.c):=HOQ.out.out.blk.cell 4
        clear hth
        go_wp2_with (go_at_call 41;refine Hid.out ?_)
        refine Zh ?_
        refine (Zqc V.ad a'.addr _ _ HOQ.out.out.ad n1).mono ?_
        rintro e w6 ⟨s6,rfl,ho6,hb6⟩
        dsimp only
        have HO6:=Zh (HOQ.out.pr_ ho6 hb6).1
        have HB6:=Zh (HOQ.out.below hb6)
        have j4:w6.cell? ⟨w2.heap.size,4,none⟩=some (.slice V.ad.A V.ad.n V.ad.c):=HB6.out.out.blk.cell 4
        have j5:w6.cell? ⟨w2.heap.size,5,none⟩=some (.slice V.da.A V.da.n V.da.c):=HB6.out.out.blk.cell 5
        have f4:=HB6.out.out.blk.frozen 4
        clear ho6 hb6 k4 o7
        go_wp2_with (go_at_call 41;refine Hid.out ?_)
        refine Zh ?_
        generalize w6.setCell ⟨w2.heap.size,4,none⟩ (.slice s6.A s6.n s6.c)=w7 at *
        refine (Zqc V.da a'.data _ _ HO6.out.out.da n2).mono ?_
        rintro e w8 ⟨s8,rfl,ho8,hb8⟩
        dsimp only
        have HO8:=Zh (HO6.out.pr_ ho8 hb8).2.1
        have HB8:=Zh (HO6.out.below hb8)
        clear j4 j5 f4
        have j5:w8.cell? ⟨w2.heap.size,5,none⟩=some (.slice V.da.A V.da.n V.da.c):=HB8.out.out.blk.cell 5
        have j6:w8.cell? ⟨w2.heap.size,6,none⟩=some (.slice V.ct.A V.ct.n V.ct.c):=HB8.out.out.blk.cell 6
        have f5:=HB8.out.out.blk.frozen 5
        clear ho8 hb8
        go_wp2_with (go_at_call 41;refine Hid.out ?_)
        refine Zh ?_
        generalize w8.setCell ⟨w2.heap.size,5,none⟩ (.slice s8.A s8.n s8.c)=w9 at *
        refine (Zqc V.ct a'.hang _ _ HO8.out.out.ct n3).mono ?_
        rintro e w10 ⟨s10,rfl,ho10,hb10⟩
        dsimp only
        have HOA:=Zh (HO8.out.pr_ ho10 hb10).2.2
        have HBA:=Zh (HO8.out.below hb10)
        clear j5 j6 f5
        have j6:w10.cell? ⟨w2.heap.size,6,none⟩=some (.slice V.ct.A V.ct.n V.ct.c):=HBA.out.out.blk.cell 6
        have f6:=HBA.out.out.blk.frozen 6
        have HFR:=HBA.out.out.blk.frozen
        have fr:=HBA.out.res.frozen
        have p0:w10.cell? ⟨w2.heap.size,0,none⟩=some (.slice V.lo.A V.lo.n V.lo.c):=HBA.out.out.blk.cell 0
        have p1:w10.cell? ⟨w2.heap.size,1,none⟩=some (.slice V.ini.A V.ini.n V.ini.c):=HBA.out.out.blk.cell 1
        have p2:w10.cell? ⟨w2.heap.size,2,none⟩=some (.slice V.ev.A V.ev.n V.ev.c):=HBA.out.out.blk.cell 2
        have p3:w10.cell? ⟨w2.heap.size,3,none⟩=some (.slice V.br.A V.br.n V.br.c):=HBA.out.out.blk.cell 3
        have p4:w10.cell? ⟨w2.heap.size,4,none⟩=some (.slice s6.A s6.n s6.c):=HBA.out.out.blk.cell 4
        have p5:w10.cell? ⟨w2.heap.size,5,none⟩=some (.slice s8.A s8.n s8.c):=HBA.out.out.blk.cell 5
        have p7:w10.cell? ⟨w2.heap.size,7,none⟩=some (.slice V.th.A V.th.n V.th.c):=HBA.out.out.blk.cell 7
        have p8:w10.cell? ⟨w2.heap.size,8,none⟩=some (.slice V.en.A V.en.n V.en.c):=HBA.out.out.blk.cell 8
        have r0:=HBA.out.res.cell 0
        have r1:=HBA.out.res.cell 1
        have r2:=HBA.out.res.cell 2
        have r3:=HBA.out.res.cell 3
        have r4:=HBA.out.res.cell 4
        have r5:=HBA.out.res.cell 5
        have r6:=HBA.out.res.cell 6
        have r7:=HBA.out.res.cell 7
        have r8':=HBA.out.res.cell 8
        have hno:¬ w2.heap.size=w.heap.size+1:=by omega
        have hno2:¬ w.heap.size+1=w2.heap.size:=by omega
        clear ho10 hb10 HFR
        go_wp2_with fail
        refine bodyPost_ret (v:=.tuple #[.agg #[.slice V.lo.A V.lo.n V.lo.c,.slice V.ini.A V.ini.n V.ini.c,.slice V.ev.A V.ev.n V.ev.c,.slice V.br.A V.br.n V.br.c,.slice s6.A s6.n s6.c,.slice s8.A s8.n s8.c,.slice s10.A s10.n s10.c,.slice V.th.A V.th.n V.th.c,.slice V.en.A V.en.n V.en.c],.int .i64 0,.int .i64 0]) (by simp [results,Tryz.results10,go_sem, *]) rfl ?_
        obtain⟨V',e,ht⟩:=HOA.out.ret (.slice V.lo.A V.lo.n V.lo.c) (.slice V.ini.A V.ini.n V.ini.c) (.slice V.ev.A V.ev.n V.ev.c) (.slice V.br.A V.br.n V.br.c) (.slice s6.A s6.n s6.c) (.slice s8.A s8.n s8.c) (.slice s10.A s10.n s10.c) (.slice V.th.A V.th.n V.th.c) (.slice V.en.A V.en.n V.en.c)
        rw [show (⟨a'.evs,a'.bars,Zf2 a'.addr,Zf2 a'.data,Zf2 a'.hang,m⟩:Tr)={ a with ends:=Z } by rw [HRW.out.fin m,HMZ.out]] at ht
        exact OfR.ok (by rw [HTR.out,HXA.out];show Except.ok _=_;rw [HZ.out]) e ht (Zfo (HOA.out.bel) (Nat.le_succ _) _ _ _ _ _ _ _ _ _)
 ·have HE:=Zh hE
  have f1:(Za5 T != 0)=true:=by simpa using hE
  have HTR:=Zh (show Zc8 T=.error (Za5 T,0) by unfold Zc8;rw [if_pos hE])
  clear hE
  have r0:=HRB2.out.cell 0
  have r1:=HRB2.out.cell 1
  have r2:=HRB2.out.cell 2
  have r3:=HRB2.out.cell 3
  have r4:=HRB2.out.cell 4
  have r5:=HRB2.out.cell 5
  have r6:=HRB2.out.cell 6
  have r7:=HRB2.out.cell 7
  have r8':=HRB2.out.cell 8
  have fr:=HRB2.out.frozen
  go_wp2_with fail
  refine bodyPost_ret (v:=.tuple #[.agg #[.slice none 0 0,.slice none 0 0,.slice none 0 0,.slice none 0 0,.slice none 0 0,.slice none 0 0,.slice none 0 0,.slice none 0 0,.slice none 0 0],.int .i64 (Za5 T),.int .i64 ((0:Nat):Int)]) (by simp [results,Tryz.results10,go_sem, *]) rfl ?_
  exact OfR.bad HTR.out (Zfo (HB2.out) (Nat.le_succ _) _ _ _ _ _ _ _ _ _)
end
end
section
set_option maxHeartbeats 4000000
set_option maxRecDepth 100000
theorem Z2r (L:Zgv)(V:Zfl)(w:World)(h:Zc0 w L V)(G:Ziw L)(hp0:L.a.addr=[])(hp1:L.a.data=[])(hp2:L.a.hang=[])(hth:L.th.length<=1):Calls Tryz.prog 24 #[Zgj V] w (Zmq L w):=by
 have HB1:=Zh (Zap w (.cells (Zek V) 41 (0,0)) (.cells #[.int .i64 0,.slice none 0 0] 58 (0,0)))
 have HK1:=Zh (Blk.alloc (Blk.new w 41 (Zek V)) (.cells #[.int .i64 0,.slice none 0 0] 58 (0,0)))
 have HR1:Hid (Blk _ (w.heap.size+1) 58 #[.int .i64 0,.slice none 0 0]):=Zh (Zcw w (.cells (Zek V) 41 (0,0)) 58 #[.int .i64 0,.slice none 0 0])
 have HBT:=Zh (Zw0 L V w.heap.size _ (h.below HB1.out) G hp0 hp1 hp2 hth (HK1.out.cell 3))
 obtain⟨n,hn⟩:∃ n,L.a.evs.length=n:=⟨_,rfl⟩
 unfold Zmq at HBT ⊢
 rw [hn] at HBT ⊢
 clear hn h G
 obtain⟨⟨Al,nl,cl⟩,⟨Ai,ni,ci⟩,⟨Ae,ne,ce⟩,⟨Ab,nb,cb⟩,⟨Aa,na,ca⟩,⟨Ad,nd,cd⟩,⟨Ac,nc,cc⟩,⟨At,nt,ct⟩,⟨Ax,nx,cx⟩⟩:=V
 simp only [Zgj,Zek,Sl.v] at HBT HB1 HK1 HR1 ⊢
 have hz:((w.alloc (.cells #[.slice Al nl cl,.slice Ai ni ci,.slice Ae ne ce,.slice Ab nb cb,.slice Aa na ca,.slice Ad nd cd,.slice Ac nc cc,.slice At nt ct,.slice Ax nx cx] 41 (0,0))).alloc (.cells #[.int .i64 0,.slice none 0 0] 58 (0,0))).heap.size=w.heap.size+1+1:=by simp
 go_enter Tryz.func24,Tryz.ntmps24
 go_wp2_with (go_at_call 55;refine HBT.out.mono ?_;rintro e w9 ⟨q9,rfl,hq9,hb9⟩;have HQ9:=Zh hq9;have HB9:=Zh hb9;have HR9:=Zh (HR1.out.go hb9);clear hq9 hb9;have r0:=HR9.out.cell 0;have r1:=HR9.out.cell 1;have fr:=HR9.out.frozen)
 refine bodyPost_ret (v:=.tuple #[.agg #[.int .i64 (n:Int),.slice (some ⟨q9,0,none⟩) n n],.int .i64 0]) (by simp [results,Tryz.results24,go_sem, *]) rfl ?_
 have hne:=Zaz HQ9.out HR9.out (by decide)
 refine⟨q9,rfl,?_,?_⟩
 ·exact (HQ9.out.far (p:=⟨w.heap.size+1,0,none⟩) hne _).far (p:=⟨w.heap.size+1,1,none⟩) hne _
 ·exact ((Zaa HB1.out HB9.out).setCell (p:=⟨w.heap.size+1,0,none⟩) (show w.heap.size<=w.heap.size+1 by omega) _).setCell (p:=⟨w.heap.size+1,1,none⟩) (show w.heap.size<=w.heap.size+1 by omega) _
end
def Zbu:Tst:=⟨1,[116],[],[],[[⟨1,0,0,0,3,[120],[],0⟩,⟨5,0,0,0,0,[],[],0⟩,⟨3,1,0,0,0,[121],[],0⟩]],1,2,0,1,[],0,.nil⟩
def Zcq:Tr:=⟨[⟨0,0,2,0,3,0⟩,⟨0,2,1,1,0,1⟩],[⟨0,1,1⟩],[],[],[],[(2,1)]⟩
set_option maxRecDepth 100000 in
theorem Zkd:Zbd 2 1 2 0 1 [] 0 .nil=0/\Zbd 1 1 2 0 1 [] 0 .nil=0:=by decide
set_option maxRecDepth 100000 in
theorem Zhw:Za8 Zbu=[(0,1,[])]:=by
 unfold Za8 Zlt
 rw [if_pos (show Zbd 2 Zbu.q Zbu.k Zbu.t Zbu.r Zbu.l Zbu.v Zbu.kids=0 from Zkd.1),<- Zpk]
 ·decide
 ·intro x hx
  have:x=(0,1,[]):=by simpa [Zbu,atL,Za2] using hx
  subst this
  exact (by decide:Zba 2 0 1 []=true)
theorem Zgf:Zas Zbu=[[120],[121]]:=by
 refine Zg2 (Zhg _) (by unfold Zj1;simp;decide) (fun x=>?_)
 unfold Zas
 rw [Zgc]
 have:Zel Zbu=[[120],[],[121],[]]:=by
  unfold Zel
  rw [show Zlt Zbu.q Zbu.k Zbu.t Zbu.r Zbu.l Zbu.v Zbu.kids=[(0,1,[])] from Zhw]
  rfl
 rw [this]
 simp
 constructor
 ·rintro⟨h | h | h,h2⟩ <;> simp_all
 ·rintro (rfl | rfl) <;> simp
set_option maxRecDepth 100000 in
theorem Zsr:Za5 Zbu=0:=by
 unfold Za5
 rw [if_neg (by decide +kernel),if_neg (by decide +kernel),if_neg (by decide +kernel),if_neg (by decide +kernel),if_neg (by rw [show Zbu.arch=1 from rfl];exact fun h=>h Zkd.2),Zhw,if_neg (by decide),if_neg (by rw [show Zdl (Zel Zbu)=[[120],[121]] from Zgf];decide)]
set_option maxRecDepth 100000 in
theorem Zy3:Zc8 Zbu=.ok Zcq:=by
 unfold Zc8
 rw [if_neg (by rw [Zsr];decide),Zgf,Zhw]
 first | kernel_rfl | rfl | decide
section
theorem Zr4:Ziw ⟨[[120],[121]],[0,0],[(0,1,[])],Zcq⟩:=by
 refine⟨by decide,rfl,?_,?_,?_,by decide,?_,?_,by decide,?_,?_,?_,?_,?_,?_,?_,?_,?_,rfl,by decide,?_,?_⟩
 ·intro x hx;simp at hx;rcases hx with rfl | rfl <;> decide
 ·unfold Zj1;simp;decide
 ·intro n hn;simp at hn;subst hn;decide
 ·intro e he
  simp [Zcq] at he
  rcases he with rfl | rfl
  ·exact⟨by decide,by decide,by decide,by decide,by decide,Or.inr ⟨rfl,rfl⟩⟩
  ·exact⟨by decide,by decide,by decide,by decide,by decide,Or.inl ⟨rfl,rfl⟩⟩
 ·intro i x y hx hy
  match i,hx,hy with
  | 0,hx,hy=>simp [Zcq] at hx hy;subst hx hy;unfold Z4v;decide
  | i+1,hx,hy=>simp [Zcq] at hy
 ·intro b hb;simp [Zcq] at hb;subst hb;exact⟨by decide,by decide,by decide⟩
 ·intro i x y hx hy;simp [Zcq] at hy
 ·intro b hb e he
  simp [Zcq] at hb he
  subst hb
  rcases he with rfl | rfl <;> decide
 ·intro p hp;simp [Zcq] at hp
 ·intro i x y hx;simp [Zcq] at hx
 ·intro p hp;simp [Zcq] at hp
 ·intro i x y hx;simp [Zcq] at hx
 ·intro p hp;simp [Zcq] at hp
 ·intro i x y hx;simp [Zcq] at hx
 ·intro i x y hx hy;simp at hy
 ·intro i x e hx he
  match i,hx,he with
  | 0,hx,he=>
   simp [Zcq] at hx he
   subst hx he
   exact Or.inr ⟨by decide,by decide,by decide,by decide,rfl,Or.inr ⟨rfl,1,⟨0,2,1,1,0,1⟩,rfl,rfl,rfl,rfl⟩⟩
  | i+1,hx,he=>simp at hx
section
set_option maxHeartbeats 4000000
set_option maxRecDepth 100000
theorem Z4u (w:World):Calls Tryz.prog 45 #[] w fun e w'=>∃ Ac,e=.returned (Zbm Zbu (.slice none 0 0) (.slice Ac 1 1) (.slice none 0 0))/\Zb4 w' Zbu none Ac (.slice none 0 0)/\Below w.heap.size w w':=by
 go_enter Tryz.func45,Tryz.ntmps45
 go_wp2_with fail
 refine bodyPost_ret (v:=Zbm Zbu (.slice none 0 0) (.slice (some ⟨w.heap.size+1+1+1,0,none⟩) 1 1) (.slice none 0 0)) (by simp [results,Tryz.results45,go_sem,Zbu]) rfl ?_
 have HI:=Zh (Blk.alloc (Blk.new ((w.alloc (.cells #[.int .i64 1,.string ⟨#[116]⟩,.string ⟨#[]⟩,.slice none 0 0,.slice (some ⟨w.heap.size+1+1+1,0,none⟩) 1 1,.int .i64 1,.int .i64 2,.int .i64 0,.int .i64 1,.string ⟨#[]⟩,.int .i64 0,.slice none 0 0] 32 (0,0))).alloc (.cells #[.int .i64 0,.int .i64 1,.string ⟨#[]⟩] 25 (0,0))) 77 #[.int .i64 1,.int .i64 0,.int .i64 0,.int .i64 0,.int .i64 3,.string ⟨#[120]⟩,.string ⟨#[]⟩,.int .i64 0,.int .i64 5,.int .i64 0,.int .i64 0,.int .i64 0,.int .i64 0,.string ⟨#[]⟩,.string ⟨#[]⟩,.int .i64 0,.int .i64 3,.int .i64 1,.int .i64 0,.int .i64 0,.int .i64 0,.string ⟨#[121]⟩,.string ⟨#[]⟩,.int .i64 0]) (.cells #[.slice (some ⟨w.heap.size+1+1,0,none⟩) 3 3] 69 (0,0)))
 have HC:=Zh (Blk.new (((w.alloc (.cells #[.int .i64 1,.string ⟨#[116]⟩,.string ⟨#[]⟩,.slice none 0 0,.slice (some ⟨w.heap.size+1+1+1,0,none⟩) 1 1,.int .i64 1,.int .i64 2,.int .i64 0,.int .i64 1,.string ⟨#[]⟩,.int .i64 0,.slice none 0 0] 32 (0,0))).alloc (.cells #[.int .i64 0,.int .i64 1,.string ⟨#[]⟩] 25 (0,0))).alloc (.cells #[.int .i64 1,.int .i64 0,.int .i64 0,.int .i64 0,.int .i64 3,.string ⟨#[120]⟩,.string ⟨#[]⟩,.int .i64 0,.int .i64 5,.int .i64 0,.int .i64 0,.int .i64 0,.int .i64 0,.string ⟨#[]⟩,.string ⟨#[]⟩,.int .i64 0,.int .i64 3,.int .i64 1,.int .i64 0,.int .i64 0,.int .i64 0,.string ⟨#[121]⟩,.string ⟨#[]⟩,.int .i64 0] 77 (0,0))) 69 #[.slice (some ⟨w.heap.size+1+1,0,none⟩) 3 3])
 simp only [World.size_alloc] at HI HC
 refine⟨some ⟨w.heap.size+1+1+1,0,none⟩,rfl,⟨?_,?_,Zd7.nil _ _ _ _ (by decide),by decide,by decide,by decide,by decide,by decide⟩,Zab (Zab (Zab (Zab (Below.refl _ _) _) _) _) _⟩
 ·intro i x hx;simp [Zbu] at hx
 ·intro i c hc
  match i,hc with
  | 0,hc=>
   simp [Zbu] at hc
   subst hc
   refine⟨_,0,some ⟨w.heap.size+1+1,0,none⟩,3,rfl,HC.out.cell 0,?_,by decide,by decide⟩
   intro j x hx
   match j,hx with
   | 0,hx=>
    simp at hx
    subst hx
    exact⟨_,0,rfl,(HI.out.cell 0).trans rfl,(HI.out.cell 1).trans rfl,(HI.out.cell 2).trans rfl,(HI.out.cell 3).trans rfl,(HI.out.cell 4).trans rfl,(HI.out.cell 5).trans rfl,(HI.out.cell 6).trans rfl,(HI.out.cell 7).trans rfl,by decide,by decide⟩
   | 1,hx=>
    simp at hx
    subst hx
    exact⟨_,0,rfl,(HI.out.cell 8).trans rfl,(HI.out.cell 9).trans rfl,(HI.out.cell 10).trans rfl,(HI.out.cell 11).trans rfl,(HI.out.cell 12).trans rfl,(HI.out.cell 13).trans rfl,(HI.out.cell 14).trans rfl,(HI.out.cell 15).trans rfl,by decide,by decide⟩
   | 2,hx=>
    simp at hx
    subst hx
    exact⟨_,0,rfl,(HI.out.cell 16).trans rfl,(HI.out.cell 17).trans rfl,(HI.out.cell 18).trans rfl,(HI.out.cell 19).trans rfl,(HI.out.cell 20).trans rfl,(HI.out.cell 21).trans rfl,(HI.out.cell 22).trans rfl,(HI.out.cell 23).trans rfl,by decide,by decide⟩
   | j+3,hx=>simp at hx
  | i+1,hc=>simp [Zbu] at hc
end
end
end Go.Proofs.YtoegmdnfbemppaaGreatDoor
namespace Go.Proofs.YtoegmdnfbemppaaGreatDoor.TOwn
open Go.ChangeShapes Go.WideShapes Go.ChangeAt Go.ChangeMaps Go.RowKit
set_option maxHeartbeats 4000000 in
set_option maxRecDepth 100000 in
theorem closed:joinedFacts Tryz.pinned.checked.prog 5 Tryz.f5 (OpenSpec.ofChange Rows.traceOwnSpec).bare Rows.traceOwnRow=true:=by
 unfold joinedFacts
 simp only [Bool.and_eq_true]
 repeat' apply And.intro
 all_goals (as_aux_lemma=>kernel_rfl)
end Go.Proofs.YtoegmdnfbemppaaGreatDoor.TOwn
