/- Layer 13: a test's locations: the reference. -/
import Derived.Test.YtoegmdnfbemppaaGreatDoorTf25
import Derived.Test.YtoegmdnfbemppaaGreatDoorTf31
import Derived.Test.YtoegmdnfbemppaaGreatDoorTf32

namespace Go.Proofs.YtoegmdnfbemppaaGreatDoor
open Go.RowKit
section
theorem Zqv (s:Nm):∀ l,(Zos s l).length=l.length+1
 | []=>rfl
 | y :: r=>by
  unfold Zos
  split
  ·rfl
  ·simp [Zqv s r]
theorem Zyn (l:List Nm)(s:Nm):(Zkt l s).length<=l.length+1:=by
 unfold Zkt
 split
 ·omega
 ·rw [Zqv];omega
def Zik (R l rest:List Nm):Prop:=rest.foldl Zkt l=Zdl R/\l.length+rest.length<=R.length
theorem Zik.step {R l rest:List Nm}{s:Nm}(h:Zik R l (s :: rest)):Zik R (Zkt l s) rest:=⟨h.1,by have:=h.2;have:=Zyn l s;simp at *;omega⟩
theorem Zik.start (R:List Nm):Zik R [] R:=⟨Zsc R,by simp⟩
theorem Zik.len {R l rest:List Nm}(h:Zik R l rest)(hR:R.length<=1000000):l.length<=1000000:=by have:=h.2;omega
theorem Zik.done {R l:List Nm}(h:Zik R l []):l=Zdl R:=h.1
section
set_option maxHeartbeats 4000000
set_option maxRecDepth 100000
variable {w:World} {T:Tst} {Ai Ac:Option Addr} {kv:Value}
theorem Zi7.at13 {w:World}{A:Option Addr}{l:List Ini}(h:Zi7 w A l){i:Nat}{x:Ini}(hx:l[i]?=some x):∃ b o,A=some ⟨b,o,none⟩/\w.cell? ⟨b,o+i*5,none⟩=some (.int .i64 x.th)/\w.cell? ⟨b,o+i*5+1,none⟩=some (.int .i64 x.rg)/\w.cell? ⟨b,o+i*5+2,none⟩=some (.string ⟨x.loc.toArray⟩)/\w.cell? ⟨b,o+i*5+3,none⟩=some (.string ⟨x.vl.toArray⟩)/\
  w.cell? ⟨b,o+i*5+4,none⟩=some (.int .i64 x.vn)/\x.loc.length<=9223372036854775807/\x.vl.length<=9223372036854775807/\(-9223372036854775808<=x.th/\x.th<=9223372036854775807)/\-9223372036854775808<=x.rg/\x.rg<=9223372036854775807:=h i x hx
def Z5q (L:List Nm)(w:World)(e:Ending)(w':World):Prop:=∃ A cap,e=.returned (.slice A L.length cap)/\Zlj w.heap.size w' A cap L/\Below w.heap.size w w'
theorem Znf (ci cc:Nat)(hraw:(Zel T).length<=1000000)(hT:Zb4 w T Ai Ac kv):Calls Tryz.prog 54 #[Zbm T (.slice Ai T.init.length ci) (.slice Ac T.code.length cc) kv] w (Z5q (Zdl (Zel T)) w):=by
 have HI:=Zh hT.init
 have HC:=Zh hT.code
 have HKD:=Zh hT.kids
 have hll:=hT.llen
 have hil:=hT.ilen
 have hcl:=hT.clen
 have HRL:=Zh hraw
 have HST:=Zh (show Zik (Zel T) [] ((T.init.drop 0).flatMap (fun x=>[x.loc,x.vl])++((T.code.flatMap fun c=>c.map fun x=>x.loc)++(Za8 T).map fun x=>x.2.2)) by rw [List.drop_zero];exact Zik.start _)
 simp only [Zbm]
 obtain⟨n,hn⟩:∃ n,T.init.length=n:=⟨_,rfl⟩
 obtain⟨m,hm⟩:∃ m,T.code.length=m:=⟨_,rfl⟩
 have HN:=Zh hn
 have HM:=Zh hm
 rw [hn,hm]
 rw [hn] at hil
 rw [hm] at hcl
 clear hT hn hm hraw
 have HBX:=Zh (Blk.new w 32 #[.int .i64 T.arch,.string ⟨T.name.toArray⟩,.string ⟨T.cycle.toArray⟩,.slice Ai n ci,.slice Ac m cc,.int .i64 T.q,.int .i64 T.k,.int .i64 T.t,.int .i64 T.r,.string ⟨T.l.toArray⟩,.int .i64 T.v,kv])
 have HB0:=Zh (Zad w (.cells #[.int .i64 T.arch,.string ⟨T.name.toArray⟩,.string ⟨T.cycle.toArray⟩,.slice Ai n ci,.slice Ac m cc,.int .i64 T.q,.int .i64 T.k,.int .i64 T.t,.int .i64 T.r,.string ⟨T.l.toArray⟩,.int .i64 T.v,kv] 32 (0,0)))
 go_enter Tryz.func54,Tryz.ntmps54
 go_wp2_with fail
 generalize hw1:w.alloc (.cells #[.int .i64 T.arch,.string ⟨T.name.toArray⟩,.string ⟨T.cycle.toArray⟩,.slice Ai n ci,.slice Ac m cc,.int .i64 T.q,.int .i64 T.k,.int .i64 T.t,.int .i64 T.r,.string ⟨T.l.toArray⟩,.int .i64 T.v,kv] 32 (0,0))=w1 at HBX HB0 ⊢
 have hsz:w.heap.size<w1.heap.size:=HBX.out.lt
 clear hw1
 go_loopw [4,3] (fun i vv wr=>∃ (k:Nat) (l:List Nm) (Av:Option Addr) (cv:Nat),k<=n/\i=.int .i64 k/\vv=.slice Av l.length cv/\Zlj w.heap.size wr Av cv l/\Zik (Zel T) l ((T.init.drop k).flatMap (fun x=>[x.loc,x.vl])++((T.code.flatMap fun c=>c.map fun x=>x.loc)++(Za8 T).map fun x=>x.2.2))/\Below w1.heap.size w1 wr) (fun i _ _=>n - (intOf i).toNat)
 case atStart=>exact⟨0,[],none,0,Nat.zero_le _,rfl,rfl,Zlj.nil (Nat.le_of_lt hsz),HST.out,Below.refl _ _⟩
 case round=>
  obtain⟨k,l,Av,cv,hk,rfl,rfl,hv,hl,hb⟩:=hrel
  have HV:=Zh hv
  have HL:=Zh hl
  have HBR:=Zh hb
  have hzr:=hb.size
  have hsw:w.heap.size<wr.heap.size:=by omega
  have k3:=(HBX.out.go hb).cell 3
  have HBW:=Zh (Zaa HB0.out hb)
  clear hv hl hb
  by_cases hlt:k<n
  ·have hlk:k<T.init.length:=by rw [HN.out];exact hlt
   have ex:=List.getElem?_eq_getElem hlk
   obtain⟨x,hx⟩:∃ x,T.init[k]=x:=⟨_,rfl⟩
   rw [hx] at ex
   obtain⟨b,o,rfl,c0,c1,c2,c3,c4,l1,l2,l3,l4⟩:=Zi7.at13 HI.out ex
   have hbl:b<w.heap.size:=World.block_lt_of_cell? w _ c0
   have d2:=Zac c2 HBW.out
   have d3:=Zac c3 HBW.out
   have HC3:=Zh c3
   have hkn:(k:Int)<(n:Int):=by omega
   have HL2:=Zh (show Zik (Zel T) l (x.loc :: x.vl :: ((T.init.drop (k+1)).flatMap (fun x=>[x.loc,x.vl])++((T.code.flatMap fun c=>c.map fun x=>x.loc)++(Za8 T).map fun x=>x.2.2))) by have:=HL.out;rw [Zbx ex] at this;simpa using this)
   clear ex hx hlk c0 c1 c2 c3 c4 l1 l2 l3 l4
   go_wp2_with fail
   refine (Zq0 _ _ (l) x.loc _ (Zik.len HL2.out HRL.out) HV.out).mono ?_
   rintro e wp1 ⟨Ap1,cp1,rfl,hat,hb⟩
   have HPT1:=Zh hat
   have HPB1:=Zh hb
   clear hat hb
   have d3b:=Zac HC3.out (Zaa HBW.out HPB1.out)
   have k3b:=(HBX.out.go (Zaa HBR.out HPB1.out)).cell 3
   go_wp2_with fail
   refine (Zq0 _ _ (Zkt l x.loc) x.vl _ (Zik.len HL2.out.step HRL.out) HPT1.out).mono ?_
   rintro e wp2 ⟨Ap2,cp2,rfl,hat,hb⟩
   have HPT2:=Zh hat
   have HPB2:=Zh hb
   clear hat hb
   go_wp2_with fail
   go_roundw
   case rel=>exact⟨k+1,_,_,_,by omega,by go_num,rfl,HPT2.out,HL2.out.step.step,Zaa HBR.out (Zaa HPB1.out HPB2.out)⟩
   case measure=>simp [intOf];omega
  ·have hkn:k=n:=by omega
   subst hkn
   have HL1:=Zh (show Zik (Zel T) l ((T.code.flatMap fun c=>c.map fun x=>x.loc)++(Za8 T).map fun x=>x.2.2) by have:=HL.out;rw [List.drop_of_length_le (by have:=HN.out;omega)] at this;simpa using this)
   have HV0:=Zh HV.out
   have HBA:=Zh HBR.out
   go_wp2_with fail
   clear HL HV HBR HBW k3
   obtain⟨wa,hwa⟩:∃ wa:World,wa=wr:=⟨_,rfl⟩
   subst hwa
   go_loopw [5,3] (fun i vv wr=>∃ (k:Nat) (l:List Nm) (Av:Option Addr) (cv:Nat),k<=m/\i=.int .i64 k/\vv=.slice Av l.length cv/\Zlj w.heap.size wr Av cv l/\Zik (Zel T) l (((T.code.drop k).flatMap fun c=>c.map fun x=>x.loc)++(Za8 T).map fun x=>x.2.2)/\Below w1.heap.size w1 wr) (fun i _ _=>m - (intOf i).toNat)
   case atStart=>exact⟨0,l,Av,cv,Nat.zero_le _,rfl,rfl,HV0.out,HL1.out,HBA.out⟩
   case round=>
    obtain⟨k2,l2,Av2,cv2,hk2,rfl,rfl,hv,hl,hb⟩:=hrel
    have HV:=Zh hv
    have HL:=Zh hl
    have HBR:=Zh hb
    have hzr:=hb.size
    have hsw:w.heap.size<wr.heap.size:=by omega
    have k4:=(HBX.out.go hb).cell 4
    have HBW:=Zh (Zaa HB0.out hb)
    clear hv hl hb HV0 HBA
    by_cases hlt:k2<m
    ·have hlk:k2<T.code.length:=by rw [HM.out];exact hlt
     have ex:=List.getElem?_eq_getElem hlk
     obtain⟨c,hx⟩:∃ c,T.code[k2]=c:=⟨_,rfl⟩
     rw [hx] at ex
     obtain⟨b,o,A2,c2,rfl,hc0,hA2,hl1,hl2⟩:=HC.out.at_ ex
     have HCL:=Zh (show Zik (Zel T) l2 ((c.map fun x=>x.loc)++(((T.code.drop (k2+1)).flatMap fun c=>c.map fun x=>x.loc)++(Za8 T).map fun x=>x.2.2)) by have:=HL.out;rw [Zbx ex] at this;simpa using this)
     have HA2:=Zh hA2
     have HC0:=Zh hc0
     have hkn:(k2:Int)<(m:Int):=by omega
     clear ex hx hlk hA2 hc0 HL
     go_wp2_with fail
     clear k4
     obtain⟨wi,hwi⟩:∃ wi:World,wi=wr:=⟨_,rfl⟩
     subst hwi
     go_loopw [6,3] (fun i vv wr=>∃ (i':Nat) (l:List Nm) (Av:Option Addr) (cv:Nat),i'<=c.length/\i=.int .i64 i'/\vv=.slice Av l.length cv/\Zlj w.heap.size wr Av cv l/\Zik (Zel T) l (((c.drop i').map fun x=>x.loc)++(((T.code.drop (k2+1)).flatMap fun c=>c.map fun x=>x.loc)++(Za8 T).map fun x=>x.2.2))/\Below w1.heap.size w1 wr) (fun i _ _=>c.length - (intOf i).toNat)
     case atStart=>exact⟨0,l2,Av2,cv2,Nat.zero_le _,rfl,rfl,HV.out,HCL.out,HBR.out⟩
     case round=>
      obtain⟨i,l3,Av3,cv3,hi,rfl,rfl,hv3,hl3,hb3⟩:=hrel
      clear HV HCL HBR HBW hzr hsw
      have HV:=Zh hv3
      have HCL:=Zh hl3
      have HBR:=Zh hb3
      have hzr:=hb3.size
      have hsw:w.heap.size<wr.heap.size:=by omega
      have k4:=(HBX.out.go hb3).cell 4
      have HBW:=Zh (Zaa HB0.out hb3)
      have hc0r:=Zac HC0.out HBW.out
      clear hv3 hl3 hb3
      by_cases hli:i<c.length
      ·have ey:=List.getElem?_eq_getElem hli
       obtain⟨x,hx⟩:∃ x,c[i]=x:=⟨_,rfl⟩
       rw [hx] at ey
       obtain⟨b2,o2,rfl,hCi⟩:=HA2.out.at_ ey
       have hbl:=hCi.lt
       have d5:=(hCi.go HBW.out).c5
       have hkl:(i:Int)<(c.length:Int):=by omega
       have HL2:=Zh (show Zik (Zel T) l3 (x.loc :: (((c.drop (i+1)).map fun x=>x.loc)++(((T.code.drop (k2+1)).flatMap fun c=>c.map fun x=>x.loc)++(Za8 T).map fun x=>x.2.2))) by have:=HCL.out;rw [Zbx ey] at this;simpa using this)
       clear ey hx hCi
       go_wp2_with (go_at_call 107;refine (Zq0 _ _ (l3) x.loc _ (Zik.len HL2.out HRL.out) HV.out).mono ?_;rintro e wp3 ⟨Ap3,cp3,rfl,hat,hb⟩;have HPT3:=Zh hat;have HPB3:=Zh hb;clear hat hb)
       go_roundw
       case rel=>exact⟨i+1,_,_,_,by omega,by go_num,rfl,HPT3.out,HL2.out.step,Zaa HBR.out HPB3.out⟩
       case measure=>simp [intOf];omega
      ·have HL3:=Zh (show Zik (Zel T) l3 (((T.code.drop (k2+1)).flatMap fun c=>c.map fun x=>x.loc)++(Za8 T).map fun x=>x.2.2) by have:=HCL.out;rw [List.drop_of_length_le (by omega)] at this;simpa using this)
       go_wp2_with fail
       go_roundw
       case rel=>exact⟨k2+1,l3,Av3,cv3,by omega,by go_num,rfl,HV.out,HL3.out,HBR.out⟩
       case measure=>simp [intOf];omega
    ·have hkm:k2=m:=by omega
     subst hkm
     have HL1:=Zh (show Zik (Zel T) l2 ((Za8 T).map fun x=>x.2.2) by have:=HL.out;rw [List.drop_of_length_le (by have:=HM.out;omega)] at this;simpa using this)
     have HV0:=Zh HV.out
     have HBA:=Zh HBR.out
     have HKW:=Zh (Zd7.below HKD.out (Nat.le_refl _) HBW.out)
     have k5:=(HBX.out.go HBR.out).cell 5
     have k6:=(HBX.out.go HBR.out).cell 6
     have k7:=(HBX.out.go HBR.out).cell 7
     have k8:=(HBX.out.go HBR.out).cell 8
     have k9:=(HBX.out.go HBR.out).cell 9
     have k10:=(HBX.out.go HBR.out).cell 10
     have k11:=(HBX.out.go HBR.out).cell 11
     go_wp2_with (go_at_call 38;refine (Z54 w.heap.size kv (by omega) HKW.out hll).mono ?_;rw [show Zlt T.q T.k T.t T.r T.l T.v T.kids=Za8 T from rfl];rintro e w2 ⟨Au,cu,rfl,hths,hb2⟩;have HTH:=Zh hths;have HB2:=Zh hb2;clear hths hb2)
     clear k5 k6 k7 k8 k9 k10 k11 k4
     have HVS:=Zh (HV0.out.below HB2.out)
     have HBS:=Zh (Zaa HBA.out HB2.out)
     have HT0:=Zh HTH.out.1
     have htl:=Zet T
     clear HL HV HBR HBW HV0 HBA HKW HTH
     go_loopw [9,3] (fun i vv wr=>∃ (k:Nat) (l:List Nm) (Av:Option Addr) (cv:Nat),k<=(Za8 T).length/\i=.int .i64 k/\vv=.slice Av l.length cv/\Zlj w.heap.size wr Av cv l/\Zik (Zel T) l (((Za8 T).drop k).map fun x=>x.2.2)/\Below w2.heap.size w2 wr) (fun i _ _=>(Za8 T).length - (intOf i).toNat)
     case atStart=>exact⟨0,l2,Av2,cv2,Nat.zero_le _,rfl,rfl,HVS.out,HL1.out,Below.refl _ _⟩
     case round=>
      obtain⟨j,l4,Av4,cv4,hj,rfl,rfl,hv,hl,hb⟩:=hrel
      have HV:=Zh hv
      have HL:=Zh hl
      have HBR:=Zh hb
      clear hv hl hb
      by_cases hlj:j<(Za8 T).length
      ·have ey:=List.getElem?_eq_getElem hlj
       obtain⟨x,hx⟩:∃ x,(Za8 T)[j]=x:=⟨_,rfl⟩
       rw [hx] at ey
       obtain⟨b2,o2,rfl,g0,g1,g2⟩:=Zyg (HT0.out.below HBR.out) ey
       have hjl:(j:Int)<((Za8 T).length:Int):=by omega
       have HL2:=Zh (show Zik (Zel T) l4 (x.2.2 :: (((Za8 T).drop (j+1)).map fun x=>x.2.2)) by have:=HL.out;rw [Zbx ey] at this;simpa using this)
       clear ey hx
       go_wp2_with (go_at_call 107;refine (Zq0 _ _ (l4) x.2.2 _ (Zik.len HL2.out HRL.out) HV.out).mono ?_;rintro e wp4 ⟨Ap4,cp4,rfl,hat,hb⟩;have HPT4:=Zh hat;have HPB4:=Zh hb;clear hat hb)
       go_roundw
       case rel=>exact⟨j+1,_,_,_,by omega,by go_num,rfl,HPT4.out,HL2.out.step,Zaa HBR.out HPB4.out⟩
       case measure=>simp [intOf];omega
      ·have HLR:=Zh (show l4=Zdl (Zel T) from Zik.done (by have:=HL.out;rw [List.drop_of_length_le (by omega)] at this;simpa using this))
       have HV9:=Zh HV.out
       go_wp2_with fail
       go_ret
       have e4:=HLR.out
       subst e4
       exact⟨Av4,cv4,rfl,HV9.out,Zaa HB0.out (Zaa HBS.out HBR.out)⟩
end
end
section
theorem Z3e (A:Option Addr)(cap:Nat)(L:List Nm)(w:World)(hl:L.length<=1000000)(h:Zcx.At w A L) :
  Calls Tryz.prog 86 #[.slice A L.length cap] w fun e w'=>∃ v,e=.returned v/\Zcx.Own 9 w.heap.size w' v L/\Below w.heap.size w w':=by
 by_cases h0:L=[]
 ·subst h0
  cases A with
  | none=>exact (Tryz.slices_Clone_string_nil 0 cap w).mono fun e w' ⟨h1,h2⟩=>⟨_,h1,Enc.Own.nil _ _ _,by rw [h2];exact Below.refl _ _⟩
  | some a=>exact (Tryz.slices_Clone_string_zero a cap w).mono fun e w' ⟨v,h1,h2,_,h3⟩=>⟨v,h1,h2,h3⟩
 ·obtain⟨b,o,e,_⟩:=h 0 _ (List.getElem?_eq_getElem (List.length_pos_iff.2 h0))
  subst e
  have hc:∀ j,j<(L.map fun x=>(⟨x.toArray⟩:ByteArray)).length->w.cell? ⟨b,o+j,none⟩=some (.string ((L.map fun x=>(⟨x.toArray⟩:ByteArray)).getD j ByteArray.empty)):=fun j hj=>by
   simp only [List.length_map] at hj
   have hx:=List.getElem?_eq_getElem hj
   have hcell:=h.cells j (.string ⟨L[j].toArray⟩) (by rw [Zsh,List.getElem?_map,hx];rfl)
   rw [hcell]
   simp [hj]
  refine (Tryz.slices_Clone_string b o L.length cap (L.map fun x=>(⟨x.toArray⟩:ByteArray)) w (by simp) (by omega) hc).mono fun e w' ⟨v,h1,h2,_,h3⟩=>⟨v,h1,?_,h3⟩
  show w'.ownsRow w.heap.size 9 1 v L.length (Zcx.flat L)
  rw [List.take_of_length_le (by simp),List.map_map] at h2
  rw [Zsh]
  exact h2
def Z62 (T:Tst)(w:World)(e:Ending)(w':World):Prop:=
 ((Za5 T≠0/\e=.returned (.tuple #[.slice none 0 0,.int .i64 (Za5 T)]))\/(Za5 T=0/\∃ v,e=.returned (.tuple #[v,.int .i64 0])/\Zcx.Own 9 w.heap.size w' v (Zdl (Zel T))))/\Below w.heap.size w w'
theorem Zbe {T:Tst}(h:Za5 T=0):(Zel T).length<=1000000/\(Zdl (Zel T)).length<=64/\Zd0 T.arch=true/\Zfe T.arch T.code=0/\Zfu T.arch T.code.length T.init=0/\Zbd T.arch T.q T.k T.t T.r T.l T.v T.kids=0/\(Za8 T).any (fun x=>decide ((T.code.length:Int)<=x.1))=false:=by
 unfold Za5 at h
 split at h
 ·cases h
 rename_i h1
 split at h
 ·cases h
 split at h
 ·rename_i h3;exact absurd h h3
 rename_i h3
 split at h
 ·rename_i h4;exact absurd h h4
 rename_i h4
 split at h
 ·rename_i h5;exact absurd h h5
 rename_i h5
 split at h
 ·cases h
 rename_i h6
 split at h
 ·cases h
 rename_i h7
 simp only [ne_eq,Decidable.not_not] at h3 h4 h5
 exact⟨Ze0 h3 h4,by omega,by simpa using h1,h3,h4,h5,by simpa using h6⟩
section
set_option maxHeartbeats 4000000
set_option maxRecDepth 100000
variable {w:World} {T:Tst} {Ai Ac:Option Addr} {kv:Value}
theorem Z5y (ci cc:Nat)(hT:Zb4 w T Ai Ac kv):Calls Tryz.prog 29 #[Zbm T (.slice Ai T.init.length ci) (.slice Ac T.code.length cc) kv] w (Z62 T w):=by
 have HT:=Zh hT
 have HBX:=Zh (Blk.new w 32 #[.int .i64 T.arch,.string ⟨T.name.toArray⟩,.string ⟨T.cycle.toArray⟩,.slice Ai T.init.length ci,.slice Ac T.code.length cc,.int .i64 T.q,.int .i64 T.k,.int .i64 T.t,.int .i64 T.r,.string ⟨T.l.toArray⟩,.int .i64 T.v,kv])
 have HB0:=Zh (Zad w (.cells #[.int .i64 T.arch,.string ⟨T.name.toArray⟩,.string ⟨T.cycle.toArray⟩,.slice Ai T.init.length ci,.slice Ac T.code.length cc,.int .i64 T.q,.int .i64 T.k,.int .i64 T.t,.int .i64 T.r,.string ⟨T.l.toArray⟩,.int .i64 T.v,kv] 32 (0,0)))
 clear hT
 go_enter Tryz.func29,Tryz.ntmps29
 go_wp2_with fail
 refine (Zti ci cc (HT.out.below HB0.out)).mono ?_
 rintro e w2 ⟨rfl,hb⟩
 have HB2:=Zh (Zaa HB0.out hb)
 have HK2:=Zh (HBX.out.go hb)
 clear hb
 by_cases hE:Za5 T=0
 ·have HE:=Zh hE
  have f1:(Za5 T != 0)=false:=by simpa using hE
  have k0:=HK2.out.cell 0
  have k1:=HK2.out.cell 1
  have k2:=HK2.out.cell 2
  have k3:=HK2.out.cell 3
  have k4:=HK2.out.cell 4
  have k5:=HK2.out.cell 5
  have k6:=HK2.out.cell 6
  have k7:=HK2.out.cell 7
  have k8:=HK2.out.cell 8
  have k9:=HK2.out.cell 9
  have k10:=HK2.out.cell 10
  have k11:=HK2.out.cell 11
  clear hE
  go_wp2_with (first
   | (go_at_call 85;refine (Zvy ci cc (Zbe HE.out).1 (HT.out.below HB2.out)).mono ?_;rintro e w3 ⟨A3,c3,rfl,hat3,hnew3,hb⟩;have HB3:=Zh (Zaa HB2.out hb);have HAT:=Zh hat3;clear hat3 hnew3 hb)
   | (go_at_call 86;refine (Z3e _ _ _ _ (Nat.le_trans (Zbe HE.out).2.1 (by omega)) HAT.out).mono ?_;rintro e w4 ⟨v4,rfl,hown,hb⟩;have HO:=Zh hown;have HB4:=Zh hb;clear hown hb))
  go_ret2
  exact⟨Or.inr ⟨HE.out,v4,rfl,Zdx HO.out HB3.out.size⟩,Zaa HB3.out HB4.out⟩
 ·have HE:=Zh hE
  exact m_100
end
end
section
def Zj8 (T:Tst):Int:=
 if Zbd T.arch T.q T.k T.t T.r T.l T.v T.kids≠0 then Zbd T.arch T.q T.k T.t T.r T.l T.v T.kids
 else if (Za8 T).any (fun x=>decide ((T.code.length:Int)<=x.1)) then 80 else 0
theorem Zv6 (T:Tst):Za5 T=if Zd0 T.arch=false then 5 else if (Zgx T.name&&Ze1 T.cycle)=false then 130 else if Zfe T.arch T.code≠0 then Zfe T.arch T.code else if Zfu T.arch T.code.length T.init≠0 then Zfu T.arch T.code.length T.init else if Zj8 T≠0 then Zj8 T else if 64<(Zdl (Zel T)).length then 2 else 0:=by
 unfold Za5 Zj8
 by_cases h1:Zbd T.arch T.q T.k T.t T.r T.l T.v T.kids=0 <;> cases h2:(Za8 T).any (fun x=>decide ((T.code.length:Int)<=x.1)) <;> simp [h1]
section
set_option maxHeartbeats 4000000
set_option maxRecDepth 100000
variable {w:World} {T:Tst} {Ai Ac:Option Addr} {kv:Value}
theorem Z3z (ci cc:Nat)(ha:Zd0 T.arch=true)(hT:Zb4 w T Ai Ac kv):Calls Tryz.prog 51 #[Zbm T (.slice Ai T.init.length ci) (.slice Ac T.code.length cc) kv] w fun e w'=>e=.returned (.int .i64 (Zfe T.arch T.code))/\Below w.heap.size w w':=by
 rcases Zjc ha with h | h
 ·have:=Zyq ci cc h hT;rwa [<- h] at this
 ·have:=Zyr ci cc h hT;rwa [<- h] at this
theorem Z5a (ci cc:Nat)(ha:Zd0 T.arch=true)(hT:Zb4 w T Ai Ac kv):Calls Tryz.prog 52 #[Zbm T (.slice Ai T.init.length ci) (.slice Ac T.code.length cc) kv] w fun e w'=>e=.returned (.int .i64 (Zfu T.arch T.code.length T.init))/\Below w.heap.size w w':=by
 rcases Zjc ha with h | h
 ·have:=Zzh ci cc h hT;rwa [<- h] at this
 ·have:=Zxa ci cc h hT;rwa [<- h] at this
theorem Z4e (ci cc:Nat)(hT:Zb4 w T Ai Ac kv):Calls Tryz.prog 53 #[Zbm T (.slice Ai T.init.length ci) (.slice Ac T.code.length cc) kv] w fun e w'=>e=.returned (.int .i64 (Zj8 T))/\Below w.heap.size w w':=by
 have HT:=Zh hT
 have hcl:=hT.clen
 have HBX:=Zh (Blk.new w 32 #[.int .i64 T.arch,.string ⟨T.name.toArray⟩,.string ⟨T.cycle.toArray⟩,.slice Ai T.init.length ci,.slice Ac T.code.length cc,.int .i64 T.q,.int .i64 T.k,.int .i64 T.t,.int .i64 T.r,.string ⟨T.l.toArray⟩,.int .i64 T.v,kv])
 have HB0:=Zh (Zad w (.cells #[.int .i64 T.arch,.string ⟨T.name.toArray⟩,.string ⟨T.cycle.toArray⟩,.slice Ai T.init.length ci,.slice Ac T.code.length cc,.int .i64 T.q,.int .i64 T.k,.int .i64 T.t,.int .i64 T.r,.string ⟨T.l.toArray⟩,.int .i64 T.v,kv] 32 (0,0)))
 clear hT
 go_enter Tryz.func53,Tryz.ntmps53
 go_wp2_with fail
 refine (Zuf T.arch T.q T.k T.t T.r T.l T.v kv T.kids _ HT.out.llen (HT.out.below HB0.out).kids).mono ?_
 rintro e w4 ⟨rfl,hb⟩
 have HBW3:=Zh (Zaa HB0.out hb)
 have HK3:=Zh (HBX.out.go hb)
 clear hb
 have k0:=HK3.out.cell 0;have k1:=HK3.out.cell 1;have k2:=HK3.out.cell 2;have k3:=HK3.out.cell 3;have k4:=HK3.out.cell 4;have k5:=HK3.out.cell 5;have k6:=HK3.out.cell 6;have k7:=HK3.out.cell 7;have k8:=HK3.out.cell 8;have k9:=HK3.out.cell 9;have k10:=HK3.out.cell 10;have k11:=HK3.out.cell 11
 by_cases hE3:Zbd T.arch T.q T.k T.t T.r T.l T.v T.kids=0
 rotate_left
 ·have HV:=Zh (show Zj8 T=Zbd T.arch T.q T.k T.t T.r T.l T.v T.kids by unfold Zj8;simp [hE3])
  exact m_82
 have XE3:=Zh hE3
 have f3:(Zbd T.arch T.q T.k T.t T.r T.l T.v T.kids != 0)=false:=by simpa using hE3
 clear hE3
 have HKD:=Zh (Zd7.below HT.out.kids (Nat.le_refl _) HBW3.out)
 go_wp2_with (go_at_call 38;refine (Z54 w.heap.size kv HBW3.out.size HKD.out HT.out.llen).mono ?_;rw [show Zlt T.q T.k T.t T.r T.l T.v T.kids=Za8 T from rfl];rintro e w5 ⟨Au,cu,rfl,hths,hb⟩;have HBW4:=Zh (Zaa HBW3.out hb);have HK4:=Zh (HK3.out.go hb);have HTH:=Zh hths.1;clear hb hths)
 have htl:=Zet T
 clear k0 k1 k2 k3 k4 k5 k6 k7 k8 k9 k10 k11
 have hs5:w.heap.size<w5.heap.size:=HK4.out.lt
 go_loopw [6] (fun i wr=>∃ k:Nat,k<=(Za8 T).length/\i=.int .i64 k/\((Za8 T).take k).any (fun x=>decide ((T.code.length:Int)<=x.1))=false/\Below w5.heap.size w5 wr) (fun i _=>(Za8 T).length - (intOf i).toNat)
 case atStart=>exact⟨0,Nat.zero_le _,rfl,by simp,Below.refl _ _⟩
 case round=>
  obtain⟨k,hk,rfl,hno,hb⟩:=hrel
  have HNO:=Zh hno
  have HBR:=Zh hb
  have hzr:=hb.size
  have hsw:w.heap.size<wr.heap.size:=by omega
  have HKR:=Zh (HK4.out.go hb)
  have HBWR:=Zh (Zaa HBW4.out hb)
  clear hno hb
  by_cases hlt:k<(Za8 T).length
  ·have ex:=List.getElem?_eq_getElem hlt
   obtain⟨x,hx⟩:∃ x,(Za8 T)[k]=x:=⟨_,rfl⟩
   rw [hx] at ex
   obtain⟨b,o,rfl,c0,c1,c2⟩:=Zyg (HTH.out.below HBR.out) ex
   have hbl:b<wr.heap.size:=World.block_lt_of_cell? wr _ c0
   have k4:=HKR.out.cell 4
   have HX:=Zh ex
   have hkl:(k:Int)<((Za8 T).length:Int):=by omega
   clear ex hx c1 c2
   by_cases hbad:(T.code.length:Int)<=x.1
   ·have HV:=Zh (show Zj8 T=80 by unfold Zj8;rw [XE3.out,show (Za8 T).any (fun x=>decide ((T.code.length:Int)<=x.1))=true from List.any_eq_true.2 ⟨x,List.mem_of_getElem? HX.out,by simpa using hbad⟩];rfl)
    go_wp2_with fail
    go_quiet (fail)
    go_wp2_with fail
    go_ret
    exact⟨Zah HV.out.symm,Zan HBWR.out _⟩
   ·have hbad2:x.1<(T.code.length:Int):=by omega
    have HNX:=Zh (show ((Za8 T).take (k+1)).any (fun x=>decide ((T.code.length:Int)<=x.1))=false by
     obtain⟨h1,h2⟩:=List.getElem?_eq_some_iff.1 HX.out
     rw [List.take_succ_eq_append_getElem h1,List.any_append,HNO.out,h2];simp;omega)
    go_wp2_with fail
    go_quiet (fail)
    go_wp2_with fail
    go_roundw
    case rel=>exact⟨k+1,by omega,by go_num,HNX.out,Zan HBR.out _⟩
    case measure=>simp [intOf];omega
  ·have HANY:=Zh (show (Za8 T).any (fun x=>decide ((T.code.length:Int)<=x.1))=false by have:=HNO.out;rwa [List.take_of_length_le (by omega)] at this)
   have HV:=Zh (show Zj8 T=0 by unfold Zj8;rw [XE3.out,HANY.out];rfl)
   go_wp2_with fail
   go_ret
   exact⟨Zah HV.out.symm,HBWR.out⟩
theorem Zqe (ci cc:Nat)(hT:Zb4 w T Ai Ac kv):Calls Tryz.prog 15 #[Zbm T (.slice Ai T.init.length ci) (.slice Ac T.code.length cc) kv] w fun e w'=>e=.returned (.int .i64 (Za5 T))/\Below w.heap.size w w':=by
 have HT:=Zh hT
 have HTI:=Zh (fun w=>Z1i ⟨T.name.toArray⟩ w hT.nlen)
 have HCY:=Zh (fun w=>Z2f ⟨T.cycle.toArray⟩ w hT.ylen)
 have hcl:=hT.clen
 have HBX:=Zh (Blk.new w 32 #[.int .i64 T.arch,.string ⟨T.name.toArray⟩,.string ⟨T.cycle.toArray⟩,.slice Ai T.init.length ci,.slice Ac T.code.length cc,.int .i64 T.q,.int .i64 T.k,.int .i64 T.t,.int .i64 T.r,.string ⟨T.l.toArray⟩,.int .i64 T.v,kv])
 have HB0:=Zh (Zad w (.cells #[.int .i64 T.arch,.string ⟨T.name.toArray⟩,.string ⟨T.cycle.toArray⟩,.slice Ai T.init.length ci,.slice Ac T.code.length cc,.int .i64 T.q,.int .i64 T.k,.int .i64 T.t,.int .i64 T.r,.string ⟨T.l.toArray⟩,.int .i64 T.v,kv] 32 (0,0)))
 clear hT
 rw [Zv6]
 obtain⟨ab,hab⟩:∃ ab,Zd0 T.arch=ab:=⟨_,rfl⟩
 have HAB:=Zh hab
 rw [hab]
 clear hab
 cases ab with
 | false=>
  go_enter Tryz.func15,Tryz.ntmps15
  go_wp2_with (go_at_call 48;refine (Zq7 _ _).mono ?_;rw [HAB.out];rintro e w' ⟨rfl,rfl⟩)
  go_ret
  exact⟨by simp,HB0.out⟩
 | true=>
  obtain⟨tb,htb⟩:∃ tb,Zgx T.name=tb:=⟨_,rfl⟩
  obtain⟨cb,hcb⟩:∃ cb,Ze1 T.cycle=cb:=⟨_,rfl⟩
  have HTB:=Zh htb
  have HCB:=Zh hcb
  rw [htb,hcb]
  clear htb hcb
  by_cases htc:(tb&&cb)=false
  ·have hV:(if (true:Bool)=false then (5:Int) else if (tb&&cb)=false then 130 else if Zfe T.arch T.code≠0 then Zfe T.arch T.code else if Zfu T.arch T.code.length T.init≠0 then Zfu T.arch T.code.length T.init else if Zj8 T≠0 then Zj8 T else if 64<(Zdl (Zel T)).length then 2 else 0)=130:=by rw [htc];simp
   rw [hV]
   clear hV
   cases tb
   ·go_enter Tryz.func15,Tryz.ntmps15
    go_wp2_with (first
     | (go_at_call 48;refine (Zq7 _ _).mono ?_;rw [HAB.out];rintro e w' ⟨rfl,rfl⟩)
     | (go_at_call 49;refine (HTI.out _).mono ?_;(try rw [Zk8]);rw [HTB.out];rintro e w' ⟨rfl,rfl⟩))
    go_ret
    exact⟨rfl,HB0.out⟩
   ·cases cb
    ·go_enter Tryz.func15,Tryz.ntmps15
     go_wp2_with (first
      | (go_at_call 48;refine (Zq7 _ _).mono ?_;rw [HAB.out];rintro e w' ⟨rfl,rfl⟩)
      | (go_at_call 49;refine (HTI.out _).mono ?_;(try rw [Zk8]);rw [HTB.out];rintro e w' ⟨rfl,rfl⟩)
      | (go_at_call 50;refine (HCY.out _).mono ?_;(try rw [Zk8]);rw [HCB.out];rintro e w' ⟨rfl,rfl⟩))
     go_ret
     exact⟨rfl,HB0.out⟩
    ·cases htc
  ·obtain⟨rfl,rfl⟩:tb=true/\cb=true:=by cases tb <;> cases cb <;> simp at htc ⊢
   clear htc
   have hV:(if (true:Bool)=false then (5:Int) else if (true&&true)=false then 130 else if Zfe T.arch T.code≠0 then Zfe T.arch T.code else if Zfu T.arch T.code.length T.init≠0 then Zfu T.arch T.code.length T.init else if Zj8 T≠0 then Zj8 T else if 64<(Zdl (Zel T)).length then 2 else 0)=if Zfe T.arch T.code≠0 then Zfe T.arch T.code else if Zfu T.arch T.code.length T.init≠0 then Zfu T.arch T.code.length T.init else if Zj8 T≠0 then Zj8 T else if 64<(Zdl (Zel T)).length then 2 else 0:=by simp
   rw [hV]
   clear hV
   obtain⟨V,hVV⟩:∃ V,(if Zfe T.arch T.code≠0 then Zfe T.arch T.code else if Zfu T.arch T.code.length T.init≠0 then Zfu T.arch T.code.length T.init else if Zj8 T≠0 then Zj8 T else if 64<(Zdl (Zel T)).length then (2:Int) else 0)=V:=⟨_,rfl⟩
   have HV:=Zh hVV
   rw [hVV]
   clear hVV
   go_enter Tryz.func15,Tryz.ntmps15
   go_wp2_with (first
    | (go_at_call 48;refine (Zq7 _ _).mono ?_;rw [HAB.out];rintro e w' ⟨rfl,rfl⟩)
    | (go_at_call 49;refine (HTI.out _).mono ?_;(try rw [Zk8]);rw [HTB.out];rintro e w' ⟨rfl,rfl⟩)
    | (go_at_call 50;refine (HCY.out _).mono ?_;(try rw [Zk8]);rw [HCB.out];rintro e w' ⟨rfl,rfl⟩))
   refine (Z3z ci cc HAB.out (HT.out.below HB0.out)).mono ?_
   rintro e w2 ⟨rfl,hb⟩
   have HBW1:=Zh (Zaa HB0.out hb)
   have HK1:=Zh (HBX.out.go hb)
   clear hb
   have k0:=HK1.out.cell 0;have k1:=HK1.out.cell 1;have k2:=HK1.out.cell 2;have k3:=HK1.out.cell 3;have k4:=HK1.out.cell 4;have k5:=HK1.out.cell 5;have k6:=HK1.out.cell 6;have k7:=HK1.out.cell 7;have k8:=HK1.out.cell 8;have k9:=HK1.out.cell 9;have k10:=HK1.out.cell 10;have k11:=HK1.out.cell 11
   by_cases hE1:Zfe T.arch T.code=0
   rotate_left
   ·have HR:=Zh (show V=Zfe T.arch T.code by rw [<- HV.out,if_pos hE1])
    have f3:(Zfe T.arch T.code != 0)=true:=by simpa using hE1
    have f4:(Zfe T.arch T.code == 0)=false:=by simpa using hE1
    go_wp2_with fail
    go_ret
    exact⟨Zah HR.out.symm,HBW1.out⟩
   have XE1:=Zh hE1
   have f1:(Zfe T.arch T.code != 0)=false:=by simpa using hE1
   clear hE1
   go_wp2_with fail
   refine (Z5a ci cc HAB.out (HT.out.below HBW1.out)).mono ?_
   rintro e w3 ⟨rfl,hb⟩
   have HBW2:=Zh (Zaa HBW1.out hb)
   have HK2:=Zh (HK1.out.go hb)
   clear hb k0 k1 k2 k3 k4 k5 k6 k7 k8 k9 k10 k11
   have k0:=HK2.out.cell 0;have k1:=HK2.out.cell 1;have k2:=HK2.out.cell 2;have k3:=HK2.out.cell 3;have k4:=HK2.out.cell 4;have k5:=HK2.out.cell 5;have k6:=HK2.out.cell 6;have k7:=HK2.out.cell 7;have k8:=HK2.out.cell 8;have k9:=HK2.out.cell 9;have k10:=HK2.out.cell 10;have k11:=HK2.out.cell 11
   by_cases hE2:Zfu T.arch T.code.length T.init=0
   rotate_left
   ·have HR:=Zh (show V=Zfu T.arch T.code.length T.init by rw [<- HV.out,if_neg (by simp [XE1.out]),if_pos hE2])
    have f3:(Zfu T.arch T.code.length T.init != 0)=true:=by simpa using hE2
    have f4:(Zfu T.arch T.code.length T.init == 0)=false:=by simpa using hE2
    go_wp2_with fail
    go_ret
    exact⟨Zah HR.out.symm,HBW2.out⟩
   have XE2:=Zh hE2
   have f2:(Zfu T.arch T.code.length T.init != 0)=false:=by simpa using hE2
   clear hE2
   go_wp2_with fail
   refine (Z4e ci cc (HT.out.below HBW2.out)).mono ?_
   rintro e w4 ⟨rfl,hb⟩
   have HBW3:=Zh (Zaa HBW2.out hb)
   have HK3:=Zh (HK2.out.go hb)
   clear hb k0 k1 k2 k3 k4 k5 k6 k7 k8 k9 k10 k11
   have k0:=HK3.out.cell 0;have k1:=HK3.out.cell 1;have k2:=HK3.out.cell 2;have k3:=HK3.out.cell 3;have k4:=HK3.out.cell 4;have k5:=HK3.out.cell 5;have k6:=HK3.out.cell 6;have k7:=HK3.out.cell 7;have k8:=HK3.out.cell 8;have k9:=HK3.out.cell 9;have k10:=HK3.out.cell 10;have k11:=HK3.out.cell 11
   by_cases hE3:Zj8 T=0
   rotate_left
   ·have HR:=Zh (show V=Zj8 T by rw [<- HV.out,if_neg (by simp [XE1.out]),if_neg (by simp [XE2.out]),if_pos hE3])
    have f3:(Zj8 T != 0)=true:=by simpa using hE3
    have f4:(Zj8 T == 0)=false:=by simpa using hE3
    go_wp2_with fail
    go_ret
    exact⟨Zah HR.out.symm,HBW3.out⟩
   have XE3:=Zh hE3
   have f3:(Zj8 T != 0)=false:=by simpa using hE3
   clear hE3
   by_cases h64:64<(Zdl (Zel T)).length
   ·have HR:=Zh (show V=2 by rw [<- HV.out,if_neg (by simp [XE1.out]),if_neg (by simp [XE2.out]),if_neg (by simp [XE3.out]),if_pos h64])
    exact m_76
   ·have HR:=Zh (show V=0 by rw [<- HV.out,if_neg (by simp [XE1.out]),if_neg (by simp [XE2.out]),if_neg (by simp [XE3.out]),if_neg h64])
    exact m_76
end
end
end Go.Proofs.YtoegmdnfbemppaaGreatDoor
