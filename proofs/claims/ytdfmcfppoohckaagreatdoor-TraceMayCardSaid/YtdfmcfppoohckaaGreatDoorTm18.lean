/- Layer 10: the program's Links. -/
import Derived.Test.YtdfmcfppoohckaaGreatDoorTm17

namespace Go.Proofs.YtdfmcfppoohckaaGreatDoor
open Go.RowKit
open Go.Maps
def Z08 (k n:Nat):List Int:=List.replicate k (-1)++List.replicate (n - k) 0
theorem Zzi {k n:Nat}(h:k<n):(Z08 k n).set k (-1)=Z08 (k+1) n:=by
 unfold Z08;rw [List.set_append_right _ _ (by simp)];simp only [List.length_replicate,Nat.sub_self];rw [show n - k=(n - (k+1))+1 by omega,List.replicate_succ,List.set_cons_zero,List.replicate_succ',List.append_assoc];rfl
def Zep (c:List Ins)(j:Nat)(s:List UInt8):Option Nat:=((c.drop j).findIdx? (Zcp s)).map (·+j)
theorem Zvs (c:List Ins)(s:List UInt8):Zep c c.length s=none:=by simp [Zep]
theorem Zlp {c:List Ins}{k:Nat}{x:Ins}(h:c[k]?=some x)(s:List UInt8):Zep c k s=if Zcp s x then some k else Zep c (k+1) s:=by
 obtain⟨h1,rfl⟩:=List.getElem?_eq_some_iff.1 h;unfold Zep;rw [List.drop_eq_getElem_cons h1,List.findIdx?_cons]
 split
 ·simp
 ·cases (c.drop (k+1)).findIdx? (Zcp s) <;> simp;omega
theorem Zvt {c:List Ins}{k:Nat}{x:Ins}(h:c[k]?=some x)(hr:(x.op == 12)=true)(s:List UInt8):Zep c k s=if s=x.label then some k else Zep c (k+1) s:=by
 rw [Zlp h];by_cases e:s=x.label
 ·subst e;simp [Zcp,hr]
 ·have e2:¬ x.label=s:=fun h=>e h.symm
  simp [Zcp,e,e2]
theorem Zcc:Keyed Tryz.prog 9:=Keyed.of_law (Go.WideMaps.string_law Tryz.underlying9)
def Z0p (w:World)(b n:Nat)(f:List UInt8->Option Nat):Prop:=∃ D:DataW Unit,w.ownsMap Tryz.prog 9 (plainElem Tryz.prog 3) b n D/\IsMap D/\∀ s,Maps.has D (.string s)=(f s).isSome/\D.atKey (.string s) (.lit (.int .i64 0))=.lit (.int .i64 (((f s).getD 0:Nat):Int))
theorem Z0p.of_obj {w:World}{b:Nat}(h:Zgz w b (.map #[] 0)):Z0p w b 0 (fun _=>none):=by
 have hm:=World.ownsMap_made (H:=Unit) (P:=Tryz.prog) (R:=plainElem Tryz.prog 3) (k:=9) w;obtain⟨es,clock,hb,F⟩:=hm;rw [heap_alloc_new] at hb;simp only [Option.some.injEq,Obj.map.injEq] at hb;obtain⟨rfl,rfl⟩:=hb;exact⟨.map [],⟨_,_,h,F⟩,isMap_empty,fun s=>⟨rfl,WideAt.atKey_none _ (fun p hp=>by cases hp)⟩⟩
theorem Z0p.put {D:DataW Unit}{f:List UInt8->Option Nat}{k:Nat}{s:List UInt8}(hD:IsMap D)(h:∀ s,Maps.has D (.string s)=(f s).isSome/\D.atKey (.string s) (.lit (.int .i64 0))=.lit (.int .i64 (((f s).getD 0:Nat):Int))){g:List UInt8->Option Nat}(hg:∀ r,g r=if r=s then some k else f r) :
  IsMap (D.put (.string s) (.lit (.int .i64 (k:Int))))/\∀ r,Maps.has (D.put (.string s) (.lit (.int .i64 (k:Int)))) (.string r)=(g r).isSome/\(D.put (.string s) (.lit (.int .i64 (k:Int)))).atKey (.string r) (.lit (.int .i64 0))=.lit (.int .i64 (((g r).getD 0:Nat):Int)):=by
 refine⟨hD.put _ _,fun r=>?_⟩;by_cases e:r=s
 ·subst e;rw [has_put_same hD (show WideAt.IsKeyLit (.string r) from trivial),atKey_put_same hD (show WideAt.IsKeyLit (.string r) from trivial),hg];simp
 ·rw [has_put_other (fun e2=>e (by injection e2)),atKey_put_other (fun e2=>e (by injection e2)),hg,if_neg e];exact h r
def Zzj (c:List Ins)(k:Nat):Int:=match c[k]? with
 | some x=>if x.op == 11 then ((((Zep c 0 x.label).getD 0:Nat)):Int) else -1
 | none=>-1
def Zr7 (c:List Ins)(k n:Nat):List Int:=(List.range k).map (Zzj c)++List.replicate (n - k) (-1)
theorem Zm6 {c:List Ins}{k:Nat}{x:Ins}(h:c[k]?=some x):Zzj c k=if x.op == 11 then ((((Zep c 0 x.label).getD 0:Nat)):Int) else -1:=by simp [Zzj,h]
theorem Z2y {c:List Ins}{k n:Nat}(h:k<n):(Zr7 c k n)[k]?=some (-1):=by
 unfold Zr7;rw [List.getElem?_append_right (by simp)];simp only [List.length_map,List.length_range,Nat.sub_self];rw [show n - k=(n - k - 1)+1 by omega,List.replicate_succ];rfl
theorem Zr8 {c:List Ins}{k n:Nat}(h:k<n):(Zr7 c k n).set k (Zzj c k)=Zr7 c (k+1) n:=by
 unfold Zr7;rw [List.set_append_right _ _ (by simp)];simp only [List.length_map,List.length_range,Nat.sub_self];rw [show n - k=(n - (k+1))+1 by omega,List.replicate_succ,List.set_cons_zero,List.range_succ,List.map_append,List.append_assoc];rfl
theorem Zo9 {c:List Ins}{k n:Nat}(h:k<n)(hu:Zzj c k=-1):Zr7 c k n=Zr7 c (k+1) n:=by
 rw [<- Zr8 h,hu];unfold Zr7;rw [List.set_append_right _ _ (by simp)];simp only [List.length_map,List.length_range,Nat.sub_self];rw [show n - k=(n - k - 1)+1 by omega,List.replicate_succ,List.set_cons_zero]
theorem Zei {H:Type}{w:World}{P:Program}{k:TypeId}{R:Value->Option (DataW H×List MemPlace)}{b n:Nat}{D:DataW H}(h:w.ownsMap P k R b n D)(o:Obj):(w.alloc o).ownsMap P k R b n D:=by
 obtain⟨es,clock,hb,F⟩:=h;have hlt:b<w.heap.size:=(Array.getElem?_eq_some_iff.1 hb).1;exact⟨es,clock,(Below.heap_alloc w o b hlt).trans hb,F⟩
theorem findIdx?_split {α:Type}{l:List α}{p:α->Bool}{m:Nat}(h:l.findIdx? p=some m):m<l.length/\(∃ x,l[m]?=some x/\p x=true)/\∀ j x,j<m->l[j]?=some x->p x=false:=by
 rw [List.findIdx?_eq_some_iff_getElem] at h;obtain⟨h1,h2,h3⟩:=h;refine⟨h1,⟨_,List.getElem?_eq_getElem h1,h2⟩,fun j x hj hx=>?_⟩;obtain⟨h4,rfl⟩:=List.getElem?_eq_some_iff.1 hx;simpa using h3 j hj
theorem Zlo {c:List Ins}{k:Nat}{x:Ins}(h:c[k]?=some x)(h12:(x.op == 12)=true):∃ m,Zep c 0 x.label=some m/\m<=k/\(c.take k).any (Zcp x.label)=decide (m≠k):=by
 have hx:Zcp x.label x=true:=by simp [Zcp,h12]
 cases hf:c.findIdx? (Zcp x.label) with
 | none=>
  rw [List.findIdx?_eq_none_iff] at hf;have:=hf x (List.mem_of_getElem? h);rw [hx] at this;cases this
 | some m=>
  obtain⟨h1,⟨y,hy,hyl⟩,h3⟩:=findIdx?_split hf;have hmk:m<=k:=by
   by_cases e:m<=k
   ·exact e
   ·have:=h3 k x ω h;rw [hx] at this;cases this
  refine⟨m,by simp [Zep,hf],hmk,?_⟩;by_cases e:m=k
  ·subst e;simp only [ne_eq,not_true_eq_false,decide_false];rw [List.any_eq_false];intro z hz;obtain⟨i,hi⟩:=List.getElem?_of_mem hz;rw [List.getElem?_take] at hi
   split at hi
   ·rename_i hlt;rw [h3 i z hlt hi];simp
   ·cases hi
  ·rw [show decide (m≠k)=true by simpa using e,List.any_eq_true];refine⟨y,?_,hyl⟩;apply List.mem_of_getElem? (i:=m);rw [List.getElem?_take,if_pos ω];exact hy
theorem Zti {c:List Ins}{s:List UInt8}(h:Zep c 0 s=none)(j:Nat):(c.drop j).any (Zcp s)=false:=by
 simp only [Zep,List.drop_zero,Option.map_eq_none_iff,List.findIdx?_eq_none_iff] at h;rw [List.any_eq_false];intro x hx;rw [h x (List.mem_of_mem_drop hx)];simp
theorem Zi6 {H:Type}{w w':World}{P:Program}{k:TypeId}{R:Value->Option (DataW H×List MemPlace)}{b n:Nat}{D:DataW H}(h:w.ownsMap P k R b n D)(hb:Below w.heap.size w w'):w'.ownsMap P k R b n D:=by
 obtain⟨es,clock,ho,F⟩:=h;exact⟨es,clock,(hb.block b (Array.getElem?_eq_some_iff.1 ho).1).trans ho,F⟩
theorem Zqz {H:Type}{w:World}{P:Program}{k:TypeId}{R:Value->Option (DataW H×List MemPlace)}{b n:Nat}{D:DataW H}(h:w.ownsMap P k R b n D){p:Addr}(hp:b≠p.block)(u:Value):(w.setCell p u).ownsMap P k R b n D:=by
 obtain⟨es,clock,ho,F⟩:=h;exact⟨es,clock,(Below.heap_setCell w p u b hp).trans ho,F⟩
theorem Zqh {l:List Ins}{n:Nat}(hn:l.length=n)(A:Option Addr)(cap:Nat)(s:List UInt8)(p:Nat)(w:World)(hlen:n<=9223372036854775806)(hA:Zco w A l)(hp:w.cell? ⟨p,6,none⟩=some (.string ⟨s.toArray⟩)) :
  Calls Tryz.prog 140 #[.slice A n cap,.func (.func 141) #[] #[.pointer (some ⟨p,0,none⟩)]] w (RB w (.bool (l.any (Zcp s)))):=by
 subst hn;exact Z4x l A cap s p w hlen hA hp
theorem Zco.below' {w w':World}{b o B:Nat}{c:List Ins}(h:Zco w (some ⟨b,o,none⟩) c)(hb:Below B w w')(hB:B=w.heap.size:=by rfl):Zco w' (some ⟨b,o,none⟩) c:=by
 subst hB;exact h.below hb
theorem Z2x {c:List Ins}(hl:∀ j,j<c.length->Zki c j=false){k:Nat}(hk:k<c.length):Zzj c k=Zqu c k:=by
 have ex:=List.getElem?_eq_getElem hk;obtain⟨x,hx⟩:∃ x,c[k]=x:=⟨_,rfl⟩;rw [hx] at ex;have hb:=hl k hk;rw [Zdm ex] at hb;rw [Zm6 ex];simp only [Zqu,ex];cases h11:(x.op == 11)
 ·simp
 ·simp only [h11,Bool.true_and,Bool.or_eq_false_iff,Bool.not_eq_eq_eq_not,Bool.not_false] at hb;simp only [if_true]
  congr 1
  have hany:=hb.2;cases hf:(c.drop (k+1)).findIdx? (Zcp x.label) with
  | none=>
   rw [List.findIdx?_eq_none_iff] at hf;rw [List.any_eq_true] at hany;obtain⟨y,hy,hyl⟩:=hany;rw [hf y hy] at hyl;cases hyl
  | some i=>
   obtain⟨h1,⟨y,hy,hyl⟩,h3⟩:=findIdx?_split hf;have hi:(c.drop (k+1)).findIdx (Zcp x.label)=i:=by
    rw [List.findIdx?_eq_some_iff_findIdx_eq] at hf;exact hf.2
   rw [hi];rw [List.getElem?_drop] at hy;have hlab:y.label=x.label:=by simp [Zcp] at hyl;exact hyl.2
   have hop:(y.op == 12)=true:=by simp [Zcp] at hyl;simp [hyl.1]
   obtain⟨m,hm,hmk,hbad⟩:=Zlo hy hop;have hb2:=hl (k+1+i) (by simp at h1;omega);rw [Zdm hy,hbad,hop] at hb2;simp at hb2;rw [hlab] at hm;rw [hm];simp [hb2.1]
theorem Z2w {c:List Ins}(he:(Zfm c).1=0)(hl:∀ j,j<c.length->Zki c j=false):Zm5 c=Zr7 c c.length c.length:=by
 unfold Zm5 Zr7;rw [if_pos he];simp only [Nat.sub_self,List.replicate_zero,List.append_nil];apply List.map_congr_left;intro k hk;exact (Z2x hl (by simpa using hk)).symm
def Zf5 (c:List Ins)(w:World)(e:Ending)(w':World):Prop:=
 (((Zfm c).1≠0/\e=.returned (.tuple #[.slice none 0 0,.int .i64 (Zfm c).1,.int .i64 ((Zfm c).2:Int)]))\/
   ((Zfm c).1=0/\∃ g,w.heap.size<=g/\e=.returned (.tuple #[.slice (some ⟨g,0,none⟩) c.length c.length,.int .i64 0,.int .i64 0])/\Blk w' g 3 (Zbo (Zm5 c))))/\Below w.heap.size w w'
theorem Zf5.bad {c:List Ins}{w w':World}{e:Ending}(h:(Zfm c).1≠0)(he:e=.returned (.tuple #[.slice none 0 0,.int .i64 (Zfm c).1,.int .i64 ((Zfm c).2:Int)]))(hb:Below w.heap.size w w'):Zf5 c w e w':=⟨Or.inl ⟨h,he⟩,hb⟩
theorem Zrq (x:Ins)(w:World)(h:x.label.length<=9223372036854775807):Calls Tryz.prog 94 #[Z05 x] w (RB w (.int .i64 (Zb4 (Zkw x)))):=
 Z6x x.op x.d x.a x.b x.imm ⟨x.loc.toArray⟩ ⟨x.label.toArray⟩ x.fence w h
theorem Z2v {k n:Nat}(h:k<n):(Z08 k n)[k]?=some 0:=by
 unfold Z08;rw [List.getElem?_append_right (by simp)];simp only [List.length_replicate,Nat.sub_self];rw [show n - k=(n - k - 1)+1 by omega,List.replicate_succ];rfl
section
set_option maxHeartbeats 4000000
set_option maxRecDepth 100000
theorem Z06 (c:List Ins)(A:Option Addr)(cap:Nat)(w:World)(hlen:c.length<=256)(hcap:c.length<=cap)(hA:Zco w A c) :
  Calls Tryz.prog 95 #[.slice A c.length cap] w (Zf5 c w):=by
 have HA:=Zh hA;have hmm:=@run_makeMap Tryz.prog;have hmk:=Znj c.length ω;have h256:¬ (256:Int)<(c.length:Int):=ω;clear hA;go_enter Tryz.func95,Tryz.ntmps95
 go_wp2_with fail
 have HG:=Zh (Blk.new (w.alloc (.map #[] 0)) 3 (Zbo (List.replicate c.length 0)));have HM:=Zh ((Zgz.new w (.map #[] 0)).alloc (.cells (Zbo (List.replicate c.length 0)) 3 (0,0)));go_loopw [23] (fun i wr=>∃ k:Nat,k<=c.length/\i=.int .i64 k/\(∀ j,j<k->Zun c j=false)/\Blk wr (w.heap.size+1) 3 (Zbo (Z08 k c.length))/\Zgz wr w.heap.size (.map #[] 0)/\Below w.heap.size w wr) (fun i _=>c.length - (intOf i).toNat)
 case atStart=>exact⟨0,Nat.zero_le _,rfl,fun j hj=>absurd hj (Nat.not_lt_zero _),by simpa [Z08] using HG.o,HM.o,Zao _ _ _⟩
 case round=>
  obtain⟨k,hk,rfl,hno,hg,hm,hb⟩:=hrel;have HNO:=Zh hno;have HGR:=Zh hg;have HMR:=Zh hm;have HBR:=Zh hb;have hzr:=hg.lt;clear hno hg hm hb HG HM;by_cases hlt:k<c.length
  ·have ex:=List.getElem?_eq_getElem hlt;obtain⟨x,hx⟩:∃ x,c[k]=x:=⟨_,rfl⟩;rw [hx] at ex;obtain⟨b,o,rfl,hC⟩:=HA.o.at_ ex;have hbl:=hC.lt;obtain⟨c0,c1,c2,c3,c4,c5,c6,c7,l1,l2⟩:=hC.go HBR.o;have HX:=Zh ex;have HL2:=Zh l2;obtain⟨r,hr⟩:∃ r,Zkw x=r:=⟨_,rfl⟩;have HR:=Zh hr;clear hx ex hC hr;have HB1:=Zh (Zad wr (.cells #[.int .i64 x.op,.int .i64 x.d,.int .i64 x.a,.int .i64 x.b,.int .i64 x.imm,.string ⟨x.loc.toArray⟩,.string ⟨x.label.toArray⟩,.int .i64 x.fence] 118 (0,0)));have hkl:(k:Int)<(c.length:Int):=ω;cases r
   ·go_wp2_with (go_at_call 94;refine (Zrq x _ HL2.o).mono ?_;rw [HR.o];rintro e w2 ⟨rfl,hb2⟩;have HB2:=Zh (Zaa HB1.o hb2);clear hb2)
    refine bodyPost_ret (v:=.tuple #[.slice none 0 0,.int .i64 91,.int .i64 (k:Int)]) (by simp [results,Tryz.results95,go_sem]) rfl ?_;have e1:=Zr6 hlen hlt (by rw [Zmk HX.o,HR.o];rfl) HNO.o;exact Zf5.bad (by rw [e1];simp) (by rw [e1]) (Zaa HBR.o HB2.o)
   ·go_wp2_with (first | (go_at_call 94;refine (Zrq x _ HL2.o).mono ?_;rw [HR.o];rintro e w2 ⟨rfl,hb2⟩;have HB2:=Zh (Zaa HB1.o hb2);have HG2:=Zh (HGR.o.go HB2.o);have hc2:=(HG2.o.cell k).trans (Zoj (Z2v hlt));have hf2:=HG2.o.frozen k;clear hb2))
    go_roundw
    case rel=>exact⟨k+1,ω,by go_num,fun j hj=>by (rcases Nat.lt_succ_iff_lt_or_eq.1 hj with h | h);exact HNO.o j h;rw [h,Zmk HX.o,HR.o];rfl,by have:=HG2.o.set_ k (.int .i64 (-1));rwa [Zll,Zzi hlt] at this,((HMR.o.go HB2.o).far (by simp) _),(Zaa HBR.o HB2.o).setCell (by simp) _⟩
    case measure=>exact msr
  ·go_wp2_with fail
   have hkn:k=c.length:=ω;subst hkn;have HOK:=Zh HNO.o;have HG0:=Zh (by simpa [Z08] using HGR.o:Blk wr (w.heap.size+1) 3 (Zbo (List.replicate c.length (-1))));have HMS:=Zh (Z0p.of_obj HMR.o);have HBW:=Zh HBR.o;clear HNO HGR HMR HBR hk hlt;obtain⟨wa,hwa⟩:∃ wa:World,wa=wr:=⟨_,rfl⟩;subst hwa;go_loopw [9] (fun i wr=>∃ j cnt:Nat,j<=c.length/\i=.int .i64 ((j:Int) - 1)/\cnt<=c.length - j/\Z0p wr w.heap.size cnt (Zep c j)/\Blk wr (w.heap.size+1) 3 (Zbo (List.replicate c.length (-1)))/\Below w.heap.size w wr) (fun i _=>(intOf i+1).toNat)
   case atStart=>exact⟨c.length,0,Nat.le_refl _,rfl,Nat.zero_le _,by have:=HMS.o;rwa [show (fun _=>none)=Zep c c.length from funext fun s=>(Zvs c s).symm] at this,HG0.o,HBW.o⟩
   case round=>
    obtain⟨j,cnt,hj,rfl,hcnt,hms,hg,hb⟩:=hrel;obtain⟨D,hown,hD,hat⟩:=hms;have HOWN:=Zh hown;have HD:=Zh hD;have HAT:=Zh hat;have HGR:=Zh hg;have HBR:=Zh hb;have hzr:=hg.lt;clear hown hD hat hg hb HG0 HMS HBW;by_cases h0:0<j
    ·obtain⟨k,rfl⟩:∃ k,j=k+1:=⟨j - 1,ω⟩;have ex:=List.getElem?_eq_getElem (show k<c.length by omega);obtain⟨x,hx⟩:∃ x,c[k]=x:=⟨_,rfl⟩;rw [hx] at ex;obtain⟨b,o,rfl,hC⟩:=HA.o.at_ ex;have hbl:=hC.lt;obtain⟨c0,c1,c2,c3,c4,c5,c6,c7,l1,l2⟩:=hC.go HBR.o;have HX:=Zh ex;have HKW:=Zh (Go.WideMaps.keyOf_string_mk (P:=Tryz.prog) Tryz.underlying9 (s:=⟨x.label.toArray⟩) (by rw [Zia];unfold maxLen;omega));clear hx ex hC;have hk1:(((k+1:Nat):Int) - 1)=(k:Int):=ω;rw [hk1];clear hk1;have hkl:(k:Int)<(c.length:Int):=ω;obtain⟨r,hr⟩:∃ r,(x.op == 12)=r:=⟨_,rfl⟩;cases r
     ·have HF:=Zh (funext fun s=>(by rw [Zlp HX.o,show Zcp s x=false by simp [Zcp,hr],if_neg (by simp)]:Zep c k s=Zep c (k+1) s))
      go_wp2_with fail
      go_roundw
      case rel=>exact⟨k,cnt,ω,rfl,ω,⟨D,HOWN.o,HD.o,by rw [HF.o];exact HAT.o⟩,HGR.o,HBR.o⟩
      case measure=>simp [intOf]
     ·have HF:=Zh (fun s=>(Zvt HX.o hr s:Zep c k s=if s=x.label then some k else Zep c (k+1) s));have HP:=Zh (Z0p.put HD.o HAT.o HF.o)
      go_wp2_with (at_mapUpdate;refine wpList_mapUpdate_own _ rfl _ _ _ 187 rfl 9 3 Zcc Tryz.underlying187 (plainElem Tryz.prog 3) w.heap.size cnt D rfl HOWN.o (by unfold maxLen;omega) _ _ (.string x.label) rfl rfl HKW.o (.lit (.int .i64 (k:Int))) [] (plainElem_int Tryz.underlying3 (WalkArith.wf_i64 ω)) ?_;intro w1 hown1 hgrow1;have HO1:=Zh hown1;have HG1:=Zh hgrow1;clear hown1 hgrow1)
      go_roundw
      case rel=>exact⟨k,cnt+1,ω,rfl,ω,⟨_,HO1.o,HP.o.1,HP.o.2⟩,HGR.o.only HG1.o ω,HBR.o.grown HG1.o ω (fun j hj=>by cases hj;exact Nat.le_refl _)⟩
      case measure=>simp [intOf]
    ·have hj0:j=0:=ω;subst hj0
     go_wp2_with fail
     have HMS:=Zh (⟨D,HOWN.o,HD.o,HAT.o⟩:Z0p wr w.heap.size cnt (Zep c 0));have HG0:=Zh HGR.o;have HBW:=Zh HBR.o;clear HOWN HD HAT HGR HBR hj hzr;obtain⟨wb,hwb⟩:∃ wb:World,wb=wr:=⟨_,rfl⟩;subst hwb;go_loopw [58] (fun i wr=>∃ k:Nat,k<=c.length/\i=.int .i64 k/\(∀ j,j<k->Zki c j=false)/\Z0p wr w.heap.size cnt (Zep c 0)/\Blk wr (w.heap.size+1) 3 (Zbo (Zr7 c k c.length))/\Below w.heap.size w wr) (fun i _=>c.length - (intOf i).toNat)
     case atStart=>exact⟨0,Nat.zero_le _,rfl,fun j hj=>absurd hj (Nat.not_lt_zero _),HMS.o,by simpa [Zr7] using HG0.o,HBW.o⟩
     case round=>
      obtain⟨k,hk,rfl,hno,hms,hg,hb⟩:=hrel;obtain⟨D,hown,hD,hat⟩:=hms;have HNO:=Zh hno;have HOWN:=Zh hown;have HD:=Zh hD;have HAT:=Zh hat;have HGR:=Zh hg;have HBR:=Zh hb;have hzr:=hg.lt;clear hno hown hD hat hg hb HG0 HMS HBW;by_cases hlt:k<c.length
      ·have ex:=List.getElem?_eq_getElem hlt;obtain⟨x,hx⟩:∃ x,c[k]=x:=⟨_,rfl⟩;rw [hx] at ex;obtain⟨b,o,rfl,hC⟩:=HA.o.at_ ex;have hbl:=hC.lt;obtain⟨c0,c1,c2,c3,c4,c5,c6,c7,l1,l2⟩:=hC.go HBR.o;have HX:=Zh ex;have HKW:=Zh (Go.WideMaps.keyOf_string_mk (P:=Tryz.prog) Tryz.underlying9 (s:=⟨x.label.toArray⟩) (by rw [Zia];unfold maxLen;omega));have hkl:(k:Int)<(c.length:Int):=ω;clear hx ex hC;have HOW2:=Zh (Zei HOWN.o (.cells #[.int .i64 x.op,.int .i64 x.d,.int .i64 x.a,.int .i64 x.b,.int .i64 x.imm,.string ⟨x.loc.toArray⟩,.string ⟨x.label.toArray⟩,.int .i64 x.fence] 118 (0,0)));obtain⟨q,hq⟩:∃ q,Zep c 0 x.label=q:=⟨_,rfl⟩;have HQ:=Zh hq;by_cases h12:x.op=12
       ·have e12:(x.op == 12)=true:=by simp [h12]
        have e11:(x.op == 11)=false:=by simp [h12]
        obtain⟨m,hm,hmk,hbad⟩:=Zlo HX.o e12;have hqm:q=some m:=by rw [<- hq,hm]
        subst hqm;clear hq h12 hm;by_cases hmk2:m=k
        ·have HLB:Hid (Zki c k=false):=Zh (by rw [Zdm HX.o,hbad];simp [hmk2,e11]);have HLU:Hid (Zzj c k=-1):=Zh (by rw [Zm6 HX.o];simp [e11]);have HM:=Zh hbad;subst hmk2;clear hbad hmk
         go_wp2_with (at_lookup;refine wpList_lookup_own_ok_int _ rfl _ _ 187 rfl 9 3 .i64 Zcc Tryz.underlying187 Tryz.underlying3 (Zc0 _) w.heap.size cnt D rfl HOW2.o _ (.string x.label) rfl HKW.o ?_;intro cv hcv hwc;rw [(HAT.o x.label).2,HQ.o] at hcv;rw [(HAT.o x.label).1,HQ.o];simp only [DataW.lit.injEq,Lit.int.injEq,true_and,Option.getD_some] at hcv;subst hcv;clear hwc)
         go_roundw
         case rel=>exact⟨_,_,_,_,_,_,_,_,⟨m+1,ω,rfl,fun j hj=>by (rcases Nat.lt_succ_iff_lt_or_eq.1 hj with h | h);exact HNO.o j h;rw [h];exact HLB.o,⟨D,HOW2.o,HD.o,HAT.o⟩,by rw [<- Zo9 hlt HLU.o];exact HGR.o.alloc _,Zab HBR.o _⟩,rfl,rfl,rfl,rfl,rfl,rfl,rfl,by go_num⟩
         case measure=>exact msr
        ·have HLB:Hid (Zki c k=true):=Zh (by rw [Zdm HX.o,hbad];simp [hmk2,e12]);have em:((m:Int) == (k:Int))=false:=by rw [beq_eq_false_iff_ne];omega
         have em2:((m:Int) != (k:Int))=true:=by rw [bne_iff_ne];omega
         clear hbad hmk hmk2
         go_wp2_with (at_lookup;refine wpList_lookup_own_ok_int _ rfl _ _ 187 rfl 9 3 .i64 Zcc Tryz.underlying187 Tryz.underlying3 (Zc0 _) w.heap.size cnt D rfl HOW2.o _ (.string x.label) rfl HKW.o ?_;intro cv hcv hwc;rw [(HAT.o x.label).2,HQ.o] at hcv;rw [(HAT.o x.label).1,HQ.o];simp only [DataW.lit.injEq,Lit.int.injEq,true_and,Option.getD_some] at hcv;subst hcv;clear hwc)
         exact m_69
       ·have e12:(x.op == 12)=false:=by simp [h12]
        clear h12;by_cases h11:x.op=11
        ·have e11:(x.op == 11)=true:=by simp [h11]
         clear h11 hq;cases q with
         | none=>
          have HLB:Hid (Zki c k=true):=Zh (by rw [Zdm HX.o,Zti HQ.o (k+1)];simp [e11])
          go_wp2_with (at_lookup;refine wpList_lookup_own_ok_int _ rfl _ _ 187 rfl 9 3 .i64 Zcc Tryz.underlying187 Tryz.underlying3 (Zc0 _) w.heap.size cnt D rfl HOW2.o _ (.string x.label) rfl HKW.o ?_;intro cv hcv hwc;rw [(HAT.o x.label).2,HQ.o] at hcv;rw [(HAT.o x.label).1,HQ.o];simp only [DataW.lit.injEq,Lit.int.injEq,true_and,Option.getD_none] at hcv;subst hcv;clear hwc)
          exact m_69
         | some m=>
          have HAL:=Zh (Zad wr (.cells #[.int .i64 x.op,.int .i64 x.d,.int .i64 x.a,.int .i64 x.b,.int .i64 x.imm,.string ⟨x.loc.toArray⟩,.string ⟨x.label.toArray⟩,.int .i64 x.fence] 118 (0,0)));have HDL:=Zh (List.length_drop (i:=k+1) (l:=c));have HDA:=Zh ((Zco.drop (HA.o.below' HBR.o) (k+1)).below HAL.o);have HPL:=Zh (show (wr.alloc (.cells #[.int .i64 x.op,.int .i64 x.d,.int .i64 x.a,.int .i64 x.b,.int .i64 x.imm,.string ⟨x.loc.toArray⟩,.string ⟨x.label.toArray⟩,.int .i64 x.fence] 118 (0,0))).cell? ⟨wr.heap.size,6,none⟩=some (.string ⟨x.label.toArray⟩) from (Blk.new wr 118 #[.int .i64 x.op,.int .i64 x.d,.int .i64 x.a,.int .i64 x.b,.int .i64 x.imm,.string ⟨x.loc.toArray⟩,.string ⟨x.label.toArray⟩,.int .i64 x.fence]).cell 6);obtain⟨r,hr⟩:∃ r,(c.drop (k+1)).any (Zcp x.label)=r:=⟨_,rfl⟩;have HRR:=Zh hr;clear hr;cases r
          ·have HLB:Hid (Zki c k=true):=Zh (by rw [Zdm HX.o,HRR.o];simp [e11]);by_cases hkc:cap=k+1
           ·have HDN:=Zh (show ([]:List Ins).length=c.length - (k+1) by simp;omega)
            go_wp2_with (first | (at_lookup;refine wpList_lookup_own_ok_int _ rfl _ _ 187 rfl 9 3 .i64 Zcc Tryz.underlying187 Tryz.underlying3 (Zc0 _) w.heap.size cnt D rfl HOW2.o _ (.string x.label) rfl HKW.o ?_;intro cv hcv hwc;rw [(HAT.o x.label).2,HQ.o] at hcv;rw [(HAT.o x.label).1,HQ.o];simp only [DataW.lit.injEq,Lit.int.injEq,true_and,Option.getD_some] at hcv;subst hcv;clear hwc) | (go_at_call 140;refine (Zqh HDN.o _ _ _ _ _ ω (Zco.nil _ _) HPL.o).mono ?_;rw [List.any_nil];rintro e w2 ⟨rfl,hb2⟩;have HB2:=Zh (Zaa HAL.o hb2);clear hb2))
            exact m_68
           ·skip
            go_wp2_with (first | (at_lookup;refine wpList_lookup_own_ok_int _ rfl _ _ 187 rfl 9 3 .i64 Zcc Tryz.underlying187 Tryz.underlying3 (Zc0 _) w.heap.size cnt D rfl HOW2.o _ (.string x.label) rfl HKW.o ?_;intro cv hcv hwc;rw [(HAT.o x.label).2,HQ.o] at hcv;rw [(HAT.o x.label).1,HQ.o];simp only [DataW.lit.injEq,Lit.int.injEq,true_and,Option.getD_some] at hcv;subst hcv;clear hwc) | (go_at_call 140;refine (Zqh HDL.o _ _ _ _ _ ω HDA.o HPL.o).mono ?_;rw [HRR.o];rintro e w2 ⟨rfl,hb2⟩;have HB2:=Zh (Zaa HAL.o hb2);clear hb2))
            exact m_68
          ·have HLB:Hid (Zki c k=false):=Zh (by rw [Zdm HX.o,HRR.o];simp [e12]);have hkc:¬ cap=k+1:=fun e=>by have:=HRR.o;rw [List.drop_of_length_le ω] at this;cases this
           have HLU:Hid (Zzj c k=(m:Int)):=Zh (by rw [Zm6 HX.o,HQ.o];simp [e11])
           go_wp2_with (first | (at_lookup;refine wpList_lookup_own_ok_int _ rfl _ _ 187 rfl 9 3 .i64 Zcc Tryz.underlying187 Tryz.underlying3 (Zc0 _) w.heap.size cnt D rfl HOW2.o _ (.string x.label) rfl HKW.o ?_;intro cv hcv hwc;rw [(HAT.o x.label).2,HQ.o] at hcv;rw [(HAT.o x.label).1,HQ.o];simp only [DataW.lit.injEq,Lit.int.injEq,true_and,Option.getD_some] at hcv;subst hcv;clear hwc) | (go_at_call 140;refine (Zqh HDL.o _ _ _ _ _ ω HDA.o HPL.o).mono ?_;rw [HRR.o];rintro e w2 ⟨rfl,hb2⟩;have HB2:=Zh (Zaa HAL.o hb2);have d0:w2.cell? ⟨wr.heap.size,0,none⟩=some (.int .i64 x.op):=((Blk.new wr 118 #[.int .i64 x.op,.int .i64 x.d,.int .i64 x.a,.int .i64 x.b,.int .i64 x.imm,.string ⟨x.loc.toArray⟩,.string ⟨x.label.toArray⟩,.int .i64 x.fence]).go hb2).cell 0;clear hb2;have HG2:=Zh (HGR.o.go HB2.o);have hc2:=(HG2.o.cell k).trans (Zoj (Z2y hlt));have hf2:=HG2.o.frozen k))
           go_roundw
           case rel=>(repeat apply Exists.intro);refine⟨?_,rfl⟩;exact⟨k+1,ω,by go_num,fun j hj=>by (rcases Nat.lt_succ_iff_lt_or_eq.1 hj with h | h);exact HNO.o j h;rw [h];exact HLB.o,⟨D,Zqz (Zi6 HOWN.o HB2.o) (by simp) _,HD.o,HAT.o⟩,by have:=HG2.o.set_ k (.int .i64 (m:Int));rwa [Zll,show (Zr7 c k c.length).set k (m:Int)=Zr7 c (k+1) c.length by rw [<- HLU.o,Zr8 hlt]] at this,(Zaa HBR.o HB2.o).setCell (by simp) _⟩
           case measure=>exact msr
        ·have e11:(x.op == 11)=false:=by simp [h11]
         have HLB:Hid (Zki c k=false):=Zh (by rw [Zdm HX.o];simp [e12,e11]);have HLU:Hid (Zzj c k=-1):=Zh (by rw [Zm6 HX.o];simp [e11]);clear h11 hq;cases q
         all_goals
          go_wp2_with (at_lookup;refine wpList_lookup_own_ok_int _ rfl _ _ 187 rfl 9 3 .i64 Zcc Tryz.underlying187 Tryz.underlying3 (Zc0 _) w.heap.size cnt D rfl HOW2.o _ (.string x.label) rfl HKW.o ?_;intro cv hcv hwc;rw [(HAT.o x.label).2,HQ.o] at hcv;rw [(HAT.o x.label).1,HQ.o];simp only [DataW.lit.injEq,Lit.int.injEq,true_and,Option.getD_some,Option.getD_none] at hcv;subst hcv;clear hwc)
          go_roundw
          case rel=>exact⟨_,_,_,_,_,_,_,_,⟨k+1,ω,rfl,fun j hj=>by (rcases Nat.lt_succ_iff_lt_or_eq.1 hj with h | h);exact HNO.o j h;rw [h];exact HLB.o,⟨D,HOW2.o,HD.o,HAT.o⟩,by rw [<- Zo9 hlt HLU.o];exact HGR.o.alloc _,Zab HBR.o _⟩,rfl,rfl,rfl,rfl,rfl,rfl,rfl,by go_num⟩
          case measure=>exact msr
      ·go_wp2_with fail
       have hkn:k=c.length:=ω;subst hkn;have e1:=Zvv hlen HOK.o HNO.o;refine bodyPost_ret (v:=.tuple #[.slice (some ⟨w.heap.size+1,0,none⟩) c.length c.length,.int .i64 0,.int .i64 0]) (by simp [results,Tryz.results95,go_sem]) rfl ?_;refine⟨Or.inr ⟨by rw [e1],w.heap.size+1,ω,rfl,?_⟩,HBR.o⟩;rw [Z2w (by rw [e1]) HNO.o];exact HGR.o
end
end Go.Proofs.YtdfmcfppoohckaaGreatDoor
