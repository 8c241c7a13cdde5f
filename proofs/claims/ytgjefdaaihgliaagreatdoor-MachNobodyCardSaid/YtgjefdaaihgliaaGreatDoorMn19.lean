/- Layer 10: the program's Links. -/
import Derived.Test.YtgjefdaaihgliaaGreatDoorMn15
import Derived.Test.YtgjefdaaihgliaaGreatDoorMn18

namespace Go.Proofs.YtgjefdaaihgliaaGreatDoor
open Go.RowKit
open Go.Maps
def Z0p (k n:Nat):List Int:=List.replicate k (-1)++List.replicate (n - k) 0
theorem Zyt {k n:Nat}(h:k<n):(Z0p k n).set k (-1)=Z0p (k+1) n:=by
 unfold Z0p;rw [List.set_append_right _ _ (by simp)];simp only [List.length_replicate,Nat.sub_self];rw [show n - k=(n - (k+1))+1 by omega,List.replicate_succ,List.set_cons_zero,List.replicate_succ',List.append_assoc];rfl
def Zeo (c:List Ins)(j:Nat)(s:List UInt8):Option Nat:=((c.drop j).findIdx? (Zct s)).map (·+j)
theorem Zu9 (c:List Ins)(s:List UInt8):Zeo c c.length s=none:=by simp [Zeo]
theorem Zli {c:List Ins}{k:Nat}{x:Ins}(h:c[k]?=some x)(s:List UInt8):Zeo c k s=if Zct s x then some k else Zeo c (k+1) s:=by
 obtain⟨h1,rfl⟩:=List.getElem?_eq_some_iff.1 h;unfold Zeo;rw [List.drop_eq_getElem_cons h1,List.findIdx?_cons]
 split
 ·simp
 ·cases (c.drop (k+1)).findIdx? (Zct s) <;> simp;omega
theorem Zva {c:List Ins}{k:Nat}{x:Ins}(h:c[k]?=some x)(hr:(x.op == 12)=true)(s:List UInt8):Zeo c k s=if s=x.label then some k else Zeo c (k+1) s:=by
 rw [Zli h];by_cases e:s=x.label
 ·subst e;simp [Zct,hr]
 ·have e2:¬ x.label=s:=fun h=>e h.symm
  simp [Zct,e,e2]
theorem Zci:Keyed Tryz.prog 9:=Keyed.of_law (Go.WideMaps.string_law Tryz.underlying9)
def Zz4 (w:World)(b n:Nat)(f:List UInt8->Option Nat):Prop:=∃ D:DataW Unit,w.ownsMap Tryz.prog 9 (plainElem Tryz.prog 3) b n D/\IsMap D/\∀ s,Maps.has D (.string s)=(f s).isSome/\D.atKey (.string s) (.lit (.int .i64 0))=.lit (.int .i64 (((f s).getD 0:Nat):Int))
theorem Zz4.of_obj {w:World}{b:Nat}(h:Zgz w b (.map #[] 0)):Zz4 w b 0 (fun _=>none):=by
 have hm:=World.ownsMap_made (H:=Unit) (P:=Tryz.prog) (R:=plainElem Tryz.prog 3) (k:=9) w;obtain⟨es,clock,hb,F⟩:=hm;rw [heap_alloc_new] at hb;simp only [Option.some.injEq,Obj.map.injEq] at hb;obtain⟨rfl,rfl⟩:=hb;exact⟨.map [],⟨_,_,h,F⟩,isMap_empty,fun s=>⟨rfl,WideAt.atKey_none _ (fun p hp=>by cases hp)⟩⟩
theorem Zz4.put {D:DataW Unit}{f:List UInt8->Option Nat}{k:Nat}{s:List UInt8}(hD:IsMap D)(h:∀ s,Maps.has D (.string s)=(f s).isSome/\D.atKey (.string s) (.lit (.int .i64 0))=.lit (.int .i64 (((f s).getD 0:Nat):Int))){g:List UInt8->Option Nat}(hg:∀ r,g r=if r=s then some k else f r) :
  IsMap (D.put (.string s) (.lit (.int .i64 (k:Int))))/\∀ r,Maps.has (D.put (.string s) (.lit (.int .i64 (k:Int)))) (.string r)=(g r).isSome/\(D.put (.string s) (.lit (.int .i64 (k:Int)))).atKey (.string r) (.lit (.int .i64 0))=.lit (.int .i64 (((g r).getD 0:Nat):Int)):=by
 refine⟨hD.put _ _,fun r=>?_⟩;by_cases e:r=s
 ·subst e;rw [has_put_same hD (show WideAt.IsKeyLit (.string r) from trivial),atKey_put_same hD (show WideAt.IsKeyLit (.string r) from trivial),hg];simp
 ·rw [has_put_other (fun e2=>e (by injection e2)),atKey_put_other (fun e2=>e (by injection e2)),hg,if_neg e];exact h r
def Zyu (c:List Ins)(k:Nat):Int:=match c[k]? with
 | some x=>if x.op == 11 then ((((Zeo c 0 x.label).getD 0:Nat)):Int) else -1
 | none=>-1
def Zrj (c:List Ins)(k n:Nat):List Int:=(List.range k).map (Zyu c)++List.replicate (n - k) (-1)
theorem Zmy {c:List Ins}{k:Nat}{x:Ins}(h:c[k]?=some x):Zyu c k=if x.op == 11 then ((((Zeo c 0 x.label).getD 0:Nat)):Int) else -1:=by simp [Zyu,h]
theorem Z2k {c:List Ins}{k n:Nat}(h:k<n):(Zrj c k n)[k]?=some (-1):=by
 unfold Zrj;rw [List.getElem?_append_right (by simp)];simp only [List.length_map,List.length_range,Nat.sub_self];rw [show n - k=(n - k - 1)+1 by omega,List.replicate_succ];rfl
theorem Zrk {c:List Ins}{k n:Nat}(h:k<n):(Zrj c k n).set k (Zyu c k)=Zrj c (k+1) n:=by
 unfold Zrj;rw [List.set_append_right _ _ (by simp)];simp only [List.length_map,List.length_range,Nat.sub_self];rw [show n - k=(n - (k+1))+1 by omega,List.replicate_succ,List.set_cons_zero,List.range_succ,List.map_append,List.append_assoc];rfl
theorem Zox {c:List Ins}{k n:Nat}(h:k<n)(hu:Zyu c k=-1):Zrj c k n=Zrj c (k+1) n:=by
 rw [<- Zrk h,hu];unfold Zrj;rw [List.set_append_right _ _ (by simp)];simp only [List.length_map,List.length_range,Nat.sub_self];rw [show n - k=(n - k - 1)+1 by omega,List.replicate_succ,List.set_cons_zero]
theorem Zhb {H:Type}{w:World}{P:Program}{k:TypeId}{R:Value->Option (DataW H×List MemPlace)}{b n:Nat}{D:DataW H}(h:w.ownsMap P k R b n D)(o:Obj):(w.alloc o).ownsMap P k R b n D:=by
 obtain⟨es,clock,hb,F⟩:=h;have hlt:b<w.heap.size:=(Array.getElem?_eq_some_iff.1 hb).1;exact⟨es,clock,(Below.heap_alloc w o b hlt).trans hb,F⟩
theorem findIdx?_split {α:Type}{l:List α}{p:α->Bool}{m:Nat}(h:l.findIdx? p=some m):m<l.length/\(∃ x,l[m]?=some x/\p x=true)/\∀ j x,j<m->l[j]?=some x->p x=false:=by
 rw [List.findIdx?_eq_some_iff_getElem] at h;obtain⟨h1,h2,h3⟩:=h;refine⟨h1,⟨_,List.getElem?_eq_getElem h1,h2⟩,fun j x hj hx=>?_⟩;obtain⟨h4,rfl⟩:=List.getElem?_eq_some_iff.1 hx;simpa using h3 j hj
theorem Zlh {c:List Ins}{k:Nat}{x:Ins}(h:c[k]?=some x)(h12:(x.op == 12)=true):∃ m,Zeo c 0 x.label=some m/\m<=k/\(c.take k).any (Zct x.label)=decide (m≠k):=by
 have hx:Zct x.label x=true:=by simp [Zct,h12]
 cases hf:c.findIdx? (Zct x.label) with
 | none=>
  rw [List.findIdx?_eq_none_iff] at hf;have:=hf x (List.mem_of_getElem? h);rw [hx] at this;cases this
 | some m=>
  obtain⟨h1,⟨y,hy,hyl⟩,h3⟩:=findIdx?_split hf;have hmk:m<=k:=by
   by_cases e:m<=k
   ·exact e
   ·have:=h3 k x ω h;rw [hx] at this;cases this
  refine⟨m,by simp [Zeo,hf],hmk,?_⟩;by_cases e:m=k
  ·subst e;simp only [ne_eq,not_true_eq_false,decide_false];rw [List.any_eq_false];intro z hz;obtain⟨i,hi⟩:=List.getElem?_of_mem hz;rw [List.getElem?_take] at hi
   split at hi
   ·rename_i hlt;rw [h3 i z hlt hi];simp
   ·cases hi
  ·rw [show decide (m≠k)=true by simpa using e,List.any_eq_true];refine⟨y,?_,hyl⟩;apply List.mem_of_getElem? (i:=m);rw [List.getElem?_take,if_pos ω];exact hy
theorem Zsu {c:List Ins}{s:List UInt8}(h:Zeo c 0 s=none)(j:Nat):(c.drop j).any (Zct s)=false:=by
 simp only [Zeo,List.drop_zero,Option.map_eq_none_iff,List.findIdx?_eq_none_iff] at h;rw [List.any_eq_false];intro x hx;rw [h x (List.mem_of_mem_drop hx)];simp
theorem Zlt {H:Type}{w w':World}{P:Program}{k:TypeId}{R:Value->Option (DataW H×List MemPlace)}{b n:Nat}{D:DataW H}(h:w.ownsMap P k R b n D)(hb:Below w.heap.size w w'):w'.ownsMap P k R b n D:=by
 obtain⟨es,clock,ho,F⟩:=h;exact⟨es,clock,(hb.block b (Array.getElem?_eq_some_iff.1 ho).1).trans ho,F⟩
theorem Zqk {H:Type}{w:World}{P:Program}{k:TypeId}{R:Value->Option (DataW H×List MemPlace)}{b n:Nat}{D:DataW H}(h:w.ownsMap P k R b n D){p:Addr}(hp:b≠p.block)(u:Value):(w.setCell p u).ownsMap P k R b n D:=by
 obtain⟨es,clock,ho,F⟩:=h;exact⟨es,clock,(Below.heap_setCell w p u b hp).trans ho,F⟩
theorem Zp1 {l:List Ins}{n:Nat}(hn:l.length=n)(A:Option Addr)(cap:Nat)(s:List UInt8)(p:Nat)(w:World)(hlen:n<=9223372036854775806)(hA:Zcj w A l)(hp:w.cell? ⟨p,6,none⟩=some (.string ⟨s.toArray⟩)) :
  Calls Tryz.prog 151 #[.slice A n cap,.func (.func 152) #[] #[.pointer (some ⟨p,0,none⟩)]] w (RB w (.bool (l.any (Zct s)))):=by
 subst hn;exact Z4u l A cap s p w hlen hA hp
theorem Zcj.below' {w w':World}{b o B:Nat}{c:List Ins}(h:Zcj w (some ⟨b,o,none⟩) c)(hb:Below B w w')(hB:B=w.heap.size:=by rfl):Zcj w' (some ⟨b,o,none⟩) c:=by
 subst hB;exact h.below hb
theorem Z2j {c:List Ins}(hl:∀ j,j<c.length->Zj8 c j=false){k:Nat}(hk:k<c.length):Zyu c k=Zqg c k:=by
 have ex:=List.getElem?_eq_getElem hk;obtain⟨x,hx⟩:∃ x,c[k]=x:=⟨_,rfl⟩;rw [hx] at ex;have hb:=hl k hk;rw [Zdh ex] at hb;rw [Zmy ex];simp only [Zqg,ex];cases h11:(x.op == 11)
 ·simp
 ·simp only [h11,Bool.true_and,Bool.or_eq_false_iff,Bool.not_eq_eq_eq_not,Bool.not_false] at hb;simp only [if_true]
  congr 1
  have hany:=hb.2;cases hf:(c.drop (k+1)).findIdx? (Zct x.label) with
  | none=>
   rw [List.findIdx?_eq_none_iff] at hf;rw [List.any_eq_true] at hany;obtain⟨y,hy,hyl⟩:=hany;rw [hf y hy] at hyl;cases hyl
  | some i=>
   obtain⟨h1,⟨y,hy,hyl⟩,h3⟩:=findIdx?_split hf;have hi:(c.drop (k+1)).findIdx (Zct x.label)=i:=by
    rw [List.findIdx?_eq_some_iff_findIdx_eq] at hf;exact hf.2
   rw [hi];rw [List.getElem?_drop] at hy;have hlab:y.label=x.label:=by simp [Zct] at hyl;exact hyl.2
   have hop:(y.op == 12)=true:=by simp [Zct] at hyl;simp [hyl.1]
   obtain⟨m,hm,hmk,hbad⟩:=Zlh hy hop;have hb2:=hl (k+1+i) (by simp at h1;omega);rw [Zdh hy,hbad,hop] at hb2;simp at hb2;rw [hlab] at hm;rw [hm];simp [hb2.1]
theorem Z2i {c:List Ins}(he:(Zfi c).1=0)(hl:∀ j,j<c.length->Zj8 c j=false):Zmx c=Zrj c c.length c.length:=by
 unfold Zmx Zrj;rw [if_pos he];simp only [Nat.sub_self,List.replicate_zero,List.append_nil];apply List.map_congr_left;intro k hk;exact (Z2j hl (by simpa using hk)).symm
def Zf3 (c:List Ins)(w:World)(e:Ending)(w':World):Prop:=
 (((Zfi c).1≠0/\e=.returned (.tuple #[.slice none 0 0,.int .i64 (Zfi c).1,.int .i64 ((Zfi c).2:Int)]))\/
   ((Zfi c).1=0/\∃ g,w.heap.size<=g/\e=.returned (.tuple #[.slice (some ⟨g,0,none⟩) c.length c.length,.int .i64 0,.int .i64 0])/\Blk w' g 3 (Zbs (Zmx c))))/\Below w.heap.size w w'
theorem Zf3.bad {c:List Ins}{w w':World}{e:Ending}(h:(Zfi c).1≠0)(he:e=.returned (.tuple #[.slice none 0 0,.int .i64 (Zfi c).1,.int .i64 ((Zfi c).2:Int)]))(hb:Below w.heap.size w w'):Zf3 c w e w':=⟨Or.inl ⟨h,he⟩,hb⟩
theorem Zq7 (x:Ins)(w:World)(h:x.label.length<=9223372036854775807):Calls Tryz.prog 111 #[Zyj x] w (RB w (.int .i64 (Zb9 (Zk9 x)))):=
 Z7o x.op x.d x.a x.b x.imm ⟨x.loc.toArray⟩ ⟨x.label.toArray⟩ x.fence w h
theorem Z2h {k n:Nat}(h:k<n):(Z0p k n)[k]?=some 0:=by
 unfold Z0p;rw [List.getElem?_append_right (by simp)];simp only [List.length_replicate,Nat.sub_self];rw [show n - k=(n - k - 1)+1 by omega,List.replicate_succ];rfl
section
set_option maxHeartbeats 4000000
set_option maxRecDepth 100000
theorem Z0n (c:List Ins)(A:Option Addr)(cap:Nat)(w:World)(hlen:c.length<=256)(hcap:c.length<=cap)(hA:Zcj w A c) :
  Calls Tryz.prog 97 #[.slice A c.length cap] w (Zf3 c w):=by
 have HA:=Zh hA;have hmm:=@run_makeMap Tryz.prog;have hmk:=Znc c.length ω;have h256:¬ (256:Int)<(c.length:Int):=ω;clear hA;go_enter Tryz.func97,Tryz.ntmps97
 go_wp2_with fail
 have HG:=Zh (Blk.new (w.alloc (.map #[] 0)) 3 (Zbs (List.replicate c.length 0)));have HM:=Zh ((Zgz.new w (.map #[] 0)).alloc (.cells (Zbs (List.replicate c.length 0)) 3 (0,0)));go_loopw [23] (fun i wr=>∃ k:Nat,k<=c.length/\i=.int .i64 k/\(∀ j,j<k->Zt2 c j=false)/\Blk wr (w.heap.size+1) 3 (Zbs (Z0p k c.length))/\Zgz wr w.heap.size (.map #[] 0)/\Below w.heap.size w wr) (fun i _=>c.length - (intOf i).toNat)
 case atStart=>exact⟨0,Nat.zero_le _,rfl,fun j hj=>absurd hj (Nat.not_lt_zero _),by simpa [Z0p] using HG.o,HM.o,Zau _ _ _⟩
 case round=>
  obtain⟨k,hk,rfl,hno,hg,hm,hb⟩:=hrel;have HNO:=Zh hno;have HGR:=Zh hg;have HMR:=Zh hm;have HBR:=Zh hb;have hzr:=hg.lt;clear hno hg hm hb HG HM;by_cases hlt:k<c.length
  ·have ex:=List.getElem?_eq_getElem hlt;obtain⟨x,hx⟩:∃ x,c[k]=x:=⟨_,rfl⟩;rw [hx] at ex;obtain⟨b,o,rfl,hC⟩:=HA.o.at_ ex;have hbl:=hC.lt;obtain⟨c0,c1,c2,c3,c4,c5,c6,c7,l1,l2⟩:=hC.go HBR.o;have HX:=Zh ex;have HL2:=Zh l2;obtain⟨r,hr⟩:∃ r,Zk9 x=r:=⟨_,rfl⟩;have HR:=Zh hr;clear hx ex hC hr;have HB1:=Zh (Zad wr (.cells #[.int .i64 x.op,.int .i64 x.d,.int .i64 x.a,.int .i64 x.b,.int .i64 x.imm,.string ⟨x.loc.toArray⟩,.string ⟨x.label.toArray⟩,.int .i64 x.fence] 92 (0,0)));have hkl:(k:Int)<(c.length:Int):=ω;cases r
   ·go_wp2_with (go_at_call 111;refine (Zq7 x _ HL2.o).mono ?_;rw [HR.o];rintro e w2 ⟨rfl,hb2⟩;have HB2:=Zh (Zab HB1.o hb2);clear hb2)
    refine bodyPost_ret (v:=.tuple #[.slice none 0 0,.int .i64 91,.int .i64 (k:Int)]) (by simp [results,Tryz.results97,go_sem]) rfl ?_;have e1:=Zri hlen hlt (by rw [Zmi HX.o,HR.o];rfl) HNO.o;exact Zf3.bad (by rw [e1];simp) (by rw [e1]) (Zab HBR.o HB2.o)
   ·go_wp2_with (first | (go_at_call 111;refine (Zq7 x _ HL2.o).mono ?_;rw [HR.o];rintro e w2 ⟨rfl,hb2⟩;have HB2:=Zh (Zab HB1.o hb2);have HG2:=Zh (HGR.o.go HB2.o);have hc2:=(HG2.o.cell k).trans (Zn9 (Z2h hlt));have hf2:=HG2.o.frozen k;clear hb2))
    go_roundw
    case rel=>exact⟨k+1,ω,by go_num,fun j hj=>by (rcases Nat.lt_succ_iff_lt_or_eq.1 hj with h | h);exact HNO.o j h;rw [h,Zmi HX.o,HR.o];rfl,by have:=HG2.o.set_ k (.int .i64 (-1));rwa [Zlg,Zyt hlt] at this,((HMR.o.go HB2.o).far (by simp) _),(Zab HBR.o HB2.o).setCell (by simp) _⟩
    case measure=>exact msr
  ·go_wp2_with fail
   have hkn:k=c.length:=ω;subst hkn;have HOK:=Zh HNO.o;have HG0:=Zh (by simpa [Z0p] using HGR.o:Blk wr (w.heap.size+1) 3 (Zbs (List.replicate c.length (-1))));have HMS:=Zh (Zz4.of_obj HMR.o);have HBW:=Zh HBR.o;clear HNO HGR HMR HBR hk hlt;obtain⟨wa,hwa⟩:∃ wa:World,wa=wr:=⟨_,rfl⟩;subst hwa;go_loopw [9] (fun i wr=>∃ j cnt:Nat,j<=c.length/\i=.int .i64 ((j:Int) - 1)/\cnt<=c.length - j/\Zz4 wr w.heap.size cnt (Zeo c j)/\Blk wr (w.heap.size+1) 3 (Zbs (List.replicate c.length (-1)))/\Below w.heap.size w wr) (fun i _=>(intOf i+1).toNat)
   case atStart=>exact⟨c.length,0,Nat.le_refl _,rfl,Nat.zero_le _,by have:=HMS.o;rwa [show (fun _=>none)=Zeo c c.length from funext fun s=>(Zu9 c s).symm] at this,HG0.o,HBW.o⟩
   case round=>
    obtain⟨j,cnt,hj,rfl,hcnt,hms,hg,hb⟩:=hrel;obtain⟨D,hown,hD,hat⟩:=hms;have HOWN:=Zh hown;have HD:=Zh hD;have HAT:=Zh hat;have HGR:=Zh hg;have HBR:=Zh hb;have hzr:=hg.lt;clear hown hD hat hg hb HG0 HMS HBW;by_cases h0:0<j
    ·obtain⟨k,rfl⟩:∃ k,j=k+1:=⟨j - 1,ω⟩;have ex:=List.getElem?_eq_getElem (show k<c.length by omega);obtain⟨x,hx⟩:∃ x,c[k]=x:=⟨_,rfl⟩;rw [hx] at ex;obtain⟨b,o,rfl,hC⟩:=HA.o.at_ ex;have hbl:=hC.lt;obtain⟨c0,c1,c2,c3,c4,c5,c6,c7,l1,l2⟩:=hC.go HBR.o;have HX:=Zh ex;have HKW:=Zh (Go.WideMaps.keyOf_string_mk (P:=Tryz.prog) Tryz.underlying9 (s:=⟨x.label.toArray⟩) (by rw [Zfs];unfold maxLen;omega));clear hx ex hC;have hk1:(((k+1:Nat):Int) - 1)=(k:Int):=ω;rw [hk1];clear hk1;have hkl:(k:Int)<(c.length:Int):=ω;obtain⟨r,hr⟩:∃ r,(x.op == 12)=r:=⟨_,rfl⟩;cases r
     ·have HF:=Zh (funext fun s=>(by rw [Zli HX.o,show Zct s x=false by simp [Zct,hr],if_neg (by simp)]:Zeo c k s=Zeo c (k+1) s))
      go_wp2_with fail
      go_roundw
      case rel=>exact⟨k,cnt,ω,rfl,ω,⟨D,HOWN.o,HD.o,by rw [HF.o];exact HAT.o⟩,HGR.o,HBR.o⟩
      case measure=>simp [intOf]
     ·have HF:=Zh (fun s=>(Zva HX.o hr s:Zeo c k s=if s=x.label then some k else Zeo c (k+1) s));have HP:=Zh (Zz4.put HD.o HAT.o HF.o)
      go_wp2_with (at_mapUpdate;refine wpList_mapUpdate_own _ rfl _ _ _ 246 rfl 9 3 Zci Tryz.underlying246 (plainElem Tryz.prog 3) w.heap.size cnt D rfl HOWN.o (by unfold maxLen;omega) _ _ (.string x.label) rfl rfl HKW.o (.lit (.int .i64 (k:Int))) [] (plainElem_int Tryz.underlying3 (WalkArith.wf_i64 ω)) ?_;intro w1 hown1 hgrow1;have HO1:=Zh hown1;have HG1:=Zh hgrow1;clear hown1 hgrow1)
      go_roundw
      case rel=>exact⟨k,cnt+1,ω,rfl,ω,⟨_,HO1.o,HP.o.1,HP.o.2⟩,HGR.o.only HG1.o ω,HBR.o.grown HG1.o ω (fun j hj=>by cases hj;exact Nat.le_refl _)⟩
      case measure=>simp [intOf]
    ·have hj0:j=0:=ω;subst hj0
     go_wp2_with fail
     have HMS:=Zh (⟨D,HOWN.o,HD.o,HAT.o⟩:Zz4 wr w.heap.size cnt (Zeo c 0));have HG0:=Zh HGR.o;have HBW:=Zh HBR.o;clear HOWN HD HAT HGR HBR hj hzr;obtain⟨wb,hwb⟩:∃ wb:World,wb=wr:=⟨_,rfl⟩;subst hwb;go_loopw [58] (fun i wr=>∃ k:Nat,k<=c.length/\i=.int .i64 k/\(∀ j,j<k->Zj8 c j=false)/\Zz4 wr w.heap.size cnt (Zeo c 0)/\Blk wr (w.heap.size+1) 3 (Zbs (Zrj c k c.length))/\Below w.heap.size w wr) (fun i _=>c.length - (intOf i).toNat)
     case atStart=>exact⟨0,Nat.zero_le _,rfl,fun j hj=>absurd hj (Nat.not_lt_zero _),HMS.o,by simpa [Zrj] using HG0.o,HBW.o⟩
     case round=>
      obtain⟨k,hk,rfl,hno,hms,hg,hb⟩:=hrel;obtain⟨D,hown,hD,hat⟩:=hms;have HNO:=Zh hno;have HOWN:=Zh hown;have HD:=Zh hD;have HAT:=Zh hat;have HGR:=Zh hg;have HBR:=Zh hb;have hzr:=hg.lt;clear hno hown hD hat hg hb HG0 HMS HBW;by_cases hlt:k<c.length
      ·have ex:=List.getElem?_eq_getElem hlt;obtain⟨x,hx⟩:∃ x,c[k]=x:=⟨_,rfl⟩;rw [hx] at ex;obtain⟨b,o,rfl,hC⟩:=HA.o.at_ ex;have hbl:=hC.lt;obtain⟨c0,c1,c2,c3,c4,c5,c6,c7,l1,l2⟩:=hC.go HBR.o;have HX:=Zh ex;have HKW:=Zh (Go.WideMaps.keyOf_string_mk (P:=Tryz.prog) Tryz.underlying9 (s:=⟨x.label.toArray⟩) (by rw [Zfs];unfold maxLen;omega));have hkl:(k:Int)<(c.length:Int):=ω;clear hx ex hC;have HOW2:=Zh (Zhb HOWN.o (.cells #[.int .i64 x.op,.int .i64 x.d,.int .i64 x.a,.int .i64 x.b,.int .i64 x.imm,.string ⟨x.loc.toArray⟩,.string ⟨x.label.toArray⟩,.int .i64 x.fence] 92 (0,0)));obtain⟨q,hq⟩:∃ q,Zeo c 0 x.label=q:=⟨_,rfl⟩;have HQ:=Zh hq;by_cases h12:x.op=12
       ·have e12:(x.op == 12)=true:=by simp [h12]
        have e11:(x.op == 11)=false:=by simp [h12]
        obtain⟨m,hm,hmk,hbad⟩:=Zlh HX.o e12;have hqm:q=some m:=by rw [<- hq,hm]
        subst hqm;clear hq h12 hm;by_cases hmk2:m=k
        ·have HLB:Hid (Zj8 c k=false):=Zh (by rw [Zdh HX.o,hbad];simp [hmk2,e11]);have HLU:Hid (Zyu c k=-1):=Zh (by rw [Zmy HX.o];simp [e11]);have HM:=Zh hbad;subst hmk2;clear hbad hmk
         go_wp2_with (at_lookup;refine wpList_lookup_own_ok_int _ rfl _ _ 246 rfl 9 3 .i64 Zci Tryz.underlying246 Tryz.underlying3 (Zdy _) w.heap.size cnt D rfl HOW2.o _ (.string x.label) rfl HKW.o ?_;intro cv hcv hwc;rw [(HAT.o x.label).2,HQ.o] at hcv;rw [(HAT.o x.label).1,HQ.o];simp only [DataW.lit.injEq,Lit.int.injEq,true_and,Option.getD_some] at hcv;subst hcv;clear hwc)
         go_roundw
         case rel=>exact⟨_,_,_,_,_,_,_,_,⟨m+1,ω,rfl,fun j hj=>by (rcases Nat.lt_succ_iff_lt_or_eq.1 hj with h | h);exact HNO.o j h;rw [h];exact HLB.o,⟨D,HOW2.o,HD.o,HAT.o⟩,by rw [<- Zox hlt HLU.o];exact HGR.o.alloc _,Zaa HBR.o _⟩,rfl,rfl,rfl,rfl,rfl,rfl,rfl,by go_num⟩
         case measure=>exact msr
        ·have HLB:Hid (Zj8 c k=true):=Zh (by rw [Zdh HX.o,hbad];simp [hmk2,e12]);have em:((m:Int) == (k:Int))=false:=by rw [beq_eq_false_iff_ne];omega
         have em2:((m:Int) != (k:Int))=true:=by rw [bne_iff_ne];omega
         clear hbad hmk hmk2
         go_wp2_with (at_lookup;refine wpList_lookup_own_ok_int _ rfl _ _ 246 rfl 9 3 .i64 Zci Tryz.underlying246 Tryz.underlying3 (Zdy _) w.heap.size cnt D rfl HOW2.o _ (.string x.label) rfl HKW.o ?_;intro cv hcv hwc;rw [(HAT.o x.label).2,HQ.o] at hcv;rw [(HAT.o x.label).1,HQ.o];simp only [DataW.lit.injEq,Lit.int.injEq,true_and,Option.getD_some] at hcv;subst hcv;clear hwc)
         exact m_43
       ·have e12:(x.op == 12)=false:=by simp [h12]
        clear h12;by_cases h11:x.op=11
        ·have e11:(x.op == 11)=true:=by simp [h11]
         clear h11 hq;cases q with
         | none=>
          have HLB:Hid (Zj8 c k=true):=Zh (by rw [Zdh HX.o,Zsu HQ.o (k+1)];simp [e11])
          go_wp2_with (at_lookup;refine wpList_lookup_own_ok_int _ rfl _ _ 246 rfl 9 3 .i64 Zci Tryz.underlying246 Tryz.underlying3 (Zdy _) w.heap.size cnt D rfl HOW2.o _ (.string x.label) rfl HKW.o ?_;intro cv hcv hwc;rw [(HAT.o x.label).2,HQ.o] at hcv;rw [(HAT.o x.label).1,HQ.o];simp only [DataW.lit.injEq,Lit.int.injEq,true_and,Option.getD_none] at hcv;subst hcv;clear hwc)
          exact m_43
         | some m=>
          have HAL:=Zh (Zad wr (.cells #[.int .i64 x.op,.int .i64 x.d,.int .i64 x.a,.int .i64 x.b,.int .i64 x.imm,.string ⟨x.loc.toArray⟩,.string ⟨x.label.toArray⟩,.int .i64 x.fence] 92 (0,0)));have HDL:=Zh (List.length_drop (i:=k+1) (l:=c));have HDA:=Zh ((Zcj.drop (HA.o.below' HBR.o) (k+1)).below HAL.o);have HPL:=Zh (show (wr.alloc (.cells #[.int .i64 x.op,.int .i64 x.d,.int .i64 x.a,.int .i64 x.b,.int .i64 x.imm,.string ⟨x.loc.toArray⟩,.string ⟨x.label.toArray⟩,.int .i64 x.fence] 92 (0,0))).cell? ⟨wr.heap.size,6,none⟩=some (.string ⟨x.label.toArray⟩) from (Blk.new wr 92 #[.int .i64 x.op,.int .i64 x.d,.int .i64 x.a,.int .i64 x.b,.int .i64 x.imm,.string ⟨x.loc.toArray⟩,.string ⟨x.label.toArray⟩,.int .i64 x.fence]).cell 6);obtain⟨r,hr⟩:∃ r,(c.drop (k+1)).any (Zct x.label)=r:=⟨_,rfl⟩;have HRR:=Zh hr;clear hr;cases r
          ·have HLB:Hid (Zj8 c k=true):=Zh (by rw [Zdh HX.o,HRR.o];simp [e11]);by_cases hkc:cap=k+1
           ·have HDN:=Zh (show ([]:List Ins).length=c.length - (k+1) by simp;omega)
            go_wp2_with (first | (at_lookup;refine wpList_lookup_own_ok_int _ rfl _ _ 246 rfl 9 3 .i64 Zci Tryz.underlying246 Tryz.underlying3 (Zdy _) w.heap.size cnt D rfl HOW2.o _ (.string x.label) rfl HKW.o ?_;intro cv hcv hwc;rw [(HAT.o x.label).2,HQ.o] at hcv;rw [(HAT.o x.label).1,HQ.o];simp only [DataW.lit.injEq,Lit.int.injEq,true_and,Option.getD_some] at hcv;subst hcv;clear hwc) | (go_at_call 151;refine (Zp1 HDN.o _ _ _ _ _ ω (Zcj.nil _ _) HPL.o).mono ?_;rw [List.any_nil];rintro e w2 ⟨rfl,hb2⟩;have HB2:=Zh (Zab HAL.o hb2);clear hb2))
            exact m_42
           ·skip
            go_wp2_with (first | (at_lookup;refine wpList_lookup_own_ok_int _ rfl _ _ 246 rfl 9 3 .i64 Zci Tryz.underlying246 Tryz.underlying3 (Zdy _) w.heap.size cnt D rfl HOW2.o _ (.string x.label) rfl HKW.o ?_;intro cv hcv hwc;rw [(HAT.o x.label).2,HQ.o] at hcv;rw [(HAT.o x.label).1,HQ.o];simp only [DataW.lit.injEq,Lit.int.injEq,true_and,Option.getD_some] at hcv;subst hcv;clear hwc) | (go_at_call 151;refine (Zp1 HDL.o _ _ _ _ _ ω HDA.o HPL.o).mono ?_;rw [HRR.o];rintro e w2 ⟨rfl,hb2⟩;have HB2:=Zh (Zab HAL.o hb2);clear hb2))
            exact m_42
          ·have HLB:Hid (Zj8 c k=false):=Zh (by rw [Zdh HX.o,HRR.o];simp [e12]);have hkc:¬ cap=k+1:=fun e=>by have:=HRR.o;rw [List.drop_of_length_le ω] at this;cases this
           have HLU:Hid (Zyu c k=(m:Int)):=Zh (by rw [Zmy HX.o,HQ.o];simp [e11])
           go_wp2_with (first | (at_lookup;refine wpList_lookup_own_ok_int _ rfl _ _ 246 rfl 9 3 .i64 Zci Tryz.underlying246 Tryz.underlying3 (Zdy _) w.heap.size cnt D rfl HOW2.o _ (.string x.label) rfl HKW.o ?_;intro cv hcv hwc;rw [(HAT.o x.label).2,HQ.o] at hcv;rw [(HAT.o x.label).1,HQ.o];simp only [DataW.lit.injEq,Lit.int.injEq,true_and,Option.getD_some] at hcv;subst hcv;clear hwc) | (go_at_call 151;refine (Zp1 HDL.o _ _ _ _ _ ω HDA.o HPL.o).mono ?_;rw [HRR.o];rintro e w2 ⟨rfl,hb2⟩;have HB2:=Zh (Zab HAL.o hb2);have d0:w2.cell? ⟨wr.heap.size,0,none⟩=some (.int .i64 x.op):=((Blk.new wr 92 #[.int .i64 x.op,.int .i64 x.d,.int .i64 x.a,.int .i64 x.b,.int .i64 x.imm,.string ⟨x.loc.toArray⟩,.string ⟨x.label.toArray⟩,.int .i64 x.fence]).go hb2).cell 0;clear hb2;have HG2:=Zh (HGR.o.go HB2.o);have hc2:=(HG2.o.cell k).trans (Zn9 (Z2k hlt));have hf2:=HG2.o.frozen k))
           go_roundw
           case rel=>(repeat apply Exists.intro);refine⟨?_,rfl⟩;exact⟨k+1,ω,by go_num,fun j hj=>by (rcases Nat.lt_succ_iff_lt_or_eq.1 hj with h | h);exact HNO.o j h;rw [h];exact HLB.o,⟨D,Zqk (Zlt HOWN.o HB2.o) (by simp) _,HD.o,HAT.o⟩,by have:=HG2.o.set_ k (.int .i64 (m:Int));rwa [Zlg,show (Zrj c k c.length).set k (m:Int)=Zrj c (k+1) c.length by rw [<- HLU.o,Zrk hlt]] at this,(Zab HBR.o HB2.o).setCell (by simp) _⟩
           case measure=>exact msr
        ·have e11:(x.op == 11)=false:=by simp [h11]
         have HLB:Hid (Zj8 c k=false):=Zh (by rw [Zdh HX.o];simp [e12,e11]);have HLU:Hid (Zyu c k=-1):=Zh (by rw [Zmy HX.o];simp [e11]);clear h11 hq;cases q
         all_goals
          go_wp2_with (at_lookup;refine wpList_lookup_own_ok_int _ rfl _ _ 246 rfl 9 3 .i64 Zci Tryz.underlying246 Tryz.underlying3 (Zdy _) w.heap.size cnt D rfl HOW2.o _ (.string x.label) rfl HKW.o ?_;intro cv hcv hwc;rw [(HAT.o x.label).2,HQ.o] at hcv;rw [(HAT.o x.label).1,HQ.o];simp only [DataW.lit.injEq,Lit.int.injEq,true_and,Option.getD_some,Option.getD_none] at hcv;subst hcv;clear hwc)
          go_roundw
          case rel=>exact⟨_,_,_,_,_,_,_,_,⟨k+1,ω,rfl,fun j hj=>by (rcases Nat.lt_succ_iff_lt_or_eq.1 hj with h | h);exact HNO.o j h;rw [h];exact HLB.o,⟨D,HOW2.o,HD.o,HAT.o⟩,by rw [<- Zox hlt HLU.o];exact HGR.o.alloc _,Zaa HBR.o _⟩,rfl,rfl,rfl,rfl,rfl,rfl,rfl,by go_num⟩
          case measure=>exact msr
      ·go_wp2_with fail
       have hkn:k=c.length:=ω;subst hkn;have e1:=Zvc hlen HOK.o HNO.o;refine bodyPost_ret (v:=.tuple #[.slice (some ⟨w.heap.size+1,0,none⟩) c.length c.length,.int .i64 0,.int .i64 0]) (by simp [results,Tryz.results97,go_sem]) rfl ?_;refine⟨Or.inr ⟨by rw [e1],w.heap.size+1,ω,rfl,?_⟩,HBR.o⟩;rw [Z2i (by rw [e1]) HNO.o];exact HGR.o
end
end Go.Proofs.YtgjefdaaihgliaaGreatDoor
