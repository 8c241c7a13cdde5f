/- Layer 9: the program's Do, where it tells no error. -/
import Derived.Test.YtgjefdaaihgliaaGreatDoorMn28
import Derived.Test.YtgjefdaaihgliaaGreatDoorMn29
import Derived.Test.YtgjefdaaihgliaaGreatDoorMn30

namespace Go.Proofs.YtgjefdaaihgliaaGreatDoor
open Go.RowKit
section
structure Ac where
 kind:Int
 loc:List UInt8
 val:Int
 reg:Int
 fence:Int
abbrev Ztp (x:Ac):Value:=.agg #[.int .i64 x.kind,.string ⟨x.loc.toArray⟩,.int .i64 x.val,.int .i64 x.reg,.int .i64 x.fence]
abbrev Z2l (v:Value)(at_:Int):Value:=.agg #[v,.int .i64 at_]
def Z8m (x:List UInt8×Int):Bool:=if x.1=[] then Zg9 x.2 else Zbl x.1&&(x.2 == 0)
def Ziq (n:Nat)(at_:Int)(vs:List (List UInt8×Int)):Bool:=decide (0<=at_)&&decide (at_<256)&&decide (vs.length=n)&&vs.all Z8m
theorem Zkn {n:Nat}{at_:Int}{vs:List (List UInt8×Int)}:Ziq n at_ vs=true↔0<=at_/\at_<256/\vs.length=n/\∀ x∈vs,Z8m x=true:=by
 unfold Ziq;simp only [Bool.and_eq_true,decide_eq_true_eq,List.all_eq_true,and_assoc]
theorem Zhs {l:List UInt8}(h:Zbl l=true):l.length<=32:=by
 cases l with
 | nil=>simp
 | cons c r=>
  simp only [Zbl,Bool.and_eq_true,decide_eq_true_eq] at h;simp only [List.length_cons];omega
def doL (op d a imm:Int)(loc:List UInt8)(vs:List (List UInt8×Int)):Option (List (List UInt8×Int)×Ac):=
 if op=1 then some (vs,⟨3,loc,imm,0,0⟩)
 else if op=2 then (if (vs.getD a.toNat ([],0)).1=[] then some (vs,⟨3,loc,(vs.getD a.toNat ([],0)).2,0,0⟩) else none)
 else if op=3 then some (vs,⟨2,loc,0,d,0⟩)
 else if op=4 then some (vs.set d.toNat ([],imm),⟨1,[],0,0,0⟩)
 else some (vs,⟨4,[],0,0,1⟩)
section
set_option maxHeartbeats 2000000
set_option maxRecDepth 100000
theorem Z9d (A:Option Addr)(cap:Nat)(at_:Int)(vs:List (List UInt8×Int))(w:World)(hv:Zd2.At w A vs)(ht:Ziq 15 at_ vs=true) :
  Calls Tryz.prog 95 #[Z2l (.slice A vs.length cap) at_] w fun e w'=>e=.returned (.bool true)/\Below w.heap.size w w':=by
 obtain⟨h0,h1,h2,hall⟩:=Zkn.1 ht;have H4:=Zh hv;have HA:=Zh hall;have H2:=Zh h2;have h0':decide (at_<0)=false:=by simpa using h0
 have h1':decide (256<=at_)=false:=by simpa using h1
 have h2':((vs.length:Int) != 15)=false:=by simp;omega
 have l2:15<=vs.length:=ω;have l3:vs.length<=15:=ω;clear hv hall ht h0 h1 h2;go_enter Tryz.func95,Tryz.ntmps95;go_wp2;go_loopw [4,22] (fun _ i wr=>∃ k:Nat,k<=15/\i=.int .i64 k/\Below w.heap.size w wr) (fun _ i _=>15 - (intOf i).toNat)
 case atStart=>exact⟨0,Nat.zero_le _,rfl,Zaa (Below.refl _ _) _⟩
 case round=>
  obtain⟨k,hk,rfl,hbw⟩:=hrel;by_cases hlt:k<vs.length
  ·obtain⟨b,o,rfl,hcell⟩:=H4.o k vs[k] (List.getElem?_eq_getElem hlt);have hV:=HA.o vs[k] (List.getElem_mem _);obtain⟨x,hx⟩:∃ x,vs[k]=x:=⟨_,rfl⟩;rw [hx] at hcell hV;clear hx;obtain⟨L,n⟩:=x;have c1:=Zac (hcell 0 _ rfl) hbw;have c2:=Zac (hcell 1 _ rfl) hbw;simp only [Nat.add_zero] at c1;have hlt':k<15:=ω;have hb2:=Zab hbw (Zad wr (.cells #[.string ⟨L.toArray⟩,.int .i64 n] 71 (0,0)));clear hcell;unfold Z8m at hV;by_cases hLn:L=[]
   ·subst hLn;have hn:Zg9 n=true:=hV;have HN:=Zh hn;clear hn hV
    go_wp2_with (go_at_call 144;refine (Z33 _ _).mono ?_;rw [HN.o];rintro e w' ⟨rfl,rfl⟩)
    exact m_102
   ·have hLe:L.isEmpty=false:=by simpa using hLn
    rw [if_neg hLn] at hV;simp only [Bool.and_eq_true] at hV;obtain⟨hn,hz⟩:=hV;have hs9:(⟨L.toArray⟩:ByteArray).size<=9223372036854775807:=by
     rw [Zfs];have:=Zhs hn;omega
    have HN:=Zh hn;have hz':(n != 0)=false:=by simpa using hz
    clear hLn hn
    go_wp2_with (go_at_call 143;refine (Zsx _ _ hs9).mono ?_;rw [show (⟨L.toArray⟩:ByteArray).data.toList=L from rfl,HN.o];rintro e w' ⟨rfl,rfl⟩)
    exact m_102
  ·have hge:¬ k<15:=ω;go_wp2;go_ret;exact⟨rfl,hbw⟩
end
theorem Z4p {α:Type}{E:Enc α}{T S:TypeId}{bytes:Nat}(hE:E.Elem T S bytes){ρ:Go.Shelf.Ren}(L:SlLaysE0.n41 Tryz.prog ρ)(hT:ρ.t 23=T)(hs:∀ w,(Go.sizeOf T).run Tryz.prog w=.ok E.size w)(b o cap:Nat)(l:List α)(w:World)
  (hv:E.At w (some ⟨b,o,none⟩) l) (hm:l.length<=1000000) (hb:bytes<=1000) :
  Calls Tryz.prog (ρ.f 41) #[.slice (some ⟨b,o,none⟩) l.length cap] w fun e w'=>∃ g cp,e=.returned (.slice (some ⟨g,0,none⟩) l.length cp)/\E.Own T w.heap.size w' (.slice (some ⟨g,0,none⟩) l.length cp) l/\Below w.heap.size w w':=by
 subst hT;obtain⟨z,hz,hzs⟩:=hE.info;obtain⟨i0,hi,hz0,hz1,hz2⟩:=Zbx hz;have hmul:l.length*bytes<=1000000*1000:=Nat.mul_le_mul hm hb;refine (AnyE.slices_Clone L i0 z E.size bytes hi hz0 hz1 hz2 hzs E.pos hs b o l.length cap (E.flat l) w (E.flat_len l) (by unfold maxLen;omega) ω (fun j u hu=>hv.cells j u hu) Zf9).mono ?_;rintro e w' ⟨v',rfl,hown,hne,hb⟩;rcases hown.2 with ⟨rfl,_⟩ | ⟨g,cp,cur,rfl,_⟩
 ·exact absurd rfl hne
 ·exact⟨g,cp,rfl,hown,hb⟩
theorem Z12 (A:Option Addr)(cap:Nat)(vs:List (List UInt8×Int))(w:World)(hv:Zd2.At w A vs)(hl:0<vs.length)(hm:vs.length<=32) :
  Calls Tryz.prog 20 #[.slice A vs.length cap] w fun e w'=>∃ g cp,e=.returned (.slice (some ⟨g,0,none⟩) vs.length cp)/\Zd2.Own 71 w.heap.size w' (.slice (some ⟨g,0,none⟩) vs.length cp) vs/\Below w.heap.size w w':=by
 obtain⟨b,o,rfl,_⟩:=hv 0 vs[0] (List.getElem?_eq_getElem hl);exact Z4p Z7t Tryz.cloneV rfl Tryz.sizeOf71 b o cap vs w hv ω (by decide)
end
section
def Zjq (T:Tst):Int:=
 if Zbg T.arch T.q T.k T.t T.r T.l T.v T.kids≠0 then Zbg T.arch T.q T.k T.t T.r T.l T.v T.kids
 else if (Za8 T).any (fun x=>decide ((T.code.length:Int)<=x.1)) then 80 else 0
theorem Zuu (T:Tst):Zbb T=if Zef T.arch=false then 5 else if (Zg4 T.name&&Ze6 T.cycle)=false then 130 else if Zf7 T.arch T.code≠0 then Zf7 T.arch T.code else if Zgn T.arch T.code.length T.init≠0 then Zgn T.arch T.code.length T.init else if Zjq T≠0 then Zjq T else if 64<(Zdq (Zel T)).length then 2 else 0:=by
 unfold Zbb Zjq;by_cases h1:Zbg T.arch T.q T.k T.t T.r T.l T.v T.kids=0 <;> cases h2:(Za8 T).any (fun x=>decide ((T.code.length:Int)<=x.1)) <;> simp [h1]
section
set_option maxHeartbeats 4000000
set_option maxRecDepth 100000
variable {w:World} {T:Tst} {Ai Ac:Option Addr} {kv:Value}
theorem Z4f (ci cc:Nat)(hT:Zcu w T Ai Ac kv):Calls Tryz.prog 85 #[Zbu T (.slice Ai T.init.length ci) (.slice Ac T.code.length cc) kv] w (RB w (.int .i64 (Zjq T))):=by
 have HT:=Zh hT;have hcl:=hT.clen;have HBX:=Zh (Blk.new w 32 #[.int .i64 T.arch,.string ⟨T.name.toArray⟩,.string ⟨T.cycle.toArray⟩,.slice Ai T.init.length ci,.slice Ac T.code.length cc,.int .i64 T.q,.int .i64 T.k,.int .i64 T.t,.int .i64 T.r,.string ⟨T.l.toArray⟩,.int .i64 T.v,kv]);have HB0:=Zh (Zad w (.cells #[.int .i64 T.arch,.string ⟨T.name.toArray⟩,.string ⟨T.cycle.toArray⟩,.slice Ai T.init.length ci,.slice Ac T.code.length cc,.int .i64 T.q,.int .i64 T.k,.int .i64 T.t,.int .i64 T.r,.string ⟨T.l.toArray⟩,.int .i64 T.v,kv] 32 (0,0)));go_enter Tryz.func85,Tryz.ntmps85
 go_wp2_with fail
 refine (Zt1 T.arch T.q T.k T.t T.r T.l T.v kv T.kids _ HT.o.llen (HT.o.below HB0.o).kids).mono ?_;rintro e w4 ⟨rfl,hb⟩;have HBW3:=Zh (Zab HB0.o hb);have HK3:=Zh (HBX.o.go hb);have k0:=HK3.o.cell 0;have k1:=HK3.o.cell 1;have k2:=HK3.o.cell 2;have k3:=HK3.o.cell 3;have k4:=HK3.o.cell 4;have k5:=HK3.o.cell 5;have k6:=HK3.o.cell 6;have k7:=HK3.o.cell 7;have k8:=HK3.o.cell 8;have k9:=HK3.o.cell 9;have k10:=HK3.o.cell 10;have k11:=HK3.o.cell 11;by_cases hE3:Zbg T.arch T.q T.k T.t T.r T.l T.v T.kids=0
 rotate_left
 ·have HV:=Zh (show Zjq T=Zbg T.arch T.q T.k T.t T.r T.l T.v T.kids by unfold Zjq;simp [hE3]);exact m_49
 have XE3:=Zh hE3;have f3:(Zbg T.arch T.q T.k T.t T.r T.l T.v T.kids != 0)=false:=by simpa using hE3
 have HKD:=Zh (Zd7.below HT.o.kids (Nat.le_refl _) HBW3.o)
 go_wp2_with (go_at_call 51;refine (Z8l w.heap.size kv HBW3.o.size HKD.o HT.o.llen).mono ?_;rw [show Zl9 T.q T.k T.t T.r T.l T.v T.kids=Za8 T from rfl];rintro e w5 ⟨Au,cu,rfl,hths,hb⟩;have HBW4:=Zh (Zab HBW3.o hb);have HK4:=Zh (HK3.o.go hb);have HTH:=Zh hths.1;clear hb hths)
 have htl:=Zez T;have hs5:w.heap.size<w5.heap.size:=HK4.o.lt;go_loopw [6] (fun i wr=>∃ k:Nat,k<=(Za8 T).length/\i=.int .i64 k/\((Za8 T).take k).any (fun x=>decide ((T.code.length:Int)<=x.1))=false/\Below w5.heap.size w5 wr) (fun i _=>(Za8 T).length - (intOf i).toNat)
 case atStart=>exact⟨0,Nat.zero_le _,rfl,by simp,Below.refl _ _⟩
 case round=>
  obtain⟨k,hk,rfl,hno,hb⟩:=hrel;have HNO:=Zh hno;have HBR:=Zh hb;have hzr:=hb.size;have hsw:w.heap.size<wr.heap.size:=ω;have HKR:=Zh (HK4.o.go hb);have HBWR:=Zh (Zab HBW4.o hb);by_cases hlt:k<(Za8 T).length
  ·have ex:=List.getElem?_eq_getElem hlt;obtain⟨x,hx⟩:∃ x,(Za8 T)[k]=x:=⟨_,rfl⟩;rw [hx] at ex;obtain⟨b,o,rfl,c0,c1,c2⟩:=Zzs (HTH.o.below HBR.o) ex;have hbl:b<wr.heap.size:=World.block_lt_of_cell? wr _ c0;have k4:=HKR.o.cell 4;have HX:=Zh ex;have hkl:(k:Int)<((Za8 T).length:Int):=ω;by_cases hbad:(T.code.length:Int)<=x.1
   ·have HV:=Zh (show Zjq T=80 by unfold Zjq;rw [XE3.out,show (Za8 T).any (fun x=>decide ((T.code.length:Int)<=x.1))=true from List.any_eq_true.2 ⟨x,List.mem_of_getElem? HX.o,by simpa using hbad⟩];rfl)
    go_wp2_with fail
    go_quiet (fail)
    go_wp2_with fail
    go_ret;exact⟨Zak HV.o.symm,Zag HBWR.o _⟩
   ·have hbad2:x.1<(T.code.length:Int):=ω
    have HNX:=Zh (show ((Za8 T).take (k+1)).any (fun x=>decide ((T.code.length:Int)<=x.1))=false by
     obtain⟨h1,h2⟩:=List.getElem?_eq_some_iff.1 HX.o
     rw [List.take_succ_eq_append_getElem h1,List.any_append,HNO.o,h2];simp;omega)
    go_wp2_with fail
    go_quiet (fail)
    go_wp2_with fail
    go_roundw
    case rel=>exact⟨k+1,ω,by go_num,HNX.o,Zag HBR.o _⟩
    case measure=>exact msr
  ·have HANY:=Zh (show (Za8 T).any (fun x=>decide ((T.code.length:Int)<=x.1))=false by have:=HNO.o;rwa [List.take_of_length_le ω] at this);have HV:=Zh (show Zjq T=0 by unfold Zjq;rw [XE3.out,HANY.o];rfl)
   go_wp2_with fail
   go_ret;exact⟨Zak HV.o.symm,HBWR.o⟩
theorem Ztz (ci cc:Nat)(hT:Zcu w T Ai Ac kv):Calls Tryz.prog 48 #[Zbu T (.slice Ai T.init.length ci) (.slice Ac T.code.length cc) kv] w (RB w (.int .i64 (Zbb T))):=by
 have HT:=Zh hT;have HTI:=Zh (fun w=>Z3u ⟨T.name.toArray⟩ w hT.nlen);have HCY:=Zh (fun w=>Z14 ⟨T.cycle.toArray⟩ w hT.ylen);have hcl:=hT.clen;have HBX:=Zh (Blk.new w 32 #[.int .i64 T.arch,.string ⟨T.name.toArray⟩,.string ⟨T.cycle.toArray⟩,.slice Ai T.init.length ci,.slice Ac T.code.length cc,.int .i64 T.q,.int .i64 T.k,.int .i64 T.t,.int .i64 T.r,.string ⟨T.l.toArray⟩,.int .i64 T.v,kv]);have HB0:=Zh (Zad w (.cells #[.int .i64 T.arch,.string ⟨T.name.toArray⟩,.string ⟨T.cycle.toArray⟩,.slice Ai T.init.length ci,.slice Ac T.code.length cc,.int .i64 T.q,.int .i64 T.k,.int .i64 T.t,.int .i64 T.r,.string ⟨T.l.toArray⟩,.int .i64 T.v,kv] 32 (0,0)));rw [Zuu];obtain⟨ab,hab⟩:∃ ab,Zef T.arch=ab:=⟨_,rfl⟩;have HAB:=Zh hab;rw [hab];cases ab with
 | false=>
  go_enter Tryz.func48,Tryz.ntmps48
  go_wp2_with (go_at_call 80;refine (Zrh _ _).mono ?_;rw [HAB.o];rintro e w' ⟨rfl,rfl⟩)
  go_ret;exact⟨by simp,HB0.o⟩
 | true=>
  obtain⟨tb,htb⟩:∃ tb,Zg4 T.name=tb:=⟨_,rfl⟩;obtain⟨cb,hcb⟩:∃ cb,Ze6 T.cycle=cb:=⟨_,rfl⟩;have HTB:=Zh htb;have HCB:=Zh hcb;rw [htb,hcb];by_cases htc:(tb&&cb)=false
  ·have hV:(if (true:Bool)=false then (5:Int) else if (tb&&cb)=false then 130 else if Zf7 T.arch T.code≠0 then Zf7 T.arch T.code else if Zgn T.arch T.code.length T.init≠0 then Zgn T.arch T.code.length T.init else if Zjq T≠0 then Zjq T else if 64<(Zdq (Zel T)).length then 2 else 0)=130:=by rw [htc];simp
   rw [hV];cases tb
   ·go_enter Tryz.func48,Tryz.ntmps48
    go_wp2_with (first
     | (go_at_call 80;refine (Zrh _ _).mono ?_;rw [HAB.o];rintro e w' ⟨rfl,rfl⟩)
     | (go_at_call 81;refine (HTI.o _).mono ?_;(try rw [Zl0]);rw [HTB.o];rintro e w' ⟨rfl,rfl⟩))
    go_ret;exact⟨rfl,HB0.o⟩
   ·cases cb
    ·go_enter Tryz.func48,Tryz.ntmps48
     go_wp2_with (first
      | (go_at_call 80;refine (Zrh _ _).mono ?_;rw [HAB.o];rintro e w' ⟨rfl,rfl⟩)
      | (go_at_call 81;refine (HTI.o _).mono ?_;(try rw [Zl0]);rw [HTB.o];rintro e w' ⟨rfl,rfl⟩)
      | (go_at_call 82;refine (HCY.o _).mono ?_;(try rw [Zl0]);rw [HCB.o];rintro e w' ⟨rfl,rfl⟩))
     go_ret;exact⟨rfl,HB0.o⟩
    ·cases htc
  ·obtain⟨rfl,rfl⟩:tb=true/\cb=true:=by cases tb <;> cases cb <;> simp at htc ⊢
   have hV:(if (true:Bool)=false then (5:Int) else if (true&&true)=false then 130 else if Zf7 T.arch T.code≠0 then Zf7 T.arch T.code else if Zgn T.arch T.code.length T.init≠0 then Zgn T.arch T.code.length T.init else if Zjq T≠0 then Zjq T else if 64<(Zdq (Zel T)).length then 2 else 0)=if Zf7 T.arch T.code≠0 then Zf7 T.arch T.code else if Zgn T.arch T.code.length T.init≠0 then Zgn T.arch T.code.length T.init else if Zjq T≠0 then Zjq T else if 64<(Zdq (Zel T)).length then 2 else 0:=by simp
   rw [hV];obtain⟨V,hVV⟩:∃ V,(if Zf7 T.arch T.code≠0 then Zf7 T.arch T.code else if Zgn T.arch T.code.length T.init≠0 then Zgn T.arch T.code.length T.init else if Zjq T≠0 then Zjq T else if 64<(Zdq (Zel T)).length then (2:Int) else 0)=V:=⟨_,rfl⟩;have HV:=Zh hVV;rw [hVV];go_enter Tryz.func48,Tryz.ntmps48
   go_wp2_with (first
    | (go_at_call 80;refine (Zrh _ _).mono ?_;rw [HAB.o];rintro e w' ⟨rfl,rfl⟩)
    | (go_at_call 81;refine (HTI.o _).mono ?_;(try rw [Zl0]);rw [HTB.o];rintro e w' ⟨rfl,rfl⟩)
    | (go_at_call 82;refine (HCY.o _).mono ?_;(try rw [Zl0]);rw [HCB.o];rintro e w' ⟨rfl,rfl⟩))
   refine (Z4t ci cc HAB.o (HT.o.below HB0.o)).mono ?_;rintro e w2 ⟨rfl,hb⟩;have HBW1:=Zh (Zab HB0.o hb);have HK1:=Zh (HBX.o.go hb);have k0:=HK1.o.cell 0;have k1:=HK1.o.cell 1;have k2:=HK1.o.cell 2;have k3:=HK1.o.cell 3;have k4:=HK1.o.cell 4;have k5:=HK1.o.cell 5;have k6:=HK1.o.cell 6;have k7:=HK1.o.cell 7;have k8:=HK1.o.cell 8;have k9:=HK1.o.cell 9;have k10:=HK1.o.cell 10;have k11:=HK1.o.cell 11;by_cases hE1:Zf7 T.arch T.code=0
   rotate_left
   ·have HR:=Zh (show V=Zf7 T.arch T.code by rw [<- HV.o,if_pos hE1]);have f3:(Zf7 T.arch T.code != 0)=true:=by simpa using hE1
    have f4:(Zf7 T.arch T.code == 0)=false:=by simpa using hE1
    go_wp2_with fail
    go_ret;exact⟨Zak HR.o.symm,HBW1.o⟩
   have XE1:=Zh hE1;have f1:(Zf7 T.arch T.code != 0)=false:=by simpa using hE1
   go_wp2_with fail
   refine (Z5b ci cc (Zi9 HAB.o) (HT.o.below HBW1.o)).mono ?_;rintro e w3 ⟨rfl,hb⟩;have HBW2:=Zh (Zab HBW1.o hb);have HK2:=Zh (HK1.o.go hb);have k0:=HK2.o.cell 0;have k1:=HK2.o.cell 1;have k2:=HK2.o.cell 2;have k3:=HK2.o.cell 3;have k4:=HK2.o.cell 4;have k5:=HK2.o.cell 5;have k6:=HK2.o.cell 6;have k7:=HK2.o.cell 7;have k8:=HK2.o.cell 8;have k9:=HK2.o.cell 9;have k10:=HK2.o.cell 10;have k11:=HK2.o.cell 11;by_cases hE2:Zgn T.arch T.code.length T.init=0
   rotate_left
   ·have HR:=Zh (show V=Zgn T.arch T.code.length T.init by rw [<- HV.o,if_neg (by simp [XE1.out]),if_pos hE2]);have f3:(Zgn T.arch T.code.length T.init != 0)=true:=by simpa using hE2
    have f4:(Zgn T.arch T.code.length T.init == 0)=false:=by simpa using hE2
    go_wp2_with fail
    go_ret;exact⟨Zak HR.o.symm,HBW2.o⟩
   have XE2:=Zh hE2;have f2:(Zgn T.arch T.code.length T.init != 0)=false:=by simpa using hE2
   go_wp2_with fail
   refine (Z4f ci cc (HT.o.below HBW2.o)).mono ?_;rintro e w4 ⟨rfl,hb⟩;have HBW3:=Zh (Zab HBW2.o hb);have HK3:=Zh (HK2.o.go hb);have k0:=HK3.o.cell 0;have k1:=HK3.o.cell 1;have k2:=HK3.o.cell 2;have k3:=HK3.o.cell 3;have k4:=HK3.o.cell 4;have k5:=HK3.o.cell 5;have k6:=HK3.o.cell 6;have k7:=HK3.o.cell 7;have k8:=HK3.o.cell 8;have k9:=HK3.o.cell 9;have k10:=HK3.o.cell 10;have k11:=HK3.o.cell 11;by_cases hE3:Zjq T=0
   rotate_left
   ·have HR:=Zh (show V=Zjq T by rw [<- HV.o,if_neg (by simp [XE1.out]),if_neg (by simp [XE2.out]),if_pos hE3]);have f3:(Zjq T != 0)=true:=by simpa using hE3
    have f4:(Zjq T == 0)=false:=by simpa using hE3
    go_wp2_with fail
    go_ret;exact⟨Zak HR.o.symm,HBW3.o⟩
   have XE3:=Zh hE3;have f3:(Zjq T != 0)=false:=by simpa using hE3
   by_cases h64:64<(Zdq (Zel T)).length
   ·have HR:=Zh (show V=2 by rw [<- HV.o,if_neg (by simp [XE1.out]),if_neg (by simp [XE2.out]),if_neg (by simp [XE3.out]),if_pos h64]);exact m_47
   ·have HR:=Zh (show V=0 by rw [<- HV.o,if_neg (by simp [XE1.out]),if_neg (by simp [XE2.out]),if_neg (by simp [XE3.out]),if_neg h64]);exact m_47
end
end
section
def Z39 (T:Tst)(w:World)(e:Ending)(w':World):Prop:=
 ((Zbb T≠0/\e=.returned (.tuple #[.slice none 0 0,.int .i64 (Zbb T)]))\/(Zbb T=0/\∃ A cap,e=.returned (.tuple #[.slice A (Zdq (Zel T)).length cap,.int .i64 0])/\Zc1.Own 9 w.heap.size w' (.slice A (Zdq (Zel T)).length cap) (Zdq (Zel T))))/\Below w.heap.size w w'
section
set_option maxHeartbeats 4000000
set_option maxRecDepth 100000
variable {w:World} {T:Tst} {Ai Ac:Option Addr} {kv:Value}
theorem Z7z (ci cc:Nat)(hT:Zcu w T Ai Ac kv):Calls Tryz.prog 49 #[Zbu T (.slice Ai T.init.length ci) (.slice Ac T.code.length cc) kv] w (Z39 T w):=by
 have HT:=Zh hT;have HBX:=Zh (Blk.new w 32 #[.int .i64 T.arch,.string ⟨T.name.toArray⟩,.string ⟨T.cycle.toArray⟩,.slice Ai T.init.length ci,.slice Ac T.code.length cc,.int .i64 T.q,.int .i64 T.k,.int .i64 T.t,.int .i64 T.r,.string ⟨T.l.toArray⟩,.int .i64 T.v,kv]);have HB0:=Zh (Zad w (.cells #[.int .i64 T.arch,.string ⟨T.name.toArray⟩,.string ⟨T.cycle.toArray⟩,.slice Ai T.init.length ci,.slice Ac T.code.length cc,.int .i64 T.q,.int .i64 T.k,.int .i64 T.t,.int .i64 T.r,.string ⟨T.l.toArray⟩,.int .i64 T.v,kv] 32 (0,0)));go_enter Tryz.func49,Tryz.ntmps49
 go_wp2_with fail
 refine (Ztz ci cc (HT.o.below HB0.o)).mono ?_;rintro e w2 ⟨rfl,hb⟩;have HB2:=Zh (Zab HB0.o hb);have HK2:=Zh (HBX.o.go hb);by_cases hE:Zbb T=0
 ·have HE:=Zh hE;have f1:(Zbb T != 0)=false:=by simpa using hE
  obtain⟨k0,k1,k2,k3,k4,k5,k6,k7,k8,k9,k10,k11⟩:=HK2.o.c12
  go_wp2_with (go_at_call 86;refine (Zmz ci cc (Za0 HE.o).1 (HT.o.below HB2.o)).mono ?_;rintro e w3 ⟨A3,c3,rfl,hat3,hb⟩;have HB3:=Zh (Zab HB2.o hb);have HAT:=Zh hat3;clear hat3 hb)
  go_ret2
  exact⟨Or.inr ⟨HE.o,A3,c3,rfl,Zd4 HAT.o.2 HB2.o.size⟩,HB3.o⟩
 ·have HE:=Zh hE;exact m_64
end
end
def shP (f:Nat)(p:Int×Int):Int×Int:=((f:Int)+p.1,(f:Int)+p.2)
def Ze5 (k:Nat)(l:List (Int×Int)):List (Int×Int):=(List.range k).flatMap fun (a:Nat)=>l.filter fun p=>decide (p.1=(a:Int))
abbrev Zf6 (l:List (Int×Int)):List (Int×Int):=Ze5 64 l
theorem Zec (k:Nat)(l:List (Int×Int)):Ze5 (k+1) l=Ze5 k l++l.filter fun p=>decide (p.1=(k:Int)):=by
 unfold Ze5;rw [List.range_succ,List.flatMap_append];simp
theorem Zjw {k:Nat}{l:List (Int×Int)}{p:Int×Int}:p∈Ze5 k l↔p∈l/\∃ a:Nat,a<k/\p.1=(a:Int):=by
 unfold Ze5;rw [List.mem_flatMap]
 constructor
 ·rintro⟨a,ha,hp⟩;rw [List.mem_filter] at hp;exact⟨hp.1,a,List.mem_range.1 ha,by simpa using hp.2⟩
 ·rintro⟨h1,a,ha,h2⟩;exact⟨a,List.mem_range.2 ha,List.mem_filter.2 ⟨h1,by simpa using h2⟩⟩
def Zrm (p q:Int×Int):Prop:=p.1<q.1\/(p.1=q.1/\p.2<q.2)
theorem Zq2 {l:List (Int×Int)}(h:l.Pairwise Z35):∀ k,(Ze5 k l).Pairwise Zrm
 | 0=>by simp [Ze5]
 | k+1=>by
  rw [Zec,List.pairwise_append];refine⟨Zq2 h k,?_,fun p hp q hq=>?_⟩
  ·have h2:(l.filter fun p=>decide (p.1=(k:Int))).Pairwise Z35:=List.Pairwise.sublist List.filter_sublist h;refine List.Pairwise.imp_of_mem (fun {p q} hp hq hpq=>?_) h2;rw [List.mem_filter] at hp hq;have e1:p.1=(k:Int):=by simpa using hp.2
   have e2:q.1=(k:Int):=by simpa using hq.2
   refine Or.inr ⟨by rw [e1,e2],?_⟩;rcases hpq with h | ⟨_,h⟩
   ·exact h
   ·omega
  ·obtain⟨_,a,ha,e1⟩:=Zjw.1 hp;rw [List.mem_filter] at hq;have e2:q.1=(k:Int):=by simpa using hq.2
   exact Or.inl (by rw [e1,e2];exact Int.ofNat_lt.2 ha)
theorem Zkd:∀ {a b:List (Int×Int)},a.Pairwise Zrm->b.Pairwise Zrm->(∀ x,x∈a↔x∈b)->a=b
 | [],[],_,_,_=>rfl
 | [],y :: b,_,_,h=>absurd ((h y).2 (by simp)) (by simp)
 | x :: a,[],_,_,h=>absurd ((h x).1 (by simp)) (by simp)
 | x :: a,y :: b,ha,hb,h=>by
  have h1:=List.pairwise_cons.1 ha;have h2:=List.pairwise_cons.1 hb;have irr:∀ p q:Int×Int,Zrm p q->Zrm q p->False:=fun p q h k=>by
   rcases h with h | ⟨h,h'⟩ <;> rcases k with k | ⟨k,k'⟩ <;> omega
  have hxy:x=y:=by
   rcases List.mem_cons.1 ((h x).1 (by simp)) with e | e
   ·exact e
   rcases List.mem_cons.1 ((h y).2 (by simp)) with e2 | e2
   ·exact e2.symm
   exact absurd (h1.1 y e2) (fun k=>irr _ _ k (h2.1 x e))
  subst hxy
  congr 1
  refine Zkd h1.2 h2.2 fun z=>⟨fun hz=>?_,fun hz=>?_⟩
  ·rcases List.mem_cons.1 ((h z).1 (List.mem_cons_of_mem _ hz)) with e | e
   ·subst e;exact absurd (h1.1 z hz) (fun k=>irr _ _ k k)
   ·exact e
  ·rcases List.mem_cons.1 ((h z).2 (List.mem_cons_of_mem _ hz)) with e | e
   ·subst e;exact absurd (h2.1 z hz) (fun k=>irr _ _ k k)
   ·exact e
theorem Zmh {f:Nat}{a b:List (Int×Int)}(ha:∀ p∈a,p.1<(f:Int))(hb:∀ p∈b,(f:Int)<=p.1):Zf6 (a++b)=Zf6 a++Zf6 b:=by
 have key:∀ k,k<=64->Ze5 k (a++b)=Ze5 k a++Ze5 k b:=by
  intro k
  induction k with
  | zero=>intro _;simp [Ze5]
  | succ k ih=>
   intro hk;rw [Zec,Zec,Zec,ih ω,List.filter_append];by_cases hkf:k<f
   ·have e1:b.filter (fun p=>decide (p.1=(k:Int)))=[]:=by
     rw [List.filter_eq_nil_iff];intro p hp;have:=hb p hp;simp;omega
    have e2:Ze5 k b=[]:=by
     rw [List.eq_nil_iff_forall_not_mem];intro p hp;obtain⟨h1,x,hx,h2⟩:=Zjw.1 hp;have:=hb p h1;omega
    rw [e1,e2];simp
   ·have e1:a.filter (fun p=>decide (p.1=(k:Int)))=[]:=by
     rw [List.filter_eq_nil_iff];intro p hp;have:=ha p hp;simp;omega
    rw [e1];simp [List.append_assoc]
 exact key 64 (Nat.le_refl _)
def Zsh (first:Nat):Zeb->Option (Int×Int)
 | .num n=>some (1,n)
 | .rd i=>some (2,((first+i:Nat):Int))
 | _=>none
def Zxe (x:Ini):Rg:=⟨if x.vl=[] then .num x.vn else .adr x.vl,0⟩
def Zkv (k:Nat)(rs:List Rg)(x:Ini):List Rg:=if x.th=(k:Int) then rs.set x.rg.toNat (Zxe x) else rs
def Z0c (k nr:Nat)(init:List Ini):List Rg:=init.foldl (Zkv k) (List.replicate nr ⟨.num 0,0⟩)
structure Tr where
 evs:List Evt
 bars:List Br
 addr:List (Int×Int)
 data:List (Int×Int)
 hang:List (Int×Int)
 ends : List (Int × Int)
def Zya (k first:Nat)(r:Rn)(m:List (Int×Int))(i:Nat)(x:Th):Option (List (Int×Int)):=
 if x.1=(k:Int) then (Zsh first (rgA r x.2.1).h).map fun e=>m.set i e else some m
def Ze7 (k first:Nat)(r:Rn):Nat->List Th->List (Int×Int)->Option (List (Int×Int))
 | _,[],m=>some m
 | i,x :: ts,m=>(Zya k first r m i x).bind fun m'=>Ze7 k first r (i+1) ts m'
def Zdn (risc:Bool):Nat:=if risc then 32 else 15
def Z4v (risc:Bool)(locs:List Nm)(k:Nat)(a:Tr):Cx:=⟨k,risc,a.evs.length,locs⟩
def rn0 (risc:Bool)(init:List Ini)(k:Nat):Rn:=⟨Z0c k (Zdn risc) init,0,[],[],[],[],[],false⟩
def Zi6 (a:Tr)(r:Rn)(es:List (Int×Int)):Tr:=
 ⟨a.evs++r.evs,a.bars++r.bars,a.addr++Zf6 (r.addr.map (shP a.evs.length)),a.data++Zf6 (r.data.map (shP a.evs.length)),a.hang++Zf6 (r.hang.map (shP a.evs.length)),es⟩
def Zta (risc:Bool)(locs:List Nm)(init:List Ini)(ths:List Th)(k:Nat)(c:List Ins)(a:Tr):Except Int Tr:=
 match goL (Z4v risc locs k a) c 0 (rn0 risc init k) with
 | none=>.error 150
 | some r=>if r.full then .error 2 else match Ze7 k a.evs.length r 0 ths a.ends with
  | none=>.error 150
  | some es=>.ok (Zi6 a r es)
def Zhe (risc:Bool)(locs:List Nm)(init:List Ini)(ths:List Th):Nat->List (List Ins)->Tr->Except (Int×Nat) Tr
 | _,[],a=>.ok a
 | k,c :: cs,a=>match Zta risc locs init ths k c a with
  | .error e=>.error (e,k)
  | .ok a'=>Zhe risc locs init ths (k+1) cs a'
def Z2c (locs:List Nm)(m:List (Int×Int))(i:Nat)(x:Th):List (Int×Int):=if x.1=-1 then m.set i (3,((locs.idxOf x.2.2:Nat):Int)) else m
def Zso (locs:List Nm):Nat->List Th->List (Int×Int)->List (Int×Int)
 | _,[],m=>m
 | i,x :: ts,m=>Zso locs (i+1) ts (Z2c locs m i x)
def Zp9 (locs:List Nm)(m:List Int)(x:Ini):List Int:=if x.th=-1 then m.set (locs.idxOf x.loc) x.vn else m
def Ze3 (locs:List Nm)(init:List Ini):List Int:=init.foldl (Zp9 locs) (List.replicate locs.length 0)
def tr0 (ths:List Th):Tr:=⟨[],[],[],[],[],List.replicate ths.length (0,0)⟩
def isR (T:Tst):Bool:=decide (T.arch=2)
abbrev Zaq (T:Tst):List Nm:=Zdq (Zel T)
def Zcs (T:Tst):Except (Int×Nat) Tr:=
 if Zbb T≠0 then .error (Zbb T,0)
 else match Zhe (isR T) (Zaq T) T.init (Za8 T) 0 T.code (tr0 (Za8 T)) with
  | .error e=>.error e
  | .ok a=>.ok { a with ends:=Zso (Zaq T) 0 (Za8 T) a.ends }
theorem Zgt {l:List UInt8}(h:Zbl l=true):l≠[]:=by rintro rfl;cases h
theorem Zji {n:Int}(h:Zg9 n=true):Zdl n:=Zza h
theorem Zcr {m n:Int}(h:Zed m n=true):0<=n/\n<m:=by simpa [Zed] using h
theorem Zvd {c:List Ins}(h:(Zfi c).1=0):c.length<=256/\∀ k,k<c.length->Zt2 c k=false/\Zj8 c k=false:=by
 unfold Zfi at h
 split at h
 ·cases h
 rename_i hl;cases h1:fst? (Zt2 c) c.length with
 | some k=>rw [h1] at h;cases h
 | none=>
  rw [h1] at h;simp only [] at h;cases h2:fst? (Zj8 c) c.length with
  | some k=>rw [h2] at h;cases h
  | none=>exact⟨ω,fun k hk=>⟨Zes h1 k hk,Zes h2 k hk⟩⟩
theorem Zca {a:Int}{cs:List (List Ins)}(h:Zf7 a cs=0):cs.length<=16/\1<=cs.length/\∀ (k:Nat) (c:List Ins),cs[k]?=some c->c.length<=256/\Zku a c=0:=by
 have h1:1<=cs.length/\cs.length<=16:=by
  refine Decidable.byContradiction fun hn=>?_
  rw [Zjc ω] at h;cases h
 have h2:∀ (k:Nat) (c:List Ins),cs[k]?=some c->c.length<=256:=fun k c hk=>by
  refine Decidable.byContradiction fun hn=>?_
  rw [Zhk hk ω] at h;cases h
 refine⟨h1.2,h1.1,fun k c hk=>⟨h2 k c hk,?_⟩⟩;rw [Zmk h1.1 h1.2 h2] at h;cases hf:(cs.map (Zku a)).find? (fun e=>decide (e≠0)) with
 | some e=>
  rw [hf] at h;have:=List.find?_some hf;simp at h this;exact absurd h this
 | none=>
  rw [List.find?_eq_none] at hf;have:=hf (Zku a c) (List.mem_map.2 ⟨c,List.mem_of_getElem? hk,rfl⟩);simpa using this
theorem Zkm {a:Int}{c:List Ins}(h:Zku a c=0):(∀ x∈c,okX a x=true)/\(a=2->(Zfi c).1=0):=by
 unfold Zku at h
 split at h
 ·rename_i h1;exact⟨List.all_eq_true.1 h1,fun e=>by rwa [if_pos e] at h⟩
 ·cases h
section
variable {C:Cx} {c:List Ins} {k:Nat} {x:Ins}
theorem Z60 (h:Zqe x=true)(hloc:x.loc≠[]->x.loc∈C.locs):Zpw C 15 c k x:=by
 unfold Zqe Zfo at h;simp only [Bool.and_eq_true] at h;obtain⟨⟨⟨_,hb⟩,_⟩,h⟩:=h;have hb0:x.b=0:=by simpa using hb
 have z32:Zdl 0:=Zj4
 split at h
 ·rename_i e;simp only [Bool.and_eq_true,beq_iff_eq] at h;obtain⟨⟨⟨h1,h2⟩,h3⟩,h4⟩:=h;exact⟨ω,ω,ω,ω,Zji h2,fun _=>hloc (Zgt h1),fun e2=>by omega,fun e2=>by omega⟩
 split at h
 ·rename_i e;exact m_54
 split at h
 ·rename_i e;exact m_54
 split at h
 ·rename_i e;simp only [Bool.and_eq_true,beq_iff_eq] at h;obtain⟨⟨⟨_,h2⟩,h3⟩,h4⟩:=h;have:=Zcr h2;exact⟨ω,ω,ω,ω,Zji h3,fun _=>by omega,fun e2=>by omega,fun e2=>by omega⟩
 split at h
 ·rename_i e;simp only [Bool.and_eq_true,beq_iff_eq] at h;obtain⟨⟨⟨_,h2⟩,h3⟩,h4⟩:=h;exact⟨ω,ω,ω,ω,h4 ▸ z32,fun _=>by omega,fun e2=>by omega,fun e2=>by omega⟩
 ·cases h
theorem Z61 (h:Zk9 x=true)(hlab:x.op=11->Zhp c k x<c.length):Zpw C 32 c k x:=by
 unfold Zk9 Zch at h;simp only [Bool.and_eq_true] at h;obtain⟨_,h⟩:=h;have z32:Zdl 0:=Zj4
 split at h
 ·rename_i e;simp only [Bool.and_eq_true,beq_iff_eq] at h;obtain⟨⟨⟨⟨⟨_,h1⟩,h2⟩,h3⟩,h4⟩,_⟩:=h;have:=Zcr h1;have:=Zcr h2;exact m_107
 split at h
 ·rename_i e;exact m_53
 split at h
 ·rename_i e;simp only [Bool.and_eq_true,beq_iff_eq,decide_eq_true_iff] at h;obtain⟨⟨⟨⟨⟨_,h1⟩,h2⟩,h3⟩,h4⟩,_⟩:=h;have:=Zcr h1;have:=Zcr h2;exact⟨ω,ω,ω,ω,by unfold Zdl;omega,fun _=>by omega,fun e2=>by omega,hlab⟩
 split at h
 ·rename_i e;simp only [Bool.and_eq_true,beq_iff_eq] at h;obtain⟨⟨⟨⟨⟨_,h1⟩,h2⟩,h3⟩,h4⟩,_⟩:=h;have:=Zcr h1;have:=Zcr h2;have:=Zcr h3;exact m_107
 split at h
 ·rename_i e;exact m_53
 split at h
 ·rename_i e;simp only [Bool.and_eq_true,beq_iff_eq] at h;obtain⟨⟨⟨⟨⟨_,h1⟩,h2⟩,h3⟩,h4⟩,_⟩:=h;exact m_107
 split at h
 ·rename_i e;simp only [Bool.and_eq_true,beq_iff_eq,decide_eq_true_iff] at h;obtain⟨⟨⟨⟨⟨_,h1⟩,h2⟩,h3⟩,h4⟩,h5⟩:=h;exact⟨ω,ω,ω,ω,h4 ▸ z32,fun _=>by omega,fun _=>h5,hlab⟩
 ·cases h
end
theorem Zve {T:Tst}{t k:Nat}{c:List Ins}{x:Ins}(hc:T.code[t]?=some c)(hx:c[k]?=some x)(h:x.loc≠[]):x.loc∈Zaq T:=by
 rw [Ze9];refine⟨?_,h⟩;unfold Zel;exact List.mem_append_right _ (List.mem_append_left _ (List.mem_flatMap.2 ⟨c,List.mem_of_getElem? hc,List.mem_map.2 ⟨x,List.mem_of_getElem? hx,rfl⟩⟩))
theorem Zyw {T:Tst}{x:Ini}(hx:x∈T.init):(x.loc≠[]->x.loc∈Zaq T)/\(x.vl≠[]->x.vl∈Zaq T):=by
 have h1:∀ s,s=x.loc\/s=x.vl->s≠[]->s∈Zaq T:=fun s hs hn=>by
  rw [Ze9];refine⟨?_,hn⟩;unfold Zel;exact List.mem_append_left _ (List.mem_flatMap.2 ⟨x,hx,by rcases hs with rfl | rfl <;> simp⟩)
 exact⟨h1 _ (Or.inl rfl),h1 _ (Or.inr rfl)⟩
theorem Zho {T:Tst}(h:Zef T.arch=true):(T.arch=1/\isR T=false)\/(T.arch=2/\isR T=true):=by
 unfold Zef at h;unfold isR;simp at h;rcases (show T.arch=1\/T.arch=2 by omega) with e | e <;> simp [e]
theorem Zkq {T:Tst}(hE:Zbb T=0){C:Cx}(hC:C.locs=Zaq T){t k:Nat}{c:List Ins}{x:Ins}(hc:T.code[t]?=some c)(hx:c[k]?=some x):Zpw C (Zdn (isR T)) c k x:=by
 obtain⟨_,_,ha,hcod,_⟩:=Za0 hE;obtain⟨_,hthr⟩:=(Zca hcod).2.2 t c hc;obtain⟨hok,hlnk⟩:=Zkm hthr;have hox:=hok x (List.mem_of_getElem? hx);rcases Zho ha with ⟨e1,e2⟩ | ⟨e1,e2⟩
 ·rw [e2];unfold okX at hox;rw [if_pos e1] at hox;exact Z60 hox (fun h=>hC ▸ Zve hc hx h)
 ·rw [e2];unfold okX at hox;rw [if_neg ω] at hox;refine Z61 hox (fun h11=>?_);have hk:=(List.getElem?_eq_some_iff.1 hx).1;have:=((Zvd (hlnk e1)).2 k hk).2;rw [Zdh hx] at this;simp only [Bool.or_eq_false_iff,Bool.and_eq_false_iff] at this;have h2:(c.drop (k+1)).any (Zct x.label)=true:=by
   rcases this.2 with h | h
   ·simp [h11] at h
   ·simpa using h
  unfold Zhp;have h3:(c.drop (k+1)).findIdx (Zct x.label)<(c.drop (k+1)).length:=List.findIdx_lt_length.2 (by simpa using h2);rw [List.length_drop] at h3;omega
structure OkI (T:Tst) (x:Ini):Prop where
 mem:x.th=-1->x.loc∈Zaq T/\Zdl x.vn
 reg:x.th≠-1->(0<=x.th/\x.th<T.code.length)/\(0<=x.rg/\x.rg<Zdn (isR T))/\(x.vl=[]->Zdl x.vn)/\(x.vl≠[]->x.vl∈Zaq T)
theorem Zkc {T:Tst}(hE:Zbb T=0){x:Ini}(hx:x∈T.init):OkI T x:=by
 obtain⟨_,_,ha,_,hini,_⟩:=Za0 hE;obtain⟨k,hk⟩:=List.getElem?_of_mem hx;have hb:Zq1 T.arch T.code.length T.init k=false:=by
  unfold Zgn at hini
  split at hini
  ·cases hini
  cases h1:fst? (Zq1 T.arch T.code.length T.init) T.init.length with
  | some j=>rw [h1] at hini;cases hini
  | none=>exact Zes h1 k (List.getElem?_eq_some_iff.1 hk).1
 rw [Zf4 hk,Bool.or_eq_false_iff] at hb;have hf:Zeg T.arch T.code.length x=true:=by simpa using hb.1
 have hl:=Zyw hx;unfold Zeg at hf
 constructor
 ·intro e;rw [if_pos e] at hf;simp only [Bool.and_eq_true] at hf;exact⟨hl.1 (Zgt hf.1),Zji hf.2.2.2⟩
 ·intro e;rw [if_neg e] at hf;simp only [Bool.and_eq_true,decide_eq_true_iff] at hf;obtain⟨h1,_,h2,h3⟩:=hf;refine⟨h1,?_,fun hv=>?_,fun hv=>hl.2 hv⟩
  ·rcases Zho ha with ⟨e1,e2⟩ | ⟨e1,e2⟩
   ·rw [e2];rw [if_neg ω] at h2;simp only [decide_eq_true_iff] at h2;show _/\_<((15:Nat):Int);omega
   ·rw [e2];rw [if_pos e1] at h2;simp only [decide_eq_true_iff] at h2;show _/\_<((32:Nat):Int);omega
  ·simp only [hv,List.isEmpty_nil,if_true] at h3;exact Zji h3
section
def Z7b (B g cap:Nat)(vs:List (List UInt8×Int))(ac:Ac)(w:World)(e:Ending)(w':World):Prop:=
 e=.returned (.tuple #[Ztp ac,.int .i64 0])/\Zd2.Own 71 B w' (.slice (some ⟨g,0,none⟩) vs.length cap) vs/\Zd1 g w w'
def Z8k:Nat->FuncId
 | 0=>146
 | 1=>147
 | 2=>148
 | 3=>149
 | _=>150
def Zft:Array Value:=#[.int .i64 1,.func (.func 146) #[] #[],.int .i64 2,.func (.func 147) #[] #[],.int .i64 3,.func (.func 148) #[] #[],.int .i64 4,.func (.func 149) #[] #[],.int .i64 5,.func (.func 150) #[] #[]]
theorem Z6t (w:World):Calls Tryz.prog 96 #[] w fun e w'=>e=.returned (.slice (some ⟨w.heap.size,0,none⟩) 5 5)/\w'=w.alloc (.cells Zft 191 (0,0)):=by
 go_enter Tryz.func96,Tryz.ntmps96;go_wp2;go_ret;exact⟨rfl,rfl⟩
theorem b3 (w:World)(a b c:Obj):Below w.heap.size w (((w.alloc a).alloc b).alloc c).drew:=(Zaa (Zau w a b) c).drew
section
set_option maxHeartbeats 2000000
set_option maxRecDepth 100000
theorem Z7q (B g cap o:Nat)(vs vs':List (List UInt8×Int))(ac:Ac)(op d a b imm:Int)(loc:List UInt8)(at_:Int)(w:World)(h:Zfo op d a b imm ⟨loc.toArray⟩ ⟨#[]⟩ 0=true)(hd:doL op d a imm loc vs=some (vs',ac))(h15:vs.length=15)
  (hr:Zb1 w B g cap vs) (ho:Blk w o 65 #[.slice (some ⟨g,0,none⟩) vs.length cap,.int .i64 at_]) (k:Nat) (hop:op=(k:Int)+1) (hk:k<5) :
  Calls Tryz.prog (Z8k k) #[Zcl op d a b imm ⟨loc.toArray⟩ ⟨#[]⟩ 0,.pointer (some ⟨o,0,none⟩)] w (Z7b B g cap vs' ac w):=by
 have HR:=Zh hr;have HO:=Zh ho;have hlen:=hr.blk.2.2.1;have hcap:=hr.blk.2.2.2.1;have hgw:=hr.blk.2.1;have how:=ho.lt;clear hr ho
 match k,hk with
 | 0,hk=>
  obtain rfl:op=1:=ω;clear hop hk;cases hd
  clear h h15 hlen;go_enter Tryz.func146,Tryz.ntmps146;go_wp2;exact bodyPost_ret (v:=.tuple #[Ztp ⟨3,loc,imm,0,0⟩,.int .i64 0]) (by simp [results,Tryz.results146,go_sem]) rfl ⟨rfl,HR.o.below (Zau _ _ _),Zd1.of_below (Zau _ _ _)⟩
 | 1,hk=>
  obtain rfl:op=2:=ω;clear hop hk;have ha:0<=a/\a<15:=by
   unfold Zfo at h;simp [Zed] at h;omega
  obtain⟨j,rfl⟩:∃ j:Nat,a=(j:Int):=⟨a.toNat,ω⟩;have hj:j<vs.length:=ω;have hx:=List.getElem?_eq_getElem hj;obtain⟨x,hxe⟩:∃ x,vs[j]=x:=⟨_,rfl⟩;rw [hxe] at hx;clear hxe;obtain⟨L,n⟩:=x;simp only [doL,show ¬ ((2:Int)=1) by decide,if_false,if_true,Int.toNat_natCast,List.getD_eq_getElem?_getD,hx,Option.getD_some] at hd
  split at hd
  ·rename_i hL;cases hd
   have hL:L=[]:=hL;subst hL;obtain⟨c0,c1,_,_⟩:=HR.o.at_ hx;have q0:w.cell? ⟨o,0,none⟩=some (.slice (some ⟨g,0,none⟩) vs.length cap):=HO.o.cell 0;have hk0:(0:Int)<=(j:Int):=ω;have hk1:(j:Int)<(vs.length:Int):=ω;have hB2:=Zh (Zau w (.cells #[.int .i64 2,.int .i64 d,.int .i64 (j:Int),.int .i64 b,.int .i64 imm,.string ⟨loc.toArray⟩,.string ⟨#[]⟩,.int .i64 0] 92 (0,0)) (.cells #[.int .i64 0,.string ⟨#[]⟩,.int .i64 0,.int .i64 0,.int .i64 0] 107 (0,0)));have i2:=Zao (Zbq w #[.int .i64 2,.int .i64 d,.int .i64 (j:Int),.int .i64 b,.int .i64 imm,.string ⟨loc.toArray⟩,.string ⟨#[]⟩,.int .i64 0] 92 (0,0) 2) (.cells #[.int .i64 0,.string ⟨#[]⟩,.int .i64 0,.int .i64 0,.int .i64 0] 107 (0,0));have e0:=Zac q0 hB2.out;have e1:=Zac c0 hB2.out;have e2:=Zac c1 hB2.out;clear h h15 hlen hx;go_enter Tryz.func147,Tryz.ntmps147
   go_wp2_with fail
   refine wz (fun y:World=>y.cell? ⟨o,0,none⟩=some (.slice (some ⟨g,0,none⟩) vs.length cap)/\y.cell? ⟨w.heap.size,2,none⟩=some (.int .i64 (j:Int))/\y.cell? ⟨g,j*2,none⟩=some (.string ⟨#[]⟩)/\y.cell? ⟨g,j*2+1,none⟩=some (.int .i64 n)) [3,5,7,8] ⟨e0,i2,e1,e2⟩ (fun hHeld=>?_);refine wq 0 ?_;refine wq 1 ?_;refine wq 2 ?_;refine wq 4 ?_;refine wt 3 (by assumption) ?_;refine wt 5 (by assumption) ?_;refine wq 6 ?_;refine wt 7 (by assumption) ?_;refine Zan (i:=8) κ rfl (fun K hK=>?_);go_simp;refine hK.out _ _ ⟨Zao hHeld.1 _,Zao hHeld.2.1 _,Zao hHeld.2.2.1 _,Zao hHeld.2.2.2 _⟩ ?_;clear hK K;refine pu ?_;refine wl 9 ?_;go_wp2;exact bodyPost_ret (v:=.tuple #[Ztp ⟨3,loc,n,0,0⟩,.int .i64 0]) (by simp [results,Tryz.results147,go_sem]) rfl ⟨rfl,HR.o.below (b3 _ _ _ _),Zd1.of_below (b3 _ _ _ _)⟩
  ·cases hd
 | 2,hk=>
  obtain rfl:op=3:=ω;clear hop hk;cases hd
  clear h h15 hlen;go_enter Tryz.func148,Tryz.ntmps148;go_wp2;exact bodyPost_ret (v:=.tuple #[Ztp ⟨2,loc,0,d,0⟩,.int .i64 0]) (by simp [results,Tryz.results148,go_sem]) rfl ⟨rfl,HR.o.below (Zau _ _ _),Zd1.of_below (Zau _ _ _)⟩
 | 3,hk=>
  obtain rfl:op=4:=ω;clear hop hk;have ha:0<=d/\d<15:=by
   unfold Zfo at h;simp [Zed] at h;omega
  obtain⟨j,rfl⟩:∃ j:Nat,d=(j:Int):=⟨d.toNat,ω⟩;have hj:j<vs.length:=ω;have hd2:vs.set j ([],imm)=vs'/\ac=⟨1,[],0,0,0⟩:=by cases hd;exact⟨rfl,rfl⟩
  obtain⟨rfl,rfl⟩:=hd2;obtain⟨_,_,fz,_⟩:=HR.o.at_ (List.getElem?_eq_getElem hj);have hk0:(0:Int)<=(j:Int):=ω;have hk1:(j:Int)<(vs.length:Int):=ω;have q0:w.cell? ⟨o,0,none⟩=some (.slice (some ⟨g,0,none⟩) vs.length cap):=HO.o.cell 0;have hB2:=Zh (Zau w (.cells #[.int .i64 4,.int .i64 (j:Int),.int .i64 a,.int .i64 b,.int .i64 imm,.string ⟨loc.toArray⟩,.string ⟨#[]⟩,.int .i64 0] 92 (0,0)) (.cells #[.int .i64 0,.string ⟨#[]⟩,.int .i64 0,.int .i64 0,.int .i64 0] 107 (0,0)));have i1:=Zao (Zbq w #[.int .i64 4,.int .i64 (j:Int),.int .i64 a,.int .i64 b,.int .i64 imm,.string ⟨loc.toArray⟩,.string ⟨#[]⟩,.int .i64 0] 92 (0,0) 1) (.cells #[.int .i64 0,.string ⟨#[]⟩,.int .i64 0,.int .i64 0,.int .i64 0] 107 (0,0));have i4:=Zao (Zbq w #[.int .i64 4,.int .i64 (j:Int),.int .i64 a,.int .i64 b,.int .i64 imm,.string ⟨loc.toArray⟩,.string ⟨#[]⟩,.int .i64 0] 92 (0,0) 4) (.cells #[.int .i64 0,.string ⟨#[]⟩,.int .i64 0,.int .i64 0,.int .i64 0] 107 (0,0));have e0:=Zac q0 hB2.out;have HR2:=Zh (HR.o.below hB2.out);obtain⟨x0,x1,fz,hth⟩:=HR2.o.at_ (List.getElem?_eq_getElem hj);clear h h15 hlen hd fz x0 x1;have HT:=Zh hth;clear hth;go_enter Tryz.func149,Tryz.ntmps149
  go_wp2_with fail
  refine wz (fun y:World=>y.cell? ⟨o,0,none⟩=some (.slice (some ⟨g,0,none⟩) vs.length cap)/\y.cell? ⟨w.heap.size,1,none⟩=some (.int .i64 (j:Int))/\y.cell? ⟨w.heap.size,4,none⟩=some (.int .i64 imm)) [3,5,7,8] ⟨e0,i1,i4⟩ (fun hHeld=>?_);refine wq 0 ?_;refine wq 1 ?_;refine wq 2 ?_;refine wq 4 ?_;refine wq 6 ?_;refine wt 3 (by assumption) ?_;refine wt 5 (by assumption) ?_;refine wt 7 (by assumption) ?_;refine wt 8 (by assumption) ?_;refine wq 9 ?_;refine wl 10 ?_;refine wpList_store_mid rfl _ _ _ rfl g (j*2) #[.string ⟨#[]⟩,.int .i64 imm] rfl rfl HT.o κ (all_oneCell_toArray (cs:=Zd2.enc ([],imm)) (Zd2.one _)) ?_;have HO3:=Zh (Zb1.set (HR2.o:Zb1 _ B g cap vs) j ([],imm));have HA3:=Zh (((Zfl w (.cells #[.int .i64 4,.int .i64 (j:Int),.int .i64 a,.int .i64 b,.int .i64 imm,.string ⟨loc.toArray⟩,.string ⟨#[]⟩,.int .i64 0] 92 (0,0)) 107 #[.int .i64 0,.string ⟨#[]⟩,.int .i64 0,.int .i64 0,.int .i64 0]).far (p:=⟨g,j*2,none⟩) (by simp;omega) (.string ⟨#[]⟩)).far (p:=⟨g,j*2+1,none⟩) (by simp;omega) (.int .i64 imm));have HN3:=Zh (Zd1.set (Zd1.set (Zvx (Zd1.of_below (g:=g) hB2.out)) (j*2) (.string ⟨#[]⟩)) (j*2+1) (.int .i64 imm));generalize hW:(World.setCells _ _ _ _:World)=W3;replace HO3:Hid (Zd2.Own 71 B W3 (.slice (some ⟨g,0,none⟩) vs.length cap) (vs.set j ([],imm))):=Zh (hW ▸ HO3.o)
  replace HA3:Hid (Blk W3 (w.heap.size+1) 107 #[.int .i64 0,.string ⟨#[]⟩,.int .i64 0,.int .i64 0,.int .i64 0]):=Zh (hW ▸ HA3.o);replace HN3:Hid (Zd1 g w W3):=Zh (hW ▸ HN3.o);clear hW;have a0:=HA3.o.cl 0;have a1:=HA3.o.cl 1;have a2:=HA3.o.cl 2;have a3:=HA3.o.cl 3;have a4:=HA3.o.cl 4;have af:=HA3.o.frozen;clear i1 i4 e0 HT HR2 q0;go_wp2;refine bodyPost_ret (v:=.tuple #[Ztp ⟨1,[],0,0,0⟩,.int .i64 0]) (by simp [results,Tryz.results149,go_sem,a0,a1,a2,a3,a4]) rfl ⟨rfl,?_,?_⟩
  ·rw [List.length_set]
   repeat (first | with_reducible exact HO3.o | with_reducible refine Zgu ?_ (by simp <;> omega) _)
  ·repeat (first | with_reducible exact HN3.o | with_reducible refine Ziu ?_ (.inr (by simp)) _)
 | 4,hk=>
  obtain rfl:op=5:=ω;clear hop hk;have hd2:vs=vs'/\ac=⟨4,[],0,0,1⟩:=by cases hd;exact⟨rfl,rfl⟩
  obtain⟨rfl,rfl⟩:=hd2;clear h h15 hlen hd;go_enter Tryz.func150,Tryz.ntmps150;go_wp2;exact bodyPost_ret (v:=.tuple #[Ztp ⟨4,[],0,0,1⟩,.int .i64 0]) (by simp [results,Tryz.results150,go_sem]) rfl ⟨rfl,HR.o.below (Zau _ _ _),Zd1.of_below (Zau _ _ _)⟩
end
end
end Go.Proofs.YtgjefdaaihgliaaGreatDoor
