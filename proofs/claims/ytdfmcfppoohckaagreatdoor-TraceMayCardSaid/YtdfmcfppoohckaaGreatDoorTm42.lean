/- Layer 1: the relation of some pairs: the program's rel.Of. -/
import Derived.Test.YtdfmcfppoohckaaGreatDoorTm38

namespace Go.Proofs.YtdfmcfppoohckaaGreatDoor
open Go.RowKit
section
theorem Z67 (n:Nat):madeCells #[.int .u64 0] n=(Zjn.flat (List.replicate n 0)).toArray:=by
 rw [Zsa]
 congr 1
 induction n with
 | zero=>rfl
 | succ n ih=>rw [List.replicate_succ,List.replicate_succ,Enc.flat_cons,<- ih];rfl
theorem Z61:(Tryz.prog.info? 70).map (fun i=>(i.zero,i.size,i.bytes))=some (some (.int .u64 0),1,8):=by kernel_rfl
theorem Zzv (n:Nat)(hn:n<=1000000)(w:World):(Instr.makeSlice 46 (.int .i64 (n:Int)) (.int .i64 (n:Int))).run Tryz.prog w=.ok (.slice (some ⟨w.heap.size,0,none⟩) n n) (w.alloc (.cells (Zjn.flat (List.replicate n 0)).toArray 70 (0,0))):=by
 obtain⟨i0,hi,hz0,hz1,hz2⟩:=Zda Z61;have h:=run_make (P:=Tryz.prog) w 46 70 i0 _ Tryz.underlying46 hi hz0 .i64 .i64 (n:Int) (n:Int) ω (Int.le_refl _) (by rw [hz2];omega) ω;rw [h,hz1];simp only [Int.toNat_natCast,Nat.mul_one];rw [show (Value.int .u64 0).cells=#[Value.int .u64 0] from rfl,Z67]
theorem Zms {m:List Nat}{i x:Nat}(h:m[i]?=some x):(Zjn.flat m).toArray[i]?=some (.int .u64 (x:Int)):=by
 have:=Zjn.flat_at h (show 0<Zjn.size by show 0<1;omega);rw [show i*Zjn.size+0=i by show i*1+0=i;omega] at this;simpa using this
theorem Zvi (m:List Nat)(i x:Nat)(h:i<m.length):(Zjn.flat m).toArray.setIfInBounds i (.int .u64 (x:Int))=(Zjn.flat (m.set i x)).toArray:=by
 apply Array.ext';apply List.ext_getElem?;intro j;have hl:(Zjn.flat m).length=m.length:=by rw [Zjn.flat_len];show m.length*1=_;omega
 rw [show ((Zjn.flat (m.set i x)).toArray.toList)=Zjn.flat (m.set i x) from rfl,Zet Zjn m i x j h];simp only [Array.toList_setIfInBounds,List.getElem?_set];show _=if i*1<=j/\j<i*1+1 then _ else _
 by_cases hij:i=j
 ·subst hij;rw [if_pos ω];simp [hl,h]
 ·rw [if_neg hij,if_neg ω]
section
set_option maxHeartbeats 4000000
set_option maxRecDepth 100000
theorem Z1e (n:Nat)(V:Sl)(l:List (Int×Int))(w:World)(hn:n<=64)(hlen:l.length<=1000000)(h:Zbf.At w V.A l)(hV:V.n=l.length)(hl:∀ p∈l,0<=p.1/\p.1<n/\0<=p.2/\p.2<n) :
  Calls Tryz.prog 79 #[.int .i64 (n:Int),V.v] w fun e w'=>∃ q,e=.returned (.tuple #[.agg #[.int .i64 (n:Int),.slice (some ⟨q,0,none⟩) n n],.int .i64 0])/\Blk w' q 70 (Zjn.flat (Zp8 n l)).toArray/\w.heap.size<=q/\Below w.heap.size w w':=by
 obtain⟨Av,nv,cv⟩:=V;simp only at hV h;subst hV;simp only [Sl.v];have HA:=Zh h;have HL:=Zh hl;have hmk:=Zzv n ω;have hn1:(n:Int)<=64:=ω;clear h hl;go_enter Tryz.func79,Tryz.ntmps79
 go_wp2_with fail
 have HB0:=Zh (Zab (Zao w (.cells #[.int .i64 0,.slice none 0 0] 48 (0,0)) (.cells (Zjn.flat (List.replicate n 0)).toArray 70 (0,0))) (.cells #[.int .i64 (n:Int),.slice (some ⟨w.heap.size+1,0,none⟩) n n] 48 (0,0)));have HR0:=Zh (Blk.alloc (Blk.alloc (Blk.new w 48 #[.int .i64 0,.slice none 0 0]) (.cells (Zjn.flat (List.replicate n 0)).toArray 70 (0,0))) (.cells #[.int .i64 (n:Int),.slice (some ⟨w.heap.size+1,0,none⟩) n n] 48 (0,0)));have HQ0:=Zh (Blk.alloc (Blk.new (w.alloc (.cells #[.int .i64 0,.slice none 0 0] 48 (0,0))) 70 (Zjn.flat (List.replicate n 0)).toArray) (.cells #[.int .i64 (n:Int),.slice (some ⟨w.heap.size+1,0,none⟩) n n] 48 (0,0)));have HO0:=Zh (Blk.new ((w.alloc (.cells #[.int .i64 0,.slice none 0 0] 48 (0,0))).alloc (.cells (Zjn.flat (List.replicate n 0)).toArray 70 (0,0))) 48 #[.int .i64 (n:Int),.slice (some ⟨w.heap.size+1,0,none⟩) n n]);simp only [World.size_alloc] at HQ0 HO0;generalize ((w.alloc (.cells #[.int .i64 0,.slice none 0 0] 48 (0,0))).alloc (.cells (Zjn.flat (List.replicate n 0)).toArray 70 (0,0))).alloc (.cells #[.int .i64 (n:Int),.slice (some ⟨w.heap.size+1,0,none⟩) n n] 48 (0,0))=w1 at *;clear hmk
 go_loopw [22] (fun v wr=>∃ (i:Nat) (m:List Nat),i<=l.length/\v=.int .i64 i/\m=(l.take i).foldl Zns (List.replicate n 0)/\m.length=n/\(∀ x∈m,x<18446744073709551616)/\Blk wr w.heap.size 48 #[.int .i64 0,.slice none 0 0]/\Blk wr (w.heap.size+1) 70 (Zjn.flat m).toArray/\Blk wr (w.heap.size+1+1) 48 #[.int .i64 (n:Int),.slice (some ⟨w.heap.size+1,0,none⟩) n n]/\Below w.heap.size w wr) (fun v _=>l.length - (intOf v).toNat)
 case atStart=>exact⟨0,_,Nat.zero_le _,rfl,rfl,by simp,(fun x hx=>by rw [List.eq_of_mem_replicate hx];omega),HR0.o,HQ0.o,HO0.o,HB0.o⟩
 case round=>
  obtain⟨i,m,hi,rfl,hm,hml,hmx,hr,hq,ho,hb⟩:=hrel;have HM:=Zh hm;have HMX:=Zh hmx;have HR:=Zh hr;have HQ:=Zh hq;have HO:=Zh ho;have HB:=Zh hb;have hzo:=ho.lt;clear hm hmx hr hq ho hb HR0 HQ0 HO0 HB0;have hii:(0:Int)<=(i:Int):=ω;by_cases hlt:i<l.length
  ·have hij:(i:Int)<(l.length:Int):=ω;obtain⟨p,hp⟩:∃ p,l[i]?=some p:=⟨_,List.getElem?_eq_getElem hlt⟩;obtain⟨b,o,rfl,c0,c1⟩:=Zg2 (HA.o.below HB.o) hp;obtain⟨h1,h2,h3,h4⟩:=HL.o p (List.mem_of_getElem? hp);have HS:=Zh (show (l.take (i+1)).foldl Zns (List.replicate n 0)=Zns m p by
    obtain⟨g1,g2⟩:=List.getElem?_eq_some_iff.1 hp;rw [List.take_succ_eq_append_getElem g1,List.foldl_append,<- HM.o,g2];rfl)
   obtain⟨pa,pb⟩:=p;simp only at c0 c1 h1 h2 h3 h4;obtain⟨a,rfl⟩:=Int.eq_ofNat_of_zero_le h1;obtain⟨d,rfl⟩:=Int.eq_ofNat_of_zero_le h3;obtain⟨x,hx⟩:∃ x,m[a]?=some x:=⟨_,List.getElem?_eq_getElem ω⟩;have hx64:=HMX.o x (List.mem_of_getElem? hx);have HX:=Zh hx;have HS2:=Zh (show Zns m ((a:Int),(d:Int))=m.set a (x|||2 ^ d) by unfold Zns;simp [hx]);have HD:=Zh (Blk.new wr 129 #[.int .i64 (a:Int),.int .i64 (d:Int)]);have HB1:=Zh (Zad wr (.cells #[.int .i64 (a:Int),.int .i64 (d:Int)] 129 (0,0)));clear hp hx
   go_wp2_with fail
   have HO1:=Zh (HO.o.go HB1.o);have HQ1:=Zh (HQ.o.go HB1.o);have HR1:=Zh (HR.o.go HB1.o);have HB2:=Zh (Zaa HB.o HB1.o);generalize wr.alloc _=w2 at *;have k1:=HO1.o.k1;have k2:w2.cell? ⟨w.heap.size+1,a,none⟩=some (.int .u64 (x:Int)):=by rw [HQ1.o.cell];exact Zms HX.o
   have k3:=HD.o.k0;have k4:=HD.o.k1;have hd64:d<64:=ω;have hs2:IntKind.u64.wrap ((2:Int) ^ d)=((2 ^ d:Nat):Int):=by have:=Zq8 hd64;rwa [Int.one_mul] at this
   have hp:2 ^ d<18446744073709551616:=by
    have:2 ^ d<2 ^ 64:=Nat.pow_lt_pow_right ω hd64;simpa using this
   have ho:=Zcf hx64 hp;have hv:bits .or .u64 (x:Int) (IntKind.u64.wrap ((2:Int) ^ min d 64))=((x|||2 ^ d:Nat):Int):=by rw [Nat.min_eq_left ω,hs2];exact ho
   have hdi:(0:Int)<=(d:Int):=ω;have hdj:(d:Int)<64:=ω;refine wz (fun y:World=>y.cell? ⟨w.heap.size+1+1,1,none⟩=some (.slice (some ⟨w.heap.size+1,0,none⟩) n n)/\y.cell? ⟨w.heap.size+1,a,none⟩=some (.int .u64 (x:Int))/\y.cell? ⟨wr.heap.size,0,none⟩=some (.int .i64 (a:Int))/\y.cell? ⟨wr.heap.size,1,none⟩=some (.int .i64 (d:Int))) [1,3,5,7,8,9] ⟨k1,k2,k3,k4⟩ (fun hHeld=>?_);refine wq 0 ?_;refine wq 2 ?_;refine wq 6 ?_;refine wt 1 (by assumption) ?_;refine wt 3 (by assumption) ?_;refine wq 4 ?_;refine wt 5 (by assumption) ?_;refine wt 7 (by assumption) ?_;refine wt 8 (by assumption) ?_;refine wt 9 (by assumption) ?_;refine wq 10 ?_;refine wq 11 ?_;refine wl 12 ?_;have HV:=Zh hv;clear hHeld k1 k3 k4 ho hs2 hp hv;have fq:=HQ1.o.frozen a;have HW:=Zh (show Blk (w2.setCell ⟨w.heap.size+1,a,none⟩ (.int .u64 (bits .or .u64 (x:Int) (IntKind.u64.wrap ((2:Int) ^ min d 64))))) (w.heap.size+1) 70 (Zjn.flat (Zns m ((a:Int),(d:Int)))).toArray by
    have:=HQ1.o.set_ a (.int .u64 (bits .or .u64 (x:Int) (IntKind.u64.wrap ((2:Int) ^ min d 64))));rw [HV.o,Zvi _ _ _ ω,<- HS2.o] at this;rw [HV.o];exact this)
   have HMM:=Zh (show ∀ y∈Zns m ((a:Int),(d:Int)),y<18446744073709551616 by
    have:=Zz3 n [((a:Int),(d:Int))] (fun q hq=>by rw [List.mem_singleton] at hq;subst hq;simp only;omega) m HMX.o;simpa using this)
   have HR2:=Zh (HR1.o.far (p:=⟨w.heap.size+1,a,none⟩) (show w.heap.size≠w.heap.size+1 by omega) (.int .u64 (bits .or .u64 (x:Int) (IntKind.u64.wrap ((2:Int) ^ min d 64)))));have HO2:=Zh (HO1.o.far (p:=⟨w.heap.size+1,a,none⟩) (show w.heap.size+1+1≠w.heap.size+1 by omega) (.int .u64 (bits .or .u64 (x:Int) (IntKind.u64.wrap ((2:Int) ^ min d 64)))));have HB3:=Zh (HB2.o.setCell (p:=⟨w.heap.size+1,a,none⟩) (show w.heap.size<=w.heap.size+1 by omega) (.int .u64 (bits .or .u64 (x:Int) (IntKind.u64.wrap ((2:Int) ^ min d 64)))))
   go_wp2_with fail
   go_roundw
   case rel=>exact⟨i+1,Zns m ((a:Int),(d:Int)),ω,by go_num,HS.o.symm,by rw [Znt];exact hml,HMM.o,HR2.o,HW.o,HO2.o,HB3.o.drew⟩
   case measure=>exact msr
  ·have hij:¬ (i:Int)<(l.length:Int):=ω;have HF:=Zh (show m=Zp8 n l by rw [HM.o,List.take_of_length_le ω];rfl);obtain⟨r0,r1⟩:=HR.o.c2;have fr:=HR.o.frozen;obtain⟨o0,o1⟩:=HO.o.c2
   go_wp2_with fail
   refine bodyPost_ret (v:=.tuple #[.agg #[.int .i64 (n:Int),.slice (some ⟨w.heap.size+1,0,none⟩) n n],.int .i64 0]) (by simp [results,Tryz.results79,go_sem, *]) rfl ?_;refine⟨w.heap.size+1,rfl,?_,ω,?_⟩
   ·rw [<- HF.o];exact (HQ.o.far (p:=⟨w.heap.size,0,none⟩) (show w.heap.size+1≠w.heap.size by omega) _).far (p:=⟨w.heap.size,1,none⟩) (show w.heap.size+1≠w.heap.size by omega) _
   ·exact (HB.o.setCell (p:=⟨w.heap.size,0,none⟩) (Nat.le_refl _) _).setCell (p:=⟨w.heap.size,1,none⟩) (Nat.le_refl _) _
end
end
section
theorem Zkn {P:Program}{f:FuncId}{args:Array Value}{w:World}{n:Nat}{v:Value}(h:Calls P f args (w.drewN n) fun e w'=>e=.returned v/\w.drewN n=w'):Calls P f args (w.drewN n) fun e w''=>e=.returned v/\∃ m,w''=w.drewN m:=
 h.mono fun _ _ ⟨he,hm⟩=>⟨he,n,hm.symm⟩
section
set_option maxHeartbeats 4000000
set_option maxRecDepth 100000
theorem Zrj (a p b q:Int)(w:World)(h:Zri a p b q):Calls Tryz.prog 85 #[.int .i64 a,.int .i64 p,.int .i64 b,.int .i64 q] w fun e w'=>e=.returned (.bool true)/\w=w':=by
 unfold Zri at h;rcases h with h | ⟨rfl,h⟩
 ·go_enter Tryz.func85,Tryz.ntmps85
  go_wp2_with fail
  go_ret;exact⟨rfl,rfl⟩
 ·go_enter Tryz.func85,Tryz.ntmps85
  go_wp2_with fail
  go_ret;exact⟨rfl,rfl⟩
theorem Zyx (L:Ze2)(V:Ze5)(w:World)(h:Zc1 w L V)(G:Zc5 L):Calls Tryz.prog 36 #[Zd4 V] w fun e w'=>e=.returned (.bool true)/\Below w.heap.size w w':=by
 obtain⟨⟨Al,nl,cl⟩,⟨Ai,ni,ci⟩,⟨Ae,ne,ce⟩,⟨Ab,nb,cb⟩,⟨Aa,na,ca⟩,⟨Ad,nd,cd⟩,⟨Ac,nc,cc⟩,⟨At,nt,ct⟩,⟨Ax,nx,cx⟩⟩:=V;simp only [Zd4,Sl.v];have HT:=Zh h;have hn1:=Zh (show nl=L.lo.length from h.nlo);have hn2:=Zh (show ni=L.ini.length from h.nini);have hn3:=Zh (show ne=L.a.evs.length from h.nev);have hn4:=Zh (show nb=L.a.bars.length from h.nbr);have HB0:=Zh (Zad w (.cells #[.slice Al nl cl,.slice Ai ni ci,.slice Ae ne ce,.slice Ab nb cb,.slice Aa na ca,.slice Ad nd cd,.slice Ac nc cc,.slice At nt ct,.slice Ax nx cx] 41 (0,0)));have HTB:=Zh (Blk.new w 41 #[.slice Al nl cl,.slice Ai ni ci,.slice Ae ne ce,.slice Ab nb cb,.slice Aa na ca,.slice Ad nd cd,.slice Ac nc cc,.slice At nt ct,.slice Ax nx cx]);have hl1:nl<=64:=by rw [hn1.o];exact G.nlo
 have hl2:ni=nl:=by rw [hn1.o,hn2.o];exact G.nini
 have hl3:ne<=64:=by rw [hn3.o];exact G.nev
 have HG:=Zh G;subst hl2;clear h G;go_enter Tryz.func36,Tryz.ntmps36
 go_wp2_with fail
 go_loopw [3] (fun v wr=>∃ i:Nat,i<=ni/\v=.int .i64 i/\Below w.heap.size w wr/\Blk wr w.heap.size 41 #[.slice Al ni cl,.slice Ai ni ci,.slice Ae ne ce,.slice Ab nb cb,.slice Aa na ca,.slice Ad nd cd,.slice Ac nc cc,.slice At nt ct,.slice Ax nx cx]) (fun v _=>ni - (intOf v).toNat)
 case atStart=>exact⟨0,Nat.zero_le _,rfl,HB0.o,HTB.o⟩
 case round=>
  obtain⟨i,hi,rfl,hb,ht⟩:=hrel;have HB:=Zh hb;have HK:=Zh ht;have k0:wr.cell? ⟨w.heap.size,0,none⟩=some (.slice Al ni cl):=ht.cell 0;have k1:wr.cell? ⟨w.heap.size,1,none⟩=some (.slice Ai ni ci):=ht.cell 1;have hii:(0:Int)<=(i:Int):=ω;clear hb ht HB0 HTB;by_cases hlt:i<ni
  ·have hij:(i:Int)<(ni:Int):=ω;obtain⟨x,hx⟩:∃ x,L.lo[i]?=some x:=⟨_,List.getElem?_eq_getElem (by rw [<- hn1.o];omega)⟩;obtain⟨y,hy⟩:∃ y,L.ini[i]?=some y:=⟨_,List.getElem?_eq_getElem (by rw [<- hn2.o];omega)⟩;obtain⟨b,o,eA,hc⟩:=HT.o.lo i x hx;simp only at eA;subst eA;obtain⟨b2,o2,eA,hc2⟩:=HT.o.ini i y hy;simp only at eA;subst eA;have c0:wr.cell? ⟨b,o+i,none⟩=some (.string ⟨x.toArray⟩):=Zac (by have:=hc 0 _ rfl;rwa [show o+i*Zcy.size+0=o+i by show o+i*1+0=o+i;omega] at this) HB.o;have c1:wr.cell? ⟨b2,o2+i,none⟩=some (.int .i64 y):=Zac (by have:=hc2 0 _ rfl;rwa [show o2+i*Zfd.size+0=o2+i by show o2+i*1+0=o2+i;omega] at this) HB.o;have hnm:=HG.o.name x (List.mem_of_getElem? hx);have HNM:=Zh (fun (y:World)=>show Calls Tryz.prog 83 #[.string ⟨x.toArray⟩] y fun e w'=>e=.returned (.bool true)/\y=w' by
    have h1:x.length<=9223372036854775807:=by have:=Zsb hnm;omega
    have:=Zhx ⟨x.toArray⟩ y (show x.toArray.size<=_ by simpa using h1);rw [show (ByteArray.mk x.toArray).data.toList=x from rfl,hnm] at this;exact this)
   have hnu:=HG.o.num y (List.mem_of_getElem? hy);have HNU:=Zh (fun (z:World)=>show Calls Tryz.prog 84 #[.int .i64 y] z fun e w'=>e=.returned (.bool true)/\z=w' by
    have:=Znk z y;rw [hnu] at this;exact this)
   by_cases h0:i=0
   ·subst h0;simp only [Nat.add_zero] at c0 c1;clear hc hc2 hx hy hnm hnu hii
    go_wp2_with fail
    go_quiet (first | (go_at_call 83;exact Zkn (HNM.o _)) | (go_at_call 84;exact Zkn (HNU.o _)))
    go_wp2_with fail
    go_roundw
    case rel=>exact⟨0+1,ω,by go_num,Zam HB.o _,HK.o⟩
    case measure=>simp [intOf];omega
   ·obtain⟨j,hji⟩:∃ j,i=j+1:=⟨i - 1,ω⟩;obtain⟨x',hx'⟩:∃ x,L.lo[j]?=some x:=⟨_,List.getElem?_eq_getElem (by rw [<- hn1.o];omega)⟩;have hls:Op.bytesLess x' x=true:=by rw [Zc8];exact Zps HG.o.str hx' (by rw [<- hji];exact hx)
    have hlt':Op.bytesLess x x'=false:=by rw [Zc8];exact Zjw (by rw [<- Zc8];exact hls)
    have hlq:(x == x')=false:=by
     have:x≠x':=fun e=>by subst e;rw [Zc8,Zga] at hls;cases hls
     simpa using this
    have hc':=HT.o.lo j x' hx';obtain⟨b3,o3,eA,hc3⟩:=hc';simp only [Option.some.injEq,Addr.mk.injEq,and_true] at eA;obtain⟨rfl,rfl⟩:=eA;have c2:wr.cell? ⟨b,o+j,none⟩=some (.string ⟨x'.toArray⟩):=Zac (by have:=hc3 0 _ rfl;rwa [show o+j*Zcy.size+0=o+j by show o+j*1+0=o+j;omega] at this) HB.o;have hjj:(0:Int)<(i:Int):=ω;have hd1:decide (0<i)=true:=decide_eq_true ω;have hd2:decide ((0:Int)<(i:Int))=true:=decide_eq_true ω;have hjm:(i:Int) - 1=(j:Int):=ω;have hj0:(0:Int)<=(j:Int):=ω;have hjl:(j:Int)<(ni:Int):=ω;have hwj:IntKind.i64.wrap (j:Int)=(j:Int):=by unfold IntKind.wrap;simp [IntKind.bits,IntKind.signed];omega
    clear hji hc hc2 hc3 hx hy hx' hnm hnu
    go_wp2_with fail
    go_quiet (first | (go_at_call 83;exact Zkn (HNM.o _)) | (go_at_call 84;exact Zkn (HNU.o _)))
    go_wp2_with fail
    go_roundw
    case rel=>exact⟨i+1,ω,by go_num,Zam HB.o _,HK.o⟩
    case measure=>simp [intOf];omega
  ·have hij:¬ (i:Int)<(ni:Int):=ω;clear hii
   go_wp2_with fail
   go_loopw [4] (fun v wr=>∃ i:Nat,i<=ne/\v=.int .i64 i/\Below w.heap.size w wr/\Blk wr w.heap.size 41 #[.slice Al ni cl,.slice Ai ni ci,.slice Ae ne ce,.slice Ab nb cb,.slice Aa na ca,.slice Ad nd cd,.slice Ac nc cc,.slice At nt ct,.slice Ax nx cx]) (fun v _=>ne - (intOf v).toNat)
   case atStart=>exact⟨0,Nat.zero_le _,rfl,HB.o,HK.o⟩
   case round=>
    clear HB HK hij hlt hi k0 k1;obtain⟨i,hi,rfl,hb,ht⟩:=hrel;have HB:=Zh hb;have HK:=Zh ht;have k0:wr.cell? ⟨w.heap.size,0,none⟩=some (.slice Al ni cl):=ht.cell 0;have k2:wr.cell? ⟨w.heap.size,2,none⟩=some (.slice Ae ne ce):=ht.cell 2;have hii:(0:Int)<=(i:Int):=ω;have hgw:=ht.lt;clear hb ht;by_cases hlt:i<ne
    ·have hij:(i:Int)<(ne:Int):=ω;obtain⟨x,hx⟩:∃ x,L.a.evs[i]?=some x:=⟨_,List.getElem?_eq_getElem (by rw [<- hn3.o];omega)⟩;obtain⟨b,o,eA,c0,c1,c2,c3,c4,c5⟩:=Zc6 (HT.o.ev.below HB.o) hx;simp only at eA;subst eA;obtain⟨⟨h1a,h1b⟩,⟨h2a,h2b⟩,⟨h3a,h3b⟩,h4,⟨h5a,h5b⟩,h6⟩:=HG.o.ev x (List.mem_of_getElem? hx);have h3c:x.lc<(ni:Int):=by rw [hn1.o];exact h3b
     have HEV:=Zh (fun j x' (h:L.a.evs[j]?=some x') (hj:j+1=i)=>HG.o.evo j x' x h (by rw [hj];exact hx));obtain⟨xt,xp,xd,xl,xv,xr⟩:=x;simp only at h1a h1b h2a h2b h3a h3b h3c h4 h5a h5b h6 c0 c1 c2 c3 c4 c5;have HNU:=Zh (fun (z:World)=>show Calls Tryz.prog 84 #[.int .i64 xv] z fun e w'=>e=.returned (.bool true)/\z=w' by
      have:=Znk z xv;rw [h4] at this;exact this)
     have HB1:=Zh (Zab HB.o (.cells #[.int .i64 xt,.int .i64 xp,.int .i64 xd,.int .i64 xl,.int .i64 xv,.int .i64 xr] 54 (0,0)));have HK1:=Zh (HK.o.alloc (.cells #[.int .i64 xt,.int .i64 xp,.int .i64 xd,.int .i64 xl,.int .i64 xv,.int .i64 xr] 54 (0,0)));have HE1:=Zh (Blk.new wr 54 #[.int .i64 xt,.int .i64 xp,.int .i64 xd,.int .i64 xl,.int .i64 xv,.int .i64 xr]);have k2':=Zal k2 (.cells #[.int .i64 xt,.int .i64 xp,.int .i64 xd,.int .i64 xl,.int .i64 xv,.int .i64 xr] 54 (0,0));clear hx h4 h3b;rcases h6 with ⟨rfl,rfl⟩ | ⟨rfl,rfl⟩ <;>
     (go_wp2_with (go_at_call 84;refine (HNU.o _).mono ?_;rintro e w' ⟨rfl,rfl⟩)
      generalize wr.alloc _=w9 at *;clear HNU h1a h1b h2a h2b h3a h3c h5a h5b c0 c1 c2 c3 c4 c5 k0 k2;by_cases h0:i=0
      ·have hd2:decide ((0:Int)<(i:Int))=false:=decide_eq_false ω;have hd1:decide (0<i)=false:=decide_eq_false ω;clear h0
       go_quiet (fail)
       go_wp2_with fail
       go_roundw
       case rel=>exact⟨i+1,ω,by go_num,Zam HB1.o _,HK1.o⟩
       case measure=>simp [intOf];omega
      ·obtain⟨j,hji⟩:∃ j,i=j+1:=⟨i - 1,ω⟩;obtain⟨y,hy⟩:∃ x,L.a.evs[j]?=some x:=⟨_,List.getElem?_eq_getElem (by rw [<- hn3.o];omega)⟩;have HAH:=Zh (fun z=>Zrj _ _ _ _ z (HEV.o j y hy hji.symm));obtain⟨b3,o3,eA,d0,d1,-⟩:=Zc6 (HT.o.ev.below HB1.o) hy;simp only [Option.some.injEq,Addr.mk.injEq,and_true] at eA;obtain⟨rfl,rfl⟩:=eA;obtain⟨yt,yp,yd,yl,yv,yr⟩:=y;simp only at d0 d1 HAH;have hjm:(i:Int) - 1=(j:Int):=ω;have hj0:(0:Int)<=(j:Int):=ω;have hjl:(j:Int)<(ne:Int):=ω;have hd1:decide (0<i)=true:=decide_eq_true ω;have hd2:decide ((0:Int)<(i:Int))=true:=decide_eq_true ω;have hwj:IntKind.i64.wrap (j:Int)=(j:Int):=by unfold IntKind.wrap;simp [IntKind.bits,IntKind.signed];omega
       have e0:=HE1.o.cm 0;have e1:=HE1.o.cm 1;clear hji hy h0
       go_quiet (first | (go_at_call 85;exact Zkn (HAH.o _)))
       go_wp2_with fail
       go_roundw
       case rel=>exact⟨i+1,ω,by go_num,Zam HB1.o _,HK1.o⟩
       case measure=>simp [intOf];omega)
    ·have hij:¬ (i:Int)<(ne:Int):=ω
     go_wp2_with fail
     go_ret;exact⟨rfl,HB.o⟩
end
end
section
def Zc3:Zd8->Bool
 | .num n=>decide (n=0)
 | _=>false
def Zo8:Zd8->Bool
 | .num _=>true
 | _=>false
section
set_option maxHeartbeats 4000000
set_option maxRecDepth 100000
theorem Zij (f:Nat)(x:Rg)(w:World):Calls Tryz.prog 165 #[Za2 f x] w (RB w (.bool (Zc3 x.h))):=by
 obtain⟨h,on⟩:=x;cases h with
 | num n=>
  simp only [Za2,Zax,Zb6,Zb5];have HB:=Zh (Zad w (.cells #[.int .i64 1,.int .i64 n,.string ⟨#[]⟩,.int .u64 ((on<<<f:Nat):Int)] 87 (0,0)));by_cases hn:n=0
  ·have e1:Zc3 (.num n)=true:=by simp [Zc3,hn]
   rw [e1];subst hn;exact m_117
  ·have e1:Zc3 (.num n)=false:=by simp [Zc3,hn]
   have e2:(n == 0)=false:=by simpa using hn
   rw [e1];exact m_117
 | adr s=>
  simp only [Za2,Zax,Zb6,Zb5,Zc3];have HB:=Zh (Zad w (.cells #[.int .i64 2,.int .i64 0,.string ⟨s.toArray⟩,.int .u64 ((on<<<f:Nat):Int)] 87 (0,0)));exact m_117
 | rd i=>
  simp only [Za2,Zax,Zb6,Zb5,Zc3];have HB:=Zh (Zad w (.cells #[.int .i64 3,.int .i64 ((f+i:Nat):Int),.string ⟨#[]⟩,.int .u64 ((on<<<f:Nat):Int)] 87 (0,0)));exact m_117
 | non=>
  simp only [Za2,Zax,Zb6,Zb5,Zc3];have HB:=Zh (Zad w (.cells #[.int .i64 4,.int .i64 0,.string ⟨#[]⟩,.int .u64 ((on<<<f:Nat):Int)] 87 (0,0)));exact m_117
theorem Z7l (n:Int)(w:World):Calls Tryz.prog 166 #[.int .i64 n] w fun e w'=>e=.returned (.int .i64 (IntKind.i32.wrap n))/\w=w':=by
 go_enter Tryz.func166,Tryz.ntmps166
 go_wp2_with fail
 go_ret;exact⟨Zai (by unfold wrap64 RowKit.wrap32 IntKind.wrap;simp [IntKind.bits,IntKind.signed];omega),rfl⟩
theorem Z4y (f:Nat)(x:Rg)(w:World):Calls Tryz.prog 24 #[Za2 f x] w (RB w (Zu7 (Zp6 f x.h))):=by
 obtain⟨h,on⟩:=x;cases h with
 | num n=>
  simp only [Za2,Zax,Zb6,Zb5,Zp6,Zu7];have HB:=Zh (Zad w (.cells #[.int .i64 1,.int .i64 n,.string ⟨#[]⟩,.int .u64 ((on<<<f:Nat):Int)] 87 (0,0)));go_enter Tryz.func24,Tryz.ntmps24
  go_wp2_with fail
  refine bodyPost_ret (v:=.tuple #[.agg #[.int .i64 1,.int .i64 n],.bool true]) (by simp [results,Tryz.results24,go_sem, *]) rfl ?_;exact m_101
 | adr s=>
  simp only [Za2,Zax,Zb6,Zb5,Zp6,Zu7];have HB:=Zh (Zad w (.cells #[.int .i64 2,.int .i64 0,.string ⟨s.toArray⟩,.int .u64 ((on<<<f:Nat):Int)] 87 (0,0)));exact m_46
 | rd i=>
  simp only [Za2,Zax,Zb6,Zb5,Zp6,Zu7];have HB:=Zh (Zad w (.cells #[.int .i64 3,.int .i64 ((f+i:Nat):Int),.string ⟨#[]⟩,.int .u64 ((on<<<f:Nat):Int)] 87 (0,0)));go_enter Tryz.func24,Tryz.ntmps24
  go_wp2_with fail
  refine bodyPost_ret (v:=.tuple #[.agg #[.int .i64 2,.int .i64 ((f+i:Nat):Int)],.bool true]) (by simp [results,Tryz.results24,go_sem, *]) rfl ?_;exact m_101
 | non=>
  simp only [Za2,Zax,Zb6,Zb5,Zp6,Zu7];have HB:=Zh (Zad w (.cells #[.int .i64 4,.int .i64 0,.string ⟨#[]⟩,.int .u64 ((on<<<f:Nat):Int)] 87 (0,0)));exact m_46
theorem Z43 {l:List Nm}{s x:Nm}{i:Nat}(hi:i<l.idxOf s)(hx:l[i]?=some x):(x == s)=false:=by
 obtain⟨h1,rfl⟩:=List.getElem?_eq_some_iff.1 hx;have:=List.not_of_lt_findIdx (p:=(· == s)) (xs:=l) hi;simpa using this
theorem Zkl (V:Ze5)(l:List Nm)(s:Nm)(w:World)(h:Zcy.At w V.lo.A l)(hn:V.lo.n=l.length)(hl:l.length<=64)(hs:s∈l):Calls Tryz.prog 21 #[Zd4 V,.string ⟨s.toArray⟩] w (RB w (.int .i64 ((l.idxOf s:Nat):Int))):=by
 simp only [Zd4,Sl.v];obtain⟨Al,cl,hA⟩:∃ A c,V.lo=⟨A,l.length,c⟩:=⟨V.lo.A,V.lo.c,by rw [<- hn]⟩;rw [hA] at h;simp only at h;rw [hA];simp only;have hk:=List.idxOf_lt_length_of_mem hs;obtain⟨j,hj⟩:∃ j,l.idxOf s=j:=⟨_,rfl⟩;rw [hj] at hk ⊢;have HJ:=Zh hj;have HE:=Zh (show l[j]?=some s by rw [<- hj,List.getElem?_eq_getElem (by rw [hj];exact hk)];simp);have HA:=Zh h;have HB0:=Zh (Zad w (.cells #[.slice Al l.length cl,V.ini.v,V.ev.v,V.br.v,V.ad.v,V.da.v,V.ct.v,V.th.v,V.en.v] 41 (0,0)));have HTB:=Zh (Blk.new w 41 #[.slice Al l.length cl,V.ini.v,V.ev.v,V.br.v,V.ad.v,V.da.v,V.ct.v,V.th.v,V.en.v]);go_enter Tryz.func21,Tryz.ntmps21
 go_wp2_with fail
 go_loopw [5] (fun v wr=>∃ i:Nat,i<=j/\v=.int .i64 i/\Below w.heap.size w wr/\Blk wr w.heap.size 41 #[.slice Al l.length cl,V.ini.v,V.ev.v,V.br.v,V.ad.v,V.da.v,V.ct.v,V.th.v,V.en.v]) (fun v _=>j - (intOf v).toNat)
 case atStart=>exact⟨0,Nat.zero_le _,rfl,HB0.o,HTB.o⟩
 case round=>
  obtain⟨i,hi,rfl,hb,ht⟩:=hrel;have HB:=Zh hb;have HT:=Zh ht;have k0:=ht.k0;have hii:(0:Int)<=(i:Int):=ω;have hij:(i:Int)<(l.length:Int):=ω;by_cases hlt:i<j
  ·obtain⟨x,hx⟩:∃ x,l[i]?=some x:=⟨_,List.getElem?_eq_getElem ω⟩;obtain⟨b,o,rfl,hc⟩:=HA.o i x hx;have c0:wr.cell? ⟨b,o+i,none⟩=some (.string ⟨x.toArray⟩):=Zac (by have:=hc 0 _ rfl;rwa [show o+i*Zcy.size+0=o+i by show o+i*1+0=o+i;omega] at this) HB.o;have e1:(x == s)=false:=Z43 (by rw [HJ.o];exact hlt) hx
   go_wp2_with fail
   go_roundw
   case rel=>exact⟨i+1,ω,by go_num,HB.o,HT.o⟩
   case measure=>exact msr
  ·have hij2:i=j:=ω;subst hij2;obtain⟨b,o,rfl,hc⟩:=HA.o i s HE.o;have c0:wr.cell? ⟨b,o+i,none⟩=some (.string ⟨s.toArray⟩):=Zac (by have:=hc 0 _ rfl;rwa [show o+i*Zcy.size+0=o+i by show o+i*1+0=o+i;omega] at this) HB.o
   go_wp2_with fail
   go_ret;exact⟨rfl,HB.o⟩
theorem Zkk (a i k:Nat):Zbk a i (k+1)=if a.testBit k then Zbk a i k++[((k:Int),(i:Int))] else Zbk a i k:=by
 unfold Zbk;rw [Zdc]
 split <;> simp
theorem Zvj (s:Sl)(l:List (Int×Int))(a i B:Nat)(w:World)(ha:a<18446744073709551616)(hl:l.length<=1000000)(hB:B<=w.heap.size)(h:Zbf.Own 129 B w s.v l) :
  Calls Tryz.prog 201 #[s.v,.int .u64 (a:Int),.int .i64 (i:Int)] w fun e w'=>∃ s':Sl,e=.returned s'.v/\Zbf.Own 129 B w' s'.v (l++Zbk a i 64)/\Zbm w w' B s.v s'.v:=by
 have HV0:=Zh h;have HG0:=Zh (Zbm.refl w B s.v);simp only [Sl.v];clear h;go_enter Tryz.func201,Tryz.ntmps201
 go_wp2_with fail
 go_loopw [7,0] (fun ii vv wr=>∃ (k:Nat) (s':Sl),k<=64/\ii=.int .i64 k/\vv=s'.v/\Zbf.Own 129 B wr s'.v (l++Zbk a i k)/\Zbm w wr B s.v s'.v) (fun ii _ _=>64 - (intOf ii).toNat)
 case atStart=>exact⟨0,s,Nat.zero_le _,rfl,rfl,by simpa [Zbk,Zdf] using HV0.o,HG0.o⟩
 case round=>
  obtain⟨k,s',hk,rfl,rfl,hv,hg⟩:=hrel;obtain⟨q,hq⟩:∃ q,l++Zbk a i k=q:=⟨_,rfl⟩;have HQ:=Zh hq;have hql:q.length<=1000064:=by
   have:=Zl0 a i k;rw [<- hq,List.length_append];omega
  rw [hq] at hv;have HV:=Zh hv;have HG:=Zh hg;have hzr:=hg.below.size;clear hv hg hq HV0 HG0;simp only [Sl.v];by_cases hlt:k<64
  ·have hkl:(k:Int)<64:=ω;have hq:((a:Int) / (2:Int) ^ k)=((a / 2 ^ k:Nat):Int):=by simp
   have hlt2:a / 2 ^ k<18446744073709551616:=Nat.lt_of_le_of_lt (Nat.div_le_self _ _) ha;have hb:=Zj9 hlt2;rw [<- hq] at hb;have hbm:=Zqb a k;cases hbt:a.testBit k with
   | true=>
    have hb1:bits .and .u64 ((a:Int) / (2:Int) ^ k) 1=1:=by rw [hb];rw [hbt] at hbm;simp at hbm;simp [hbm]
    have HS:=Zh (show q++[((k:Int),(i:Int))]=l++Zbk a i (k+1) by rw [Zkk,hbt,<- HQ.o];simp);have HPA:=Zh (Zi7 wr ((k:Int),(i:Int)));have HB1:=Zh (Zad wr (.cells #[.int .i64 (k:Int),.int .i64 (i:Int)] 129 (0,0)));clear hq hb hbm hbt
    go_wp2_with (at_builtin;refine Enc.appW Zmp _ rfl (.tmp 18) (.tmp 22) rfl [((k:Int),(i:Int))] B q _ wr.heap.size 0 1 rfl rfl HPA.o (HV.o.below HB1.o) (by simp;omega) (by simp;omega) (by simp;omega) ?_;intro v' w3 hown3 hg3;obtain⟨s3,rfl,_⟩:=Zd7 hown3;have HO3:=Zh hown3;have HG3:=Zh hg3;clear hown3 hg3)
    go_roundw
    case rel=>exact⟨k+1,s3,ω,by go_num,rfl,by rw [<- HS.o];exact HO3.o,HG.o.trans ((Zbm.of_below HB1.o ω).trans HG3.o)⟩
    case measure=>exact msr
   | false=>
    have hb1:bits .and .u64 ((a:Int) / (2:Int) ^ k) 1=0:=by rw [hb];rw [hbt] at hbm;simp at hbm;simp [hbm]
    have HS:=Zh (show q=l++Zbk a i (k+1) by rw [Zkk,hbt,<- HQ.o];rfl);clear hq hb hbm hbt
    go_wp2_with fail
    go_roundw
    case rel=>exact⟨k+1,s',ω,by go_num,rfl,by rw [<- HS.o];exact HV.o,HG.o⟩
    case measure=>exact msr
  ·have hk64:k=64:=ω;subst hk64
   go_wp2_with fail
   go_ret;exact⟨s',rfl,by rw [HQ.o];exact HV.o,HG.o⟩
end
end
end Go.Proofs.YtdfmcfppoohckaaGreatDoor
