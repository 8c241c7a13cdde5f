/- Layer 8: lists of nodes with all below them (Fr), and how they lie in memory. Layer 8: Che -/
import Derived.Test.YtgjefdaaihgliaaGreatDoorMn03

namespace Go.Proofs.YtgjefdaaihgliaaGreatDoor
open Go.RowKit
inductive Fr where
 | nil
 | cons (k t r:Int) (l:List UInt8) (v:Int) (kids rest:Fr)
def Fr.len:Fr->Nat
 | .nil=>0
 | .cons _ _ _ _ _ _ rest=>rest.len+1
def Fr.drop:Nat->Fr->Fr
 | 0,f=>f
 | _+1,.nil=>.nil
 | n+1,.cons _ _ _ _ _ _ rest=>rest.drop n
theorem Fr.drop_lt:∀ (f:Fr) (j:Nat),j<f.len->∃ k t r l v kids rest,f.drop j=.cons k t r l v kids rest
 | .nil,_,h=>by simp [Fr.len] at h
 | .cons k t r l v kids rest,0,_=>⟨_,_,_,_,_,_,_,rfl⟩
 | .cons _ _ _ _ _ _ rest,j+1,h=>rest.drop_lt j (by simp [Fr.len] at h;omega)
theorem Fr.drop_ge:∀ (f:Fr) (j:Nat),f.len<=j->f.drop j=.nil
 | .nil,0,_=>rfl
 | .nil,_+1,_=>rfl
 | .cons _ _ _ _ _ _ _,0,h=>by simp [Fr.len] at h
 | .cons _ _ _ _ _ _ rest,j+1,h=>rest.drop_ge j (by simp [Fr.len] at h;omega)
theorem Fr.drop_next:∀ (f:Fr) (j:Nat) {k t r:Int} {l:List UInt8} {v:Int} {kids rest:Fr},f.drop j=.cons k t r l v kids rest->f.drop (j+1)=rest
 | .nil,0,_,_,_,_,_,_,_,h=>by cases h
 | .nil,_+1,_,_,_,_,_,_,_,h=>by cases h
 | .cons _ _ _ _ _ _ rest,0,_,_,_,_,_,_,_,h=>by cases h;cases rest <;> rfl
 | .cons _ _ _ _ _ _ rest,j+1,_,_,_,_,_,_,_,h=>rest.drop_next j h
def Zc3 (w:World)(hi:Nat):Nat->Nat->Fr->Prop
 | _,_,.nil=>True
 | b,o,.cons k t r l v kids rest=>
  w.cell? ⟨b,o,none⟩=some (.int .i64 k)/\w.cell? ⟨b,o+1,none⟩=some (.int .i64 t)/\w.cell? ⟨b,o+2,none⟩=some (.int .i64 r)/\w.cell? ⟨b,o+3,none⟩=some (.string ⟨l.toArray⟩)/\
  w.cell? ⟨b,o+4,none⟩=some (.int .i64 v)/\l.length<=9223372036854775807/\
  (∃ A cap,w.cell? ⟨b,o+5,none⟩=some (.slice A kids.len cap)/\kids.len<=cap/\(kids.len*72<=140737488351232/\cap<=9223372036854775807)/\(0<kids.len->∃ b' o',A=some ⟨b',o',none⟩/\b'<hi/\Zc3 w hi b' o' kids))/\
  Zc3 w hi b (o+6) rest
def Zd7 (w:World)(hi:Nat)(kv:Value)(f:Fr):Prop:=
 ∃ A cap,kv=.slice A f.len cap/\f.len<=cap/\(f.len*72<=140737488351232/\cap<=9223372036854775807)/\(0<f.len->∃ b o,A=some ⟨b,o,none⟩/\b<hi/\Zc3 w hi b o f)
theorem Zc3.keep {w w':World}{hi:Nat}(hk:∀ b o,b<hi->w'.cell? ⟨b,o,none⟩=w.cell? ⟨b,o,none⟩):∀ (f:Fr) (b o:Nat),b<hi->Zc3 w hi b o f->Zc3 w' hi b o f
 | .nil,_,_,_,_=>trivial
 | .cons k t r l v kids rest,b,o,hb,⟨h0,h1,h2,h3,h4,h5,⟨A,cap,h6,h7,h8,h9⟩,h10⟩=>
  ⟨(hk _ _ hb).trans h0,(hk _ _ hb).trans h1,(hk _ _ hb).trans h2,(hk _ _ hb).trans h3,(hk _ _ hb).trans h4,h5,
   ⟨A,cap,(hk _ _ hb).trans h6,h7,h8,fun hp=>by
    obtain⟨b',o',e,hb',hr⟩:=h9 hp
    exact⟨b',o',e,hb',Zc3.keep hk kids b' o' hb' hr⟩⟩,Zc3.keep hk rest b (o+6) hb h10⟩
theorem Zd7.keep {w w':World}{hi:Nat}{kv:Value}{f:Fr}(h:Zd7 w hi kv f)(hk:∀ b o,b<hi->w'.cell? ⟨b,o,none⟩=w.cell? ⟨b,o,none⟩):Zd7 w' hi kv f:=by
 obtain⟨A,cap,h1,h2,h3,h4⟩:=h;refine⟨A,cap,h1,h2,h3,fun hp=>?_⟩;obtain⟨b,o,e,hb,hr⟩:=h4 hp;exact⟨b,o,e,hb,Zc3.keep hk f b o hb hr⟩
theorem Zd7.below {w w':World}{hi:Nat}{kv:Value}{f:Fr}(h:Zd7 w hi kv f)(hh:hi<=w.heap.size)(hb:Below w.heap.size w w'):Zd7 w' hi kv f:=
 h.keep fun b o h1=>hb.cell (p:=⟨b,o,none⟩) (Nat.lt_of_lt_of_le h1 hh)
theorem Zc3.up {w:World}{hi hi':Nat}(hh:hi<=hi'):∀ (f:Fr) (b o:Nat),Zc3 w hi b o f->Zc3 w hi' b o f
 | .nil,_,_,_=>trivial
 | .cons k t r l v kids rest,b,o,⟨h0,h1,h2,h3,h4,h5,⟨A,cap,h6,h7,h8,h9⟩,h10⟩=>
  ⟨h0,h1,h2,h3,h4,h5,⟨A,cap,h6,h7,h8,fun hp=>by
    obtain⟨b',o',e,hb',hr⟩:=h9 hp
    exact⟨b',o',e,ω,Zc3.up hh kids b' o' hr⟩⟩,Zc3.up hh rest b (o+6) h10⟩
theorem Zd7.up {w:World}{hi hi':Nat}{kv:Value}{f:Fr}(h:Zd7 w hi kv f)(hh:hi<=hi'):Zd7 w hi' kv f:=by
 obtain⟨A,cap,h1,h2,h3,h4⟩:=h;refine⟨A,cap,h1,h2,h3,fun hp=>?_⟩;obtain⟨b,o,e,hb,hr⟩:=h4 hp;exact⟨b,o,e,ω,Zc3.up hh f b o hr⟩
theorem Zc3.at_ {w:World}{hi:Nat}:∀ (f:Fr) (b o j:Nat),Zc3 w hi b o f->Zc3 w hi b (o+j*6) (f.drop j)
 | .nil,_,_,0,_=>trivial
 | .nil,_,_,_+1,_=>trivial
 | .cons _ _ _ _ _ _ _,_,_,0,h=>by simpa [Fr.drop] using h
 | .cons _ _ _ _ _ _ rest,b,o,j+1,h=>by
  have:=Zc3.at_ rest b (o+6) j h.2.2.2.2.2.2.2;rw [show o+6+j*6=o+(j+1)*6 by omega] at this;exact this
theorem Zd7.nil (w:World)(hi:Nat)(A:Option Addr)(cap:Nat)(hc:cap<=9223372036854775807):Zd7 w hi (.slice A 0 cap) .nil:=⟨A,cap,rfl,Nat.zero_le _,⟨by simp [Fr.len],hc⟩,fun h=>by simp [Fr.len] at h⟩
theorem Zc3.head {w:World}{hi b o:Nat}{k t r:Int}{l:List UInt8}{v:Int}{kids rest:Fr}(h:Zc3 w hi b o (.cons k t r l v kids rest)) :
  ∃ kv,w.cell? ⟨b,o,none⟩=some (.int .i64 k)/\w.cell? ⟨b,o+1,none⟩=some (.int .i64 t)/\w.cell? ⟨b,o+2,none⟩=some (.int .i64 r)/\w.cell? ⟨b,o+3,none⟩=some (.string ⟨l.toArray⟩)/\
   w.cell? ⟨b,o+4,none⟩=some (.int .i64 v)/\w.cell? ⟨b,o+5,none⟩=some kv/\l.length<=9223372036854775807/\Zd7 w hi kv kids:=by
 obtain⟨h0,h1,h2,h3,h4,h5,⟨A,cap,h6,h7,h8,h9⟩,_⟩:=h;exact⟨_,h0,h1,h2,h3,h4,h6,h5,A,cap,rfl,h7,h8,h9⟩
def Zdo (a:Int):Fr->Nat->Nat->Nat×Int
 | .nil,met,_=>(met,0)
 | .cons k t r l v kids rest,met,deep=>
  if 1024<=met\/64<=deep then (met,2)
  else if Zf2 a k t r l v kids.len=false then (met,80)
  else if (Zdo a kids (met+1) (deep+1)).2=0 then Zdo a rest (Zdo a kids (met+1) (deep+1)).1 deep
  else Zdo a kids (met+1) (deep+1)
def Zd6 (a:Int)(k t r:Int)(l:List UInt8)(v:Int)(kids:Fr)(met deep:Nat):Nat×Int:=Zdo a (.cons k t r l v kids .nil) met deep
section
variable {a k t r v:Int} {l:List UInt8} {kids:Fr} {met deep:Nat}
theorem Zfh (h:1024<=met\/64<=deep):Zd6 a k t r l v kids met deep=(met,2):=by simp [Zd6,Zdo,h]
theorem Zkr (h:¬ (1024<=met\/64<=deep))(ho:Zf2 a k t r l v kids.len=false):Zd6 a k t r l v kids met deep=(met,80):=by simp only [Zd6,Zdo,if_neg h,ho,if_true]
theorem Zny (h:¬ (1024<=met\/64<=deep))(ho:Zf2 a k t r l v kids.len=true):Zd6 a k t r l v kids met deep=Zdo a kids (met+1) (deep+1):=by
 simp only [Zd6,Zdo,if_neg h,ho,Bool.true_eq_false,if_false]
 split
 ·rename_i h0;rw [<- h0]
 ·rfl
theorem Zmb {rest:Fr}:Zdo a (.cons k t r l v kids rest) met deep=if (Zd6 a k t r l v kids met deep).2=0 then Zdo a rest (Zd6 a k t r l v kids met deep).1 deep else Zd6 a k t r l v kids met deep:=by
 by_cases h:1024<=met\/64<=deep
 ·rw [Zfh h];simp [Zdo,h]
 ·cases ho:Zf2 a k t r l v kids.len with
  | false=>rw [Zkr h ho];simp only [Zdo,if_neg h,ho];simp
  | true=>rw [Zny h ho];simp only [Zdo,if_neg h,ho];simp
end
theorem Zgi (a:Int):∀ (f:Fr) (met deep:Nat),met<=1024->(Zdo a f met deep).1<=1024
 | .nil,_,_,h=>h
 | .cons k t r l v kids rest,met,deep,h=>by
  unfold Zdo
  split
  ·exact h
  ·rename_i h0
   split
   ·exact h
   ·have:=Zgi a kids (met+1) (deep+1) ω
    split
    ·exact Zgi a rest _ _ this
    ·exact this
def Wk (w:World)(g:Nat)(a s e:Int):Prop:=w.cell? ⟨g,0,none⟩=some (.int .i64 a)/\w.cell? ⟨g,1,none⟩=some (.int .i64 s)/\w.cell? ⟨g,2,none⟩=some (.int .i64 e)/\∀ o,w.frozen? ⟨g,o,none⟩=false
theorem Wk.below {w w':World}{g:Nat}{a s e:Int}(h:Wk w g a s e)(hb:Below w.heap.size w w'):Wk w' g a s e:=
 ⟨Zac h.1 hb,Zac h.2.1 hb,Zac h.2.2.1 hb,fun o=>Z41 (h.2.2.2 o) (World.block_lt_of_cell? w ⟨g,0,none⟩ h.1) hb⟩
def Z4c (a:Int)(g:Nat)(rr:Nat×Int)(w:World)(e:Ending)(w':World):Prop:=
 e=.returned (.bool (decide (rr.2=0)))/\Zd1 g w w'/\∃ s:Int,Wk w' g a s rr.2/\(rr.2=0->s=rr.1)
def Zxh (a k t r:Int)(l:List UInt8)(v:Int)(kids:Fr):Prop:=
 ∀ (w:World) (g hi:Nat) (kv:Value) (met deep:Nat),Wk w g a met 0->hi<=g->hi<=w.heap.size->met<=1024->deep<=64->l.length<=9223372036854775807->Zd7 w hi kv kids->
  Calls Tryz.prog 114 #[.pointer (some ⟨g,0,none⟩),Zgf k t r l v kv,.int .i64 deep] w (Z4c a g (Zd6 a k t r l v kids met deep) w)
def Z05 (a:Int):Fr->Prop
 | .nil=>True
 | .cons k t r l v kids rest=>Zxh a k t r l v kids/\Z05 a rest
theorem Z05.at_ {a:Int}:∀ (f:Fr) (j:Nat) {k t r:Int} {l:List UInt8} {v:Int} {kids rest:Fr},Z05 a f->f.drop j=.cons k t r l v kids rest->Zxh a k t r l v kids
 | .nil,0,_,_,_,_,_,_,_,_,h=>by cases h
 | .nil,_+1,_,_,_,_,_,_,_,_,h=>by cases h
 | .cons _ _ _ _ _ _ _,0,_,_,_,_,_,_,_,h,e=>by cases e;exact h.1
 | .cons _ _ _ _ _ _ rest,j+1,_,_,_,_,_,_,_,h,e=>Z05.at_ rest j h.2 e
theorem Wk.set1 {w:World}{g:Nat}{a s e:Int}(h:Wk w g a s e)(u:Int):Wk (w.setCell ⟨g,1,none⟩ (.int .i64 u)) g a u e:=
 ⟨Zc5 h.1 ω,Zh0 (by rw [h.2.1];rfl),Zc5 h.2.2.1 ω,fun o=>by rw [World.frozen?_setCell];exact h.2.2.2 o⟩
theorem Wk.set2 {w:World}{g:Nat}{a s e:Int}(h:Wk w g a s e)(u:Int):Wk (w.setCell ⟨g,2,none⟩ (.int .i64 u)) g a s u:=
 ⟨Zc5 h.1 ω,Zc5 h.2.1 ω,Zh0 (by rw [h.2.2.1];rfl),fun o=>by rw [World.frozen?_setCell];exact h.2.2.2 o⟩
theorem Wk.al {w:World}{g:Nat}{a s e:Int}(h:Wk w g a s e)(o:Obj):Wk (w.alloc o) g a s e:=h.below (Zad w o)
section
variable {a k t r v:Int} {l:List UInt8} {kids:Fr}
set_option maxHeartbeats 4000000 in
set_option maxRecDepth 100000 in
theorem Zlo (hk:Z05 a kids):Zxh a k t r l v kids:=by
 intro w g hi kv met deep hw hg hh hmet hdeep hl hs;obtain⟨A,cap,rfl,s1,s2,s3⟩:=hs;have hgw:g<w.heap.size:=World.block_lt_of_cell? w ⟨g,0,none⟩ hw.1;have HW:=Zh hw;obtain⟨c0,c1,c2,wf⟩:=hw;have f1:=wf 1;have f2:=wf 2;have S3:=Zh s3;have HK:=Zh hk;by_cases hm:1024<=met
 ·have HR:=Zh (Zfh (a:=a) (k:=k) (t:=t) (r:=r) (l:=l) (v:=v) (kids:=kids) (met:=met) (deep:=deep) (.inl hm));exact m_37
 by_cases hd:64<=deep
 ·have HR:=Zh (Zfh (a:=a) (k:=k) (t:=t) (r:=r) (l:=l) (v:=v) (kids:=kids) (met:=met) (deep:=deep) (.inr hd));exact m_37
 have hnf:¬ (1024<=met\/64<=deep):=ω;have dm:decide ((1024:Int)<(met:Int)+1)=false:=by simp;omega
 have dd:decide ((64:Int)<=(deep:Int))=false:=by simp;omega
 obtain⟨ob,hob⟩:∃ b,Zf2 a k t r l v kids.len=b:=⟨_,rfl⟩;have HO:=Zh hob;have HN:=Zh hnf;have hw1:=(HW.o.set1 (met+1)).al (.cells #[.int .i64 k,.int .i64 t,.int .i64 r,.string ⟨l.toArray⟩,.int .i64 v,.slice A kids.len cap] 28 (0,0));have hn1:=fun o=>Zbq (w.setCell ⟨g,1,none⟩ (.int .i64 (met+1))) #[.int .i64 k,.int .i64 t,.int .i64 r,.string ⟨l.toArray⟩,.int .i64 v,.slice A kids.len cap] 28 (0,0) o
 have ho1:=((Zd1.refl g w).set 1 (.int .i64 (met+1))).alloc (.cells #[.int .i64 k,.int .i64 t,.int .i64 r,.string ⟨l.toArray⟩,.int .i64 v,.slice A kids.len cap] 28 (0,0));have H1:=Zh hw1;have N1:=Zh hn1;have O1:=Zh ho1;obtain⟨c0,c1,c2,wf⟩:=HW.o;have f1:=wf 1;go_enter Tryz.func114,Tryz.ntmps114
 go_wp2_with fail
 generalize hW1:(w.setCell ⟨g,1,none⟩ (.int .i64 (met+1))).alloc (.cells #[.int .i64 k,.int .i64 t,.int .i64 r,.string ⟨l.toArray⟩,.int .i64 v,.slice A kids.len cap] 28 (0,0))=W1;have h1:=H1.o;have n1:=N1.out;have o1:=O1.out;rw [hW1] at h1 n1 o1;simp only [World.size_setCell] at n1;have hgn:g<W1.heap.size:=World.block_lt_of_cell? W1 ⟨g,0,none⟩ h1.1;have HW1:=Zh h1;have HO1:=Zh o1;have hS:∀ x,Below W1.heap.size W1 x->x.cell? ⟨g,0,none⟩=some (.int .i64 a)/\x.cell? ⟨w.heap.size,0,none⟩=some (.int .i64 k)/\x.cell? ⟨w.heap.size,1,none⟩=some (.int .i64 t)/\x.cell? ⟨w.heap.size,2,none⟩=some (.int .i64 r)/\
   x.cell? ⟨w.heap.size,3,none⟩=some (.string ⟨l.toArray⟩)/\x.cell? ⟨w.heap.size,4,none⟩=some (.int .i64 v)/\x.cell? ⟨w.heap.size,5,none⟩=some (.slice A kids.len cap):=fun x hx=>
  ⟨Zac h1.1 hx,Zac (n1 0) hx,Zac (n1 1) hx,Zac (n1 2) hx,Zac (n1 3) hx,Zac (n1 4) hx,Zac (n1 5) hx⟩
 have HS:=Zh hS
 go_region_held3 (fun x=>x.cell? ⟨g,0,none⟩=some (.int .i64 a)/\x.cell? ⟨w.heap.size,0,none⟩=some (.int .i64 k)/\x.cell? ⟨w.heap.size,1,none⟩=some (.int .i64 t)/\x.cell? ⟨w.heap.size,2,none⟩=some (.int .i64 r)/\
   x.cell? ⟨w.heap.size,3,none⟩=some (.string ⟨l.toArray⟩)/\x.cell? ⟨w.heap.size,4,none⟩=some (.int .i64 v)/\x.cell? ⟨w.heap.size,5,none⟩=some (.slice A kids.len cap))
  (first | exact HS.o _ (Below.refl _ _).drew | exact HS.o _ (Zas hb1))
  (first | (go_at_call 177;refine (Z5h hl _).mono ?_;rw [HO.o];rintro e x1 ⟨rfl,hb1⟩))
 have hb1':=Zas hb1;have HX1:=Zh (HW1.o.below hb1');have HOX:=Zh (HO1.o.back hb1');have hs0:=(HS.o x1 hb1').2.2.2.2.2.2;have hzx:W1.heap.size<=x1.heap.size:=hb1'.size;cases ob with
 | false=>
  obtain⟨c0,c1,c2,wf⟩:=HX1.o;have f2:=wf 2;have HR:=Zh (Zkr HN.o HO.o)
  go_wp2_with fail
  go_ret;refine⟨by rw [HR.o];rfl,?_,met+1,?_,by rw [HR.o];intro h;cases h⟩
  ·exact HOX.o.set 2 _
  ·rw [HR.o];exact HX1.o.set2 _
 | true=>
  have HR:=Zh (Zny HN.o HO.o)
  go_wp2_with fail
  simp only [Bool.not_true];go_loopw [43] (fun i wr=>∃ j m:Nat,j<=kids.len/\i=.int .i64 j/\m<=1024/\Zdo a kids (met+1) (deep+1)=Zdo a (kids.drop j) m (deep+1)/\Wk wr g a m 0/\Zd1 g w wr/\x1.heap.size<=wr.heap.size) (fun i _=>kids.len - (intOf i).toNat)
  case atStart=>exact⟨0,met+1,Nat.zero_le _,rfl,ω,rfl,(by simpa using HX1.o),HOX.o,Nat.le_refl _⟩
  case round=>
   obtain⟨j,m,hj,rfl,hm',hwk,hwr,how,hzr⟩:=hrel;have HF:=Zh hwk;have HWR:=Zh hwr;have HOR:=Zh how;have hgr:g<wr.heap.size:=World.block_lt_of_cell? wr ⟨g,0,none⟩ hwr.1;by_cases hlt:j<kids.len
   ·obtain⟨b,o,rfl,hb,hrow⟩:=S3.out ω;obtain⟨k',t',r',l',v',kids',rest',hdr⟩:=kids.drop_lt j hlt;have hrow':=Zc3.keep (w':=wr) (fun b o hb=>World.cell?_of_block (HOR.o.block b (show b<w.heap.size by omega) (fun e=>by injection e with e;omega))) kids b o hb hrow;have hat:=Zc3.at_ kids b o j hrow';rw [hdr] at hat;obtain⟨kv',q0,q1,q2,q3,q4,q5,hl',hsl'⟩:=hat.head;obtain⟨A',cap',rfl,hsl''⟩:=hsl';have hsl':Zd7 wr hi (.slice A' kids'.len cap') kids':=⟨A',cap',rfl,hsl''⟩;have HSL:=Zh (hsl'.below (show hi<=wr.heap.size by omega) (Zad wr (.cells #[.int .i64 k',.int .i64 t',.int .i64 r',.string ⟨l'.toArray⟩,.int .i64 v',.slice A' kids'.len cap'] 28 (0,0))));have HC:=Zh (Z05.at_ kids j HK.o hdr);have HNX:=Zh (kids.drop_next j hdr);have HST:=Zh (show Zdo a kids (met+1) (deep+1)=if (Zd6 a k' t' r' l' v' kids' m (deep+1)).2=0 then Zdo a rest' (Zd6 a k' t' r' l' v' kids' m (deep+1)).1 (deep+1) else Zd6 a k' t' r' l' v' kids' m (deep+1) by rw [HF.o,hdr];exact Zmb);by_cases he:(Zd6 a k' t' r' l' v' kids' m (deep+1)).2=0
    ·have HE:=Zh he
     go_wp2_with (go_at_call 114;refine (HC.o _ g hi _ m (deep+1) (HWR.o.al _) hg (by simp;omega) hm' ω hl' HSL.o).mono ?_;rintro e w2 ⟨he,ho2,s,hw2,hs2⟩;rw [HE.o] at he hw2 hs2;simp only [decide_true] at he;subst he;have hs2':=hs2 rfl;subst hs2')
     go_roundw
     case rel=>exact⟨j+1,_,ω,by go_num,by have:=Zgi a (.cons k' t' r' l' v' kids' .nil) m (deep+1) hm';exact this,by rw [HST.o,if_pos HE.o,HNX.o],hw2,HOR.o.trans ((Zd1.of_below (Zad wr _)).trans ho2),by have:=ho2.size;simp at this;omega⟩
     case measure=>exact msr
    ·have HE:=Zh he
     go_wp2_with (go_at_call 114;refine (HC.o _ g hi _ m (deep+1) (HWR.o.al _) hg (by simp;omega) hm' ω hl' HSL.o).mono ?_;rintro e w2 ⟨he,ho2,s,hw2,hs2⟩;rw [decide_eq_false HE.o] at he;subst he)
     go_ret;have HFIN:=Zh (HR.o.trans (HST.o.trans (if_neg HE.o)));refine⟨Zaf (a:=false) (by rw [HFIN.o];exact (decide_eq_false HE.o).symm),HOR.o.trans ((Zd1.of_below (Zad wr _)).trans ho2),s,by rw [HFIN.o];exact hw2,fun h=>?_⟩;rw [HFIN.o] at h;exact absurd h HE.o
   ·have HFIN:=Zh (show Zd6 a k t r l v kids met deep=(m,0) by rw [HR.o,HF.o,Fr.drop_ge kids j ω];rfl)
    go_wp2_with fail
    go_ret;refine⟨by rw [HFIN.o];rfl,HOR.o,m,by rw [HFIN.o];exact HWR.o,fun _=>by rw [HFIN.o]⟩
theorem Z7k (a:Int):∀ f,Z05 a f
 | .nil=>trivial
 | .cons _ _ _ _ _ kids rest=>⟨Zlo (Z7k a kids),Z7k a rest⟩
theorem Zvv:Zxh a k t r l v kids:=Zlo (Z7k a kids)
end
abbrev Zx5 (q k t r:Int)(l:List UInt8)(v:Int)(kv:Value):Value:=.agg #[.int .i64 q,.int .i64 k,.int .i64 t,.int .i64 r,.string ⟨l.toArray⟩,.int .i64 v,kv]
def Zbg (a q k t r:Int)(l:List UInt8)(v:Int)(kids:Fr):Int:=
 if Zef a=false then 5 else if q<1\/3<q then 80 else (Zd6 a k t r l v kids 0 0).2
set_option maxHeartbeats 2000000 in
set_option maxRecDepth 100000 in
theorem Zt0 (a q k t r:Int)(l:List UInt8)(v:Int)(kv:Value)(kids:Fr)(w:World)(hl:l.length<=9223372036854775807)(hs:Zd7 w w.heap.size kv kids) :
  Calls Tryz.prog 66 #[.int .i64 a,Zx5 q k t r l v kv] w (RB w (.int .i64 (Zbg a q k t r l v kids))):=by
 obtain⟨A,cap,rfl,hs'⟩:=hs;have hs:Zd7 w w.heap.size (.slice A kids.len cap) kids:=⟨A,cap,rfl,hs'⟩;cases ha:Zef a with
 | false=>
  have HV:=Zh (show Zbg a q k t r l v kids=5 by simp [Zbg,ha]);have HA:=Zh ha;go_enter Tryz.func66,Tryz.ntmps66
  go_wp2_with (go_at_call 113;refine (Z1b _ _).mono ?_;rw [HA.o];rintro e w' ⟨rfl,rfl⟩)
  go_ret;exact⟨Zak HV.o.symm,Zad _ _⟩
 | true=>
  have HA:=Zh ha;by_cases hq:q<1\/3<q
  ·have HV:=Zh (show Zbg a q k t r l v kids=80 by simp [Zbg,ha,hq]);rcases hq with hq | hq
   all_goals
    go_enter Tryz.func66,Tryz.ntmps66
    go_wp2_with (go_at_call 113;refine (Z1b _ _).mono ?_;rw [HA.o];rintro e w' ⟨rfl,rfl⟩)
    go_ret;exact⟨Zak HV.o.symm,Zad _ _⟩
  ·have HV:=Zh (show Zbg a q k t r l v kids=(Zd6 a k t r l v kids 0 0).2 by simp [Zbg,ha,hq]);have hq1:decide (q<1)=false:=by simp;omega
   have hq2:decide (3<q)=false:=by simp;omega
   have HS:=Zh hs;have hB:Below w.heap.size w ((w.alloc (.cells #[.int .i64 q,.int .i64 k,.int .i64 t,.int .i64 r,.string ⟨l.toArray⟩,.int .i64 v,.slice A kids.len cap] 30 (0,0))).alloc (.cells #[.int .i64 a,.int .i64 0,.int .i64 0] 215 (0,0))):=Zaa (Zad w _) _;have hWk:Wk ((w.alloc (.cells #[.int .i64 q,.int .i64 k,.int .i64 t,.int .i64 r,.string ⟨l.toArray⟩,.int .i64 v,.slice A kids.len cap] 30 (0,0))).alloc (.cells #[.int .i64 a,.int .i64 0,.int .i64 0] 215 (0,0))) (w.heap.size+1) a ((0:Nat):Int) 0:=
    ⟨by simp [go_sem],by simp [go_sem],by simp [go_sem],fun o=>by simp [go_sem]⟩
   have HB:=Zh hB;have HW:=Zh hWk;go_enter Tryz.func66,Tryz.ntmps66
   go_wp2_with (first | (go_at_call 113;refine (Z1b _ _).mono ?_;rw [HA.o];rintro e w' ⟨rfl,rfl⟩) | (go_at_call 114;refine (Zvv _ (w.heap.size+1) w.heap.size _ 0 0 HW.o (Nat.le_succ _) (by simp;omega) ω ω hl (HS.o.below (Nat.le_refl _) HB.o)).mono ?_;rintro e w2 ⟨rfl,ho2,s,hw2,_⟩;have w22:=hw2.2.2.1))
   go_ret;exact⟨Zak HV.o.symm,Zd1.below HB.o (Nat.le_succ _) ho2⟩
def Zxi (a k t r:Int)(l:List UInt8)(v:Int)(kids:Fr):Prop:=
 ∀ (w:World) (hi:Nat) (kv:Value) (met deep:Nat),hi<=w.heap.size->met<=1024->deep<=64->l.length<=9223372036854775807->Zd7 w hi kv kids->
  Calls Tryz.prog 134 #[.int .i64 a,Zgf k t r l v kv,.int .i64 met,.int .i64 deep] w fun e w'=>
   e=.returned (.tuple #[.int .i64 (Zd6 a k t r l v kids met deep).1,.int .i64 (Zd6 a k t r l v kids met deep).2])/\Below w.heap.size w w'
def Z06 (a:Int):Fr->Prop
 | .nil=>True
 | .cons k t r l v kids rest=>Zxi a k t r l v kids/\Z06 a rest
theorem Z06.at_ {a:Int}:∀ (f:Fr) (j:Nat) {k t r:Int} {l:List UInt8} {v:Int} {kids rest:Fr},Z06 a f->f.drop j=.cons k t r l v kids rest->Zxi a k t r l v kids
 | .nil,0,_,_,_,_,_,_,_,_,h=>by cases h
 | .nil,_+1,_,_,_,_,_,_,_,_,h=>by cases h
 | .cons _ _ _ _ _ _ _,0,_,_,_,_,_,_,_,h,e=>by cases e;exact h.1
 | .cons _ _ _ _ _ _ rest,j+1,_,_,_,_,_,_,_,h,e=>Z06.at_ rest j h.2 e
section
variable {a k t r v:Int} {l:List UInt8} {kids:Fr}
set_option maxHeartbeats 4000000 in
set_option maxRecDepth 100000 in
theorem Zlp (hk:Z06 a kids):Zxi a k t r l v kids:=by
 intro w hi kv met deep hh hmet hdeep hl hs;obtain⟨A,cap,rfl,s1,s2,s3⟩:=hs;have S3:=Zh s3;have HK:=Zh hk;by_cases hm:1024<=met
 ·have HR:=Zh (Zfh (a:=a) (k:=k) (t:=t) (r:=r) (l:=l) (v:=v) (kids:=kids) (met:=met) (deep:=deep) (.inl hm));exact m_70
 by_cases hd:64<=deep
 ·have HR:=Zh (Zfh (a:=a) (k:=k) (t:=t) (r:=r) (l:=l) (v:=v) (kids:=kids) (met:=met) (deep:=deep) (.inr hd));exact m_70
 have hnf:¬ (1024<=met\/64<=deep):=ω;have dm:decide ((1024:Int)<=(met:Int))=false:=by simp;omega
 have dd:decide ((64:Int)<=(deep:Int))=false:=by simp;omega
 obtain⟨ob,hob⟩:∃ b,Zf2 a k t r l v kids.len=b:=⟨_,rfl⟩;have HO:=Zh hob;have HN:=Zh hnf;have hn1:=fun o=>Zbq w #[.int .i64 k,.int .i64 t,.int .i64 r,.string ⟨l.toArray⟩,.int .i64 v,.slice A kids.len cap] 28 (0,0) o
 have HB:=Zh (hn1 5);cases ob with
 | false=>
  have HR:=Zh (Zkr HN.o HO.o);go_enter Tryz.func134,Tryz.ntmps134
  go_wp2_with (go_at_call 194;refine (Z0r hl _).mono ?_;rw [HO.o];rintro e x1 ⟨rfl,hb1⟩)
  go_ret2
  exact⟨by rw [HR.o];rfl,Zab (Zad w _) hb1⟩
 | true=>
  have HR:=Zh (Zny HN.o HO.o);go_enter Tryz.func134,Tryz.ntmps134
  go_wp2_with (go_at_call 194;refine (Z0r hl _).mono ?_;rw [HO.o];rintro e x1 ⟨rfl,hb1⟩)
  have hc:=Zh (Zac HB.o hb1);have hbx:=Zh (Zab (Zad w _) hb1);have hzx:w.heap.size<x1.heap.size:=by have:=hb1.size;simp at this;omega
  go_loopw [2,10] (fun s i wr=>∃ j m:Nat,j<=kids.len/\i=.int .i64 j/\s=.int .i64 m/\m<=1024/\Zdo a kids (met+1) (deep+1)=Zdo a (kids.drop j) m (deep+1)/\Below x1.heap.size x1 wr) (fun _ i _=>kids.len - (intOf i).toNat)
  case atStart=>exact⟨0,met+1,Nat.zero_le _,rfl,by simp,ω,rfl,Below.refl _ _⟩
  case round=>
   obtain⟨j,m,hj,rfl,rfl,hm',hwk,hbr⟩:=hrel;have HF:=Zh hwk;have HBR:=Zh (Zab hbx.out hbr);have hzr:x1.heap.size<=wr.heap.size:=hbr.size;have hc5:=Zac hc.out hbr;have HBX:=Zh hbr;by_cases hlt:j<kids.len
   ·obtain⟨b,o,rfl,hb,hrow⟩:=S3.out ω;obtain⟨k',t',r',l',v',kids',rest',hdr⟩:=kids.drop_lt j hlt;have hrow':=Zc3.keep (w':=wr) (fun b o hb=>HBR.o.cell (p:=⟨b,o,none⟩) (show b<w.heap.size by omega)) kids b o hb hrow;have hat:=Zc3.at_ kids b o j hrow';rw [hdr] at hat;obtain⟨kv',q0,q1,q2,q3,q4,q5,hl',hsl'⟩:=hat.head;obtain⟨A',cap',rfl,hsl''⟩:=hsl';have HSL:=Zh (⟨A',cap',rfl,hsl''⟩:Zd7 wr hi (.slice A' kids'.len cap') kids');have HC:=Zh (Z06.at_ kids j HK.o hdr);have HNX:=Zh (kids.drop_next j hdr);have HST:=Zh (show Zdo a kids (met+1) (deep+1)=if (Zd6 a k' t' r' l' v' kids' m (deep+1)).2=0 then Zdo a rest' (Zd6 a k' t' r' l' v' kids' m (deep+1)).1 (deep+1) else Zd6 a k' t' r' l' v' kids' m (deep+1) by rw [HF.o,hdr];exact Zmb);have HM:=Zh (Zgi a (.cons k' t' r' l' v' kids' .nil) m (deep+1) hm');obtain⟨rr,hrr⟩:∃ rr,Zd6 a k' t' r' l' v' kids' m (deep+1)=rr:=⟨_,rfl⟩;have HRR:=Zh hrr;obtain⟨rm,re⟩:=rr;by_cases he:re=0
    ·subst he
     go_wp2_with (go_at_call 134;refine (HC.o _ hi _ m (deep+1) ω hm' ω hl' HSL.o).mono ?_;rw [HRR.o];rintro e w2 ⟨rfl,hb2⟩)
     go_roundw
     case rel=>exact⟨j+1,rm,ω,by go_num,rfl,by have:=HM.o;rw [show Zdo a (.cons k' t' r' l' v' kids' .nil) m (deep+1)=_ from HRR.o] at this;exact this,by rw [HST.o,HRR.o,HNX.o,if_pos rfl],Zab HBX.o hb2⟩
     case measure=>exact msr
    ·have HE:=Zh he;have he':(re != 0)=true:=by simpa using he
     go_wp2_with (go_at_call 134;refine (HC.o _ hi _ m (deep+1) ω hm' ω hl' HSL.o).mono ?_;rw [HRR.o];rintro e w2 ⟨rfl,hb2⟩)
     go_ret2
     have HFIN:=Zh (show Zd6 a k t r l v kids met deep=(rm,re) by rw [HR.o,HST.o,HRR.o,if_neg HE.o]);exact⟨by rw [HFIN.o];rfl,Zab HBR.o hb2⟩
   ·have HFIN:=Zh (show Zd6 a k t r l v kids met deep=(m,0) by rw [HR.o,HF.o,Fr.drop_ge kids j ω];rfl)
    go_wp2_with fail
    go_ret2
    exact⟨by rw [HFIN.o];rfl,HBR.o⟩
theorem Z7l (a:Int):∀ f,Z06 a f
 | .nil=>trivial
 | .cons _ _ _ _ _ kids rest=>⟨Zlp (Z7l a kids),Z7l a rest⟩
theorem Zvw:Zxi a k t r l v kids:=Zlp (Z7l a kids)
end
set_option maxHeartbeats 2000000 in
set_option maxRecDepth 100000 in
theorem Zt1 (a q k t r:Int)(l:List UInt8)(v:Int)(kv:Value)(kids:Fr)(w:World)(hl:l.length<=9223372036854775807)(hs:Zd7 w w.heap.size kv kids) :
  Calls Tryz.prog 87 #[.int .i64 a,Zx5 q k t r l v kv] w (RB w (.int .i64 (Zbg a q k t r l v kids))):=by
 obtain⟨A,cap,rfl,hs'⟩:=hs;have hs:Zd7 w w.heap.size (.slice A kids.len cap) kids:=⟨A,cap,rfl,hs'⟩;cases ha:Zef a with
 | false=>
  have HV:=Zh (show Zbg a q k t r l v kids=5 by simp [Zbg,ha]);have HA:=Zh ha;go_enter Tryz.func87,Tryz.ntmps87
  go_wp2_with (go_at_call 133;refine (Z1c _ _).mono ?_;rw [HA.o];rintro e w' ⟨rfl,rfl⟩)
  go_ret;exact⟨Zak HV.o.symm,Zad _ _⟩
 | true=>
  have HA:=Zh ha;by_cases hq:q<1\/3<q
  ·have HV:=Zh (show Zbg a q k t r l v kids=80 by simp [Zbg,ha,hq]);rcases hq with hq | hq
   all_goals
    go_enter Tryz.func87,Tryz.ntmps87
    go_wp2_with (go_at_call 133;refine (Z1c _ _).mono ?_;rw [HA.o];rintro e w' ⟨rfl,rfl⟩)
    go_ret;exact⟨Zak HV.o.symm,Zad _ _⟩
  ·have HV:=Zh (show Zbg a q k t r l v kids=(Zd6 a k t r l v kids 0 0).2 by simp [Zbg,ha,hq]);have hq1:decide (q<1)=false:=by simp;omega
   have hq2:decide (3<q)=false:=by simp;omega
   have HS:=Zh (hs.below (Nat.le_refl _) (Zad w (.cells #[.int .i64 q,.int .i64 k,.int .i64 t,.int .i64 r,.string ⟨l.toArray⟩,.int .i64 v,.slice A kids.len cap] 30 (0,0))));go_enter Tryz.func87,Tryz.ntmps87
   go_wp2_with (first | (go_at_call 133;refine (Z1c _ _).mono ?_;rw [HA.o];rintro e w' ⟨rfl,rfl⟩) | (go_at_call 134;refine (Zvw _ w.heap.size _ 0 0 (by simp) ω ω hl HS.o).mono ?_;rintro e w2 ⟨rfl,hb2⟩))
   go_ret;exact⟨Zak HV.o.symm,Zab (Zad w _) hb2⟩
abbrev Th:=Int×Int×List UInt8
def Zf0 (x:Th):List Value:=[.int .i64 x.1,.int .i64 x.2.1,.string ⟨x.2.2.toArray⟩]
def Za1:List Th->List Value
 | []=>[]
 | x :: r=>Zf0 x++Za1 r
theorem Zfu:∀ l,(Za1 l).length=l.length*3
 | []=>rfl
 | _ :: r=>by simp [Za1,Zf0,Zfu r];omega
theorem Zcy:∀ l (x:Th),Za1 (l++[x])=Za1 l++Zf0 x
 | [],x=>by simp [Za1]
 | _ :: r,x=>by simp [Za1,Zcy r x]
def atL (k t r:Int)(l:List UInt8):List Th:=if k=2 then [(t,r,l)] else []
def Za4:Fr->List Th
 | .nil=>[]
 | .cons k t r l _ kids rest=>atL k t r l++Za4 kids++Za4 rest
def Fr.all:Fr->Nat
 | .nil=>0
 | .cons _ _ _ _ _ kids rest=>1+kids.all+rest.all
theorem Zda:∀ f,(Za4 f).length<=f.all
 | .nil=>by simp [Za4,Fr.all]
 | .cons k t r l _ kids rest=>by
  have h1:=Zda kids;have h2:=Zda rest;have h3:(atL k t r l).length<=1:=by unfold atL;split <;> simp
  simp [Za4,Fr.all];omega
def Acc (w:World)(bl:Nat)(L:List Th):Prop:=∃ v,Blk w bl 35 #[v]/\w.ownsRow (bl+1) 25 3 v L.length (Za1 L)
theorem Zeh:(Tryz.prog.info? 25).map (fun i=>(i.zero,i.size,i.bytes))=some (some (.agg #[.int .i64 0,.int .i64 0,.string ⟨#[]⟩]),3,32):=by kernel_rfl
theorem Acc.lt {w:World}{bl:Nat}{L:List Th}(h:Acc w bl L):bl<w.heap.size:=by
 obtain⟨v,h1,_⟩:=h;exact h1.lt
theorem Acc.below {w w':World}{bl:Nat}{L:List Th}(h:Acc w bl L)(hb:Below w.heap.size w w'):Acc w' bl L:=by
 obtain⟨v,h1,h2⟩:=h;exact⟨v,h1.go hb,h2.kept (row:=some w.heap.size) ⟨hb.os,hb.tape,hb.output,hb.size,fun i hi _=>hb.block i hi⟩ (.inr fun e=>by have:=(h2.lt _ e).2;omega)⟩
theorem Acc.fresh {w:World}{bl:Nat}{L:List Th}(h:Acc w bl L)(o:Obj):∀ u,Blk (w.alloc o) bl 35 #[u]->u.ownBlock≠some w.heap.size:=by
 obtain⟨v,h1,h2⟩:=h;intro u hu e;have h3:=h1.alloc o;unfold Blk at hu h3;rw [h3] at hu;simp only [Option.some.injEq,Obj.cells.injEq,Array.mk.injEq,List.cons.injEq,and_true] at hu;subst hu;have:=(h2.lt _ e).2;omega
theorem Zpd {w:World}{B:Nat}{t:TypeId}{z n:Nat}{v:Value}{cs:List Value}(h:w.ownsRow B t z v n cs):∃ A cap,v=.slice A n cap:=by
 rcases h.2 with ⟨rfl,rfl⟩ | ⟨g,cap,cur,rfl,_⟩
 ·exact⟨none,0,rfl⟩
 ·exact⟨_,_,rfl⟩
theorem Zv6 {w w':World}{B:Nat}{t:TypeId}{z n:Nat}{v:Value}{cs:List Value}(h:w.ownsRow B t z v n cs)(hk:∀ b,v.ownBlock=some b->w'.heap[b]?=w.heap[b]?):w'.ownsRow B t z v n cs:=by
 obtain⟨h1,h2⟩:=h;refine⟨h1,?_⟩;rcases h2 with h2 | ⟨g,cap,cur,rfl,h3,h4,h5⟩
 ·exact .inl h2
 ·exact .inr ⟨g,cap,cur,rfl,h3,(hk g rfl).trans h4,h5⟩
section
variable {w:World} {bl:Nat} {L:List Th} {k t r v:Int} {l:List UInt8} {A:Option Addr} {n cap:Nat}
set_option maxHeartbeats 2000000 in
set_option maxRecDepth 100000 in
theorem Z89 (h:Acc w bl L)(hlen:L.length<=1000000) :
  Calls Tryz.prog 118 #[Zgf k t r l v (.slice A n cap),.pointer (some ⟨bl,0,none⟩)] w fun e w'=>e=.returned (.tuple #[])/\Acc w' bl (L++[(t,r,l)])/\Below bl w w'/\
   ∀ i,i<w.heap.size->i≠bl->(∀ u,Blk w bl 35 #[u]->u.ownBlock≠some i)->w'.heap[i]?=w.heap[i]?:=by
 obtain⟨i0,hi,hz0,hz1,hz2⟩:=info_parts Zeh;obtain⟨u,hbl,hown⟩:=h;obtain⟨Au,cu,rfl⟩:=Zpd hown;have hlt:=hbl.lt;have HBL:=Zh hbl;have HOW:=Zh hown;have hB1:=hbl.alloc (.cells #[.int .i64 k,.int .i64 t,.int .i64 r,.string ⟨l.toArray⟩,.int .i64 v,.slice A n cap] 28 (0,0));have c0:=hB1.cell 0;have f0:=hB1.frozen 0;have how2:=Zh ((hown.alloc (.cells #[.int .i64 k,.int .i64 t,.int .i64 r,.string ⟨l.toArray⟩,.int .i64 v,.slice A n cap] 28 (0,0))).alloc (.cells (Zf0 (t,r,l)).toArray 25 (0,0)));go_enter Tryz.func118,Tryz.ntmps118
 go_wp2_with (at_builtin;refine wpList_append_own _ rfl _ _ 35 rfl (bl+1) 25 i0 (.agg #[.int .i64 0,.int .i64 0,.string ⟨#[]⟩]) 3 32 Tryz.underlying35 hi hz0 hz1 hz2 rfl (by decide) _ _ _ rfl how2.out ⟨w.heap.size+1,0,none⟩ 1 1 (Zf0 (t,r,l)) rfl rfl ?c1 ?c2 ?c3 ?c4 ?c5 ?_)
 case c1=>
  intro j u hj;rw [show (⟨w.heap.size+1,0,none⟩:Addr).add j=⟨w.heap.size+1,j,none⟩ by simp [Addr.add];intro e;exact e.symm];have:=Zbq (w.alloc (.cells #[.int .i64 k,.int .i64 t,.int .i64 r,.string ⟨l.toArray⟩,.int .i64 v,.slice A n cap] 28 (0,0))) (Zf0 (t,r,l)).toArray 25 (0,0) j;simp only [World.size_alloc] at this;exact this.trans (by simpa using hj)
 case c2=>intro u hu;simp [Zf0] at hu;rcases hu with rfl | rfl | rfl <;> rfl
 case c3=>unfold maxLen;omega
 case c4=>omega
 case c5=>simp;omega
 intro v' w1 hown' hgrow _;obtain⟨Av,cv,rfl⟩:=Zpd hown';have hob:∀ i,(Value.slice Au L.length cu).ownBlock=some i->bl+1<=i:=fun i hi=>(HOW.o.lt i hi).1
 have hk1:∀ i,i<w.heap.size->(Value.slice Au L.length cu).ownBlock≠some i->w1.heap[i]?=w.heap[i]?:=fun i hi hne=>
  (hgrow.block i (by simp;omega) (fun e=>hne e.symm)).trans ((Below.heap_alloc _ _ _ (by simp;omega)).trans (Below.heap_alloc _ _ _ hi))
 have hb1:Blk w1 bl 35 #[.slice Au L.length cu]:=(hk1 bl hlt (fun e=>by have:=hob bl e;omega)).trans HBL.o;have hbel:Below bl w w1:=(Below.alloc (B:=bl) (Below.alloc (B:=bl) (Below.refl _ _) ω (.cells #[.int .i64 k,.int .i64 t,.int .i64 r,.string ⟨l.toArray⟩,.int .i64 v,.slice A n cap] 28 (0,0))) (by simp;omega) (.cells (Zf0 (t,r,l)).toArray 25 (0,0))).grown hgrow (by simp;omega) (fun j hj=>by have:=hob j hj;omega);have HK1:=Zh hk1;have HB1:=Zh hb1;have HBE:=Zh hbel;have HO1:=Zh hown';have d0:=hb1.cell 0;have e0:=hb1.frozen 0;go_wp2;go_end0
 refine⟨rfl,⟨_,HB1.o.set_ 0 _,?_⟩,HBE.o.setCell (p:=⟨bl,0,none⟩) (Nat.le_refl _) _,fun i hi hne hv=>?_⟩
 ·rw [Zcy,List.length_append];refine Zv6 HO1.o fun j hj=>Below.heap_setCell _ _ _ _ ?_
  have:=(HO1.o.lt j hj).1;dsimp only;omega
 ·rw [Below.heap_setCell _ _ _ _ hne];exact HK1.o i hi (hv _ HBL.o)
end
def Zxf (k t r:Int)(l:List UInt8)(v:Int)(kids:Fr):Prop:=
 ∀ (w:World) (bl hi:Nat) (kv:Value) (L:List Th),hi<=bl->Acc w bl L->Zd7 w hi kv kids->l.length<=9223372036854775807->L.length+1+kids.all<=1000000->
  Calls Tryz.prog 117 #[Zgf k t r l v kv,.func (.func 118) #[] #[.pointer (some ⟨bl,0,none⟩)]] w fun e w'=>
   e=.returned (.tuple #[])/\Acc w' bl (L++(atL k t r l++Za4 kids))/\Below bl w w'
def Zz2:Fr->Prop
 | .nil=>True
 | .cons k t r l v kids rest=>Zxf k t r l v kids/\Zz2 rest
theorem Zz2.at_:∀ (f:Fr) (j:Nat) {k t r:Int} {l:List UInt8} {v:Int} {kids rest:Fr},Zz2 f->f.drop j=.cons k t r l v kids rest->Zxf k t r l v kids
 | .nil,0,_,_,_,_,_,_,_,_,h=>by cases h
 | .nil,_+1,_,_,_,_,_,_,_,_,h=>by cases h
 | .cons _ _ _ _ _ _ _,0,_,_,_,_,_,_,_,h,e=>by cases e;exact h.1
 | .cons _ _ _ _ _ _ rest,j+1,_,_,_,_,_,_,_,h,e=>Zz2.at_ rest j h.2 e
section
variable {k t r v:Int} {l:List UInt8} {kids:Fr}
set_option maxHeartbeats 2000000 in
set_option maxRecDepth 100000 in
theorem Zlm (hk:Zz2 kids):Zxf k t r l v kids:=by
 intro w bl hi kv L hhi hacc hs hl hlen;obtain⟨A,cap,rfl,s1,s2,s3⟩:=hs;have S3:=Zh s3;have HK:=Zh hk;have hlt:=hacc.lt;have HB0:=Zh (Blk.new w 28 #[.int .i64 k,.int .i64 t,.int .i64 r,.string ⟨l.toArray⟩,.int .i64 v,.slice A kids.len cap]);have HA0:=Zh (hacc.below (Zad w (.cells #[.int .i64 k,.int .i64 t,.int .i64 r,.string ⟨l.toArray⟩,.int .i64 v,.slice A kids.len cap] 28 (0,0))));have hbe:Below bl w (w.alloc (.cells #[.int .i64 k,.int .i64 t,.int .i64 r,.string ⟨l.toArray⟩,.int .i64 v,.slice A kids.len cap] 28 (0,0))):=(Zad w _).mono (Nat.le_of_lt hlt);have HBE:=Zh hbe;have HFR:=Zh (fun o=>hacc.fresh (o:=o));by_cases h2:k=2
 ·subst h2;have HT:=Zh (show atL 2 t r l=[(t,r,l)] by simp [atL]);go_enter Tryz.func117,Tryz.ntmps117
  go_wp2_with (go_at_call 118;refine (Z89 HA0.o ω).mono ?_;rintro e w1 ⟨rfl,ha1,hb1,hk1⟩;have hB1:Blk w1 w.heap.size 28 #[.int .i64 2,.int .i64 t,.int .i64 r,.string ⟨l.toArray⟩,.int .i64 v,.slice A kids.len cap]:=(hk1 _ (by simp) ω (HFR.o _)).trans HB0.o;have c3:=hB1.cell 5)
  have HA1:=Zh ha1;have HB1:=Zh (HBE.o.trans hb1);have hs1:=hb1.size;simp at hs1;go_loopw [15] (fun i wr=>∃ (j:Nat) (M:List Th),j<=kids.len/\i=.int .i64 j/\Acc wr bl M/\M++Za4 (kids.drop j)=(L++[(t,r,l)])++Za4 kids/\M.length+(kids.drop j).all<=(L++[(t,r,l)]).length+kids.all/\Below bl w wr) (fun i _=>kids.len - (intOf i).toNat)
  case atStart=>exact⟨0,(L++[(t,r,l)]),Nat.zero_le _,rfl,HA1.o,by rw [show kids.drop 0=kids by cases kids <;> rfl],by rw [show kids.drop 0=kids by cases kids <;> rfl];exact Nat.le_refl _,HB1.o⟩
  case round=>
   obtain⟨j,M,hj,rfl,hacc,hM,hML,hbr⟩:=hrel;have HAC:=Zh hacc;have HMM:=Zh hM;have HBR:=Zh hbr;have hltr:=hacc.lt;have hlz:M.length+(kids.drop j).all<=L.length+1+kids.all:=by
    try simp only [List.length_append,List.length_cons,List.length_nil] at hML
    omega
   have HML:=Zh hML;by_cases hlt:j<kids.len
   ·obtain⟨b,o,rfl,hb,hrow⟩:=S3.out ω;exact m_8
   ·have HFIN:=Zh (show M=(L++[(t,r,l)])++Za4 kids by have:=HMM.o;rw [Fr.drop_ge kids j ω] at this;simpa [Za4] using this);exact m_96
 ·have HT:=Zh (show atL k t r l=[] by simp [atL,h2]);have h2':(k == 2)=false:=by simpa using h2
  go_enter Tryz.func117,Tryz.ntmps117
  go_wp2_with fail
  have hs1:w.heap.size+1<=(w.alloc (.cells #[.int .i64 k,.int .i64 t,.int .i64 r,.string ⟨l.toArray⟩,.int .i64 v,.slice A kids.len cap] 28 (0,0))).heap.size:=by simp
  have HA1:=HA0;have HB1:=HBE;go_loopw [15] (fun i wr=>∃ (j:Nat) (M:List Th),j<=kids.len/\i=.int .i64 j/\Acc wr bl M/\M++Za4 (kids.drop j)=L++Za4 kids/\M.length+(kids.drop j).all<=L.length+kids.all/\Below bl w wr) (fun i _=>kids.len - (intOf i).toNat)
  case atStart=>exact⟨0,L,Nat.zero_le _,rfl,HA1.o,by rw [show kids.drop 0=kids by cases kids <;> rfl],by rw [show kids.drop 0=kids by cases kids <;> rfl];exact Nat.le_refl _,HB1.o⟩
  case round=>
   obtain⟨j,M,hj,rfl,hacc,hM,hML,hbr⟩:=hrel;have HAC:=Zh hacc;have HMM:=Zh hM;have HBR:=Zh hbr;have hltr:=hacc.lt;have hlz:M.length+(kids.drop j).all<=L.length+1+kids.all:=by
    try simp only [List.length_append,List.length_cons,List.length_nil] at hML
    omega
   have HML:=Zh hML;by_cases hlt:j<kids.len
   ·obtain⟨b,o,rfl,hb,hrow⟩:=S3.out ω;exact m_8
   ·have HFIN:=Zh (show M=L++Za4 kids by have:=HMM.o;rw [Fr.drop_ge kids j ω] at this;simpa [Za4] using this);exact m_96
theorem Z7i:∀ f,Zz2 f
 | .nil=>trivial
 | .cons _ _ _ _ _ kids rest=>⟨Zlm (Z7i kids),Z7i rest⟩
theorem Zo8:Zxf k t r l v kids:=Zlm (Z7i kids)
end
end Go.Proofs.YtgjefdaaihgliaaGreatDoor
namespace Go.Proofs
open Go.Shelf
def Tryz.lays160_ren:Go.Shelf.Ren:=⟨fun | 160=>63 | 232=>105 | 231=>104 | 227=>106 | 234=>108 | 233=>107 | 236=>110 | 235=>109 | 228=>169 | 271=>172 | 151=>171 | 197=>170 | 120=>212 | 152=>211 | 260=>210 | 137=>249 | 119=>250 | 224=>251 | 225=>252 | 217=>265 | 266=>272 | n=>n,fun | 9=>9 | 4=>4 | 3=>3 | 5=>5 | 117=>208 | 116=>207 | 0=>0 | 124=>211 | 21=>21 | 105=>257 | 46=>112 | 119=>306 | 139=>309 | 138=>308 | n=>n,fun | 3=>3 | 4=>4 | n=>n⟩
theorem Tryz.lays160:Go.Proofs.Lays.n160 Tryz.prog Tryz.lays160_ren:={
 mixed:=by kernel_rfl
 f119:=Tryz.func250.trans (congrArg some (by kernel_rfl))
 f120:=Tryz.func212.trans (congrArg some (by kernel_rfl))
 f137:=Tryz.func249.trans (congrArg some (by kernel_rfl))
 f151:=Tryz.func171.trans (congrArg some (by kernel_rfl))
 f152:=Tryz.func211.trans (congrArg some (by kernel_rfl))
 f160:=Tryz.func63.trans (congrArg some (by kernel_rfl))
 f197:=Tryz.func170.trans (congrArg some (by kernel_rfl))
 f217:=Tryz.func265.trans (congrArg some (by kernel_rfl))
 f224:=Tryz.func251.trans (congrArg some (by kernel_rfl))
 f225:=Tryz.func252.trans (congrArg some (by kernel_rfl))
 f227:=Tryz.func106.trans (congrArg some (by kernel_rfl))
 f228:=Tryz.func169.trans (congrArg some (by kernel_rfl))
 f231:=Tryz.func104.trans (congrArg some (by kernel_rfl))
 f232:=Tryz.func105.trans (congrArg some (by kernel_rfl))
 f233:=Tryz.func107.trans (congrArg some (by kernel_rfl))
 f234:=Tryz.func108.trans (congrArg some (by kernel_rfl))
 f235:=Tryz.func109.trans (congrArg some (by kernel_rfl))
 f236:=Tryz.func110.trans (congrArg some (by kernel_rfl))
 f260:=Tryz.func210.trans (congrArg some (by kernel_rfl))
 f266:=Tryz.func272.trans (congrArg some (by kernel_rfl))
 f271:=Tryz.func172.trans (congrArg some (by kernel_rfl))
 t0:=Tryz.underlying0
 a0:=Tryz.isAgg0
 z0:=Tryz.sizeOf0
 v0:=Tryz.zeroValue0
 t3:=Tryz.underlying3
 a3:=Tryz.isAgg3
 z3:=Tryz.sizeOf3
 v3:=Tryz.zeroValue3
 t4:=Tryz.underlying4
 a4:=Tryz.isAgg4
 z4:=Tryz.sizeOf4
 v4:=Tryz.zeroValue4
 t5:=Tryz.underlying5
 a5:=Tryz.isAgg5
 z5:=Tryz.sizeOf5
 v5:=Tryz.zeroValue5
 t9:=Tryz.underlying9
 a9:=Tryz.isAgg9
 z9:=Tryz.sizeOf9
 v9:=Tryz.zeroValue9
 t21:=Tryz.underlying21
 a21:=Tryz.isAgg21
 z21:=Tryz.sizeOf21
 v21:=Tryz.zeroValue21
 t46:=Tryz.underlying112
 a46:=Tryz.isAgg112
 z46:=Tryz.sizeOf112
 v46:=Tryz.zeroValue112
 t105:=Tryz.underlying257
 a105:=Tryz.isAgg257
 z105:=Tryz.sizeOf257
 v105:=Tryz.zeroValue257
 t116:=Tryz.underlying207
 a116:=Tryz.isAgg207
 z116:=Tryz.sizeOf207
 t117:=Tryz.underlying208
 a117:=Tryz.isAgg208
 z117:=Tryz.sizeOf208
 v117:=Tryz.zeroValue208
 t119:=Tryz.underlying306
 a119:=Tryz.isAgg306
 z119:=Tryz.sizeOf306
 t124:=Tryz.underlying211
 a124:=Tryz.isAgg211
 z124:=Tryz.sizeOf211
 v124:=Tryz.zeroValue211
 t138:=Tryz.underlying308
 a138:=Tryz.isAgg308
 z138:=Tryz.sizeOf308
 v138:=Tryz.zeroValue308
 t139:=Tryz.underlying309
 a139:=Tryz.isAgg309
 z139:=Tryz.sizeOf309
 v139:=Tryz.zeroValue309
 g3:=by kernel_rfl
 g4:=by kernel_rfl }
open Go.RowKit in
theorem Tryz.strings_Trim_one (s:ByteArray)(c:UInt8)(hc:c.toNat<128)(w:World)(hs:s.size<=9223372036854775807) :
  Calls Tryz.prog 63 #[.string s,.string ⟨#[c]⟩] w fun e w'=>e=.returned (.string ⟨(Lib.trimB s.data.toList c).toArray⟩)/\(w'=w\/w'=w.drew):=Any.strings_Trim_one Tryz.lays160 s c hc w hs
def Tryz.lays213_ren:Go.Shelf.Ren:=⟨fun | 213=>231 | 265=>261 | n=>n,fun | 9=>9 | 3=>3 | n=>n,fun | n=>n⟩
def Tryz.lays106_ren:Go.Shelf.Ren:=⟨fun | 106=>180 | 213=>231 | 265=>261 | n=>n,fun | 9=>9 | 3=>3 | n=>n,fun | n=>n⟩
theorem Tryz.lays106:Go.Proofs.Lays.n106 Tryz.prog Tryz.lays106_ren:={
 mixed:=by kernel_rfl
 f106:=Tryz.func180.trans (congrArg some (by kernel_rfl))
 f213:=Tryz.func231.trans (congrArg some (by kernel_rfl))
 f265:=Tryz.func261.trans (congrArg some (by kernel_rfl))
 t3:=Tryz.underlying3
 a3:=Tryz.isAgg3
 z3:=Tryz.sizeOf3
 v3:=Tryz.zeroValue3
 t9:=Tryz.underlying9
 a9:=Tryz.isAgg9
 z9:=Tryz.sizeOf9
 v9:=Tryz.zeroValue9 }
open Go.RowKit in
theorem Tryz.strings_Compare (a b:ByteArray)(w:World) :
  Calls Tryz.prog 180 #[.string a,.string b] w fun e w'=>e=.returned (.int .i64 (Lib.compareBytes a.data.toList b.data.toList))/\w'=w:=Any.strings_Compare Tryz.lays106 a b w
def Tryz.lays190_ren:Go.Shelf.Ren:=⟨fun | 190=>115 | 125=>129 | 258=>178 | 128=>190 | 129=>165 | 302=>215 | 303=>216 | 304=>217 | 305=>218 | 306=>219 | 307=>220 | 308=>37 | 309=>221 | 310=>222 | 333=>255 | 329=>233 | 330=>234 | 334=>256 | 335=>257 | 336=>58 | 344=>268 | n=>n,fun | 31=>34 | 9=>9 | 3=>3 | 46=>112 | 0=>0 | 51=>254 | 53=>124 | 4=>4 | 183=>271 | 182=>270 | 131=>68 | 5=>5 | 218=>295 | 222=>299 | 228=>316 | 229=>317 | n=>n,fun | n=>n⟩
theorem Tryz.lays190:Go.Proofs.Lays.n190 Tryz.prog Tryz.lays190_ren:={
 mixed:=by kernel_rfl
 f125:=Tryz.func129.trans (congrArg some (by kernel_rfl))
 f128:=Tryz.func190.trans (congrArg some (by kernel_rfl))
 f129:=Tryz.func165.trans (congrArg some (by kernel_rfl))
 f190:=Tryz.func115.trans (congrArg some (by kernel_rfl))
 f258:=Tryz.func178.trans (congrArg some (by kernel_rfl))
 f302:=Tryz.func215.trans (congrArg some (by kernel_rfl))
 f303:=Tryz.func216.trans (congrArg some (by kernel_rfl))
 f304:=Tryz.func217.trans (congrArg some (by kernel_rfl))
 f305:=Tryz.func218.trans (congrArg some (by kernel_rfl))
 f306:=Tryz.func219.trans (congrArg some (by kernel_rfl))
 f307:=Tryz.func220.trans (congrArg some (by kernel_rfl))
 f308:=Tryz.func37.trans (congrArg some (by kernel_rfl))
 f309:=Tryz.func221.trans (congrArg some (by kernel_rfl))
 f310:=Tryz.func222.trans (congrArg some (by kernel_rfl))
 f329:=Tryz.func233.trans (congrArg some (by kernel_rfl))
 f330:=Tryz.func234.trans (congrArg some (by kernel_rfl))
 f333:=Tryz.func255.trans (congrArg some (by kernel_rfl))
 f334:=Tryz.func256.trans (congrArg some (by kernel_rfl))
 f335:=Tryz.func257.trans (congrArg some (by kernel_rfl))
 f336:=Tryz.func58.trans (congrArg some (by kernel_rfl))
 f344:=Tryz.func268.trans (congrArg some (by kernel_rfl))
 t0:=Tryz.underlying0
 a0:=Tryz.isAgg0
 z0:=Tryz.sizeOf0
 v0:=Tryz.zeroValue0
 t3:=Tryz.underlying3
 a3:=Tryz.isAgg3
 z3:=Tryz.sizeOf3
 v3:=Tryz.zeroValue3
 t4:=Tryz.underlying4
 a4:=Tryz.isAgg4
 z4:=Tryz.sizeOf4
 v4:=Tryz.zeroValue4
 t5:=Tryz.underlying5
 a5:=Tryz.isAgg5
 z5:=Tryz.sizeOf5
 v5:=Tryz.zeroValue5
 t9:=Tryz.underlying9
 a9:=Tryz.isAgg9
 z9:=Tryz.sizeOf9
 v9:=Tryz.zeroValue9
 t31:=Tryz.underlying34
 a31:=Tryz.isAgg34
 z31:=Tryz.sizeOf34
 v31:=Tryz.zeroValue34
 t46:=Tryz.underlying112
 a46:=Tryz.isAgg112
 z46:=Tryz.sizeOf112
 v46:=Tryz.zeroValue112
 t51:=Tryz.underlying254
 a51:=Tryz.isAgg254
 z51:=Tryz.sizeOf254
 v51:=Tryz.zeroValue254
 t53:=Tryz.underlying124
 a53:=Tryz.isAgg124
 z53:=Tryz.sizeOf124
 v53:=Tryz.zeroValue124
 t131:=Tryz.underlying68
 a131:=Tryz.isAgg68
 z131:=Tryz.sizeOf68
 v131:=Tryz.zeroValue68
 t182:=Tryz.underlying270
 a182:=Tryz.isAgg270
 z182:=Tryz.sizeOf270
 v182:=Tryz.zeroValue270
 t183:=Tryz.underlying271
 a183:=Tryz.isAgg271
 z183:=Tryz.sizeOf271
 v183:=Tryz.zeroValue271
 t218:=Tryz.underlying295
 a218:=Tryz.isAgg295
 z218:=Tryz.sizeOf295
 v218:=Tryz.zeroValue295
 t222:=Tryz.underlying299
 a222:=Tryz.isAgg299
 z222:=Tryz.sizeOf299
 v222:=Tryz.zeroValue299
 t228:=Tryz.underlying316
 a228:=Tryz.isAgg316
 z228:=Tryz.sizeOf316
 v228:=Tryz.zeroValue316
 t229:=Tryz.underlying317
 a229:=Tryz.isAgg317
 z229:=Tryz.sizeOf317
 v229:=Tryz.zeroValue317 }
open Go.Sort Go.RowKit in
theorem Tryz.slices_Sort_string (blk off cap:Nat)(ss:List (List UInt8))(w:World)(hH:Holds encStr w blk off ss.toArray)(hblk:blk<w.heap.size)(hsz:ss.length<4611686018427387904) :
  Calls Tryz.prog 115 #[.slice (some ⟨blk,off,none⟩) ss.length cap] w fun e w'=>
   e=.returned (.tuple #[])/\∃ n os,w'=grow (putRow encStr (Sort.ahead w n) blk off (ss.mergeSort fun x y=>decide (x<=y)).toArray) os:=Any.slices_Sort_string Tryz.lays190 blk off cap ss w hH hblk hsz
def Tryz.laysNm216_ren:Go.Shelf.Ren:=⟨fun | 16=>69 | n=>n,fun | 24=>34 | 9=>9 | 4=>4 | n=>n,fun | n=>n⟩
theorem Tryz.laysNm216:Go.Proofs.Lays2.n16 Tryz.prog Tryz.laysNm216_ren:={
 mixed:=by kernel_rfl
 f16:=Tryz.func69.trans (congrArg some (by kernel_rfl))
 t4:=Tryz.underlying4
 a4:=Tryz.isAgg4
 z4:=Tryz.sizeOf4
 v4:=Tryz.zeroValue4
 t9:=Tryz.underlying9
 a9:=Tryz.isAgg9
 z9:=Tryz.sizeOf9
 v9:=Tryz.zeroValue9
 t24:=Tryz.underlying34
 a24:=Tryz.isAgg34
 z24:=Tryz.sizeOf34
 v24:=Tryz.zeroValue34
 i9:=by kernel_rfl }
open Go.RowKit Go.Lib in
theorem Tryz.slices_Clone_string (b off n c:Nat)(zs:List ByteArray)(w:World)(hz:n<=zs.length)(hbig:n*16<=140737488355328)(hc:∀ j,j<zs.length->w.cell? ⟨b,off+j,none⟩=some (.string (zs.getD j ByteArray.empty))) :
  Calls Tryz.prog 69 #[.slice (some ⟨b,off,none⟩) n c] w fun e w'=>∃ v',e=.returned v'/\w'.ownsRow w.heap.size 9 1 v' n ((zs.take n).map (Value.string))/\v'≠.slice none 0 0/\Below w.heap.size w w':=Any.slices_Clone_string Tryz.laysNm216 b off n c zs w hz hbig hc
open Go.RowKit Go.Lib in
theorem Tryz.slices_Clone_string_nil (n c:Nat)(w:World) :
  Calls Tryz.prog 69 #[.slice none n c] w fun e w'=>e=.returned (.slice none 0 0)/\w'=w:=Any.slices_Clone_string_nil Tryz.laysNm216 n c w
open Go.RowKit Go.Lib in
theorem Tryz.slices_Clone_string_zero (a:Addr)(c:Nat)(w:World) :
  Calls Tryz.prog 69 #[.slice (some a) 0 c] w fun e w'=>∃ v',e=.returned v'/\w'.ownsRow w.heap.size 9 1 v' 0 []/\v'≠.slice none 0 0/\Below w.heap.size w w':=Any.slices_Clone_string_zero Tryz.laysNm216 a c w
def Tryz.lays194_ren:Go.Shelf.Ren:=⟨fun | 194=>116 | n=>n,fun | 31=>34 | 9=>9 | 3=>3 | 4=>4 | 0=>0 | n=>n,fun | n=>n⟩
theorem Tryz.lays194:Go.Proofs.Lays.n194 Tryz.prog Tryz.lays194_ren:={
 mixed:=by kernel_rfl
 f194:=Tryz.func116.trans (congrArg some (by kernel_rfl))
 t0:=Tryz.underlying0
 a0:=Tryz.isAgg0
 z0:=Tryz.sizeOf0
 v0:=Tryz.zeroValue0
 t3:=Tryz.underlying3
 a3:=Tryz.isAgg3
 z3:=Tryz.sizeOf3
 v3:=Tryz.zeroValue3
 t4:=Tryz.underlying4
 a4:=Tryz.isAgg4
 z4:=Tryz.sizeOf4
 v4:=Tryz.zeroValue4
 t9:=Tryz.underlying9
 a9:=Tryz.isAgg9
 z9:=Tryz.sizeOf9
 v9:=Tryz.zeroValue9
 t31:=Tryz.underlying34
 a31:=Tryz.isAgg34
 z31:=Tryz.sizeOf34
 v31:=Tryz.zeroValue34 }
open Go.RowKit Go.Lib Go.Sort in
theorem Tryz.slices_Compact_string (blk off cap:Nat)(zs:List (List UInt8))(w:World)(hH:Holds encStr w blk off zs.toArray)(hsz:zs.length<=9223372036854775807)(hcap:zs.length<=cap) :
  Calls Tryz.prog 116 #[.slice (some ⟨blk,off,none⟩) zs.length cap] w fun e w'=>e=.returned (.slice (some ⟨blk,off,none⟩) (Lib.compact zs).length cap)/\∃ q,w'=putRow encStr (Sort.ahead w q) blk off (Lib.compact zs++List.replicate (zs.length - (Lib.compact zs).length) []).toArray:=Any.slices_Compact_string Tryz.lays194 blk off cap zs w hH hsz hcap
open Go.RowKit Go.Lib Go.Sort in
theorem Tryz.slices_Compact_string_empty (a:Option Addr)(cap:Nat)(w:World) :
  Calls Tryz.prog 116 #[.slice a 0 cap] w fun e w'=>e=.returned (.slice a 0 cap)/\w'=w:=Any.slices_Compact_string_empty Tryz.lays194 a cap w
open Go.RowKit Go.Sort in
theorem Tryz.slices_Sort_string_none (p:Option Addr)(cap:Nat)(w:World) :
  Calls Tryz.prog 115 #[.slice p 0 cap] w fun e w'=>e=.returned (.tuple #[])/\w'=w:=Any.slices_Sort_string_none Tryz.lays190 p cap w
end Go.Proofs
