/- Layer 8: lists of nodes with all below them (Fr), and how they lie in memory. Layer 8: Che -/
import Derived.Test.YtoegmdnfbemppaaGreatDoorTf03

namespace Go.Proofs.YtoegmdnfbemppaaGreatDoor
open Go.RowKit
inductive Fr where
 | nil
 | cons (k t r:Int) (l:List UInt8) (v:Int) (kids rest:Fr)
def Fr.len:Fr->Nat
 | .nil=>0
 | .cons _ _ _ _ _ _ rest=>rest.len+1
def Fr.drop:Nat->Fr->Fr
 | 0,f=>f
 | _+1,.nil=>.nil
 | n+1,.cons _ _ _ _ _ _ rest=>rest.drop n
theorem Fr.drop_lt:∀ (f:Fr) (j:Nat),j<f.len->∃ k t r l v kids rest,f.drop j=.cons k t r l v kids rest
 | .nil,_,h=>by simp [Fr.len] at h
 | .cons k t r l v kids rest,0,_=>⟨_,_,_,_,_,_,_,rfl⟩
 | .cons _ _ _ _ _ _ rest,j+1,h=>rest.drop_lt j (by simp [Fr.len] at h;omega)
theorem Fr.drop_ge:∀ (f:Fr) (j:Nat),f.len<=j->f.drop j=.nil
 | .nil,0,_=>rfl
 | .nil,_+1,_=>rfl
 | .cons _ _ _ _ _ _ _,0,h=>by simp [Fr.len] at h
 | .cons _ _ _ _ _ _ rest,j+1,h=>rest.drop_ge j (by simp [Fr.len] at h;omega)
theorem Fr.drop_next:∀ (f:Fr) (j:Nat) {k t r:Int} {l:List UInt8} {v:Int} {kids rest:Fr},f.drop j=.cons k t r l v kids rest->f.drop (j+1)=rest
 | .nil,0,_,_,_,_,_,_,_,h=>by cases h
 | .nil,_+1,_,_,_,_,_,_,_,h=>by cases h
 | .cons _ _ _ _ _ _ rest,0,_,_,_,_,_,_,_,h=>by cases h;cases rest <;> rfl
 | .cons _ _ _ _ _ _ rest,j+1,_,_,_,_,_,_,_,h=>rest.drop_next j h
def Zc4 (w:World)(hi:Nat):Nat->Nat->Fr->Prop
 | _,_,.nil=>True
 | b,o,.cons k t r l v kids rest=>
  w.cell? ⟨b,o,none⟩=some (.int .i64 k)/\w.cell? ⟨b,o+1,none⟩=some (.int .i64 t)/\w.cell? ⟨b,o+2,none⟩=some (.int .i64 r)/\w.cell? ⟨b,o+3,none⟩=some (.string ⟨l.toArray⟩)/\
  w.cell? ⟨b,o+4,none⟩=some (.int .i64 v)/\l.length<=9223372036854775807/\
  (∃ A cap,w.cell? ⟨b,o+5,none⟩=some (.slice A kids.len cap)/\kids.len<=cap/\(kids.len*72<=140737488351232/\cap<=9223372036854775807)/\(0<kids.len->∃ b' o',A=some ⟨b',o',none⟩/\b'<hi/\Zc4 w hi b' o' kids))/\
  Zc4 w hi b (o+6) rest
def Zd7 (w:World)(hi:Nat)(kv:Value)(f:Fr):Prop:=
 ∃ A cap,kv=.slice A f.len cap/\f.len<=cap/\(f.len*72<=140737488351232/\cap<=9223372036854775807)/\(0<f.len->∃ b o,A=some ⟨b,o,none⟩/\b<hi/\Zc4 w hi b o f)
theorem Zc4.keep {w w':World}{hi:Nat}(hk:∀ b o,b<hi->w'.cell? ⟨b,o,none⟩=w.cell? ⟨b,o,none⟩):∀ (f:Fr) (b o:Nat),b<hi->Zc4 w hi b o f->Zc4 w' hi b o f
 | .nil,_,_,_,_=>trivial
 | .cons k t r l v kids rest,b,o,hb,⟨h0,h1,h2,h3,h4,h5,⟨A,cap,h6,h7,h8,h9⟩,h10⟩=>
  ⟨(hk _ _ hb).trans h0,(hk _ _ hb).trans h1,(hk _ _ hb).trans h2,(hk _ _ hb).trans h3,(hk _ _ hb).trans h4,h5,
   ⟨A,cap,(hk _ _ hb).trans h6,h7,h8,fun hp=>by
    obtain⟨b',o',e,hb',hr⟩:=h9 hp
    exact⟨b',o',e,hb',Zc4.keep hk kids b' o' hb' hr⟩⟩,Zc4.keep hk rest b (o+6) hb h10⟩
theorem Zd7.keep {w w':World}{hi:Nat}{kv:Value}{f:Fr}(h:Zd7 w hi kv f)(hk:∀ b o,b<hi->w'.cell? ⟨b,o,none⟩=w.cell? ⟨b,o,none⟩):Zd7 w' hi kv f:=by
 obtain⟨A,cap,h1,h2,h3,h4⟩:=h
 refine⟨A,cap,h1,h2,h3,fun hp=>?_⟩
 obtain⟨b,o,e,hb,hr⟩:=h4 hp
 exact⟨b,o,e,hb,Zc4.keep hk f b o hb hr⟩
theorem Zd7.below {w w':World}{hi:Nat}{kv:Value}{f:Fr}(h:Zd7 w hi kv f)(hh:hi<=w.heap.size)(hb:Below w.heap.size w w'):Zd7 w' hi kv f:=
 h.keep fun b o h1=>hb.cell (p:=⟨b,o,none⟩) (Nat.lt_of_lt_of_le h1 hh)
theorem Zc4.up {w:World}{hi hi':Nat}(hh:hi<=hi'):∀ (f:Fr) (b o:Nat),Zc4 w hi b o f->Zc4 w hi' b o f
 | .nil,_,_,_=>trivial
 | .cons k t r l v kids rest,b,o,⟨h0,h1,h2,h3,h4,h5,⟨A,cap,h6,h7,h8,h9⟩,h10⟩=>
  ⟨h0,h1,h2,h3,h4,h5,⟨A,cap,h6,h7,h8,fun hp=>by
    obtain⟨b',o',e,hb',hr⟩:=h9 hp
    exact⟨b',o',e,by omega,Zc4.up hh kids b' o' hr⟩⟩,Zc4.up hh rest b (o+6) h10⟩
theorem Zd7.up {w:World}{hi hi':Nat}{kv:Value}{f:Fr}(h:Zd7 w hi kv f)(hh:hi<=hi'):Zd7 w hi' kv f:=by
 obtain⟨A,cap,h1,h2,h3,h4⟩:=h
 refine⟨A,cap,h1,h2,h3,fun hp=>?_⟩
 obtain⟨b,o,e,hb,hr⟩:=h4 hp
 exact⟨b,o,e,by omega,Zc4.up hh f b o hr⟩
theorem Zc4.at_ {w:World}{hi:Nat}:∀ (f:Fr) (b o j:Nat),Zc4 w hi b o f->Zc4 w hi b (o+j*6) (f.drop j)
 | .nil,_,_,0,_=>trivial
 | .nil,_,_,_+1,_=>trivial
 | .cons _ _ _ _ _ _ _,_,_,0,h=>by simpa [Fr.drop] using h
 | .cons _ _ _ _ _ _ rest,b,o,j+1,h=>by
  have:=Zc4.at_ rest b (o+6) j h.2.2.2.2.2.2.2
  rw [show o+6+j*6=o+(j+1)*6 by omega] at this
  exact this
theorem Zd7.nil (w:World)(hi:Nat)(A:Option Addr)(cap:Nat)(hc:cap<=9223372036854775807):Zd7 w hi (.slice A 0 cap) .nil:=⟨A,cap,rfl,Nat.zero_le _,⟨by simp [Fr.len],hc⟩,fun h=>by simp [Fr.len] at h⟩
theorem Zc4.head {w:World}{hi b o:Nat}{k t r:Int}{l:List UInt8}{v:Int}{kids rest:Fr}(h:Zc4 w hi b o (.cons k t r l v kids rest)) :
  ∃ kv,w.cell? ⟨b,o,none⟩=some (.int .i64 k)/\w.cell? ⟨b,o+1,none⟩=some (.int .i64 t)/\w.cell? ⟨b,o+2,none⟩=some (.int .i64 r)/\w.cell? ⟨b,o+3,none⟩=some (.string ⟨l.toArray⟩)/\
   w.cell? ⟨b,o+4,none⟩=some (.int .i64 v)/\w.cell? ⟨b,o+5,none⟩=some kv/\l.length<=9223372036854775807/\Zd7 w hi kv kids:=by
 obtain⟨h0,h1,h2,h3,h4,h5,⟨A,cap,h6,h7,h8,h9⟩,_⟩:=h
 exact⟨_,h0,h1,h2,h3,h4,h6,h5,A,cap,rfl,h7,h8,h9⟩
def Zdk (a:Int):Fr->Nat->Nat->Nat×Int
 | .nil,met,_=>(met,0)
 | .cons k t r l v kids rest,met,deep=>
  if 1024<=met\/64<=deep then (met,2)
  else if Zfw a k t r l v kids.len=false then (met,80)
  else if (Zdk a kids (met+1) (deep+1)).2=0 then Zdk a rest (Zdk a kids (met+1) (deep+1)).1 deep
  else Zdk a kids (met+1) (deep+1)
def Zdr (a:Int)(k t r:Int)(l:List UInt8)(v:Int)(kids:Fr)(met deep:Nat):Nat×Int:=Zdk a (.cons k t r l v kids .nil) met deep
section
variable {a k t r v:Int} {l:List UInt8} {kids:Fr} {met deep:Nat}
theorem Zfb (h:1024<=met\/64<=deep):Zdr a k t r l v kids met deep=(met,2):=by simp [Zdr,Zdk,h]
theorem Zjw (h:¬ (1024<=met\/64<=deep))(ho:Zfw a k t r l v kids.len=false):Zdr a k t r l v kids met deep=(met,80):=by simp only [Zdr,Zdk,if_neg h,ho,if_true]
theorem Zml (h:¬ (1024<=met\/64<=deep))(ho:Zfw a k t r l v kids.len=true):Zdr a k t r l v kids met deep=Zdk a kids (met+1) (deep+1):=by
 simp only [Zdr,Zdk,if_neg h,ho,Bool.true_eq_false,if_false]
 split
 ·rename_i h0;rw [<- h0]
 ·rfl
theorem Zlp {rest:Fr}:Zdk a (.cons k t r l v kids rest) met deep=if (Zdr a k t r l v kids met deep).2=0 then Zdk a rest (Zdr a k t r l v kids met deep).1 deep else Zdr a k t r l v kids met deep:=by
 by_cases h:1024<=met\/64<=deep
 ·rw [Zfb h];simp [Zdk,h]
 ·cases ho:Zfw a k t r l v kids.len with
  | false=>rw [Zjw h ho];simp only [Zdk,if_neg h,ho];simp
  | true=>rw [Zml h ho];simp only [Zdk,if_neg h,ho];simp
end
theorem Zfx (a:Int):∀ (f:Fr) (met deep:Nat),met<=1024->(Zdk a f met deep).1<=1024
 | .nil,_,_,h=>h
 | .cons k t r l v kids rest,met,deep,h=>by
  unfold Zdk
  split
  ·exact h
  ·rename_i h0
   split
   ·exact h
   ·have:=Zfx a kids (met+1) (deep+1) (by omega)
    split
    ·exact Zfx a rest _ _ this
    ·exact this
def Wk (w:World)(g:Nat)(a s e:Int):Prop:=w.cell? ⟨g,0,none⟩=some (.int .i64 a)/\w.cell? ⟨g,1,none⟩=some (.int .i64 s)/\w.cell? ⟨g,2,none⟩=some (.int .i64 e)/\∀ o,w.frozen? ⟨g,o,none⟩=false
theorem Wk.below {w w':World}{g:Nat}{a s e:Int}(h:Wk w g a s e)(hb:Below w.heap.size w w'):Wk w' g a s e:=
 ⟨Zac h.1 hb,Zac h.2.1 hb,Zac h.2.2.1 hb,fun o=>Z4k (h.2.2.2 o) (World.block_lt_of_cell? w ⟨g,0,none⟩ h.1) hb⟩
def Z33 (a:Int)(g:Nat)(rr:Nat×Int)(w:World)(e:Ending)(w':World):Prop:=
 e=.returned (.bool (decide (rr.2=0)))/\Zez g w w'/\∃ s:Int,Wk w' g a s rr.2/\(rr.2=0->s=rr.1)
def Zwu (a k t r:Int)(l:List UInt8)(v:Int)(kids:Fr):Prop:=
 ∀ (w:World) (g hi:Nat) (kv:Value) (met deep:Nat),Wk w g a met 0->hi<=g->hi<=w.heap.size->met<=1024->deep<=64->l.length<=9223372036854775807->Zd7 w hi kv kids->
  Calls Tryz.prog 149 #[.pointer (some ⟨g,0,none⟩),Zf1 k t r l v kv,.int .i64 deep] w (Z33 a g (Zdr a k t r l v kids met deep) w)
def Z22 (a:Int):Fr->Prop
 | .nil=>True
 | .cons k t r l v kids rest=>Zwu a k t r l v kids/\Z22 a rest
theorem Z22.at_ {a:Int}:∀ (f:Fr) (j:Nat) {k t r:Int} {l:List UInt8} {v:Int} {kids rest:Fr},Z22 a f->f.drop j=.cons k t r l v kids rest->Zwu a k t r l v kids
 | .nil,0,_,_,_,_,_,_,_,_,h=>by cases h
 | .nil,_+1,_,_,_,_,_,_,_,_,h=>by cases h
 | .cons _ _ _ _ _ _ _,0,_,_,_,_,_,_,_,h,e=>by cases e;exact h.1
 | .cons _ _ _ _ _ _ rest,j+1,_,_,_,_,_,_,_,h,e=>Z22.at_ rest j h.2 e
theorem Wk.set1 {w:World}{g:Nat}{a s e:Int}(h:Wk w g a s e)(u:Int):Wk (w.setCell ⟨g,1,none⟩ (.int .i64 u)) g a u e:=
 ⟨Zc1 h.1 (by omega),Zhv (by rw [h.2.1];rfl),Zc1 h.2.2.1 (by omega),fun o=>by rw [World.frozen?_setCell];exact h.2.2.2 o⟩
theorem Wk.set2 {w:World}{g:Nat}{a s e:Int}(h:Wk w g a s e)(u:Int):Wk (w.setCell ⟨g,2,none⟩ (.int .i64 u)) g a s u:=
 ⟨Zc1 h.1 (by omega),Zc1 h.2.1 (by omega),Zhv (by rw [h.2.2.1];rfl),fun o=>by rw [World.frozen?_setCell];exact h.2.2.2 o⟩
theorem Wk.al {w:World}{g:Nat}{a s e:Int}(h:Wk w g a s e)(o:Obj):Wk (w.alloc o) g a s e:=h.below (Zad w o)
section
variable {a k t r v:Int} {l:List UInt8} {kids:Fr}
set_option maxHeartbeats 4000000 in
set_option maxRecDepth 100000 in
theorem Zlv (hk:Z22 a kids):Zwu a k t r l v kids:=by
 intro w g hi kv met deep hw hg hh hmet hdeep hl hs
 obtain⟨A,cap,rfl,s1,s2,s3⟩:=hs
 have hgw:g<w.heap.size:=World.block_lt_of_cell? w ⟨g,0,none⟩ hw.1
 have HW:=Zh hw
 obtain⟨c0,c1,c2,wf⟩:=hw
 have f1:=wf 1
 have f2:=wf 2
 have S3:=Zh s3
 have HK:=Zh hk
 clear wf s3 hk
 by_cases hm:1024<=met
 ·have HR:=Zh (Zfb (a:=a) (k:=k) (t:=t) (r:=r) (l:=l) (v:=v) (kids:=kids) (met:=met) (deep:=deep) (.inl hm))
  exact m_63
 by_cases hd:64<=deep
 ·have HR:=Zh (Zfb (a:=a) (k:=k) (t:=t) (r:=r) (l:=l) (v:=v) (kids:=kids) (met:=met) (deep:=deep) (.inr hd))
  exact m_63
 have hnf:¬ (1024<=met\/64<=deep):=by omega
 have dm:decide ((1024:Int)<(met:Int)+1)=false:=by simp;omega
 have dd:decide ((64:Int)<=(deep:Int))=false:=by simp;omega
 obtain⟨ob,hob⟩:∃ b,Zfw a k t r l v kids.len=b:=⟨_,rfl⟩
 have HO:=Zh hob
 have HN:=Zh hnf
 clear hnf hob c0 c1 c2 f1 f2
 have hw1:=(HW.out.set1 (met+1)).al (.cells #[.int .i64 k,.int .i64 t,.int .i64 r,.string ⟨l.toArray⟩,.int .i64 v,.slice A kids.len cap] 28 (0,0))
 have hn1:=fun o=>Zb2 (w.setCell ⟨g,1,none⟩ (.int .i64 (met+1))) #[.int .i64 k,.int .i64 t,.int .i64 r,.string ⟨l.toArray⟩,.int .i64 v,.slice A kids.len cap] 28 (0,0) o
 have ho1:=((Zez.refl g w).set 1 (.int .i64 (met+1))).alloc (.cells #[.int .i64 k,.int .i64 t,.int .i64 r,.string ⟨l.toArray⟩,.int .i64 v,.slice A kids.len cap] 28 (0,0))
 have H1:=Zh hw1
 have N1:=Zh hn1
 have O1:=Zh ho1
 clear hw1 hn1 ho1
 obtain⟨c0,c1,c2,wf⟩:=HW.out
 have f1:=wf 1
 clear wf
 go_enter Tryz.func149,Tryz.ntmps149
 go_wp2_with fail
 clear c0 c1 c2 f1
 generalize hW1:(w.setCell ⟨g,1,none⟩ (.int .i64 (met+1))).alloc (.cells #[.int .i64 k,.int .i64 t,.int .i64 r,.string ⟨l.toArray⟩,.int .i64 v,.slice A kids.len cap] 28 (0,0))=W1
 have h1:=H1.out
 have n1:=N1.out
 have o1:=O1.out
 rw [hW1] at h1 n1 o1
 simp only [World.size_setCell] at n1
 clear hW1 H1 N1 O1
 have hgn:g<W1.heap.size:=World.block_lt_of_cell? W1 ⟨g,0,none⟩ h1.1
 have HW1:=Zh h1
 have HO1:=Zh o1
 have hS:∀ x,Below W1.heap.size W1 x->x.cell? ⟨g,0,none⟩=some (.int .i64 a)/\x.cell? ⟨w.heap.size,0,none⟩=some (.int .i64 k)/\x.cell? ⟨w.heap.size,1,none⟩=some (.int .i64 t)/\x.cell? ⟨w.heap.size,2,none⟩=some (.int .i64 r)/\
   x.cell? ⟨w.heap.size,3,none⟩=some (.string ⟨l.toArray⟩)/\x.cell? ⟨w.heap.size,4,none⟩=some (.int .i64 v)/\x.cell? ⟨w.heap.size,5,none⟩=some (.slice A kids.len cap):=fun x hx=>
  ⟨Zac h1.1 hx,Zac (n1 0) hx,Zac (n1 1) hx,Zac (n1 2) hx,Zac (n1 3) hx,Zac (n1 4) hx,Zac (n1 5) hx⟩
 have HS:=Zh hS
 clear hS h1 o1 n1
 go_region_held3 (fun x=>x.cell? ⟨g,0,none⟩=some (.int .i64 a)/\x.cell? ⟨w.heap.size,0,none⟩=some (.int .i64 k)/\x.cell? ⟨w.heap.size,1,none⟩=some (.int .i64 t)/\x.cell? ⟨w.heap.size,2,none⟩=some (.int .i64 r)/\
   x.cell? ⟨w.heap.size,3,none⟩=some (.string ⟨l.toArray⟩)/\x.cell? ⟨w.heap.size,4,none⟩=some (.int .i64 v)/\x.cell? ⟨w.heap.size,5,none⟩=some (.slice A kids.len cap))
  (first | exact HS.out _ (Below.refl _ _).drew | exact HS.out _ (Zar hb1))
  (first | (go_at_call 227;refine (Z3i hl _).mono ?_;rw [HO.out];rintro e x1 ⟨rfl,hb1⟩))
 have hb1':=Zar hb1
 have HX1:=Zh (HW1.out.below hb1')
 have HOX:=Zh (HO1.out.back hb1')
 have hs0:=(HS.out x1 hb1').2.2.2.2.2.2
 have hzx:W1.heap.size<=x1.heap.size:=hb1'.size
 clear HS HW1 HO1 hb1 hb1'
 cases ob with
 | false=>
  obtain⟨c0,c1,c2,wf⟩:=HX1.out
  have f2:=wf 2
  clear wf hs0
  have HR:=Zh (Zjw HN.out HO.out)
  go_wp2_with fail
  go_ret
  refine⟨by rw [HR.out];rfl,?_,met+1,?_,by rw [HR.out];intro h;cases h⟩
  ·exact HOX.out.set 2 _
  ·rw [HR.out];exact HX1.out.set2 _
 | true=>
  have HR:=Zh (Zml HN.out HO.out)
  go_wp2_with fail
  clear hs0
  simp only [Bool.not_true]
  go_loopw [43] (fun i wr=>∃ j m:Nat,j<=kids.len/\i=.int .i64 j/\m<=1024/\Zdk a kids (met+1) (deep+1)=Zdk a (kids.drop j) m (deep+1)/\Wk wr g a m 0/\Zez g w wr/\x1.heap.size<=wr.heap.size) (fun i _=>kids.len - (intOf i).toNat)
  case atStart=>exact⟨0,met+1,Nat.zero_le _,rfl,(by omega),rfl,(by simpa using HX1.out),HOX.out,Nat.le_refl _⟩
  case round=>
   obtain⟨j,m,hj,rfl,hm',hwk,hwr,how,hzr⟩:=hrel
   have HF:=Zh hwk
   have HWR:=Zh hwr
   have HOR:=Zh how
   have hgr:g<wr.heap.size:=World.block_lt_of_cell? wr ⟨g,0,none⟩ hwr.1
   clear hwk hwr how
   by_cases hlt:j<kids.len
   ·obtain⟨b,o,rfl,hb,hrow⟩:=S3.out (by omega)
    obtain⟨k',t',r',l',v',kids',rest',hdr⟩:=kids.drop_lt j hlt
    have hrow':=Zc4.keep (w':=wr) (fun b o hb=>World.cell?_of_block (HOR.out.block b (show b<w.heap.size by omega) (fun e=>by injection e with e;omega))) kids b o hb hrow
    have hat:=Zc4.at_ kids b o j hrow'
    rw [hdr] at hat
    obtain⟨kv',q0,q1,q2,q3,q4,q5,hl',hsl'⟩:=hat.head
    obtain⟨A',cap',rfl,hsl''⟩:=hsl'
    have hsl':Zd7 wr hi (.slice A' kids'.len cap') kids':=⟨A',cap',rfl,hsl''⟩
    clear hsl''
    have HSL:=Zh (hsl'.below (show hi<=wr.heap.size by omega) (Zad wr (.cells #[.int .i64 k',.int .i64 t',.int .i64 r',.string ⟨l'.toArray⟩,.int .i64 v',.slice A' kids'.len cap'] 28 (0,0))))
    have HC:=Zh (Z22.at_ kids j HK.out hdr)
    have HNX:=Zh (kids.drop_next j hdr)
    have HST:=Zh (show Zdk a kids (met+1) (deep+1)=if (Zdr a k' t' r' l' v' kids' m (deep+1)).2=0 then Zdk a rest' (Zdr a k' t' r' l' v' kids' m (deep+1)).1 (deep+1) else Zdr a k' t' r' l' v' kids' m (deep+1) by rw [HF.out,hdr];exact Zlp)
    clear hrow hrow' hat hsl' hdr
    by_cases he:(Zdr a k' t' r' l' v' kids' m (deep+1)).2=0
    ·have HE:=Zh he
     clear he
     go_wp2_with (go_at_call 149;refine (HC.out _ g hi _ m (deep+1) (HWR.out.al _) hg (by simp;omega) hm' (by omega) hl' HSL.out).mono ?_;rintro e w2 ⟨he,ho2,s,hw2,hs2⟩;rw [HE.out] at he hw2 hs2;simp only [decide_true] at he;subst he;have hs2':=hs2 rfl;subst hs2')
     go_roundw
     case rel=>exact⟨j+1,_,by omega,by go_num,by have:=Zfx a (.cons k' t' r' l' v' kids' .nil) m (deep+1) hm';exact this,by rw [HST.out,if_pos HE.out,HNX.out],hw2,HOR.out.trans ((Zez.of_below (Zad wr _)).trans ho2),by have:=ho2.size;simp at this;omega⟩
     case measure=>simp [intOf];omega
    ·have HE:=Zh he
     clear he
     go_wp2_with (go_at_call 149;refine (HC.out _ g hi _ m (deep+1) (HWR.out.al _) hg (by simp;omega) hm' (by omega) hl' HSL.out).mono ?_;rintro e w2 ⟨he,ho2,s,hw2,hs2⟩;rw [decide_eq_false HE.out] at he;subst he)
     go_ret
     have HFIN:=Zh (HR.out.trans (HST.out.trans (if_neg HE.out)))
     refine⟨Zae (a:=false) (by rw [HFIN.out];exact (decide_eq_false HE.out).symm),HOR.out.trans ((Zez.of_below (Zad wr _)).trans ho2),s,by rw [HFIN.out];exact hw2,fun h=>?_⟩
     rw [HFIN.out] at h
     exact absurd h HE.out
   ·have HFIN:=Zh (show Zdr a k t r l v kids met deep=(m,0) by rw [HR.out,HF.out,Fr.drop_ge kids j (by omega)];rfl)
    go_wp2_with fail
    go_ret
    refine⟨by rw [HFIN.out];rfl,HOR.out,m,by rw [HFIN.out];exact HWR.out,fun _=>by rw [HFIN.out]⟩
theorem Z5o (a:Int):∀ f,Z22 a f
 | .nil=>trivial
 | .cons _ _ _ _ _ kids rest=>⟨Zlv (Z5o a kids),Z5o a rest⟩
theorem Ztx:Zwu a k t r l v kids:=Zlv (Z5o a kids)
end
abbrev Zzf (q k t r:Int)(l:List UInt8)(v:Int)(kv:Value):Value:=.agg #[.int .i64 q,.int .i64 k,.int .i64 t,.int .i64 r,.string ⟨l.toArray⟩,.int .i64 v,kv]
def Zbd (a q k t r:Int)(l:List UInt8)(v:Int)(kids:Fr):Int:=
 if Zd0 a=false then 5 else if q<1\/3<q then 80 else (Zdr a k t r l v kids 0 0).2
set_option maxHeartbeats 2000000 in
set_option maxRecDepth 100000 in
theorem Zwn (a q k t r:Int)(l:List UInt8)(v:Int)(kv:Value)(kids:Fr)(w:World)(hl:l.length<=9223372036854775807)(hs:Zd7 w w.heap.size kv kids) :
  Calls Tryz.prog 83 #[.int .i64 a,Zzf q k t r l v kv] w fun e w'=>e=.returned (.int .i64 (Zbd a q k t r l v kids))/\Below w.heap.size w w':=by
 obtain⟨A,cap,rfl,hs'⟩:=hs
 have hs:Zd7 w w.heap.size (.slice A kids.len cap) kids:=⟨A,cap,rfl,hs'⟩
 clear hs'
 cases ha:Zd0 a with
 | false=>
  have HV:=Zh (show Zbd a q k t r l v kids=5 by simp [Zbd,ha])
  have HA:=Zh ha
  clear ha
  go_enter Tryz.func83,Tryz.ntmps83
  go_wp2_with (go_at_call 148;refine (Z0l _ _).mono ?_;rw [HA.out];rintro e w' ⟨rfl,rfl⟩)
  go_ret
  exact⟨Zah HV.out.symm,Zad _ _⟩
 | true=>
  have HA:=Zh ha
  by_cases hq:q<1\/3<q
  ·have HV:=Zh (show Zbd a q k t r l v kids=80 by simp [Zbd,ha,hq])
   clear ha
   rcases hq with hq | hq
   all_goals
    go_enter Tryz.func83,Tryz.ntmps83
    go_wp2_with (go_at_call 148;refine (Z0l _ _).mono ?_;rw [HA.out];rintro e w' ⟨rfl,rfl⟩)
    go_ret
    exact⟨Zah HV.out.symm,Zad _ _⟩
  ·have HV:=Zh (show Zbd a q k t r l v kids=(Zdr a k t r l v kids 0 0).2 by simp [Zbd,ha,hq])
   have hq1:decide (q<1)=false:=by simp;omega
   have hq2:decide (3<q)=false:=by simp;omega
   have HS:=Zh hs
   clear ha hq hs
   have hB:Below w.heap.size w ((w.alloc (.cells #[.int .i64 q,.int .i64 k,.int .i64 t,.int .i64 r,.string ⟨l.toArray⟩,.int .i64 v,.slice A kids.len cap] 30 (0,0))).alloc (.cells #[.int .i64 a,.int .i64 0,.int .i64 0] 231 (0,0))):=Zab (Zad w _) _
   have hWk:Wk ((w.alloc (.cells #[.int .i64 q,.int .i64 k,.int .i64 t,.int .i64 r,.string ⟨l.toArray⟩,.int .i64 v,.slice A kids.len cap] 30 (0,0))).alloc (.cells #[.int .i64 a,.int .i64 0,.int .i64 0] 231 (0,0))) (w.heap.size+1) a ((0:Nat):Int) 0:=
    ⟨by simp [go_sem],by simp [go_sem],by simp [go_sem],fun o=>by simp [go_sem]⟩
   have HB:=Zh hB
   have HW:=Zh hWk
   clear hB hWk
   go_enter Tryz.func83,Tryz.ntmps83
   go_wp2_with (first | (go_at_call 148;refine (Z0l _ _).mono ?_;rw [HA.out];rintro e w' ⟨rfl,rfl⟩) | (go_at_call 149;refine (Ztx _ (w.heap.size+1) w.heap.size _ 0 0 HW.out (Nat.le_succ _) (by simp;omega) (by omega) (by omega) hl (HS.out.below (Nat.le_refl _) HB.out)).mono ?_;rintro e w2 ⟨rfl,ho2,s,hw2,_⟩;have w22:=hw2.2.2.1))
   go_ret
   exact⟨Zah HV.out.symm,Zez.below HB.out (Nat.le_succ _) ho2⟩
def Zyj (a k t r:Int)(l:List UInt8)(v:Int)(kids:Fr):Prop:=
 ∀ (w:World) (hi:Nat) (kv:Value) (met deep:Nat),hi<=w.heap.size->met<=1024->deep<=64->l.length<=9223372036854775807->Zd7 w hi kv kids->
  Calls Tryz.prog 167 #[.int .i64 a,Zf1 k t r l v kv,.int .i64 met,.int .i64 deep] w fun e w'=>
   e=.returned (.tuple #[.int .i64 (Zdr a k t r l v kids met deep).1,.int .i64 (Zdr a k t r l v kids met deep).2])/\Below w.heap.size w w'
def Z1e (a:Int):Fr->Prop
 | .nil=>True
 | .cons k t r l v kids rest=>Zyj a k t r l v kids/\Z1e a rest
theorem Z1e.at_ {a:Int}:∀ (f:Fr) (j:Nat) {k t r:Int} {l:List UInt8} {v:Int} {kids rest:Fr},Z1e a f->f.drop j=.cons k t r l v kids rest->Zyj a k t r l v kids
 | .nil,0,_,_,_,_,_,_,_,_,h=>by cases h
 | .nil,_+1,_,_,_,_,_,_,_,_,h=>by cases h
 | .cons _ _ _ _ _ _ _,0,_,_,_,_,_,_,_,h,e=>by cases e;exact h.1
 | .cons _ _ _ _ _ _ rest,j+1,_,_,_,_,_,_,_,h,e=>Z1e.at_ rest j h.2 e
section
variable {a k t r v:Int} {l:List UInt8} {kids:Fr}
set_option maxHeartbeats 4000000 in
set_option maxRecDepth 100000 in
theorem Zlw (hk:Z1e a kids):Zyj a k t r l v kids:=by
 intro w hi kv met deep hh hmet hdeep hl hs
 obtain⟨A,cap,rfl,s1,s2,s3⟩:=hs
 have S3:=Zh s3
 have HK:=Zh hk
 clear s3 hk
 by_cases hm:1024<=met
 ·have HR:=Zh (Zfb (a:=a) (k:=k) (t:=t) (r:=r) (l:=l) (v:=v) (kids:=kids) (met:=met) (deep:=deep) (.inl hm))
  exact m_106
 by_cases hd:64<=deep
 ·have HR:=Zh (Zfb (a:=a) (k:=k) (t:=t) (r:=r) (l:=l) (v:=v) (kids:=kids) (met:=met) (deep:=deep) (.inr hd))
  exact m_106
 have hnf:¬ (1024<=met\/64<=deep):=by omega
 have dm:decide ((1024:Int)<=(met:Int))=false:=by simp;omega
 have dd:decide ((64:Int)<=(deep:Int))=false:=by simp;omega
 obtain⟨ob,hob⟩:∃ b,Zfw a k t r l v kids.len=b:=⟨_,rfl⟩
 have HO:=Zh hob
 have HN:=Zh hnf
 clear hnf hob
 have hn1:=fun o=>Zb2 w #[.int .i64 k,.int .i64 t,.int .i64 r,.string ⟨l.toArray⟩,.int .i64 v,.slice A kids.len cap] 28 (0,0) o
 have HB:=Zh (hn1 5)
 clear hn1
 cases ob with
 | false=>
  have HR:=Zh (Zjw HN.out HO.out)
  go_enter Tryz.func167,Tryz.ntmps167
  go_wp2_with (go_at_call 242;refine (Z0i hl _).mono ?_;rw [HO.out];rintro e x1 ⟨rfl,hb1⟩)
  go_ret2
  exact⟨by rw [HR.out];rfl,Zaa (Zad w _) hb1⟩
 | true=>
  have HR:=Zh (Zml HN.out HO.out)
  go_enter Tryz.func167,Tryz.ntmps167
  go_wp2_with (go_at_call 242;refine (Z0i hl _).mono ?_;rw [HO.out];rintro e x1 ⟨rfl,hb1⟩)
  have hc:=Zh (Zac HB.out hb1)
  have hbx:=Zh (Zaa (Zad w _) hb1)
  have hzx:w.heap.size<x1.heap.size:=by have:=hb1.size;simp at this;omega
  clear hb1
  go_loopw [2,10] (fun s i wr=>∃ j m:Nat,j<=kids.len/\i=.int .i64 j/\s=.int .i64 m/\m<=1024/\Zdk a kids (met+1) (deep+1)=Zdk a (kids.drop j) m (deep+1)/\Below x1.heap.size x1 wr) (fun _ i _=>kids.len - (intOf i).toNat)
  case atStart=>exact⟨0,met+1,Nat.zero_le _,rfl,by simp,by omega,rfl,Below.refl _ _⟩
  case round=>
   obtain⟨j,m,hj,rfl,rfl,hm',hwk,hbr⟩:=hrel
   have HF:=Zh hwk
   have HBR:=Zh (Zaa hbx.out hbr)
   have hzr:x1.heap.size<=wr.heap.size:=hbr.size
   have hc5:=Zac hc.out hbr
   have HBX:=Zh hbr
   clear hwk hbr
   by_cases hlt:j<kids.len
   ·obtain⟨b,o,rfl,hb,hrow⟩:=S3.out (by omega)
    obtain⟨k',t',r',l',v',kids',rest',hdr⟩:=kids.drop_lt j hlt
    have hrow':=Zc4.keep (w':=wr) (fun b o hb=>HBR.out.cell (p:=⟨b,o,none⟩) (show b<w.heap.size by omega)) kids b o hb hrow
    have hat:=Zc4.at_ kids b o j hrow'
    rw [hdr] at hat
    obtain⟨kv',q0,q1,q2,q3,q4,q5,hl',hsl'⟩:=hat.head
    obtain⟨A',cap',rfl,hsl''⟩:=hsl'
    have HSL:=Zh (⟨A',cap',rfl,hsl''⟩:Zd7 wr hi (.slice A' kids'.len cap') kids')
    have HC:=Zh (Z1e.at_ kids j HK.out hdr)
    have HNX:=Zh (kids.drop_next j hdr)
    have HST:=Zh (show Zdk a kids (met+1) (deep+1)=if (Zdr a k' t' r' l' v' kids' m (deep+1)).2=0 then Zdk a rest' (Zdr a k' t' r' l' v' kids' m (deep+1)).1 (deep+1) else Zdr a k' t' r' l' v' kids' m (deep+1) by rw [HF.out,hdr];exact Zlp)
    have HM:=Zh (Zfx a (.cons k' t' r' l' v' kids' .nil) m (deep+1) hm')
    clear hrow hrow' hat hsl'' hdr
    obtain⟨rr,hrr⟩:∃ rr,Zdr a k' t' r' l' v' kids' m (deep+1)=rr:=⟨_,rfl⟩
    have HRR:=Zh hrr
    clear hrr
    obtain⟨rm,re⟩:=rr
    by_cases he:re=0
    ·subst he
     go_wp2_with (go_at_call 167;refine (HC.out _ hi _ m (deep+1) (by omega) hm' (by omega) hl' HSL.out).mono ?_;rw [HRR.out];rintro e w2 ⟨rfl,hb2⟩)
     go_roundw
     case rel=>exact⟨j+1,rm,by omega,by go_num,rfl,by have:=HM.out;rw [show Zdk a (.cons k' t' r' l' v' kids' .nil) m (deep+1)=_ from HRR.out] at this;exact this,by rw [HST.out,HRR.out,HNX.out,if_pos rfl],Zaa HBX.out hb2⟩
     case measure=>simp [intOf];omega
    ·have HE:=Zh he
     have he':(re != 0)=true:=by simpa using he
     clear he
     go_wp2_with (go_at_call 167;refine (HC.out _ hi _ m (deep+1) (by omega) hm' (by omega) hl' HSL.out).mono ?_;rw [HRR.out];rintro e w2 ⟨rfl,hb2⟩)
     go_ret2
     have HFIN:=Zh (show Zdr a k t r l v kids met deep=(rm,re) by rw [HR.out,HST.out,HRR.out,if_neg HE.out])
     exact⟨by rw [HFIN.out];rfl,Zaa HBR.out hb2⟩
   ·have HFIN:=Zh (show Zdr a k t r l v kids met deep=(m,0) by rw [HR.out,HF.out,Fr.drop_ge kids j (by omega)];rfl)
    go_wp2_with fail
    go_ret2
    exact⟨by rw [HFIN.out];rfl,HBR.out⟩
theorem Z5r (a:Int):∀ f,Z1e a f
 | .nil=>trivial
 | .cons _ _ _ _ _ kids rest=>⟨Zlw (Z5r a kids),Z5r a rest⟩
theorem Zvx:Zyj a k t r l v kids:=Zlw (Z5r a kids)
end
set_option maxHeartbeats 2000000 in
set_option maxRecDepth 100000 in
theorem Zuf (a q k t r:Int)(l:List UInt8)(v:Int)(kv:Value)(kids:Fr)(w:World)(hl:l.length<=9223372036854775807)(hs:Zd7 w w.heap.size kv kids) :
  Calls Tryz.prog 99 #[.int .i64 a,Zzf q k t r l v kv] w fun e w'=>e=.returned (.int .i64 (Zbd a q k t r l v kids))/\Below w.heap.size w w':=by
 obtain⟨A,cap,rfl,hs'⟩:=hs
 have hs:Zd7 w w.heap.size (.slice A kids.len cap) kids:=⟨A,cap,rfl,hs'⟩
 clear hs'
 cases ha:Zd0 a with
 | false=>
  have HV:=Zh (show Zbd a q k t r l v kids=5 by simp [Zbd,ha])
  have HA:=Zh ha
  clear ha
  go_enter Tryz.func99,Tryz.ntmps99
  go_wp2_with (go_at_call 166;refine (Z2l _ _).mono ?_;rw [HA.out];rintro e w' ⟨rfl,rfl⟩)
  go_ret
  exact⟨Zah HV.out.symm,Zad _ _⟩
 | true=>
  have HA:=Zh ha
  by_cases hq:q<1\/3<q
  ·have HV:=Zh (show Zbd a q k t r l v kids=80 by simp [Zbd,ha,hq])
   clear ha
   rcases hq with hq | hq
   all_goals
    go_enter Tryz.func99,Tryz.ntmps99
    go_wp2_with (go_at_call 166;refine (Z2l _ _).mono ?_;rw [HA.out];rintro e w' ⟨rfl,rfl⟩)
    go_ret
    exact⟨Zah HV.out.symm,Zad _ _⟩
  ·have HV:=Zh (show Zbd a q k t r l v kids=(Zdr a k t r l v kids 0 0).2 by simp [Zbd,ha,hq])
   have hq1:decide (q<1)=false:=by simp;omega
   have hq2:decide (3<q)=false:=by simp;omega
   have HS:=Zh (hs.below (Nat.le_refl _) (Zad w (.cells #[.int .i64 q,.int .i64 k,.int .i64 t,.int .i64 r,.string ⟨l.toArray⟩,.int .i64 v,.slice A kids.len cap] 30 (0,0))))
   clear ha hq hs
   go_enter Tryz.func99,Tryz.ntmps99
   go_wp2_with (first | (go_at_call 166;refine (Z2l _ _).mono ?_;rw [HA.out];rintro e w' ⟨rfl,rfl⟩) | (go_at_call 167;refine (Zvx _ w.heap.size _ 0 0 (by simp) (by omega) (by omega) hl HS.out).mono ?_;rintro e w2 ⟨rfl,hb2⟩))
   go_ret
   exact⟨Zah HV.out.symm,Zaa (Zad w _) hb2⟩
abbrev Th:=Int×Int×List UInt8
def Zfv (x:Th):List Value:=[.int .i64 x.1,.int .i64 x.2.1,.string ⟨x.2.2.toArray⟩]
def Zay:List Th->List Value
 | []=>[]
 | x :: r=>Zfv x++Zay r
theorem Zfg:∀ l,(Zay l).length=l.length*3
 | []=>rfl
 | _ :: r=>by simp [Zay,Zfv,Zfg r];omega
theorem Zcp:∀ l (x:Th),Zay (l++[x])=Zay l++Zfv x
 | [],x=>by simp [Zay]
 | _ :: r,x=>by simp [Zay,Zcp r x]
def atL (k t r:Int)(l:List UInt8):List Th:=if k=2 then [(t,r,l)] else []
def Za2:Fr->List Th
 | .nil=>[]
 | .cons k t r l _ kids rest=>atL k t r l++Za2 kids++Za2 rest
def Fr.all:Fr->Nat
 | .nil=>0
 | .cons _ _ _ _ _ kids rest=>1+kids.all+rest.all
theorem Zc7:∀ f,(Za2 f).length<=f.all
 | .nil=>by simp [Za2,Fr.all]
 | .cons k t r l _ kids rest=>by
  have h1:=Zc7 kids
  have h2:=Zc7 rest
  have h3:(atL k t r l).length<=1:=by unfold atL;split <;> simp
  simp [Za2,Fr.all];omega
def Acc (w:World)(bl:Nat)(L:List Th):Prop:=∃ v,Blk w bl 38 #[v]/\w.ownsRow (bl+1) 25 3 v L.length (Zay L)
theorem Zec:(Tryz.prog.info? 25).map (fun i=>(i.zero,i.size,i.bytes))=some (some (.agg #[.int .i64 0,.int .i64 0,.string ⟨#[]⟩]),3,32):=by kernel_rfl
theorem Acc.lt {w:World}{bl:Nat}{L:List Th}(h:Acc w bl L):bl<w.heap.size:=by
 obtain⟨v,h1,_⟩:=h
 exact h1.lt
theorem Acc.below {w w':World}{bl:Nat}{L:List Th}(h:Acc w bl L)(hb:Below w.heap.size w w'):Acc w' bl L:=by
 obtain⟨v,h1,h2⟩:=h
 exact⟨v,h1.go hb,h2.kept (row:=some w.heap.size) ⟨hb.os,hb.tape,hb.output,hb.size,fun i hi _=>hb.block i hi⟩ (.inr fun e=>by have:=(h2.lt _ e).2;omega)⟩
theorem Acc.fresh {w:World}{bl:Nat}{L:List Th}(h:Acc w bl L)(o:Obj):∀ u,Blk (w.alloc o) bl 38 #[u]->u.ownBlock≠some w.heap.size:=by
 obtain⟨v,h1,h2⟩:=h
 intro u hu e
 have h3:=h1.alloc o
 unfold Blk at hu h3
 rw [h3] at hu
 simp only [Option.some.injEq,Obj.cells.injEq,Array.mk.injEq,List.cons.injEq,and_true] at hu
 subst hu
 have:=(h2.lt _ e).2
 omega
theorem Zpi {w:World}{B:Nat}{t:TypeId}{z n:Nat}{v:Value}{cs:List Value}(h:w.ownsRow B t z v n cs):∃ A cap,v=.slice A n cap:=by
 rcases h.2 with ⟨rfl,rfl⟩ | ⟨g,cap,cur,rfl,_⟩
 ·exact⟨none,0,rfl⟩
 ·exact⟨_,_,rfl⟩
theorem Zuw {w w':World}{B:Nat}{t:TypeId}{z n:Nat}{v:Value}{cs:List Value}(h:w.ownsRow B t z v n cs)(hk:∀ b,v.ownBlock=some b->w'.heap[b]?=w.heap[b]?):w'.ownsRow B t z v n cs:=by
 obtain⟨h1,h2⟩:=h
 refine⟨h1,?_⟩
 rcases h2 with h2 | ⟨g,cap,cur,rfl,h3,h4,h5⟩
 ·exact .inl h2
 ·exact .inr ⟨g,cap,cur,rfl,h3,(hk g rfl).trans h4,h5⟩
section
variable {w:World} {bl:Nat} {L:List Th} {k t r v:Int} {l:List UInt8} {A:Option Addr} {n cap:Nat}
set_option maxHeartbeats 2000000 in
set_option maxRecDepth 100000 in
theorem Z6z (h:Acc w bl L)(hlen:L.length<=1000000) :
  Calls Tryz.prog 154 #[Zf1 k t r l v (.slice A n cap),.pointer (some ⟨bl,0,none⟩)] w fun e w'=>e=.returned (.tuple #[])/\Acc w' bl (L++[(t,r,l)])/\Below bl w w'/\
   ∀ i,i<w.heap.size->i≠bl->(∀ u,Blk w bl 38 #[u]->u.ownBlock≠some i)->w'.heap[i]?=w.heap[i]?:=by
 obtain⟨i0,hi,hz0,hz1,hz2⟩:=info_parts Zec
 obtain⟨u,hbl,hown⟩:=h
 obtain⟨Au,cu,rfl⟩:=Zpi hown
 have hlt:=hbl.lt
 have HBL:=Zh hbl
 have HOW:=Zh hown
 have hB1:=hbl.alloc (.cells #[.int .i64 k,.int .i64 t,.int .i64 r,.string ⟨l.toArray⟩,.int .i64 v,.slice A n cap] 28 (0,0))
 have c0:=hB1.cell 0
 have f0:=hB1.frozen 0
 have how2:=Zh ((hown.alloc (.cells #[.int .i64 k,.int .i64 t,.int .i64 r,.string ⟨l.toArray⟩,.int .i64 v,.slice A n cap] 28 (0,0))).alloc (.cells (Zfv (t,r,l)).toArray 25 (0,0)))
 clear hbl hown hB1
 go_enter Tryz.func154,Tryz.ntmps154
 go_wp2_with (at_builtin;refine wpList_append_own _ rfl _ _ 38 rfl (bl+1) 25 i0 (.agg #[.int .i64 0,.int .i64 0,.string ⟨#[]⟩]) 3 32 Tryz.underlying38 hi hz0 hz1 hz2 rfl (by decide) _ _ _ rfl how2.out ⟨w.heap.size+1,0,none⟩ 1 1 (Zfv (t,r,l)) rfl rfl ?c1 ?c2 ?c3 ?c4 ?c5 ?_)
 case c1=>
  intro j u hj
  rw [show (⟨w.heap.size+1,0,none⟩:Addr).add j=⟨w.heap.size+1,j,none⟩ by simp [Addr.add];intro e;exact e.symm]
  have:=Zb2 (w.alloc (.cells #[.int .i64 k,.int .i64 t,.int .i64 r,.string ⟨l.toArray⟩,.int .i64 v,.slice A n cap] 28 (0,0))) (Zfv (t,r,l)).toArray 25 (0,0) j
  simp only [World.size_alloc] at this
  exact this.trans (by simpa using hj)
 case c2=>intro u hu;simp [Zfv] at hu;rcases hu with rfl | rfl | rfl <;> rfl
 case c3=>unfold maxLen;omega
 case c4=>omega
 case c5=>simp;omega
 intro v' w1 hown' hgrow _
 obtain⟨Av,cv,rfl⟩:=Zpi hown'
 have hob:∀ i,(Value.slice Au L.length cu).ownBlock=some i->bl+1<=i:=fun i hi=>(HOW.out.lt i hi).1
 have hk1:∀ i,i<w.heap.size->(Value.slice Au L.length cu).ownBlock≠some i->w1.heap[i]?=w.heap[i]?:=fun i hi hne=>
  (hgrow.block i (by simp;omega) (fun e=>hne e.symm)).trans ((Below.heap_alloc _ _ _ (by simp;omega)).trans (Below.heap_alloc _ _ _ hi))
 have hb1:Blk w1 bl 38 #[.slice Au L.length cu]:=(hk1 bl hlt (fun e=>by have:=hob bl e;omega)).trans HBL.out
 have hbel:Below bl w w1:=(Below.alloc (B:=bl) (Below.alloc (B:=bl) (Below.refl _ _) (by omega) (.cells #[.int .i64 k,.int .i64 t,.int .i64 r,.string ⟨l.toArray⟩,.int .i64 v,.slice A n cap] 28 (0,0))) (by simp;omega) (.cells (Zfv (t,r,l)).toArray 25 (0,0))).grown hgrow (by simp;omega) (fun j hj=>by have:=hob j hj;omega)
 have HK1:=Zh hk1
 have HB1:=Zh hb1
 have HBE:=Zh hbel
 have HO1:=Zh hown'
 have d0:=hb1.cell 0
 have e0:=hb1.frozen 0
 clear hown' hgrow hk1 hb1 hbel c0 f0
 go_wp2
 go_end0
 refine⟨rfl,⟨_,HB1.out.set_ 0 _,?_⟩,HBE.out.setCell (p:=⟨bl,0,none⟩) (Nat.le_refl _) _,fun i hi hne hv=>?_⟩
 ·rw [Zcp,List.length_append]
  refine Zuw HO1.out fun j hj=>Below.heap_setCell _ _ _ _ ?_
  have:=(HO1.out.lt j hj).1
  dsimp only
  omega
 ·rw [Below.heap_setCell _ _ _ _ hne]
  exact HK1.out i hi (hv _ HBL.out)
end
def Zyb (k t r:Int)(l:List UInt8)(v:Int)(kids:Fr):Prop:=
 ∀ (w:World) (bl hi:Nat) (kv:Value) (L:List Th),hi<=bl->Acc w bl L->Zd7 w hi kv kids->l.length<=9223372036854775807->L.length+1+kids.all<=1000000->
  Calls Tryz.prog 153 #[Zf1 k t r l v kv,.func (.func 154) #[] #[.pointer (some ⟨bl,0,none⟩)]] w fun e w'=>
   e=.returned (.tuple #[])/\Acc w' bl (L++(atL k t r l++Za2 kids))/\Below bl w w'
def Zz5:Fr->Prop
 | .nil=>True
 | .cons k t r l v kids rest=>Zyb k t r l v kids/\Zz5 rest
theorem Zz5.at_:∀ (f:Fr) (j:Nat) {k t r:Int} {l:List UInt8} {v:Int} {kids rest:Fr},Zz5 f->f.drop j=.cons k t r l v kids rest->Zyb k t r l v kids
 | .nil,0,_,_,_,_,_,_,_,_,h=>by cases h
 | .nil,_+1,_,_,_,_,_,_,_,_,h=>by cases h
 | .cons _ _ _ _ _ _ _,0,_,_,_,_,_,_,_,h,e=>by cases e;exact h.1
 | .cons _ _ _ _ _ _ rest,j+1,_,_,_,_,_,_,_,h,e=>Zz5.at_ rest j h.2 e
section
variable {k t r v:Int} {l:List UInt8} {kids:Fr}
set_option maxHeartbeats 2000000 in
set_option maxRecDepth 100000 in
theorem Zlf (hk:Zz5 kids):Zyb k t r l v kids:=by
 intro w bl hi kv L hhi hacc hs hl hlen
 obtain⟨A,cap,rfl,s1,s2,s3⟩:=hs
 have S3:=Zh s3
 have HK:=Zh hk
 have hlt:=hacc.lt
 have HB0:=Zh (Blk.new w 28 #[.int .i64 k,.int .i64 t,.int .i64 r,.string ⟨l.toArray⟩,.int .i64 v,.slice A kids.len cap])
 have HA0:=Zh (hacc.below (Zad w (.cells #[.int .i64 k,.int .i64 t,.int .i64 r,.string ⟨l.toArray⟩,.int .i64 v,.slice A kids.len cap] 28 (0,0))))
 have hbe:Below bl w (w.alloc (.cells #[.int .i64 k,.int .i64 t,.int .i64 r,.string ⟨l.toArray⟩,.int .i64 v,.slice A kids.len cap] 28 (0,0))):=(Zad w _).mono (Nat.le_of_lt hlt)
 have HBE:=Zh hbe
 have HFR:=Zh (fun o=>hacc.fresh (o:=o))
 clear s3 hk hacc hbe
 by_cases h2:k=2
 ·subst h2
  have HT:=Zh (show atL 2 t r l=[(t,r,l)] by simp [atL])
  go_enter Tryz.func153,Tryz.ntmps153
  go_wp2_with (go_at_call 154;refine (Z6z HA0.out (by omega)).mono ?_;rintro e w1 ⟨rfl,ha1,hb1,hk1⟩;have hB1:Blk w1 w.heap.size 28 #[.int .i64 2,.int .i64 t,.int .i64 r,.string ⟨l.toArray⟩,.int .i64 v,.slice A kids.len cap]:=(hk1 _ (by simp) (by omega) (HFR.out _)).trans HB0.out;have c3:=hB1.cell 5)
  have HA1:=Zh ha1
  have HB1:=Zh (HBE.out.trans hb1)
  have hs1:=hb1.size
  simp at hs1
  clear ha1 hb1 hk1 hB1 c3
  go_loopw [15] (fun i wr=>∃ (j:Nat) (M:List Th),j<=kids.len/\i=.int .i64 j/\Acc wr bl M/\M++Za2 (kids.drop j)=(L++[(t,r,l)])++Za2 kids/\M.length+(kids.drop j).all<=(L++[(t,r,l)]).length+kids.all/\Below bl w wr) (fun i _=>kids.len - (intOf i).toNat)
  case atStart=>exact⟨0,(L++[(t,r,l)]),Nat.zero_le _,rfl,HA1.out,by rw [show kids.drop 0=kids by cases kids <;> rfl],by rw [show kids.drop 0=kids by cases kids <;> rfl];exact Nat.le_refl _,HB1.out⟩
  case round=>
   obtain⟨j,M,hj,rfl,hacc,hM,hML,hbr⟩:=hrel
   have HAC:=Zh hacc
   have HMM:=Zh hM
   have HBR:=Zh hbr
   have hltr:=hacc.lt
   have hlz:M.length+(kids.drop j).all<=L.length+1+kids.all:=by
    try simp only [List.length_append,List.length_cons,List.length_nil] at hML
    omega
   have HML:=Zh hML
   clear hM hacc hbr hML
   by_cases hlt:j<kids.len
   ·obtain⟨b,o,rfl,hb,hrow⟩:=S3.out (by omega)
    exact m_8
   ·have HFIN:=Zh (show M=(L++[(t,r,l)])++Za2 kids by have:=HMM.out;rw [Fr.drop_ge kids j (by omega)] at this;simpa [Za2] using this)
    exact m_128
 ·have HT:=Zh (show atL k t r l=[] by simp [atL,h2])
  have h2':(k == 2)=false:=by simpa using h2
  clear h2
  go_enter Tryz.func153,Tryz.ntmps153
  go_wp2_with fail
  have hs1:w.heap.size+1<=(w.alloc (.cells #[.int .i64 k,.int .i64 t,.int .i64 r,.string ⟨l.toArray⟩,.int .i64 v,.slice A kids.len cap] 28 (0,0))).heap.size:=by simp
  have HA1:=HA0
  have HB1:=HBE
  go_loopw [15] (fun i wr=>∃ (j:Nat) (M:List Th),j<=kids.len/\i=.int .i64 j/\Acc wr bl M/\M++Za2 (kids.drop j)=L++Za2 kids/\M.length+(kids.drop j).all<=L.length+kids.all/\Below bl w wr) (fun i _=>kids.len - (intOf i).toNat)
  case atStart=>exact⟨0,L,Nat.zero_le _,rfl,HA1.out,by rw [show kids.drop 0=kids by cases kids <;> rfl],by rw [show kids.drop 0=kids by cases kids <;> rfl];exact Nat.le_refl _,HB1.out⟩
  case round=>
   obtain⟨j,M,hj,rfl,hacc,hM,hML,hbr⟩:=hrel
   have HAC:=Zh hacc
   have HMM:=Zh hM
   have HBR:=Zh hbr
   have hltr:=hacc.lt
   have hlz:M.length+(kids.drop j).all<=L.length+1+kids.all:=by
    try simp only [List.length_append,List.length_cons,List.length_nil] at hML
    omega
   have HML:=Zh hML
   clear hM hacc hbr hML
   by_cases hlt:j<kids.len
   ·obtain⟨b,o,rfl,hb,hrow⟩:=S3.out (by omega)
    exact m_8
   ·have HFIN:=Zh (show M=L++Za2 kids by have:=HMM.out;rw [Fr.drop_ge kids j (by omega)] at this;simpa [Za2] using this)
    exact m_128
theorem Z57:∀ f,Zz5 f
 | .nil=>trivial
 | .cons _ _ _ _ _ kids rest=>⟨Zlf (Z57 kids),Z57 rest⟩
theorem Zoe:Zyb k t r l v kids:=Zlf (Z57 kids)
end
end Go.Proofs.YtoegmdnfbemppaaGreatDoor
namespace Go.Proofs
open Go.Shelf
open Go.RowKit in
def Tryz.lays160_ren:Go.Shelf.Ren:=⟨fun | 160=>80 | 232=>140 | 231=>139 | 227=>141 | 234=>143 | 233=>142 | 236=>145 | 235=>144 | 228=>219 | 271=>222 | 151=>221 | 197=>220 | 120=>271 | 152=>270 | 260=>269 | 137=>310 | 119=>311 | 224=>312 | 225=>313 | 217=>330 | 266=>336 | n=>n,fun | 9=>9 | 4=>4 | 3=>3 | 5=>5 | 117=>225 | 116=>224 | 0=>0 | 124=>228 | 21=>21 | 105=>281 | 46=>155 | 119=>343 | 139=>346 | 138=>345 | n=>n,fun | 3=>0 | 4=>1 | n=>n⟩
theorem Tryz.lays160:Go.Proofs.Lays.n160 Tryz.prog Tryz.lays160_ren:={
 mixed:=by kernel_rfl
 f119:=Tryz.func311.trans (congrArg some (by kernel_rfl))
 f120:=Tryz.func271.trans (congrArg some (by kernel_rfl))
 f137:=Tryz.func310.trans (congrArg some (by kernel_rfl))
 f151:=Tryz.func221.trans (congrArg some (by kernel_rfl))
 f152:=Tryz.func270.trans (congrArg some (by kernel_rfl))
 f160:=Tryz.func80.trans (congrArg some (by kernel_rfl))
 f197:=Tryz.func220.trans (congrArg some (by kernel_rfl))
 f217:=Tryz.func330.trans (congrArg some (by kernel_rfl))
 f224:=Tryz.func312.trans (congrArg some (by kernel_rfl))
 f225:=Tryz.func313.trans (congrArg some (by kernel_rfl))
 f227:=Tryz.func141.trans (congrArg some (by kernel_rfl))
 f228:=Tryz.func219.trans (congrArg some (by kernel_rfl))
 f231:=Tryz.func139.trans (congrArg some (by kernel_rfl))
 f232:=Tryz.func140.trans (congrArg some (by kernel_rfl))
 f233:=Tryz.func142.trans (congrArg some (by kernel_rfl))
 f234:=Tryz.func143.trans (congrArg some (by kernel_rfl))
 f235:=Tryz.func144.trans (congrArg some (by kernel_rfl))
 f236:=Tryz.func145.trans (congrArg some (by kernel_rfl))
 f260:=Tryz.func269.trans (congrArg some (by kernel_rfl))
 f266:=Tryz.func336.trans (congrArg some (by kernel_rfl))
 f271:=Tryz.func222.trans (congrArg some (by kernel_rfl))
 t0:=Tryz.underlying0
 a0:=Tryz.isAgg0
 z0:=Tryz.sizeOf0
 v0:=Tryz.zeroValue0
 t3:=Tryz.underlying3
 a3:=Tryz.isAgg3
 z3:=Tryz.sizeOf3
 v3:=Tryz.zeroValue3
 t4:=Tryz.underlying4
 a4:=Tryz.isAgg4
 z4:=Tryz.sizeOf4
 v4:=Tryz.zeroValue4
 t5:=Tryz.underlying5
 a5:=Tryz.isAgg5
 z5:=Tryz.sizeOf5
 v5:=Tryz.zeroValue5
 t9:=Tryz.underlying9
 a9:=Tryz.isAgg9
 z9:=Tryz.sizeOf9
 v9:=Tryz.zeroValue9
 t21:=Tryz.underlying21
 a21:=Tryz.isAgg21
 z21:=Tryz.sizeOf21
 v21:=Tryz.zeroValue21
 t46:=Tryz.underlying155
 a46:=Tryz.isAgg155
 z46:=Tryz.sizeOf155
 v46:=Tryz.zeroValue155
 t105:=Tryz.underlying281
 a105:=Tryz.isAgg281
 z105:=Tryz.sizeOf281
 v105:=Tryz.zeroValue281
 t116:=Tryz.underlying224
 a116:=Tryz.isAgg224
 z116:=Tryz.sizeOf224
 t117:=Tryz.underlying225
 a117:=Tryz.isAgg225
 z117:=Tryz.sizeOf225
 v117:=Tryz.zeroValue225
 t119:=Tryz.underlying343
 a119:=Tryz.isAgg343
 z119:=Tryz.sizeOf343
 t124:=Tryz.underlying228
 a124:=Tryz.isAgg228
 z124:=Tryz.sizeOf228
 v124:=Tryz.zeroValue228
 t138:=Tryz.underlying345
 a138:=Tryz.isAgg345
 z138:=Tryz.sizeOf345
 v138:=Tryz.zeroValue345
 t139:=Tryz.underlying346
 a139:=Tryz.isAgg346
 z139:=Tryz.sizeOf346
 v139:=Tryz.zeroValue346
 g3:=by kernel_rfl
 g4:=by kernel_rfl }
open Go.RowKit in
theorem Tryz.strings_Trim_one (s:ByteArray)(c:UInt8)(hc:c.toNat<128)(w:World)(hs:s.size<=9223372036854775807) :
  Calls Tryz.prog 80 #[.string s,.string ⟨#[c]⟩] w fun e w'=>e=.returned (.string ⟨(Lib.trimB s.data.toList c).toArray⟩)/\(w'=w\/w'=w.drew):=Any.strings_Trim_one Tryz.lays160 s c hc w hs
def Tryz.lays213_ren:Go.Shelf.Ren:=⟨fun | 213=>290 | 265=>322 | n=>n,fun | 9=>9 | 3=>3 | n=>n,fun | n=>n⟩
open Go.RowKit in
def Tryz.lays106_ren:Go.Shelf.Ren:=⟨fun | 106=>230 | 213=>290 | 265=>322 | n=>n,fun | 9=>9 | 3=>3 | n=>n,fun | n=>n⟩
theorem Tryz.lays106:Go.Proofs.Lays.n106 Tryz.prog Tryz.lays106_ren:={
 mixed:=by kernel_rfl
 f106:=Tryz.func230.trans (congrArg some (by kernel_rfl))
 f213:=Tryz.func290.trans (congrArg some (by kernel_rfl))
 f265:=Tryz.func322.trans (congrArg some (by kernel_rfl))
 t3:=Tryz.underlying3
 a3:=Tryz.isAgg3
 z3:=Tryz.sizeOf3
 v3:=Tryz.zeroValue3
 t9:=Tryz.underlying9
 a9:=Tryz.isAgg9
 z9:=Tryz.sizeOf9
 v9:=Tryz.zeroValue9 }
open Go.RowKit in
theorem Tryz.strings_Compare (a b:ByteArray)(w:World) :
  Calls Tryz.prog 230 #[.string a,.string b] w fun e w'=>e=.returned (.int .i64 (Lib.compareBytes a.data.toList b.data.toList))/\w'=w:=Any.strings_Compare Tryz.lays106 a b w
open Go.RowKit Go.Lib in
def Tryz.lays190_ren:Go.Shelf.Ren:=⟨fun | 190=>150 | 125=>165 | 258=>228 | 128=>240 | 129=>241 | 302=>274 | 303=>275 | 304=>276 | 305=>277 | 306=>278 | 307=>279 | 308=>87 | 309=>280 | 310=>281 | 333=>316 | 329=>292 | 330=>293 | 334=>317 | 335=>318 | 336=>152 | 344=>333 | n=>n,fun | 31=>33 | 9=>9 | 3=>3 | 46=>155 | 0=>0 | 51=>302 | 53=>110 | 4=>4 | 183=>296 | 182=>295 | 131=>103 | 5=>5 | 218=>330 | 222=>334 | 228=>353 | 229=>354 | n=>n,fun | n=>n⟩
theorem Tryz.lays190:Go.Proofs.Lays.n190 Tryz.prog Tryz.lays190_ren:={
 mixed:=by kernel_rfl
 f125:=Tryz.func165.trans (congrArg some (by kernel_rfl))
 f128:=Tryz.func240.trans (congrArg some (by kernel_rfl))
 f129:=Tryz.func241.trans (congrArg some (by kernel_rfl))
 f190:=Tryz.func150.trans (congrArg some (by kernel_rfl))
 f258:=Tryz.func228.trans (congrArg some (by kernel_rfl))
 f302:=Tryz.func274.trans (congrArg some (by kernel_rfl))
 f303:=Tryz.func275.trans (congrArg some (by kernel_rfl))
 f304:=Tryz.func276.trans (congrArg some (by kernel_rfl))
 f305:=Tryz.func277.trans (congrArg some (by kernel_rfl))
 f306:=Tryz.func278.trans (congrArg some (by kernel_rfl))
 f307:=Tryz.func279.trans (congrArg some (by kernel_rfl))
 f308:=Tryz.func87.trans (congrArg some (by kernel_rfl))
 f309:=Tryz.func280.trans (congrArg some (by kernel_rfl))
 f310:=Tryz.func281.trans (congrArg some (by kernel_rfl))
 f329:=Tryz.func292.trans (congrArg some (by kernel_rfl))
 f330:=Tryz.func293.trans (congrArg some (by kernel_rfl))
 f333:=Tryz.func316.trans (congrArg some (by kernel_rfl))
 f334:=Tryz.func317.trans (congrArg some (by kernel_rfl))
 f335:=Tryz.func318.trans (congrArg some (by kernel_rfl))
 f336:=Tryz.func152.trans (congrArg some (by kernel_rfl))
 f344:=Tryz.func333.trans (congrArg some (by kernel_rfl))
 t0:=Tryz.underlying0
 a0:=Tryz.isAgg0
 z0:=Tryz.sizeOf0
 v0:=Tryz.zeroValue0
 t3:=Tryz.underlying3
 a3:=Tryz.isAgg3
 z3:=Tryz.sizeOf3
 v3:=Tryz.zeroValue3
 t4:=Tryz.underlying4
 a4:=Tryz.isAgg4
 z4:=Tryz.sizeOf4
 v4:=Tryz.zeroValue4
 t5:=Tryz.underlying5
 a5:=Tryz.isAgg5
 z5:=Tryz.sizeOf5
 v5:=Tryz.zeroValue5
 t9:=Tryz.underlying9
 a9:=Tryz.isAgg9
 z9:=Tryz.sizeOf9
 v9:=Tryz.zeroValue9
 t31:=Tryz.underlying33
 a31:=Tryz.isAgg33
 z31:=Tryz.sizeOf33
 v31:=Tryz.zeroValue33
 t46:=Tryz.underlying155
 a46:=Tryz.isAgg155
 z46:=Tryz.sizeOf155
 v46:=Tryz.zeroValue155
 t51:=Tryz.underlying302
 a51:=Tryz.isAgg302
 z51:=Tryz.sizeOf302
 v51:=Tryz.zeroValue302
 t53:=Tryz.underlying110
 a53:=Tryz.isAgg110
 z53:=Tryz.sizeOf110
 v53:=Tryz.zeroValue110
 t131:=Tryz.underlying103
 a131:=Tryz.isAgg103
 z131:=Tryz.sizeOf103
 v131:=Tryz.zeroValue103
 t182:=Tryz.underlying295
 a182:=Tryz.isAgg295
 z182:=Tryz.sizeOf295
 v182:=Tryz.zeroValue295
 t183:=Tryz.underlying296
 a183:=Tryz.isAgg296
 z183:=Tryz.sizeOf296
 v183:=Tryz.zeroValue296
 t218:=Tryz.underlying330
 a218:=Tryz.isAgg330
 z218:=Tryz.sizeOf330
 v218:=Tryz.zeroValue330
 t222:=Tryz.underlying334
 a222:=Tryz.isAgg334
 z222:=Tryz.sizeOf334
 v222:=Tryz.zeroValue334
 t228:=Tryz.underlying353
 a228:=Tryz.isAgg353
 z228:=Tryz.sizeOf353
 v228:=Tryz.zeroValue353
 t229:=Tryz.underlying354
 a229:=Tryz.isAgg354
 z229:=Tryz.sizeOf354
 v229:=Tryz.zeroValue354 }
open Go.Sort Go.RowKit in
theorem Tryz.slices_Sort_string (blk off cap:Nat)(ss:List (List UInt8))(w:World)(hH:Holds encStr w blk off ss.toArray)(hblk:blk<w.heap.size)(hsz:ss.length<4611686018427387904) :
  Calls Tryz.prog 150 #[.slice (some ⟨blk,off,none⟩) ss.length cap] w fun e w'=>
   e=.returned (.tuple #[])/\∃ n os,w'=grow (putRow encStr (Sort.ahead w n) blk off (ss.mergeSort fun x y=>decide (x<=y)).toArray) os:=Any.slices_Sort_string Tryz.lays190 blk off cap ss w hH hblk hsz
open Go.RowKit Go.Lib in
def Tryz.laysNm216_ren:Go.Shelf.Ren:=⟨fun | 16=>86 | n=>n,fun | 24=>33 | 9=>9 | 4=>4 | n=>n,fun | n=>n⟩
theorem Tryz.laysNm216:Go.Proofs.Lays2.n16 Tryz.prog Tryz.laysNm216_ren:={
 mixed:=by kernel_rfl
 f16:=Tryz.func86.trans (congrArg some (by kernel_rfl))
 t4:=Tryz.underlying4
 a4:=Tryz.isAgg4
 z4:=Tryz.sizeOf4
 v4:=Tryz.zeroValue4
 t9:=Tryz.underlying9
 a9:=Tryz.isAgg9
 z9:=Tryz.sizeOf9
 v9:=Tryz.zeroValue9
 t24:=Tryz.underlying33
 a24:=Tryz.isAgg33
 z24:=Tryz.sizeOf33
 v24:=Tryz.zeroValue33
 i9:=by kernel_rfl }
open Go.RowKit Go.Lib in
theorem Tryz.slices_Clone_string (b off n c:Nat)(zs:List ByteArray)(w:World)(hz:n<=zs.length)(hbig:n*16<=140737488355328)(hc:∀ j,j<zs.length->w.cell? ⟨b,off+j,none⟩=some (.string (zs.getD j ByteArray.empty))) :
  Calls Tryz.prog 86 #[.slice (some ⟨b,off,none⟩) n c] w fun e w'=>∃ v',e=.returned v'/\w'.ownsRow w.heap.size 9 1 v' n ((zs.take n).map (Value.string))/\v'≠.slice none 0 0/\Below w.heap.size w w':=Any.slices_Clone_string Tryz.laysNm216 b off n c zs w hz hbig hc
open Go.RowKit Go.Lib in
theorem Tryz.slices_Clone_string_nil (n c:Nat)(w:World) :
  Calls Tryz.prog 86 #[.slice none n c] w fun e w'=>e=.returned (.slice none 0 0)/\w'=w:=Any.slices_Clone_string_nil Tryz.laysNm216 n c w
open Go.RowKit Go.Lib in
theorem Tryz.slices_Clone_string_zero (a:Addr)(c:Nat)(w:World) :
  Calls Tryz.prog 86 #[.slice (some a) 0 c] w fun e w'=>∃ v',e=.returned v'/\w'.ownsRow w.heap.size 9 1 v' 0 []/\v'≠.slice none 0 0/\Below w.heap.size w w':=Any.slices_Clone_string_zero Tryz.laysNm216 a c w
def Tryz.lays194_ren:Go.Shelf.Ren:=⟨fun | 194=>151 | n=>n,fun | 31=>33 | 9=>9 | 3=>3 | 4=>4 | 0=>0 | n=>n,fun | n=>n⟩
theorem Tryz.lays194:Go.Proofs.Lays.n194 Tryz.prog Tryz.lays194_ren:={
 mixed:=by kernel_rfl
 f194:=Tryz.func151.trans (congrArg some (by kernel_rfl))
 t0:=Tryz.underlying0
 a0:=Tryz.isAgg0
 z0:=Tryz.sizeOf0
 v0:=Tryz.zeroValue0
 t3:=Tryz.underlying3
 a3:=Tryz.isAgg3
 z3:=Tryz.sizeOf3
 v3:=Tryz.zeroValue3
 t4:=Tryz.underlying4
 a4:=Tryz.isAgg4
 z4:=Tryz.sizeOf4
 v4:=Tryz.zeroValue4
 t9:=Tryz.underlying9
 a9:=Tryz.isAgg9
 z9:=Tryz.sizeOf9
 v9:=Tryz.zeroValue9
 t31:=Tryz.underlying33
 a31:=Tryz.isAgg33
 z31:=Tryz.sizeOf33
 v31:=Tryz.zeroValue33 }
open Go.RowKit Go.Lib Go.Sort in
theorem Tryz.slices_Compact_string (blk off cap:Nat)(zs:List (List UInt8))(w:World)(hH:Holds encStr w blk off zs.toArray)(hsz:zs.length<=9223372036854775807)(hcap:zs.length<=cap) :
  Calls Tryz.prog 151 #[.slice (some ⟨blk,off,none⟩) zs.length cap] w fun e w'=>e=.returned (.slice (some ⟨blk,off,none⟩) (Lib.compact zs).length cap)/\∃ q,w'=putRow encStr (Sort.ahead w q) blk off (Lib.compact zs++List.replicate (zs.length - (Lib.compact zs).length) []).toArray:=Any.slices_Compact_string Tryz.lays194 blk off cap zs w hH hsz hcap
open Go.RowKit Go.Lib Go.Sort in
theorem Tryz.slices_Compact_string_empty (a:Option Addr)(cap:Nat)(w:World) :
  Calls Tryz.prog 151 #[.slice a 0 cap] w fun e w'=>e=.returned (.slice a 0 cap)/\w'=w:=Any.slices_Compact_string_empty Tryz.lays194 a cap w
open Go.RowKit Go.Sort in
theorem Tryz.slices_Sort_string_none (p:Option Addr)(cap:Nat)(w:World) :
  Calls Tryz.prog 150 #[.slice p 0 cap] w fun e w'=>e=.returned (.tuple #[])/\w'=w:=Any.slices_Sort_string_none Tryz.lays190 p cap w
end Go.Proofs
