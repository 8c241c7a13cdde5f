/- - -/
import Derived.Test.YtoegmdnfbemppaaGreatDoorTf44
import Derived.Test.YtoegmdnfbemppaaGreatDoorTf46

namespace Go.Proofs.YtoegmdnfbemppaaGreatDoor
open Go.RowKit
theorem Zx5 {risc:Bool}{locs:List Nm}{init:List Ini}{ths:List Th}{k:Nat}{c:List Ins}{a a1:Tr}(h:Zrj risc locs init ths k c a=.ok a1) :
  ∃ r es,goL ⟨k,risc,a.evs.length,locs⟩ c 0 (rn0 risc init k)=some r/\r.full=false/\Zd2 k a.evs.length r 0 ths a.ends=some es/\a1=Zh5 a r es:=by
 unfold Zrj Z29 at h
 split at h
 ·cases h
 ·rename_i r hr
  split at h
  ·cases h
  ·rename_i hf
   split at h
   ·cases h
   ·rename_i es hes
    exact⟨r,es,hr,by simpa using hf,hes,by cases h;rfl⟩
theorem Zn0 {k f:Nat}{r:Rn}:∀ (ths:List Th) (i:Nat) (m es:List (Int×Int)),Zd2 k f r i ths m=some es->es.length=m.length
 | [],_,m,es,h=>by
  unfold Zd2 at h
  cases h;rfl
 | x :: ths,i,m,es,h=>by
  unfold Zd2 at h
  obtain⟨m',h1,h2⟩:=Option.bind_eq_some_iff.1 h
  rw [Zn0 ths _ _ _ h2]
  unfold Zwq at h1
  split at h1
  ·obtain⟨e,_,rfl⟩:=Option.map_eq_some_iff.1 h1
   simp
  ·cases h1;rfl
theorem Zrm {locs:List Nm}:∀ (ths:List Th) (i:Nat) (m:List (Int×Int)),(Znv locs i ths m).length=m.length
 | [],_,_=>rfl
 | x :: ths,i,m=>by
  unfold Znv
  rw [Zrm ths]
  unfold Zz2
  split <;> simp
theorem Zre {T:Tst}(hE:Za5 T=0)(P:Nat->Tr->Prop)
  (step:∀ (k:Nat) (c:List Ins) (a:Tr) (r:Rn) (es:List (Int×Int)),T.code[k]?=some c->P k a->Zwp (Za8 T).length k a->goL ⟨k,isR T,a.evs.length,Zas T⟩ c 0 (rn0 (isR T) T.init k)=some r->r.full=false->Zd2 k a.evs.length r 0 (Za8 T) a.ends=some es->Inv ⟨k,isR T,a.evs.length,Zas T⟩ (Zfz (isR T)) c.length r->P (k+1) (Zh5 a r es)) :
  ∀ (cs:List (List Ins)) (k:Nat) (a a':Tr),T.code.drop k=cs->Zhp (isR T) (Zas T) T.init (Za8 T) k cs a=.ok a'->P k a->Zwp (Za8 T).length k a->P (k+cs.length) a'/\Zwp (Za8 T).length (k+cs.length) a'
 | [],k,a,a',_,h,hp,ho=>by
  have e:a=a':=by
   have:(Except.ok a:Except (Int×Nat) Tr)=.ok a':=h
   cases this;rfl
  subst e
  exact⟨hp,ho⟩
 | c :: cs,k,a,a',hd,h,hp,ho=>by
  rw [Ziu] at h
  have hc:T.code[k]?=some c:=by
   have:(T.code.drop k)[0]?=some c:=by rw [hd];rfl
   rwa [List.getElem?_drop,Nat.add_zero] at this
  have hd2:T.code.drop (k+1)=cs:=by
   have:=congrArg (List.drop 1) hd
   rw [List.drop_drop] at this
   simpa [Nat.add_comm] using this
  split at h
  ·cases h
  ·rename_i a1 h1
   obtain⟨r,es,hg,hf,hes,rfl⟩:=Zx5 h1
   obtain⟨_,_,_,hcod,_⟩:=Zbe hE
   have hcl:=((Zco hcod).2.2 k c hc).1
   have hI:=Zmz (fun j x hx=>Zit hE rfl hc hx) c.length 0 _ _ (Nat.sub_le _ _) (Nat.zero_le _) (Z26 hE rfl ho.evs k) hg
   have h2:=ho.join (C:=⟨k,isR T,a.evs.length,Zas T⟩) rfl hI hcl (by rw [Zn0 _ _ _ _ hes,ho.ends])
   have:=Zre hE P step cs (k+1) _ a' hd2 h (step k c a r es hc hp ho hg hf hes hI) h2
   rwa [show k+1+cs.length=k+(c :: cs).length by simp only [List.length_cons];omega] at this
theorem Zvc {T:Tst}{a:Tr}(h:Zc8 T=.ok a):Za5 T=0/\∃ a0,Zhp (isR T) (Zas T) T.init (Za8 T) 0 T.code (tr0 (Za8 T))=.ok a0/\a={ a0 with ends:=Znv (Zas T) 0 (Za8 T) a0.ends }:=by
 by_cases hE:Za5 T=0
 ·refine⟨hE,?_⟩
  rw [Zj3 hE rfl] at h
  unfold Z6m at h
  split at h
  ·cases h
  ·rename_i a0 h0
   exact⟨a0,h0,by cases h;rfl⟩
 ·unfold Zc8 at h
  rw [if_pos hE] at h
  cases h
def Zzd (T:Tst):Int:=match Zc8 T with
 | .error (c,_)=>c
 | .ok _=>0
def plT (T:Tst):Nat:=match Zc8 T with
 | .error (_,k)=>k
 | .ok _=>0
def Zzv (T:Tst):Zgv:=match Zc8 T with
 | .error _=>⟨[],[],[],⟨[],[],[],[],[],[]⟩⟩
 | .ok a=>⟨Zas T,Zjg (Zas T) T.init,Za8 T,a⟩
theorem Zw4 (locs:List Nm)(init:List Ini):(Zjg locs init).length=locs.length:=by
 unfold Zjg
 have key:∀ (l:List Ini) (m:List Int),(l.foldl (Zpv locs) m).length=m.length:=by
  intro l
  induction l with
  | nil=>intro m;rfl
  | cons x l ih=>intro m;rw [List.foldl_cons,ih];unfold Zpv;split <;> simp
 rw [key,List.length_replicate]
structure Z0q (L:Zgv):Prop where
 l0:L.lo.length<=1000000
 l1:L.ini.length<=1000000
 l2:L.a.evs.length<=1000000
 l3:L.a.bars.length<=1000000
 l4:L.a.addr.length<=1000000
 l5:L.a.data.length<=1000000
 l6:L.a.hang.length<=1000000
 l7:L.th.length<=1000000
 l8:L.a.ends.length=L.th.length
theorem Zle (T:Tst):Z0q (Zzv T):=by
 unfold Zzv
 split
 ·refine⟨?_,?_,?_,?_,?_,?_,?_,?_,?_⟩ <;> simp
 ·rename_i a h
  obtain⟨hE,a0,h0,rfl⟩:=Zvc h
  obtain⟨_,ho⟩:=Zre hE (fun _ _=>True) (fun _ _ _ _ _ _ _ _ _ _ _ _=>trivial) T.code 0 _ a0 (by rw [List.drop_zero]) h0 trivial (Z1n T)
  obtain⟨_,hlo,_,hcod,_⟩:=Zbe hE
  have hlo2:(Zas T).length<=64:=hlo
  obtain⟨h16,_⟩:=Zco hcod
  have e1:=ho.evs
  have e2:=ho.bars
  have e3:=ho.addr
  have e4:=ho.data
  have e5:=ho.hang
  have e6:=ho.ends
  have e7:=Zet T
  refine⟨?_,?_,?_,?_,?_,?_,?_,?_,?_⟩
  ·show (Zas T).length<=_;omega
  ·show (Zjg (Zas T) T.init).length<=_;rw [Zw4];omega
  ·show a0.evs.length<=_;omega
  ·show a0.bars.length<=_;omega
  ·show a0.addr.length<=_;omega
  ·show a0.data.length<=_;omega
  ·show a0.hang.length<=_;omega
  ·show (Za8 T).length<=_;omega
  ·show (Znv (Zas T) 0 (Za8 T) a0.ends).length=_;rw [Zrm];exact e6
theorem Zc0.nils (w:World):Zc0 w ⟨[],[],[],⟨[],[],[],[],[],[]⟩⟩ ⟨⟨none,0,0⟩,⟨none,0,0⟩,⟨none,0,0⟩,⟨none,0,0⟩,⟨none,0,0⟩,⟨none,0,0⟩,⟨none,0,0⟩,⟨none,0,0⟩,⟨none,0,0⟩⟩:=
 ⟨Enc.At.nil _ _,rfl,Enc.At.nil _ _,rfl,Enc.At.nil _ _,rfl,Enc.At.nil _ _,rfl,Enc.At.nil _ _,rfl,Enc.At.nil _ _,rfl,Enc.At.nil _ _,rfl,Zpp.nil _ _,rfl,Enc.At.nil _ _,rfl⟩
def Zim (t:TypeId)(z B:Nat)(w:World)(s:Sl):Prop:=s.n=0\/∃ q cs,s.A=some ⟨q,0,none⟩/\Blk w q t cs/\s.n*z<=cs.size/\B<=q
structure Zrx (B:Nat) (w:World) (V:Zfl):Prop where
 lo:Zim 9 1 B w V.lo
 ini:Zim 3 1 B w V.ini
 ev:Zim 50 6 B w V.ev
 ad:Zim 52 2 B w V.ad
 ct:Zim 52 2 B w V.ct
 th:Zim 25 3 B w V.th
 en:Zim 54 2 B w V.en
theorem Zim.of_own {w:World}{B:Nat}{t:TypeId}{z n:Nat}{s:Sl}{cs:List Value}(h:w.ownsRow B t z s.v n cs):Zim t z B w s:=by
 have hn:=Zpw h
 rcases h.2 with ⟨_,e⟩ | ⟨g,cap,cur,e,h1,h2,h3,_,h5,_⟩
 ·exact Or.inl (by omega)
 ·obtain⟨A,m,c⟩:=s
  simp only [Sl.v,Value.slice.injEq] at e
  obtain⟨rfl,rfl,rfl⟩:=e
  exact Or.inr ⟨g,cur,rfl,h2,by rw [h5];exact Nat.mul_le_mul_right _ h3,h1⟩
theorem Zim.nil (t:TypeId)(z B:Nat)(w:World):Zim t z B w ⟨none,0,0⟩:=Or.inl rfl
theorem Zim.of_row {α:Type}{E:Enc α}{t:TypeId}{B:Nat}{w:World}{s:Sl}{l:List α}(h:Zwz E t B w s.v l):Zim t E.size B w s:=by
 obtain⟨q,e,hb,hB⟩:=h
 obtain⟨A,m,c⟩:=s
 simp only [Sl.v,Value.slice.injEq] at e
 obtain⟨rfl,rfl,rfl⟩:=e
 exact Or.inr ⟨q,_,rfl,hb,by rw [List.size_toArray,E.flat_len];exact Nat.le_refl _,hB⟩
theorem Zxp {V V':Zfl}(h:(Zgj V)=Zgj V'):V=V':=by
 obtain⟨⟨_,_,_⟩,⟨_,_,_⟩,⟨_,_,_⟩,⟨_,_,_⟩,⟨_,_,_⟩,⟨_,_,_⟩,⟨_,_,_⟩,⟨_,_,_⟩,⟨_,_,_⟩⟩:=V
 obtain⟨⟨_,_,_⟩,⟨_,_,_⟩,⟨_,_,_⟩,⟨_,_,_⟩,⟨_,_,_⟩,⟨_,_,_⟩,⟨_,_,_⟩,⟨_,_,_⟩,⟨_,_,_⟩⟩:=V'
 simp only [Zgj,Sl.v,Value.agg.injEq,Array.mk.injEq,List.cons.injEq,Value.slice.injEq,and_true] at h
 obtain⟨⟨rfl,rfl,rfl⟩,⟨rfl,rfl,rfl⟩,⟨rfl,rfl,rfl⟩,⟨rfl,rfl,rfl⟩,⟨rfl,rfl,rfl⟩,⟨rfl,rfl,rfl⟩,⟨rfl,rfl,rfl⟩,⟨rfl,rfl,rfl⟩,rfl,rfl,rfl⟩:=h
 rfl
theorem Z6l (T:Tst)(Ai Ac:Option Addr)(ci cc:Nat)(kv:Value)(w:World)(hT:Zb4 w T Ai Ac kv) :
  Calls Tryz.prog 9 #[Zbm T (.slice Ai T.init.length ci) (.slice Ac T.code.length cc) kv] w fun e w'=>∃ V:Zfl,e=.returned (.tuple #[Zgj V,.int .i64 (Zzd T),.int .i64 (plT T:Nat)])/\Zc0 w' (Zzv T) V/\Zrx w.heap.size w' V/\Below w.heap.size w w':=by
 refine (ofP T Ai Ac ci cc kv w hT).mono ?_
 rintro e w' ⟨h,hb⟩
 unfold Zzd plT Zzv
 split at h
 ·rename_i c k ht
  rw [ht]
  subst h
  exact⟨_,rfl,Zc0.nils _,⟨Zim.nil _ _ _ _,Zim.nil _ _ _ _,Zim.nil _ _ _ _,Zim.nil _ _ _ _,Zim.nil _ _ _ _,Zim.nil _ _ _ _,Zim.nil _ _ _ _⟩,hb⟩
 ·rename_i a ht
  rw [ht]
  obtain⟨O,V,rfl,ho⟩:=h
  obtain⟨V1,rfl,_⟩:=ho.sl
  obtain⟨V2,e2,ht2⟩:=ho.trc
  have e3:=Zxp (V:=V1) (V':=V2) e2
  subst e3
  exact⟨V1,rfl,ht2,⟨Zim.of_own ho.lo,Zim.of_row ho.ini,Zim.of_own ho.ev,Zim.of_own ho.ad,Zim.of_own ho.ct,Zim.of_own ho.th,Zim.of_row ho.en⟩,hb⟩
theorem Z6k (T:Tst)(Ai Ac:Option Addr)(ci cc:Nat)(kv:Value)(w:World)(hT:Zb4 w T Ai Ac kv) :
  Calls Tryz.prog 10 #[Zbm T (.slice Ai T.init.length ci) (.slice Ac T.code.length cc) kv] w fun e w'=>∃ V:Zfl,e=.returned (.tuple #[Zgj V,.int .i64 (Zzd T),.int .i64 (plT T:Nat)])/\Zc0 w' (Zzv T) V/\Below w.heap.size w w':=by
 refine (ofR T Ai Ac ci cc kv w hT).mono ?_
 rintro e w' ⟨h,hb⟩
 unfold Zzd plT Zzv
 split at h
 ·rename_i c k ht
  rw [ht]
  subst h
  exact⟨_,rfl,Zc0.nils _,hb⟩
 ·rename_i a ht
  rw [ht]
  obtain⟨V,rfl,ht2⟩:=h
  exact⟨V,rfl,ht2,hb⟩
end Go.Proofs.YtoegmdnfbemppaaGreatDoor
