/- Layer 15: what is told of a trace that Of answers: plain; both sides' answers in one form. -/
import Derived.Test.YtdfmcfppoohckaaGreatDoorTm47
import Derived.Test.YtdfmcfppoohckaaGreatDoorTm48

namespace Go.Proofs.YtdfmcfppoohckaaGreatDoor
open Go.RowKit
theorem Z0g {risc:Bool}{locs:List Nm}{init:List Ini}{ths:List Th}{k:Nat}{c:List Ins}{a a1:Tr}(h:Zrd risc locs init ths k c a=.ok a1) :
  ∃ r es,goL ⟨k,risc,a.evs.length,locs⟩ c 0 (rn0 risc init k)=some r/\r.full=false/\Zdk k a.evs.length r 0 ths a.ends=some es/\a1=Zg8 a r es:=by
 unfold Zrd Z37 at h
 split at h
 ·cases h
 ·rename_i r hr
  split at h
  ·cases h
  ·rename_i hf
   split at h
   ·cases h
   ·rename_i es hes;exact⟨r,es,hr,by simpa using hf,hes,by cases h;rfl⟩
theorem Zor {k f:Nat}{r:Rn}:∀ (ths:List Th) (i:Nat) (m es:List (Int×Int)),Zdk k f r i ths m=some es->es.length=m.length
 | [],_,m,es,h=>by
  unfold Zdk at h;cases h;rfl
 | x :: ths,i,m,es,h=>by
  unfold Zdk at h;obtain⟨m',h1,h2⟩:=Option.bind_eq_some_iff.1 h;rw [Zor ths _ _ _ h2];unfold Zu6 at h1
  split at h1
  ·obtain⟨e,_,rfl⟩:=Option.map_eq_some_iff.1 h1;simp
  ·cases h1;rfl
theorem Zmr {locs:List Nm}:∀ (ths:List Th) (i:Nat) (m:List (Int×Int)),(Zjt locs i ths m).length=m.length
 | [],_,_=>rfl
 | x :: ths,i,m=>by
  unfold Zjt;rw [Zmr ths];unfold Zru
  split <;> simp
theorem Znx {T:Tst}(hE:Za6 T=0)(P:Nat->Tr->Prop)
  (step:∀ (k:Nat) (c:List Ins) (a:Tr) (r:Rn) (es:List (Int×Int)),T.code[k]?=some c->P k a->Zxq (Za5 T).length k a->goL ⟨k,isR T,a.evs.length,Zaq T⟩ c 0 (rn0 (isR T) T.init k)=some r->r.full=false->Zdk k a.evs.length r 0 (Za5 T) a.ends=some es->Inv ⟨k,isR T,a.evs.length,Zaq T⟩ (Zfg (isR T)) c.length r->P (k+1) (Zg8 a r es)) :
  ∀ (cs:List (List Ins)) (k:Nat) (a a':Tr),T.code.drop k=cs->Zgh (isR T) (Zaq T) T.init (Za5 T) k cs a=.ok a'->P k a->Zxq (Za5 T).length k a->P (k+cs.length) a'/\Zxq (Za5 T).length (k+cs.length) a'
 | [],k,a,a',_,h,hp,ho=>by
  have e:a=a':=by
   have:(Except.ok a:Except (Int×Nat) Tr)=.ok a':=h;cases this;rfl
  subst e;exact⟨hp,ho⟩
 | c :: cs,k,a,a',hd,h,hp,ho=>by
  rw [Zja] at h;have hc:T.code[k]?=some c:=by
   have:(T.code.drop k)[0]?=some c:=by rw [hd];rfl
   rwa [List.getElem?_drop,Nat.add_zero] at this
  have hd2:T.code.drop (k+1)=cs:=by
   have:=congrArg (List.drop 1) hd;rw [List.drop_drop] at this;simpa [Nat.add_comm] using this
  split at h
  ·cases h
  ·rename_i a1 h1;obtain⟨r,es,hg,hf,hes,rfl⟩:=Z0g h1;obtain⟨_,_,_,hcod,_⟩:=Za8 hE;have hcl:=((Zb9 hcod).2.2 k c hc).1;have hI:=Zmv (fun j x hx=>Zhd hE rfl hc hx) c.length 0 _ _ (Nat.sub_le _ _) (Nat.zero_le _) (Z2s hE rfl ho.evs k) hg;have h2:=ho.join (C:=⟨k,isR T,a.evs.length,Zaq T⟩) rfl hI hcl (by rw [Zor _ _ _ _ hes,ho.ends]);have:=Znx hE P step cs (k+1) _ a' hd2 h (step k c a r es hc hp ho hg hf hes hI) h2
   rwa [show k+1+cs.length=k+(c :: cs).length by simp only [List.length_cons];omega] at this
theorem Zp2 {T:Tst}{a:Tr}(h:Zcv T=.ok a):Za6 T=0/\∃ a0,Zgh (isR T) (Zaq T) T.init (Za5 T) 0 T.code (tr0 (Za5 T))=.ok a0/\a={ a0 with ends:=Zjt (Zaq T) 0 (Za5 T) a0.ends }:=by
 by_cases hE:Za6 T=0
 ·refine⟨hE,?_⟩;rw [Zku hE rfl] at h;unfold Z7u at h
  split at h
  ·cases h
  ·rename_i a0 h0;exact⟨a0,h0,by cases h;rfl⟩
 ·unfold Zcv at h;rw [if_pos hE] at h;cases h
def Zxr (T:Tst):Int:=match Zcv T with
 | .error (c,_)=>c
 | .ok _=>0
def plT (T:Tst):Nat:=match Zcv T with
 | .error (_,k)=>k
 | .ok _=>0
def Ztl (T:Tst):Ze2:=match Zcv T with
 | .error _=>⟨[],[],[],⟨[],[],[],[],[],[]⟩⟩
 | .ok a=>⟨Zaq T,Ziw (Zaq T) T.init,Za5 T,a⟩
theorem Zrv (locs:List Nm)(init:List Ini):(Ziw locs init).length=locs.length:=by
 unfold Ziw;have key:∀ (l:List Ini) (m:List Int),(l.foldl (Zot locs) m).length=m.length:=by
  intro l
  induction l with
  | nil=>intro m;rfl
  | cons x l ih=>intro m;rw [List.foldl_cons,ih];unfold Zot;split <;> simp
 rw [key,List.length_replicate]
structure Z1p (L:Ze2):Prop where
 l0:L.lo.length<=1000000
 l1:L.ini.length<=1000000
 l2:L.a.evs.length<=1000000
 l3:L.a.bars.length<=1000000
 l4:L.a.addr.length<=1000000
 l5:L.a.data.length<=1000000
 l6:L.a.hang.length<=1000000
 l7:L.th.length<=1000000
 l8:L.a.ends.length=L.th.length
theorem Ztm (T:Tst):Z1p (Ztl T):=by
 unfold Ztl
 split
 ·refine⟨?_,?_,?_,?_,?_,?_,?_,?_,?_⟩ <;> simp
 ·rename_i a h;obtain⟨hE,a0,h0,rfl⟩:=Zp2 h;obtain⟨_,ho⟩:=Znx hE (fun _ _=>True) (fun _ _ _ _ _ _ _ _ _ _ _ _=>trivial) T.code 0 _ a0 (by rw [List.drop_zero]) h0 trivial (Z0i T);obtain⟨_,hlo,_,hcod,_⟩:=Za8 hE;have hlo2:(Zaq T).length<=64:=hlo;obtain⟨h16,_⟩:=Zb9 hcod;have e1:=ho.evs;have e2:=ho.bars;have e3:=ho.addr;have e4:=ho.data;have e5:=ho.hang;have e6:=ho.ends;have e7:=Zeb T;refine⟨?_,?_,?_,?_,?_,?_,?_,?_,?_⟩
  ·show (Zaq T).length<=_;omega
  ·show (Ziw (Zaq T) T.init).length<=_;rw [Zrv];omega
  ·show a0.evs.length<=_;omega
  ·show a0.bars.length<=_;omega
  ·show a0.addr.length<=_;omega
  ·show a0.data.length<=_;omega
  ·show a0.hang.length<=_;omega
  ·show (Za5 T).length<=_;omega
  ·show (Zjt (Zaq T) 0 (Za5 T) a0.ends).length=_;rw [Zmr];exact e6
theorem Zc1.nils (w:World):Zc1 w ⟨[],[],[],⟨[],[],[],[],[],[]⟩⟩ ⟨⟨none,0,0⟩,⟨none,0,0⟩,⟨none,0,0⟩,⟨none,0,0⟩,⟨none,0,0⟩,⟨none,0,0⟩,⟨none,0,0⟩,⟨none,0,0⟩,⟨none,0,0⟩⟩:=
 ⟨Enc.At.nil _ _,rfl,Enc.At.nil _ _,rfl,Enc.At.nil _ _,rfl,Enc.At.nil _ _,rfl,Enc.At.nil _ _,rfl,Enc.At.nil _ _,rfl,Enc.At.nil _ _,rfl,Zqa.nil _ _,rfl,Enc.At.nil _ _,rfl⟩
def Zip (t:TypeId)(z B:Nat)(w:World)(s:Sl):Prop:=s.n=0\/∃ q cs,s.A=some ⟨q,0,none⟩/\Blk w q t cs/\s.n*z<=cs.size/\B<=q
structure Z7o (B:Nat) (w:World) (V:Ze5):Prop where
 lo:Zip 9 1 B w V.lo
 ini:Zip 3 1 B w V.ini
 ev:Zip 54 6 B w V.ev
 ad:Zip 129 2 B w V.ad
 ct:Zip 129 2 B w V.ct
 th:Zip 25 3 B w V.th
 en:Zip 76 2 B w V.en
theorem Zip.of_own {w:World}{B:Nat}{t:TypeId}{z n:Nat}{s:Sl}{cs:List Value}(h:w.ownsRow B t z s.v n cs):Zip t z B w s:=by
 have hn:=Zpm h;rcases h.2 with ⟨_,e⟩ | ⟨g,cap,cur,e,h1,h2,h3,_,h5,_⟩
 ·exact Or.inl ω
 ·obtain⟨A,m,c⟩:=s;simp only [Sl.v,Value.slice.injEq] at e;obtain⟨rfl,rfl,rfl⟩:=e;exact Or.inr ⟨g,cur,rfl,h2,by rw [h5];exact Nat.mul_le_mul_right _ h3,h1⟩
theorem Zip.nil (t:TypeId)(z B:Nat)(w:World):Zip t z B w ⟨none,0,0⟩:=Or.inl rfl
theorem Zip.of_row {α:Type}{E:Enc α}{t:TypeId}{B:Nat}{w:World}{s:Sl}{l:List α}(h:Zxx E t B w s.v l):Zip t E.size B w s:=by
 obtain⟨q,e,hb,hB⟩:=h;obtain⟨A,m,c⟩:=s;simp only [Sl.v,Value.slice.injEq] at e;obtain⟨rfl,rfl,rfl⟩:=e;exact Or.inr ⟨q,_,rfl,hb,by rw [List.size_toArray,E.flat_len];exact Nat.le_refl _,hB⟩
theorem Z0j {V V':Ze5}(h:(Zd4 V)=Zd4 V'):V=V':=by
 obtain⟨⟨_,_,_⟩,⟨_,_,_⟩,⟨_,_,_⟩,⟨_,_,_⟩,⟨_,_,_⟩,⟨_,_,_⟩,⟨_,_,_⟩,⟨_,_,_⟩,⟨_,_,_⟩⟩:=V;obtain⟨⟨_,_,_⟩,⟨_,_,_⟩,⟨_,_,_⟩,⟨_,_,_⟩,⟨_,_,_⟩,⟨_,_,_⟩,⟨_,_,_⟩,⟨_,_,_⟩,⟨_,_,_⟩⟩:=V';simp only [Zd4,Sl.v,Value.agg.injEq,Array.mk.injEq,List.cons.injEq,Value.slice.injEq,and_true] at h;obtain⟨⟨rfl,rfl,rfl⟩,⟨rfl,rfl,rfl⟩,⟨rfl,rfl,rfl⟩,⟨rfl,rfl,rfl⟩,⟨rfl,rfl,rfl⟩,⟨rfl,rfl,rfl⟩,⟨rfl,rfl,rfl⟩,⟨rfl,rfl,rfl⟩,rfl,rfl,rfl⟩:=h;rfl
theorem Z79 (T:Tst)(Ai Ac:Option Addr)(ci cc:Nat)(kv:Value)(w:World)(hT:Zcb w T Ai Ac kv) :
  Calls Tryz.prog 4 #[Zbr T (.slice Ai T.init.length ci) (.slice Ac T.code.length cc) kv] w fun e w'=>∃ V:Ze5,e=.returned (.tuple #[Zd4 V,.int .i64 (Zxr T),.int .i64 (plT T:Nat)])/\Zc1 w' (Ztl T) V/\Z7o w.heap.size w' V/\Below w.heap.size w w':=by
 refine (ofP T Ai Ac ci cc kv w hT).mono ?_;rintro e w' ⟨h,hb⟩;unfold Zxr plT Ztl
 split at h
 ·rename_i c k ht;rw [ht];subst h;exact⟨_,rfl,Zc1.nils _,⟨Zip.nil _ _ _ _,Zip.nil _ _ _ _,Zip.nil _ _ _ _,Zip.nil _ _ _ _,Zip.nil _ _ _ _,Zip.nil _ _ _ _,Zip.nil _ _ _ _⟩,hb⟩
 ·rename_i a ht;rw [ht];obtain⟨O,V,rfl,ho⟩:=h;obtain⟨V1,rfl,_⟩:=ho.sl;obtain⟨V2,e2,ht2⟩:=ho.trc;have e3:=Z0j (V:=V1) (V':=V2) e2;subst e3;exact⟨V1,rfl,ht2,⟨Zip.of_own ho.lo,Zip.of_row ho.ini,Zip.of_own ho.ev,Zip.of_own ho.ad,Zip.of_own ho.ct,Zip.of_own ho.th,Zip.of_row ho.en⟩,hb⟩
theorem Z8a (T:Tst)(Ai Ac:Option Addr)(ci cc:Nat)(kv:Value)(w:World)(hT:Zcb w T Ai Ac kv) :
  Calls Tryz.prog 5 #[Zbr T (.slice Ai T.init.length ci) (.slice Ac T.code.length cc) kv] w fun e w'=>∃ V:Ze5,e=.returned (.tuple #[Zd4 V,.int .i64 (Zxr T),.int .i64 (plT T:Nat)])/\Zc1 w' (Ztl T) V/\Below w.heap.size w w':=by
 refine (ofR T Ai Ac ci cc kv w hT).mono ?_;rintro e w' ⟨h,hb⟩;unfold Zxr plT Ztl
 split at h
 ·rename_i c k ht;rw [ht];subst h;exact⟨_,rfl,Zc1.nils _,hb⟩
 ·rename_i a ht;rw [ht];obtain⟨V,rfl,ht2⟩:=h;exact⟨V,rfl,ht2,hb⟩
structure Zhe (C:Cx) (k:Nat) (evs:List Evt) (bars:List Br):Prop where
 ev:∀ e∈evs,Z6k C.locs.length e/\e.th=(C.th:Int)/\e.pl<(k:Int)
 evo:evs.Pairwise fun x y=>x.pl<y.pl
 br:∀ b∈bars,Z6j b/\b.th=(C.th:Int)/\b.pl<(k:Int)
 bro:bars.Pairwise fun x y=>x.pl<y.pl
 bre:∀ b∈bars,∀ e∈evs,e.pl≠b.pl
theorem Zhe.next {C:Cx}{k k':Nat}{evs:List Evt}{bars:List Br}(h:Zhe C k evs bars)(hk:k<=k'):Zhe C k' evs bars:=
 ⟨fun e he=>by obtain⟨h1,h2,h3⟩:=h.ev e he;exact⟨h1,h2,ω⟩,h.evo,fun e he=>by obtain⟨h1,h2,h3⟩:=h.br e he;exact⟨h1,h2,ω⟩,h.bro,h.bre⟩
theorem Zhe.addE {C:Cx}{k:Nat}{evs:List Evt}{bars:List Br}{e:Evt}(h:Zhe C k evs bars)(h1:Z6k C.locs.length e)(h2:e.th=(C.th:Int))(h3:e.pl=(k:Int)):Zhe C (k+1) (evs++[e]) bars:=by
 refine⟨fun x hx=>?_,?_,(h.next (Nat.le_succ k)).br,h.bro,fun b hb x hx=>?_⟩
 ·rcases List.mem_append.1 hx with hx | hx
  ·exact (h.next (Nat.le_succ k)).ev x hx
  ·rw [List.mem_singleton] at hx;subst hx;exact⟨h1,h2,ω⟩
 ·rw [List.pairwise_append];refine⟨h.evo,by simp,fun x hx y hy=>?_⟩;rw [List.mem_singleton] at hy;subst hy;rw [h3];exact (h.ev x hx).2.2
 ·rcases List.mem_append.1 hx with hx | hx
  ·exact h.bre b hb x hx
  ·rw [List.mem_singleton] at hx;subst hx;have:=(h.br b hb).2.2;omega
theorem Zhe.addB {C:Cx}{k:Nat}{evs:List Evt}{bars:List Br}{e:Br}(h:Zhe C k evs bars)(h1:Z6j e)(h2:e.th=(C.th:Int))(h3:e.pl=(k:Int)):Zhe C (k+1) evs (bars++[e]):=by
 refine⟨(h.next (Nat.le_succ k)).ev,h.evo,fun x hx=>?_,?_,fun b hb x hx=>?_⟩
 ·rcases List.mem_append.1 hx with hx | hx
  ·exact (h.next (Nat.le_succ k)).br x hx
  ·rw [List.mem_singleton] at hx;subst hx;exact⟨h1,h2,ω⟩
 ·rw [List.pairwise_append];refine⟨h.bro,by simp,fun x hx y hy=>?_⟩;rw [List.mem_singleton] at hy;subst hy;rw [h3];exact (h.br x hx).2.2
 ·rcases List.mem_append.1 hb with hb | hb
  ·exact h.bre b hb x hx
  ·rw [List.mem_singleton] at hb;subst hb;have:=(h.ev x hx).2.2;omega
theorem Zqw {v:Int}(h:Zc7 v):Zew v=true:=by
 unfold Zc7 at h;unfold Zew;simp;omega
theorem Zhe.evt {C:Cx}{k:Nat}{r:Rn}(h:Zhe C k r.evs r.bars)(hk:k<256)(ht:C.th<16){dr:Int}{loc:Nm}{vl rg:Int}{on:Nat}(hl:loc∈C.locs)(hv:Zc7 vl)(hr:0<=rg/\rg<=31)(hd:(dr=1/\vl=0)\/(dr=2/\rg=0)) :
  Zhe C (k+1) (Ziv C r k dr loc vl rg on).evs (Ziv C r k dr loc vl rg on).bars:=by
 by_cases hf:64<=C.ahead+r.evs.length
 ·rw [Zcr hf];exact h.next (Nat.le_succ k)
 ·rw [Zcs hf];refine h.addE ?_ rfl rfl;have:=List.idxOf_lt_length_of_mem hl;exact⟨⟨Int.natCast_nonneg _,by show (C.th:Int)<16;omega⟩,⟨Int.natCast_nonneg _,by show (k:Int)<256;omega⟩,⟨Int.natCast_nonneg _,Int.ofNat_lt.2 this⟩,Zqw hv,hr,hd⟩
theorem Zgt {C:Cx}{r:Rn}{d:Int}{x:Rg}:(Zfz C r d x).evs=r.evs/\(Zfz C r d x).bars=r.bars:=by
 unfold Zfz;split <;> exact⟨rfl,rfl⟩
theorem Zoo {r:Rn}{on i:Nat}:(Zg6 r on i).evs=r.evs/\(Zg6 r on i).bars=r.bars:=by
 unfold Zg6;split <;> exact⟨rfl,rfl⟩
theorem Zhe.read {C:Cx}{k:Nat}{r:Rn}(h:Zhe C k r.evs r.bars)(hk:k<256)(ht:C.th<16){loc:Nm}{on:Nat}{d:Int}(hl:loc∈C.locs)(hr:0<=d/\d<=31) :
  Zhe C (k+1) (Zej C r k loc on d).evs (Zej C r k loc on d).bars:=by
 have h1:=h.evt hk ht (dr:=1) (vl:=0) (rg:=d) (on:=on) hl Zhu hr (Or.inl ⟨rfl,rfl⟩);unfold Zej
 split
 ·exact h1
 ·rw [Zgt.1,Zgt.2];exact h1
theorem Zhe.write {C:Cx}{nr k:Nat}{r r':Rn}(h:Zhe C k r.evs r.bars)(_hI:Inv C nr k r)(hk:k<256)(ht:C.th<16){loc:Nm}{on:Nat}{x:Rg}(hl:loc∈C.locs)(hx:Zil C r.evs x)(hw:Zcj C r k loc on x=some r') :
  Zhe C (k+1) r'.evs r'.bars:=by
 unfold Zcj at hw;cases hxh:x.h with
 | num n=>
  rw [hxh] at hw;simp only [Option.some.injEq] at hw;subst hw;rw [Zoo.1,Zoo.2];have hn:Zc7 n:=by have:=hx.1;rw [hxh] at this;exact this
  exact h.evt hk ht hl hn ⟨Int.le_refl _,ω⟩ (Or.inr ⟨rfl,rfl⟩)
 | adr s=>rw [hxh] at hw;cases hw
 | rd i=>rw [hxh] at hw;cases hw
 | non=>rw [hxh] at hw;cases hw
theorem Zuh {r:Rn}{c:List Ins}{k:Nat}{x:Ins}{p:Rn×Nat}(h:brL r c k x=some p):p.1.evs=r.evs/\p.1.bars=r.bars:=by
 unfold brL at h;simp only [] at h
 split at h
 ·split at h
  ·cases h
  ·simp only [Option.some.injEq] at h;subst h;exact⟨rfl,rfl⟩
 ·simp only [Option.some.injEq] at h;subst h;exact⟨rfl,rfl⟩
theorem Zhe.step {C:Cx}{nr k:Nat}{r:Rn}{p:Rn×Nat}{c:List Ins}{x:Ins}(h:Zhe C k r.evs r.bars)(hI:Inv C nr k r)(hk:k<256)(ht:C.th<16)(hn:nr<=32)(hx:Zoe C nr c k x)(hs:Zbh C r c k x=some p):Zhe C p.2 p.1.evs p.1.bars:=by
 have hgt:=Zgx hs;have hd:0<=x.d/\x.d<=31:=⟨hx.d.1,by have:=hx.d.2;omega⟩;have hbar:∀ fe:Int,1<=fe/\fe<=11->Zhe C (k+1) (Zx0 C r k fe).evs (Zx0 C r k fe).bars:=fun fe hf=>
  h.addB (e:=⟨C.th,k,fe⟩) ⟨⟨Int.natCast_nonneg _,by show (C.th:Int)<16;omega⟩,⟨Int.natCast_nonneg _,by show (k:Int)<256;omega⟩,hf⟩ rfl rfl
 unfold Zbh at hs
 split at hs
 ·rename_i h1;obtain⟨a,ha,rfl⟩:=Option.map_eq_some_iff.1 hs;exact h.write hI hk ht (x:=⟨.num x.imm,0⟩) (hx.loc ω) ⟨hx.imm,Rds.zero _⟩ ha
 split at hs
 ·rename_i h1;obtain⟨a,ha,rfl⟩:=Option.map_eq_some_iff.1 hs;exact h.write hI hk ht (hx.loc ω) (hI.rg hx.a.1 hx.a.2).1 ha
 split at hs
 ·rename_i h1;simp only [Option.some.injEq] at hs;subst hs;exact h.read hk ht (hx.loc ω) hd
 split at hs
 ·simp only [Option.some.injEq] at hs;subst hs;show Zhe C (k+1) (Zfz C r x.d _).evs (Zfz C r x.d _).bars;rw [Zgt.1,Zgt.2];exact h.next (Nat.le_succ k)
 split at hs
 ·simp only [Option.some.injEq] at hs;subst hs;exact hbar 1 ω
 split at hs
 ·rename_i h13;simp only [Option.some.injEq] at hs;subst hs;have:=hx.fen h13;exact hbar x.fence ω
 split at hs
 ·obtain⟨a,ha,rfl⟩:=Option.map_eq_some_iff.1 hs;have hra:=(hI.rg hx.a.1 hx.a.2).1;unfold Zi2 at ha;cases e:(rgA r x.a).h with
  | adr s=>
   rw [e] at ha;have hsl:s∈C.locs:=by have:=hra.1;rw [e] at this;exact this
   simp only [] at ha
   split at ha
   ·exact h.write hI hk ht hsl (hI.rg hx.b.1 hx.b.2).1 ha
   ·simp only [Option.some.injEq] at ha;subst ha;exact h.read hk ht hsl hd
  | num n=>rw [e] at ha;cases ha
  | rd i=>rw [e] at ha;cases ha
  | non=>rw [e] at ha;cases ha
 split at hs
 ·simp only [Option.some.injEq] at hs;subst hs;show Zhe C (k+1) (Zeq C r x).evs (Zeq C r x).bars;unfold Zeq;simp only [];rw [Zgt.1,Zgt.2];exact h.next (Nat.le_succ k)
 split at hs
 ·rw [(Zuh hs).1,(Zuh hs).2];exact h.next (Nat.le_of_lt hgt)
 ·simp only [Option.some.injEq] at hs;subst hs;exact h.next (Nat.le_succ k)
theorem Z2r {C:Cx}{nr:Nat}{c:List Ins}(hval:∀ k x,c[k]?=some x->Zoe C nr c k x)(hc:c.length<=256)(ht:C.th<16)(hnr:nr<=32):∀ (n k:Nat) (r r':Rn),c.length - k<=n->k<=c.length->Inv C nr k r->Zhe C k r.evs r.bars->goL C c k r=some r'->Zhe C c.length r'.evs r'.bars:=by
 intro n
 induction n with
 | zero=>
  intro k r r' hn hk hI hS hg;rw [Zg7 ω] at hg;exact m_146
 | succ n ih=>
  intro k r r' hn hk hI hS hg;by_cases hkl:k<c.length
  ·have hx:=List.getElem?_eq_getElem hkl;cases hf:r.full with
   | true=>
    rw [Zhr hf] at hg;exact m_146
   | false=>
    cases hs:Zbh C r c k c[k] with
    | none=>rw [Zhs hx hf hs] at hg;cases hg
    | some p=>
     rw [Zht hx hf hs] at hg;have hgt:=Zgx hs;exact ih p.2 p.1 r' ω (Zsr hx (hval k _ hx) hs) (hI.step (hval k _ hx) hs) (hS.step hI ω ht hnr (hval k _ hx) hs) hg
  ·rw [Zg7 ω] at hg;exact m_146
def EnP (evs:List Evt)(x:Th)(e:Int×Int):Prop:=(e.1=1/\Zew e.2=true)\/(e.1=2/\∃ (i:Nat) (y:Evt),e.2=(i:Int)/\evs[i]?=some y/\y.dr=1/\y.th=x.1)
theorem Zqq {α:Type}{l:List α}(m:List α){i:Nat}{x:α}(h:l[i]?=some x):(l++m)[i]?=some x:=by
 rw [List.getElem?_append_left (List.getElem?_eq_some_iff.1 h).1];exact h
theorem Zqr {α:Type}(l:List α){m:List α}{i:Nat}{x:α}(h:m[i]?=some x):(l++m)[l.length+i]?=some x:=by
 rw [List.getElem?_append_right (Nat.le_add_right _ _),Nat.add_sub_cancel_left];exact h
theorem Zhi.app {evs:List Evt}{wr:Bool}{p:Int×Int}(h:Zhi evs wr p)(m:List Evt):Zhi (evs++m) wr p:=by
 obtain⟨i,j,x,y,e,hij,hx,hy,h1,h2,h3⟩:=h.at_;exact⟨⟨i,j,x,y,e,hij,Zqq m hx,Zqq m hy,h1,h2,h3⟩⟩
theorem Zhi.lt {evs:List Evt}{wr:Bool}{p:Int×Int}(h:Zhi evs wr p):p.1<(evs.length:Int):=by
 obtain⟨i,j,x,y,rfl,hij,hx,hy,_⟩:=h.at_;have:=(List.getElem?_eq_some_iff.1 hx).1;exact Int.ofNat_lt.2 this
theorem EnP.app {evs:List Evt}{x:Th}{e:Int×Int}(h:EnP evs x e)(m:List Evt):EnP (evs++m) x e:=by
 rcases h with h | ⟨h1,i,y,h2,h3,h4⟩
 ·exact Or.inl h
 ·exact Or.inr ⟨h1,i,y,h2,Zqq m h3,h4⟩
theorem Zq3 {evs:List Evt}{l:List (Int×Int)}{wr:Bool}{t:Int}(a:List Evt)(h:Ze3 evs evs.length l)(ht:∀ e∈evs,e.th=t)(hw:wr=true->∀ p∈l,∀ j:Nat,p.2=(j:Int)->Z36 evs j):∀ p∈Zf0 (l.map (shP a.length)),Zhi (a++evs) wr p:=by
 intro p hp;obtain⟨hp,_⟩:=Zf7.1 hp;obtain⟨q,hq,rfl⟩:=List.mem_map.1 hp;obtain⟨i,j,e,hij,⟨x,hx,hxd⟩,hj⟩:=h.at_ q hq;have hy:=List.getElem?_eq_getElem hj;refine⟨⟨a.length+i,a.length+j,x,evs[j],by subst e;simp [shP],ω,Zqr a hx,Zqr a hy,hxd,?_,fun hwt=>?_⟩⟩
 ·rw [ht x (List.mem_of_getElem? hx),ht _ (List.getElem_mem hj)]
 ·obtain⟨z,hz,hzd⟩:=hw hwt q hq j (by rw [e]);rw [hy] at hz;cases hz;exact hzd
theorem Zq4 {evs:List Evt}{n:Nat}{l al:List (Int×Int)}{f:Nat}(h:Ze3 evs n l)(ha:al.Pairwise Zjo)(hlt:∀ p∈al,p.1<(f:Int)):(al++Zf0 (l.map (shP f))).Pairwise Zjo:=by
 rw [List.pairwise_append];refine⟨ha,Zmi ?_ 64,fun p hp q hq=>?_⟩
 ·rw [List.pairwise_map];refine h.ord.imp fun {p q} hpq=>?_
  unfold Z1c at hpq;unfold Z1c shP;simp only [];omega
 ·obtain⟨hq,_⟩:=Zf7.1 hq;obtain⟨z,hz,rfl⟩:=List.mem_map.1 hq;obtain⟨i,j,rfl,_⟩:=h.at_ z hz;have:=hlt p hp;refine Or.inl ?_;unfold shP;simp only [];omega
theorem Zoq {k f:Nat}{r:Rn}:∀ (ths:List Th) (i:Nat) (m es:List (Int×Int)),Zdk k f r i ths m=some es->i+ths.length<=m.length->(∀ j,j<i->es[j]?=m[j]?)/\∀ (j:Nat) (x:Th),ths[j]?=some x->(x.1=(k:Int)->∃ e,Zp6 f (rgA r x.2.1).h=some e/\es[i+j]?=some e)/\(x.1≠(k:Int)->es[i+j]?=m[i+j]?)
 | [],i,m,es,h,_=>by
  unfold Zdk at h;cases h
  exact⟨fun _ _=>rfl,fun j x hx=>by simp at hx⟩
 | x :: ths,i,m,es,h,hl=>by
  unfold Zdk at h;obtain⟨m',h1,h2⟩:=Option.bind_eq_some_iff.1 h;simp only [List.length_cons] at hl;unfold Zu6 at h1;have hm:m'.length=m.length/\(∀ j,j≠i->m'[j]?=m[j]?)/\(x.1=(k:Int)->∃ e,Zp6 f (rgA r x.2.1).h=some e/\m'[i]?=some e)/\(x.1≠(k:Int)->m'[i]?=m[i]?):=by
   split at h1
   ·rename_i hk;obtain⟨e,he,rfl⟩:=Option.map_eq_some_iff.1 h1;refine⟨by simp,fun j hj=>?_,fun _=>⟨e,he,?_⟩,fun hn=>absurd hk hn⟩
    ·rw [List.getElem?_set_ne (Ne.symm hj)]
    ·rw [List.getElem?_set_self ω]
   ·rename_i hk;cases h1
    exact⟨rfl,fun _ _=>rfl,fun hn=>absurd hn hk,fun _=>rfl⟩
  obtain⟨hml,hmo,hm1,hm2⟩:=hm;obtain⟨i1,i2⟩:=Zoq ths (i+1) m' es h2 ω;refine⟨fun j hj=>?_,fun j y hy=>?_⟩
  ·rw [i1 j ω,hmo j ω]
  ·cases j with
   | zero=>
    have e:x=y:=by simpa using hy
    subst e;rw [Nat.add_zero,i1 i (Nat.lt_succ_self i)];exact⟨hm1,hm2⟩
   | succ j=>
    have hy2:ths[j]?=some y:=by simpa using hy
    obtain⟨c1,c2⟩:=i2 j y hy2;have ee:i+(j+1)=i+1+j:=ω;rw [ee];exact⟨c1,fun hn=>by rw [c2 hn,hmo _ ω]⟩
structure TrI (T:Tst) (k:Nat) (a:Tr):Prop where
 ev:∀ e∈a.evs,Z6k (Zaq T).length e/\e.th<(k:Int)
 evo:a.evs.Pairwise fun x y=>Zri x.th x.pl y.th y.pl
 br:∀ e∈a.bars,Z6j e/\e.th<(k:Int)
 bro:a.bars.Pairwise fun x y=>Zri x.th x.pl y.th y.pl
 bre:∀ b∈a.bars,∀ e∈a.evs,e.th=b.th->e.pl≠b.pl
 ad:∀ p∈a.addr,Zhi a.evs false p
 ado:a.addr.Pairwise Zjo
 da:∀ p∈a.data,Zhi a.evs true p
 dao:a.data.Pairwise Zjo
 ct:∀ p∈a.hang,Zhi a.evs false p
 cto:a.hang.Pairwise Zjo
 en:∀ (i:Nat) x e,(Za5 T)[i]?=some x->a.ends[i]?=some e->0<=x.1->x.1<(k:Int)->EnP a.evs x e
theorem Z8f (T:Tst):TrI T 0 (tr0 (Za5 T)):=by
 refine⟨?_,List.Pairwise.nil,?_,List.Pairwise.nil,?_,?_,List.Pairwise.nil,?_,List.Pairwise.nil,?_,List.Pairwise.nil,fun _ _ _ _ _ h0 h1=>absurd h1 ω⟩
 all_goals
  intro _ h;cases h
theorem TrI.join {T:Tst}{k:Nat}{a:Tr}{r:Rn}{es:List (Int×Int)}{c:List Ins}(hE:Za6 T=0)(h:TrI T k a)(hl:a.ends.length=(Za5 T).length)(hI:Inv ⟨k,isR T,a.evs.length,Zaq T⟩ (Zfg (isR T)) c.length r)(hS:Zhe ⟨k,isR T,a.evs.length,Zaq T⟩ c.length r.evs r.bars)(hes:Zdk k a.evs.length r 0 (Za5 T) a.ends=some es):TrI T (k+1) (Zg8 a r es):=by
 have hth:∀ e∈r.evs,e.th=(k:Int):=fun e he=>(hS.ev e he).2.1
 refine⟨fun e he=>?_,?_,fun e he=>?_,?_,fun b hb e he=>?_,fun p hp=>?_,Zq4 hI.addr h.ado fun p hp=>(h.ad p hp).lt,fun p hp=>?_,Zq4 hI.data h.dao fun p hp=>(h.da p hp).lt,fun p hp=>?_,Zq4 hI.hang h.cto fun p hp=>(h.ct p hp).lt,fun i x e hx he h0 hlt=>?_⟩
 ·rcases List.mem_append.1 he with he | he
  ·obtain⟨h1,h2⟩:=h.ev e he;exact⟨h1,ω⟩
  ·obtain⟨h1,h2,_⟩:=hS.ev e he;exact⟨h1,by have:e.th=(k:Int):=h2;omega⟩
 ·show (a.evs++r.evs).Pairwise _;rw [List.pairwise_append];refine⟨h.evo,?_,fun x hx y hy=>?_⟩
  ·refine List.Pairwise.imp_of_mem (fun {x y} hx hy hxy=>?_) hS.evo;exact Or.inr ⟨by rw [hth x hx,hth y hy],hxy⟩
  ·exact Or.inl (by rw [hth y hy];exact (h.ev x hx).2)
 ·rcases List.mem_append.1 he with he | he
  ·obtain⟨h1,h2⟩:=h.br e he;exact⟨h1,ω⟩
  ·obtain⟨h1,h2,_⟩:=hS.br e he;exact⟨h1,by have:e.th=(k:Int):=h2;omega⟩
 ·show (a.bars++r.bars).Pairwise _;rw [List.pairwise_append];refine⟨h.bro,?_,fun x hx y hy=>?_⟩
  ·refine List.Pairwise.imp_of_mem (fun {x y} hx hy hxy=>?_) hS.bro;exact Or.inr ⟨by rw [(hS.br x hx).2.1,(hS.br y hy).2.1],hxy⟩
  ·exact Or.inl (by rw [(hS.br y hy).2.1];exact (h.br x hx).2)
 ·intro hbe;rcases List.mem_append.1 hb with hb | hb <;> rcases List.mem_append.1 he with he | he
  ·exact h.bre b hb e he hbe
  ·have h1:=(h.br b hb).2;rw [<- hbe,hth e he] at h1;omega
  ·have h1:=(h.ev e he).2;have h2:b.th=(k:Int):=(hS.br b hb).2.1;omega
  ·exact hS.bre b hb e he
 ·rcases List.mem_append.1 hp with hp | hp
  ·exact (h.ad p hp).app _
  ·exact Zq3 a.evs hI.addr hth (fun hw=>by cases hw) p hp
 ·rcases List.mem_append.1 hp with hp | hp
  ·exact (h.da p hp).app _
  ·exact Zq3 a.evs hI.data hth (fun _=>hI.dwr) p hp
 ·rcases List.mem_append.1 hp with hp | hp
  ·exact (h.ct p hp).app _
  ·exact Zq3 a.evs hI.hang hth (fun hw=>by cases hw) p hp
 ·obtain⟨c1,c2⟩:=(Zoq (Za5 T) 0 a.ends es hes ω).2 i x hx;rw [Nat.zero_add] at c1 c2;have he2:es[i]?=some e:=he;show EnP (a.evs++r.evs) x e;by_cases hk:x.1=(k:Int)
  ·obtain⟨e',h1,h2⟩:=c1 hk;rw [he2] at h2;cases h2
   have hm:=List.mem_of_getElem? hx;obtain⟨_,g1,g2⟩:=Zrc hE hm ω;have hr:=(hI.rg g1 g2).1.1;unfold Zp6 at h1
   split at h1
   ·rename_i n hn;cases h1
    rw [hn] at hr;exact Or.inl ⟨rfl,Zqw hr⟩
   ·rename_i j hj;cases h1
    rw [hj] at hr;obtain⟨y,hy,hyd⟩:=hr;exact Or.inr ⟨rfl,a.evs.length+j,y,rfl,Zqr a.evs hy,hyd,by rw [hth y (List.mem_of_getElem? hy),hk]⟩
   ·cases h1
  ·rw [c2 hk] at he2;exact (h.en i x e hx he2 h0 ω).app _
end Go.Proofs.YtdfmcfppoohckaaGreatDoor
