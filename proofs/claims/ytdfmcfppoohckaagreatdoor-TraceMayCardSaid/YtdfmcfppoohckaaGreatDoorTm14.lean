/- Layer 10: whether a RISC-V instruction may be: plain; two instructions compared. -/
import Derived.Test.YtdfmcfppoohckaaGreatDoorTm12
import Derived.Test.YtdfmcfppoohckaaGreatDoorTm13

namespace Go.Proofs.YtdfmcfppoohckaaGreatDoor
open Go.RowKit
def Zca (op d a b imm:Int)(loc label:ByteArray)(fence:Int):Bool:=
 (loc.toList.isEmpty)&&
  (if op=6 then label.toList.isEmpty&&Zem 32 d&&Zem 32 a&&(b == 0)&&(imm == 0)&&(fence == 0)
   else if op=7 then label.toList.isEmpty&&(d == 0)&&Zem 32 a&&Zem 32 b&&(imm == 0)&&(fence == 0)
   else if op=8 then label.toList.isEmpty&&Zem 32 d&&Zem 32 a&&(b == 0)&&(decide (-2048<=imm)&&decide (imm<=2047))&&(fence == 0)
   else if op=9\/op=10 then label.toList.isEmpty&&Zem 32 d&&Zem 32 a&&Zem 32 b&&(imm == 0)&&(fence == 0)
   else if op=11 then Zbb label.data.toList&&(d == 0)&&Zem 32 a&&Zem 32 b&&(imm == 0)&&(fence == 0)
   else if op=12 then Zbb label.data.toList&&(d == 0)&&(a == 0)&&(b == 0)&&(imm == 0)&&(fence == 0)
   else if op=13 then label.toList.isEmpty&&(d == 0)&&(a == 0)&&(b == 0)&&(imm == 0)&&(decide (2<=fence)&&decide (fence<=11))
   else false)
def Zfy (d a b imm:Int)(loc label:ByteArray)(fence:Int)(d' a' b' imm':Int)(loc' label':ByteArray)(fence':Int):Bool:=
 d == d'&&(a == a'&&(b == b'&&(imm == imm'&&(loc.toList == loc'.toList&&(label.toList == label'.toList&&fence == fence')))))
theorem Zpt:Tryz.prog.underlying 118=some (.struct (Tryz.prog.fieldsOf 118)):=by kernel_rfl
theorem Zcd:Tryz.prog.eqGuardType Tryz.prog.depth 118=false:=by kernel_rfl
theorem Zfs (op d a b imm:Int)(loc label:ByteArray)(fence:Int)(d' a' b' imm':Int)(loc' label':ByteArray)(fence':Int)(w:World) :
  (binOp .neq 118 (Zch op d a b imm loc label fence) (Zch op d' a' b' imm' loc' label' fence')).run Tryz.prog w=.ok (.bool (!Zfy d a b imm loc label fence d' a' b' imm' loc' label' fence')) w:=by
 have hp:Tryz.prog.stoodInHeld 118=false:=by kernel_rfl
 have u3:=Tryz.underlying3;have a3:=Tryz.isAgg3;have z3:=Tryz.sizeOf3;have u9:=Tryz.underlying9;have a9:=Tryz.isAgg9;have z9:=Tryz.sizeOf9;rw [run_neq_struct,show (10000:Nat)=9999+1 from rfl,run_equalIn_agg w 9999 118 _ _ Zpt hp];simp only [Program.fieldsOf,Tryz.underlying118];go_simp;unfold Zfy;by_cases h1:d=d'
 rotate_left
 ·simp [h1]
 by_cases h2:a=a'
 rotate_left
 ·simp [h1,h2]
 by_cases h3:b=b'
 rotate_left
 ·simp [h1,h2,h3]
 by_cases h4:imm=imm'
 rotate_left
 ·simp [h1,h2,h3,h4]
 by_cases h5:loc.toList=loc'.toList
 rotate_left
 ·simp [h1,h2,h3,h4,h5]
 by_cases h6:label.toList=label'.toList
 rotate_left
 ·simp [h1,h2,h3,h4,h5,h6]
 by_cases h7:fence=fence' <;> simp [h1,h2,h3,h4,h5,h6,h7]
theorem Zf6 (a b:Int):(a == b)=(b == a):=by rw [Bool.eq_iff_iff];simp;exact eq_comm
theorem Zj5 (a b:List UInt8):(a == b)=(b == a):=by rw [Bool.eq_iff_iff];simp;exact eq_comm
theorem Zdv (d a b imm:Int)(loc label:ByteArray)(fence:Int)(d' a' b' imm':Int)(loc' label':ByteArray)(fence':Int):Zfy d a b imm loc label fence d' a' b' imm' loc' label' fence'=Zfy d' a' b' imm' loc' label' fence' d a b imm loc label fence:=by
 unfold Zfy;rw [Zf6 d,Zf6 a,Zf6 b,Zf6 imm,Zj5 loc.toList,Zj5 label.toList,Zf6 fence]
theorem Zbs (n:Int):Zem 32 n=true\/Zem 32 n=false:=by cases Zem 32 n <;> simp
def Zb7 (ok q:Bool)(d a b:Int):Bool:=ok&&(q&&(Zem 32 d&&(Zem 32 a&&Zem 32 b)))
section
variable (d a b imm:Int) (loc label:ByteArray) (fence:Int)
theorem Zuo:Zb7 true (Zfy d a 0 0 ⟨#[]⟩ ⟨#[]⟩ 0 d a b imm loc label fence) d a b=Zca 6 d a b imm loc label fence:=by
 rw [Bool.eq_iff_iff];simp [Zb7,Zfy,Zca,Zem];by_cases p:loc.toList=[] <;> by_cases r:label.toList=[] <;> by_cases n:Zbb label.data.toList=true <;> simp [p,r] <;> omega
theorem Zup:Zb7 true (Zfy 0 a b 0 ⟨#[]⟩ ⟨#[]⟩ 0 d a b imm loc label fence) d a b=Zca 7 d a b imm loc label fence:=by
 rw [Bool.eq_iff_iff];simp [Zb7,Zfy,Zca,Zem];by_cases p:loc.toList=[] <;> by_cases r:label.toList=[] <;> by_cases n:Zbb label.data.toList=true <;> simp [p,r] <;> omega
theorem Zuq:Zb7 (decide (-2048<=imm)&&decide (imm<=2047)) (Zfy d a 0 imm ⟨#[]⟩ ⟨#[]⟩ 0 d a b imm loc label fence) d a b=Zca 8 d a b imm loc label fence:=by
 rw [Bool.eq_iff_iff];simp [Zb7,Zfy,Zca,Zem];by_cases p:loc.toList=[] <;> by_cases r:label.toList=[] <;> by_cases n:Zbb label.data.toList=true <;> simp [p,r] <;> omega
theorem Zur:Zb7 true (Zfy d a b 0 ⟨#[]⟩ ⟨#[]⟩ 0 d a b imm loc label fence) d a b=Zca 9 d a b imm loc label fence:=by
 rw [Bool.eq_iff_iff];simp [Zb7,Zfy,Zca,Zem];by_cases p:loc.toList=[] <;> by_cases r:label.toList=[] <;> by_cases n:Zbb label.data.toList=true <;> simp [p,r] <;> omega
theorem Zrm:Zb7 true (Zfy d a b 0 ⟨#[]⟩ ⟨#[]⟩ 0 d a b imm loc label fence) d a b=Zca 10 d a b imm loc label fence:=by
 rw [Bool.eq_iff_iff];simp [Zb7,Zfy,Zca,Zem];by_cases p:loc.toList=[] <;> by_cases r:label.toList=[] <;> by_cases n:Zbb label.data.toList=true <;> simp [p,r] <;> omega
theorem Zrn:Zb7 (Zbb label.data.toList) (Zfy 0 a b 0 ⟨#[]⟩ label 0 d a b imm loc label fence) d a b=Zca 11 d a b imm loc label fence:=by
 rw [Bool.eq_iff_iff];simp [Zb7,Zfy,Zca,Zem];by_cases p:loc.toList=[] <;> by_cases r:label.toList=[] <;> by_cases n:Zbb label.data.toList=true <;> simp [p,n] <;> omega
theorem Zro:Zb7 (Zbb label.data.toList) (Zfy 0 0 0 0 ⟨#[]⟩ label 0 d a b imm loc label fence) d a b=Zca 12 d a b imm loc label fence:=by
 rw [Bool.eq_iff_iff];simp [Zb7,Zfy,Zca,Zem];by_cases p:loc.toList=[] <;> by_cases r:label.toList=[] <;> by_cases n:Zbb label.data.toList=true <;> simp [p,n] <;> omega
theorem Zrp:Zb7 (decide (2<=fence)&&decide (fence<=11)) (Zfy 0 0 0 0 ⟨#[]⟩ ⟨#[]⟩ fence d a b imm loc label fence) d a b=Zca 13 d a b imm loc label fence:=by
 rw [Bool.eq_iff_iff];simp [Zb7,Zfy,Zca,Zem];by_cases p:loc.toList=[] <;> by_cases r:label.toList=[] <;> by_cases n:Zbb label.data.toList=true <;> simp [p,r] <;> omega
end
end Go.Proofs.YtdfmcfppoohckaaGreatDoor
namespace Go.Proofs.YtdfmcfppoohckaaGreatDoor
def fst? (p:Nat->Bool)(n:Nat):Option Nat:=(List.range n).find? p
theorem Zmt {p:Nat->Bool}{n k:Nat}(hk:k<n)(h:p k=true)(hn:∀ j,j<k->p j=false):fst? p n=some k:=by
 unfold fst?;rw [List.find?_eq_some_iff_append];refine⟨h,List.range k,(List.range' (k+1) (n - k - 1)),?_,?_⟩
 ·have h1:List.range n=List.range' 0 k++List.range' k (n - k):=by
   have:=@List.range'_append_1 0 k (n - k);rw [Nat.zero_add] at this;rw [List.range_eq_range',this];congr 1;omega
  have h2:List.range' k (n - k)=k :: List.range' (k+1) (n - k - 1):=by
   rw [show n - k=(n - k - 1)+1 by omega,List.range'_succ];simp
  rw [h1,h2,<- List.range_eq_range']
 ·intro j hj;simp at hj;simp [hn j hj]
theorem Zju {p:Nat->Bool}{n:Nat}(hn:∀ j,j<n->p j=false):fst? p n=none:=by
 unfold fst?;rw [List.find?_eq_none];intro x hx;simp at hx;simp [hn x hx]
theorem Zeu {p:Nat->Bool}{n:Nat}(h:fst? p n=none):∀ j,j<n->p j=false:=by
 unfold fst? at h;rw [List.find?_eq_none] at h;intro j hj;have:=h j (by simp [hj]);simpa using this
def Zcp (s:List UInt8)(x:Ins):Bool:=x.op == 12&&x.label == s
def Zkw (x:Ins):Bool:=Zca x.op x.d x.a x.b x.imm ⟨x.loc.toArray⟩ ⟨x.label.toArray⟩ x.fence
def Zun (c:List Ins)(k:Nat):Bool:=match c[k]? with
 | some x=>!Zkw x
 | none=>false
def Zki (c:List Ins)(k:Nat):Bool:=match c[k]? with
 | some x=>(x.op == 12&&(c.take k).any (Zcp x.label))||(x.op == 11&&!(c.drop (k+1)).any (Zcp x.label))
 | none=>false
def Zqu (c:List Ins)(k:Nat):Int:=match c[k]? with
 | some x=>if x.op == 11 then ((k+1+(c.drop (k+1)).findIdx (Zcp x.label):Nat):Int) else -1
 | none=>-1
def Zfm (c:List Ins):Int×Nat:=
 if 256<c.length then (2,0)
 else match fst? (Zun c) c.length with
  | some k=>(91,k)
  | none=>match fst? (Zki c) c.length with
   | some k=>(93,k)
   | none=>(0,0)
def Zm5 (c:List Ins):List Int:=if (Zfm c).1=0 then (List.range c.length).map (Zqu c) else []
theorem Zr6 {c:List Ins}{k:Nat}(h:c.length<=256)(hk:k<c.length)(h1:Zun c k=true)(hn:∀ j,j<k->Zun c j=false):Zfm c=(91,k):=by
 unfold Zfm;rw [if_neg ω,Zmt hk h1 hn]
theorem Zgs {c:List Ins}{k:Nat}(h:c.length<=256)(hk:k<c.length)(hc:∀ j,j<c.length->Zun c j=false)(h1:Zki c k=true)(hn:∀ j,j<k->Zki c j=false):Zfm c=(93,k):=by
 unfold Zfm;rw [if_neg ω,Zju hc];simp only [];rw [Zmt hk h1 hn]
theorem Zvv {c:List Ins}(h:c.length<=256)(hc:∀ j,j<c.length->Zun c j=false)(hl:∀ j,j<c.length->Zki c j=false):Zfm c=(0,0):=by
 unfold Zfm;rw [if_neg ω,Zju hc];simp only [];rw [Zju hl]
theorem Zmk {c:List Ins}{k:Nat}{x:Ins}(h:c[k]?=some x):Zun c k=!Zkw x:=by simp [Zun,h]
theorem Zdm {c:List Ins}{k:Nat}{x:Ins}(h:c[k]?=some x):Zki c k=((x.op == 12&&(c.take k).any (Zcp x.label))||(x.op == 11&&!(c.drop (k+1)).any (Zcp x.label))):=by simp [Zki,h]
end Go.Proofs.YtdfmcfppoohckaaGreatDoor
namespace Go.Proofs.YtdfmcfppoohckaaGreatDoor
open Go.RowKit
inductive Zd8 where
 | num (n:Int)
 | adr (s:Nm)
 | rd (i:Nat)
 | non
structure Rg where
 h:Zd8
 on:Nat
structure Evt where
 th:Int
 pl:Int
 dr:Int
 lc:Int
 vl:Int
 rg:Int
structure Br where
 th:Int
 pl:Int
 fe:Int
structure Rn where
 regs:List Rg
 ctrl:Nat
 evs:List Evt
 bars:List Br
 addr:List (Int×Int)
 data:List (Int×Int)
 hang:List (Int×Int)
 full:Bool
structure Cx where
 th:Nat
 risc:Bool
 ahead:Nat
 locs:List Nm
def rgA (r:Rn)(a:Int):Rg:=(r.regs[a.toNat]?).getD ⟨.non,0⟩
def Zc7 (n:Int):Prop:=-2147483648<=n/\n<=2147483647
def opN (op x y:Int):Int:=if op=8 then bits .or .i64 x y else if op=9 then bits .xor .i64 x y else IntKind.i32.wrap (x+y)
def Zcw (op:Int):Zd8->Zd8->Zd8
 | .num x,.num y=>.num (opN op x y)
 | .num x,b=>if x=0 then b else .non
 | a,.num y=>if y=0 then a else .non
 | _,_=>.non
def Zby:Zd8->Bool
 | .num _=>false
 | .adr _=>false
 | _=>true
def Zan:Zd8->Zd8->Bool
 | .num x,.num y=>decide (x≠y)
 | .adr x,.adr y=>decide (x≠y)
 | _,_=>true
def Zs8 (C:Cx)(pl:Nat)(dr:Int)(loc:Nm)(vl rg:Int):Evt:=⟨C.th,pl,dr,(C.locs.idxOf loc:Nat),vl,rg⟩
def Ziv (C:Cx)(r:Rn)(pl:Nat)(dr:Int)(loc:Nm)(vl rg:Int)(on:Nat):Rn:=
 if 64<=C.ahead+r.evs.length then { r with full:=true }
 else { r with evs:=r.evs++[Zs8 C pl dr loc vl rg],addr:=r.addr++Zbk on r.evs.length 64,hang:=r.hang++Zbk r.ctrl r.evs.length 64 }
def Zfz (C:Cx)(r:Rn)(d:Int)(x:Rg):Rn:=if C.risc=true/\d=0 then r else { r with regs:=r.regs.set d.toNat x }
def Zg6 (r:Rn)(on i:Nat):Rn:=if r.full then r else { r with data:=r.data++Zbk on i 64 }
def Zcj (C:Cx)(r:Rn)(pl:Nat)(loc:Nm)(on:Nat)(x:Rg):Option Rn:=match x.h with
 | .num n=>some (Zg6 (Ziv C r pl 2 loc n 0 on) x.on r.evs.length)
 | _=>none
def Zej (C:Cx)(r:Rn)(pl:Nat)(loc:Nm)(on:Nat)(d:Int):Rn:=
 if (Ziv C r pl 1 loc 0 d on).full then Ziv C r pl 1 loc 0 d on else Zfz C (Ziv C r pl 1 loc 0 d on) d ⟨.rd r.evs.length,2 ^ r.evs.length⟩
def Zeq (C:Cx)(r:Rn)(x:Ins):Rn:=
 let b:=if x.op=8 then ⟨.num x.imm,0⟩ else rgA r x.b
 Zfz C r x.d ⟨if x.op=9/\x.a=x.b then .num 0 else Zcw x.op (rgA r x.a).h b.h,(rgA r x.a).on|||b.on⟩
def Zi2 (C:Cx)(r:Rn)(pl:Nat)(x:Ins):Option Rn:=match (rgA r x.a).h with
 | .adr s=>if x.op=7 then Zcj C r pl s (rgA r x.a).on (rgA r x.b) else some (Zej C r pl s (rgA r x.a).on x.d)
 | _=>none
def Zhv (c:List Ins)(k:Nat)(x:Ins):Nat:=k+1+(c.drop (k+1)).findIdx (Zcp x.label)
def brL (r:Rn)(c:List Ins)(k:Nat)(x:Ins):Option (Rn×Nat):=
 let r1:={ r with ctrl:=r.ctrl|||(rgA r x.a).on|||(rgA r x.b).on }
 if Zby (rgA r x.a).h||Zby (rgA r x.b).h then
  (if ((c.take (Zhv c k x)).drop (k+1)).any (fun y=>decide (y.op≠12)) then none else some (r1,k+1))
 else some (r1,if Zan (rgA r x.a).h (rgA r x.b).h then Zhv c k x else k+1)
def Zx0 (C:Cx)(r:Rn)(pl:Nat)(fe:Int):Rn:={ r with bars:=r.bars++[⟨C.th,pl,fe⟩] }
def Zbh (C:Cx)(r:Rn)(c:List Ins)(k:Nat)(x:Ins):Option (Rn×Nat):=
 if x.op=1 then (Zcj C r k x.loc 0 ⟨.num x.imm,0⟩).map (·,k+1)
 else if x.op=2 then (Zcj C r k x.loc 0 (rgA r x.a)).map (·,k+1)
 else if x.op=3 then some (Zej C r k x.loc 0 x.d,k+1)
 else if x.op=4 then some (Zfz C r x.d ⟨.num x.imm,0⟩,k+1)
 else if x.op=5 then some (Zx0 C r k 1,k+1)
 else if x.op=13 then some (Zx0 C r k x.fence,k+1)
 else if x.op=6\/x.op=7 then (Zi2 C r k x).map (·,k+1)
 else if x.op=8\/x.op=9\/x.op=10 then some (Zeq C r x,k+1)
 else if x.op=11 then brL r c k x
 else some (r,k+1)
def Zz5 (C:Cx)(c:List Ins):Nat->Nat->Rn->Option Rn
 | 0,_,r=>some r
 | f+1,k,r=>match c[k]? with
  | none=>some r
  | some x=>if r.full then some r else (Zbh C r c k x).bind fun p=>Zz5 C c f p.2 p.1
theorem Z0w {r:Rn}{c:List Ins}{k:Nat}{x:Ins}{p:Rn×Nat}(h:brL r c k x=some p):k<p.2:=by
 unfold brL at h;simp only [] at h
 split at h
 ·split at h
  ·cases h
  ·simp only [Option.some.injEq] at h;subst h;simp
 ·simp only [Option.some.injEq] at h;subst h;have h1:k<Zhv c k x:=by unfold Zhv;omega
  have h2:k<k+1:=Nat.lt_succ_self k;cases Zan (rgA r x.a).h (rgA r x.b).h
  ·exact h2
  ·exact h1
theorem Zgx {C:Cx}{r:Rn}{c:List Ins}{k:Nat}{x:Ins}{p:Rn×Nat}(h:Zbh C r c k x=some p):k<p.2:=by
 unfold Zbh at h
 split at h
 ·obtain⟨a,_,rfl⟩:=Option.map_eq_some_iff.1 h;simp
 split at h
 ·obtain⟨a,_,rfl⟩:=Option.map_eq_some_iff.1 h;simp
 split at h
 ·simp only [Option.some.injEq] at h;subst h;simp
 split at h
 ·simp only [Option.some.injEq] at h;subst h;simp
 split at h
 ·simp only [Option.some.injEq] at h;subst h;simp
 split at h
 ·simp only [Option.some.injEq] at h;subst h;simp
 split at h
 ·obtain⟨a,_,rfl⟩:=Option.map_eq_some_iff.1 h;simp
 split at h
 ·simp only [Option.some.injEq] at h;subst h;simp
 split at h
 ·exact Z0w h
 ·simp only [Option.some.injEq] at h;subst h;simp
theorem Zpq (C:Cx)(c:List Ins):∀ (f:Nat) (k:Nat) (r:Rn) (g:Nat),c.length - k<=f->c.length - k<=g->Zz5 C c f k r=Zz5 C c g k r
 | 0,k,r,g,h1,h2=>by
  cases g with
  | zero=>rfl
  | succ g=>
   unfold Zz5;rw [List.getElem?_eq_none ω]
 | f+1,k,r,g,h1,h2=>by
  cases g with
  | zero=>
   unfold Zz5;rw [List.getElem?_eq_none ω]
  | succ g=>
   unfold Zz5;cases hx:c[k]? with
   | none=>rfl
   | some x=>
    simp only []
    split
    ·rfl
    ·cases hs:Zbh C r c k x with
     | none=>rfl
     | some p=>
      have hp:=Zgx hs;have hk:=(List.getElem?_eq_some_iff.1 hx).1;exact Zpq C c f p.2 p.1 g ω ω
def goL (C:Cx)(c:List Ins)(k:Nat)(r:Rn):Option Rn:=Zz5 C c (c.length - k) k r
theorem Zg7 {C:Cx}{c:List Ins}{k:Nat}{r:Rn}(h:c.length<=k):goL C c k r=some r:=by
 unfold goL;rw [Nat.sub_eq_zero_of_le h];rfl
theorem Zhr {C:Cx}{c:List Ins}{k:Nat}{r:Rn}(h:r.full=true):goL C c k r=some r:=by
 unfold goL;cases c.length - k with
 | zero=>rfl
 | succ f=>
  unfold Zz5;cases c[k]? with
  | none=>rfl
  | some x=>simp [h]
theorem Zry {C:Cx}{c:List Ins}{k:Nat}{r:Rn}{x:Ins}(hx:c[k]?=some x)(hf:r.full=false):goL C c k r=(Zbh C r c k x).bind fun p=>goL C c p.2 p.1:=by
 have hk:=(List.getElem?_eq_some_iff.1 hx).1;unfold goL;rw [show c.length - k=(c.length - k - 1)+1 by omega]
 conv=>lhs;unfold Zz5
 rw [hx];simp only [hf,Bool.false_eq_true,if_false];cases hs:Zbh C r c k x with
 | none=>rfl
 | some p=>
  have hp:=Zgx hs;exact Zpq C c _ p.2 p.1 _ ω (Nat.le_refl _)
theorem Zhs {C:Cx}{c:List Ins}{k:Nat}{r:Rn}{x:Ins}(hx:c[k]?=some x)(hf:r.full=false)(h:Zbh C r c k x=none):goL C c k r=none:=by rw [Zry hx hf,h];rfl
theorem Zht {C:Cx}{c:List Ins}{k:Nat}{r:Rn}{x:Ins}{p:Rn×Nat}(hx:c[k]?=some x)(hf:r.full=false)(h:Zbh C r c k x=some p):goL C c k r=goL C c p.2 p.1:=by rw [Zry hx hf,h];rfl
structure Zoe (C:Cx) (nr:Nat) (c:List Ins) (k:Nat) (x:Ins):Prop where
 op:1<=x.op/\x.op<=13
 d:0<=x.d/\x.d<nr
 a:0<=x.a/\x.a<nr
 b:0<=x.b/\x.b<nr
 imm:Zc7 x.imm
 loc:x.op<=3->x.loc∈C.locs
 fen:x.op=13->2<=x.fence/\x.fence<=11
 lab:x.op=11->Zhv c k x<c.length
def Zt6 (evs:List Evt)(i:Nat):Prop:=∃ e,evs[i]?=some e/\e.dr=1
def Z36 (evs:List Evt)(i:Nat):Prop:=∃ e,evs[i]?=some e/\e.dr=2
def Rds (evs:List Evt)(a:Nat):Prop:=∀ j,a.testBit j=true->Zt6 evs j
theorem Zt6.lt {evs:List Evt}{i:Nat}(h:Zt6 evs i):i<evs.length:=by
 obtain⟨e,h,_⟩:=h;exact (List.getElem?_eq_some_iff.1 h).1
theorem Zt6.app {evs:List Evt}{i:Nat}(h:Zt6 evs i)(l:List Evt):Zt6 (evs++l) i:=by
 obtain⟨e,h1,h2⟩:=h;exact⟨e,by rw [List.getElem?_append_left (List.getElem?_eq_some_iff.1 h1).1];exact h1,h2⟩
theorem Z36.app {evs:List Evt}{i:Nat}(h:Z36 evs i)(l:List Evt):Z36 (evs++l) i:=by
 obtain⟨e,h1,h2⟩:=h;exact⟨e,by rw [List.getElem?_append_left (List.getElem?_eq_some_iff.1 h1).1];exact h1,h2⟩
theorem Rds.app {evs:List Evt}{a:Nat}(h:Rds evs a)(l:List Evt):Rds (evs++l) a:=fun j hj=>(h j hj).app l
theorem Rds.zero (evs:List Evt):Rds evs 0:=fun j hj=>by simp at hj
theorem Rds.or {evs:List Evt}{a b:Nat}(h:Rds evs a)(k:Rds evs b):Rds evs (a|||b):=fun j hj=>by
 rw [Nat.testBit_or,Bool.or_eq_true] at hj;exact hj.elim (h j) (k j)
theorem Rds.lt {evs:List Evt}{a:Nat}(h:Rds evs a):a<2 ^ evs.length:=by
 apply Nat.lt_pow_two_of_testBit;intro i hi;cases hb:a.testBit i with
 | false=>rfl
 | true=>have:=(h i hb).lt;omega
theorem Rds.lt64 {evs:List Evt}{a:Nat}(h:Rds evs a)(hl:evs.length<=64):a<18446744073709551616:=by
 have:=Nat.lt_of_lt_of_le h.lt (Nat.pow_le_pow_right (show 0<2 by omega) hl);simpa using this
theorem Rds.one {evs:List Evt}{i:Nat}(h:Zt6 evs i):Rds evs (2 ^ i):=fun j hj=>by
 rw [Nat.testBit_two_pow] at hj;have:i=j:=by simpa using hj
 exact this ▸ h
def Zg0 (C:Cx)(evs:List Evt):Zd8->Prop
 | .num v=>Zc7 v
 | .adr s=>s∈C.locs
 | .rd i=>Zt6 evs i
 | .non=>True
def Zil (C:Cx)(evs:List Evt)(x:Rg):Prop:=Zg0 C evs x.h/\Rds evs x.on
theorem Zg0.app {C:Cx}{evs:List Evt}{h:Zd8}(k:Zg0 C evs h)(l:List Evt):Zg0 C (evs++l) h:=by
 cases h with
 | num v=>exact k
 | adr s=>exact k
 | rd i=>exact Zt6.app k l
 | non=>exact k
theorem Zil.app {C:Cx}{evs:List Evt}{x:Rg}(h:Zil C evs x)(l:List Evt):Zil C (evs++l) x:=⟨h.1.app l,h.2.app l⟩
def Z1c (p q:Int×Int):Prop:=p.2<q.2\/(p.2=q.2/\p.1<q.1)
structure Ze3 (evs:List Evt) (n:Nat) (l:List (Int×Int)):Prop where
 ord:l.Pairwise Z1c
 at_:∀ p∈l,∃ i j:Nat,p=((i:Int),(j:Int))/\i<j/\Zt6 evs i/\j<n
 len:l.length<=64*n
theorem Zoh {a k:Nat}{p:Int}(h:p∈Zdf a k):∃ i:Nat,p=(i:Int)/\a.testBit i=true/\i<k:=by
 unfold Zdf at h;obtain⟨i,hi,rfl⟩:=List.mem_map.1 h;rw [List.mem_filter,List.mem_range] at hi;exact⟨i,rfl,hi.2,hi.1⟩
theorem Zmh (a:Nat):∀ k,(Zdf a k).Pairwise (fun x y=>x<y)
 | 0=>by simp [Zdf]
 | k+1=>by
  rw [Zdc]
  split
  ·rw [List.pairwise_append];refine⟨Zmh a k,by simp,fun x hx y hy=>?_⟩;obtain⟨i,rfl,_,hi⟩:=Zoh hx;simp at hy;subst hy;exact Int.ofNat_lt.2 hi
  ·exact Zmh a k
theorem Zq2 (i k:Nat):Zbk 0 i k=[]:=by simp [Zbk,Zdf]
theorem Zl0 (a i k:Nat):(Zbk a i k).length<=k:=by
 unfold Zbk;rw [List.length_map];exact Zj7 a k
theorem Ze3.add {evs:List Evt}{n:Nat}{l:List (Int×Int)}{a:Nat}(h:Ze3 evs n l)(hn:evs.length=n)(ha:Rds evs a)(e:Evt):Ze3 (evs++[e]) (n+1) (l++Zbk a n 64):=by
 refine⟨?_,?_,?_⟩
 ·rw [List.pairwise_append];refine⟨h.ord,?_,fun p hp q hq=>?_⟩
  ·unfold Zbk;rw [List.pairwise_map];exact (Zmh a 64).imp fun hxy=>Or.inr ⟨rfl,hxy⟩
  ·obtain⟨i,j,rfl,_,_,hj⟩:=h.at_ p hp;unfold Zbk at hq;obtain⟨x,_,rfl⟩:=List.mem_map.1 hq;exact Or.inl (Int.ofNat_lt.2 hj)
 ·intro p hp;rw [List.mem_append] at hp;rcases hp with hp | hp
  ·obtain⟨i,j,rfl,h1,h2,h3⟩:=h.at_ p hp;exact⟨i,j,rfl,h1,h2.app _,ω⟩
  ·unfold Zbk at hp;obtain⟨x,hx,rfl⟩:=List.mem_map.1 hp;obtain⟨i,rfl,h1,_⟩:=Zoh hx;have h2:=ha i h1;have:=h2.lt;exact⟨i,n,rfl,ω,h2.app _,ω⟩
 ·have:=Zl0 a n 64;have:=h.len;rw [List.length_append];omega
theorem Ze3.app {evs:List Evt}{n:Nat}{l:List (Int×Int)}(h:Ze3 evs n l)(e:Evt):Ze3 (evs++[e]) (n+1) l:=
 ⟨h.ord,fun p hp=>by obtain⟨i,j,h0,h1,h2,h3⟩:=h.at_ p hp;exact⟨i,j,h0,h1,h2.app _,ω⟩,by have:=h.len;omega⟩
structure Inv (C:Cx) (nr k:Nat) (r:Rn):Prop where
 regs:∀ x∈r.regs,Zil C r.evs x
 rlen:r.regs.length=nr
 ctrl:Rds r.evs r.ctrl
 room:C.ahead+r.evs.length<=64
 bars:r.bars.length<=k
 addr:Ze3 r.evs r.evs.length r.addr
 data:Ze3 r.evs r.evs.length r.data
 hang:Ze3 r.evs r.evs.length r.hang
 dwr:∀ p∈r.data,∀ j:Nat,p.2=(j:Int)->Z36 r.evs j
theorem Inv.rg {C:Cx}{nr k:Nat}{r:Rn}(h:Inv C nr k r){a:Int}(h0:0<=a)(h1:a<nr):Zil C r.evs (rgA r a)/\r.regs[a.toNat]?=some (rgA r a):=by
 have hl:a.toNat<r.regs.length:=by rw [h.rlen];omega
 unfold rgA;rw [List.getElem?_eq_getElem hl];exact⟨h.regs _ (List.getElem_mem hl),rfl⟩
theorem Inv.next {C:Cx}{nr k k':Nat}{r:Rn}(h:Inv C nr k r)(hk:k<=k'):Inv C nr k' r:=⟨h.regs,h.rlen,h.ctrl,h.room,Nat.le_trans h.bars hk,h.addr,h.data,h.hang,h.dwr⟩
theorem Inv.put {C:Cx}{nr k:Nat}{r:Rn}(h:Inv C nr k r){d:Int}{x:Rg}(hx:Zil C r.evs x):Inv C nr k (Zfz C r d x):=by
 unfold Zfz
 split
 ·exact h
 ·refine⟨fun y hy=>?_,by rw [List.length_set];exact h.rlen,h.ctrl,h.room,h.bars,h.addr,h.data,h.hang,h.dwr⟩;rcases List.mem_or_eq_of_mem_set hy with hy | rfl
  ·exact h.regs y hy
  ·exact hx
theorem Zcr {C:Cx}{r:Rn}{pl:Nat}{dr:Int}{loc:Nm}{vl rg:Int}{on:Nat}(h:64<=C.ahead+r.evs.length):Ziv C r pl dr loc vl rg on={ r with full:=true }:=by unfold Ziv;rw [if_pos h]
theorem Zcs {C:Cx}{r:Rn}{pl:Nat}{dr:Int}{loc:Nm}{vl rg:Int}{on:Nat}(h:¬ 64<=C.ahead+r.evs.length):Ziv C r pl dr loc vl rg on={ r with evs:=r.evs++[Zs8 C pl dr loc vl rg],addr:=r.addr++Zbk on r.evs.length 64,hang:=r.hang++Zbk r.ctrl r.evs.length 64 }:=by unfold Ziv;rw [if_neg h]
theorem Inv.full {C:Cx}{nr k:Nat}{r:Rn}(h:Inv C nr k r):Inv C nr k { r with full:=true }:=⟨h.regs,h.rlen,h.ctrl,h.room,h.bars,h.addr,h.data,h.hang,h.dwr⟩
theorem Inv.evt {C:Cx}{nr k:Nat}{r:Rn}(h:Inv C nr k r){pl:Nat}{dr:Int}{loc:Nm}{vl rg:Int}{on:Nat}(hon:Rds r.evs on):Inv C nr k (Ziv C r pl dr loc vl rg on):=by
 by_cases hr:64<=C.ahead+r.evs.length
 ·rw [Zcr hr];exact h.full
 ·rw [Zcs hr]
  exact { regs:=fun x hx=>(h.regs x hx).app _
          rlen:=h.rlen
          ctrl:=h.ctrl.app _
          room:=by show C.ahead+(r.evs++[_]).length<=64;rw [List.length_append,List.length_singleton];omega
          bars:=h.bars
          addr:=by show Ze3 _ (r.evs++[_]).length _;rw [List.length_append,List.length_singleton];exact h.addr.add rfl hon _
          data:=by show Ze3 _ (r.evs++[_]).length _;rw [List.length_append,List.length_singleton];exact h.data.app _
          hang:=by show Ze3 _ (r.evs++[_]).length _;rw [List.length_append,List.length_singleton];exact h.hang.add rfl h.ctrl _
          dwr:=fun p hp j hj=>(h.dwr p hp j hj).app _ }
theorem Inv.read {C:Cx}{nr k:Nat}{r:Rn}(h:Inv C nr k r){pl:Nat}{loc:Nm}{on:Nat}{d:Int}(hon:Rds r.evs on):Inv C nr k (Zej C r pl loc on d):=by
 unfold Zej;have h1:=h.evt (pl:=pl) (dr:=1) (loc:=loc) (vl:=0) (rg:=d) hon
 split
 ·exact h1
 ·rename_i hf;refine h1.put ?_;have hr:¬ 64<=C.ahead+r.evs.length:=fun hr=>hf (by rw [Zcr hr])
  rw [Zcs hr];have:Zt6 (r.evs++[Zs8 C pl 1 loc 0 d]) r.evs.length:=⟨_,by rw [List.getElem?_append_right (Nat.le_refl _)];simp;rfl,rfl⟩;exact⟨this,Rds.one this⟩
theorem Inv.write {C:Cx}{nr k:Nat}{r r':Rn}(h:Inv C nr k r){pl:Nat}{loc:Nm}{on:Nat}{x:Rg}(hon:Rds r.evs on)(hx:Zil C r.evs x)(hw:Zcj C r pl loc on x=some r'):Inv C nr k r':=by
 unfold Zcj at hw;cases hxh:x.h with
 | num n=>
  rw [hxh] at hw;simp only [Option.some.injEq] at hw;subst hw;have h1:=h.evt (pl:=pl) (dr:=2) (loc:=loc) (vl:=n) (rg:=0) hon;unfold Zg6
  split
  ·exact h1
  ·rename_i hf1;have hr:¬ 64<=C.ahead+r.evs.length:=fun hr=>hf1 (by rw [Zcr hr])
   rw [Zcs hr] at h1 ⊢;have hwr:Z36 (r.evs++[Zs8 C pl 2 loc n 0]) r.evs.length:=⟨_,by rw [List.getElem?_append_right (Nat.le_refl _)];simp;rfl,rfl⟩
   exact { h1 with
       data:=by show Ze3 _ (r.evs++[_]).length _;rw [List.length_append,List.length_singleton];exact h.data.add rfl hx.2 _
       dwr:=fun p hp j hj=>by
        rcases List.mem_append.1 hp with hp | hp
        ·exact (h.dwr p hp j hj).app _
        ·unfold Zbk at hp;obtain⟨q,_,rfl⟩:=List.mem_map.1 hp;simp only [Int.ofNat_inj] at hj;exact hj ▸ hwr }
 | adr s=>rw [hxh] at hw;cases hw
 | rd i=>rw [hxh] at hw;cases hw
 | non=>rw [hxh] at hw;cases hw
theorem Zjl (b:BitVec 64):IntKind.i64.wrap (b.toNat:Int)=b.toInt:=by
 unfold IntKind.wrap;have:=b.isLt;simp [IntKind.bits,IntKind.signed,BitVec.toInt];omega
theorem Zde (b:BitVec 32):IntKind.i32.wrap (b.toNat:Int)=b.toInt:=by
 unfold IntKind.wrap;have:=b.isLt;simp [IntKind.bits,IntKind.signed,BitVec.toInt];omega
theorem Zkt {x:Int}(h:Zc7 x):(BitVec.ofInt 32 x).toInt=x:=by
 unfold Zc7 at h;rw [BitVec.toInt_ofInt];simp [Int.bmod];omega
theorem Zyy {x:Int}(h:Zc7 x):BitVec.ofInt 64 x=(BitVec.ofInt 32 x).signExtend 64:=by
 rw [BitVec.signExtend,Zkt h]
theorem Z38 {x y:Int}(hx:Zc7 x)(hy:Zc7 y):bits .or .i64 x y=bits .or .i32 x y/\Zc7 (bits .or .i32 x y):=by
 have e1:bits .or .i64 x y=(BitVec.ofInt 64 x|||BitVec.ofInt 64 y).toInt:=Zjl _;have e2:bits .or .i32 x y=(BitVec.ofInt 32 x|||BitVec.ofInt 32 y).toInt:=Zde _;rw [e1,e2,Zyy hx,Zyy hy,<- BitVec.signExtend_or,BitVec.toInt_signExtend_of_le ω];refine⟨rfl,?_⟩;have:=(BitVec.ofInt 32 x|||BitVec.ofInt 32 y).toInt_lt;have:=(BitVec.ofInt 32 x|||BitVec.ofInt 32 y).le_toInt;unfold Zc7;simp at *;omega
theorem Zt2 {x y:Int}(hx:Zc7 x)(hy:Zc7 y):bits .xor .i64 x y=bits .xor .i32 x y/\Zc7 (bits .xor .i32 x y):=by
 have e1:bits .xor .i64 x y=(BitVec.ofInt 64 x ^^^ BitVec.ofInt 64 y).toInt:=Zjl _;have e2:bits .xor .i32 x y=(BitVec.ofInt 32 x ^^^ BitVec.ofInt 32 y).toInt:=Zde _;rw [e1,e2,Zyy hx,Zyy hy,<- BitVec.signExtend_xor,BitVec.toInt_signExtend_of_le ω];refine⟨rfl,?_⟩;have:=(BitVec.ofInt 32 x ^^^ BitVec.ofInt 32 y).toInt_lt;have:=(BitVec.ofInt 32 x ^^^ BitVec.ofInt 32 y).le_toInt;unfold Zc7;simp at *;omega
theorem wrap32 {x:Int}(h:Zc7 x):IntKind.i32.wrap x=x:=by
 unfold Zc7 at h;unfold IntKind.wrap;simp [IntKind.bits,IntKind.signed];omega
theorem Zo3 (x:Int):Zc7 (IntKind.i32.wrap x):=by
 unfold Zc7 IntKind.wrap;simp [IntKind.bits,IntKind.signed];omega
theorem Zwj {x:Int}(hx:Zc7 x):bits .or .i64 x 0=x:=by
 have h0:Zc7 0:=by unfold Zc7;omega
 rw [(Z38 hx h0).1];have e2:bits .or .i32 x 0=(BitVec.ofInt 32 x|||BitVec.ofInt 32 0).toInt:=Zde _;rw [e2,show BitVec.ofInt 32 0=0#32 from rfl,BitVec.or_zero,Zkt hx]
theorem Zxo {x:Int}(hx:Zc7 x):bits .or .i64 0 x=x:=by
 have h0:Zc7 0:=by unfold Zc7;omega
 rw [(Z38 h0 hx).1];have e2:bits .or .i32 0 x=(BitVec.ofInt 32 0|||BitVec.ofInt 32 x).toInt:=Zde _;rw [e2,show BitVec.ofInt 32 0=0#32 from rfl,BitVec.zero_or,Zkt hx]
theorem Zt3 {x:Int}(hx:Zc7 x):bits .xor .i64 x 0=x:=by
 have h0:Zc7 0:=by unfold Zc7;omega
 rw [(Zt2 hx h0).1];have e2:bits .xor .i32 x 0=(BitVec.ofInt 32 x ^^^ BitVec.ofInt 32 0).toInt:=Zde _;rw [e2,show BitVec.ofInt 32 0=0#32 from rfl,BitVec.xor_zero,Zkt hx]
theorem Zt5 {x:Int}(hx:Zc7 x):bits .xor .i64 0 x=x:=by
 have h0:Zc7 0:=by unfold Zc7;omega
 rw [(Zt2 h0 hx).1];have e2:bits .xor .i32 0 x=(BitVec.ofInt 32 0 ^^^ BitVec.ofInt 32 x).toInt:=Zde _;rw [e2,show BitVec.ofInt 32 0=0#32 from rfl,BitVec.zero_xor,Zkt hx]
theorem Z5o {op x y:Int}(hx:Zc7 x)(hy:Zc7 y):Zc7 (opN op x y):=by
 unfold opN
 split
 ·rw [(Z38 hx hy).1];exact (Z38 hx hy).2
 split
 ·rw [(Zt2 hx hy).1];exact (Zt2 hx hy).2
 ·exact Zo3 _
theorem Z23 {C:Cx}{evs:List Evt}{op:Int}:∀ {a b:Zd8},Zg0 C evs a->Zg0 C evs b->Zg0 C evs (Zcw op a b)
 | .num x,.num y,ha,hb=>Z5o ha hb
 | .num x,.adr s,_,hb=>by unfold Zcw;simp only [];split;exact hb;trivial
 | .num x,.rd s,_,hb=>by unfold Zcw;simp only [];split;exact hb;trivial
 | .num x,.non,_,hb=>by unfold Zcw;simp only [];split;exact hb;trivial
 | .adr s,.num y,ha,_=>by unfold Zcw;simp only [];split;exact ha;trivial
 | .rd s,.num y,ha,_=>by unfold Zcw;simp only [];split;exact ha;trivial
 | .non,.num y,ha,_=>by unfold Zcw;simp only [];split;exact ha;trivial
 | .adr s,.adr _,_,_=>trivial
 | .adr s,.rd _,_,_=>trivial
 | .adr s,.non,_,_=>trivial
 | .rd s,.adr _,_,_=>trivial
 | .rd s,.rd _,_,_=>trivial
 | .rd s,.non,_,_=>trivial
 | .non,.adr _,_,_=>trivial
 | .non,.rd _,_,_=>trivial
 | .non,.non,_,_=>trivial
theorem Zhu:Zc7 0:=by unfold Zc7;omega
theorem Inv.reck {C:Cx}{nr k:Nat}{r:Rn}{c:List Ins}{x:Ins}(h:Inv C nr k r)(hx:Zoe C nr c k x):Inv C nr k (Zeq C r x):=by
 unfold Zeq;simp only [];have ha:=(h.rg hx.a.1 hx.a.2).1;have hb:Zil C r.evs (if x.op=8 then ⟨.num x.imm,0⟩ else rgA r x.b):=by
  split
  ·exact⟨hx.imm,Rds.zero _⟩
  ·exact (h.rg hx.b.1 hx.b.2).1
 refine h.put ⟨?_,ha.2.or hb.2⟩;show Zg0 C r.evs (if _ then _ else _)
 split
 ·exact Zhu
 ·exact Z23 ha.1 hb.1
theorem Inv.mem {C:Cx}{nr k:Nat}{r r':Rn}{c:List Ins}{x:Ins}(h:Inv C nr k r)(hx:Zoe C nr c k x)(hm:Zi2 C r k x=some r'):Inv C nr k r':=by
 have ha:=(h.rg hx.a.1 hx.a.2).1;unfold Zi2 at hm;cases e:(rgA r x.a).h with
 | adr s=>
  rw [e] at hm;simp only [] at hm
  split at hm
  ·exact h.write ha.2 (h.rg hx.b.1 hx.b.2).1 hm
  ·simp only [Option.some.injEq] at hm;subst hm;exact h.read ha.2
 | num n=>rw [e] at hm;cases hm
 | rd i=>rw [e] at hm;cases hm
 | non=>rw [e] at hm;cases hm
theorem Inv.br {C:Cx}{nr k:Nat}{r:Rn}{p:Rn×Nat}{c:List Ins}{x:Ins}(h:Inv C nr k r)(hx:Zoe C nr c k x)(hb:brL r c k x=some p):Inv C nr k p.1:=by
 have h1:Inv C nr k { r with ctrl:=r.ctrl|||(rgA r x.a).on|||(rgA r x.b).on }:={ h with ctrl:=(h.ctrl.or (h.rg hx.a.1 hx.a.2).1.2).or (h.rg hx.b.1 hx.b.2).1.2 };unfold brL at hb;simp only [] at hb
 split at hb
 ·split at hb
  ·cases hb
  ·simp only [Option.some.injEq] at hb;subst hb;exact h1
 ·simp only [Option.some.injEq] at hb;subst hb;exact h1
theorem Inv.bar {C:Cx}{nr k:Nat}{r:Rn}(h:Inv C nr k r)(pl:Nat)(fe:Int):Inv C nr (k+1) (Zx0 C r pl fe):=
 ⟨h.regs,h.rlen,h.ctrl,h.room,by show (r.bars++[_]).length<=_;rw [List.length_append,List.length_singleton];have:=h.bars;omega,h.addr,h.data,h.hang,h.dwr⟩
theorem Inv.step {C:Cx}{nr k:Nat}{r:Rn}{p:Rn×Nat}{c:List Ins}{x:Ins}(h:Inv C nr k r)(hx:Zoe C nr c k x)(hs:Zbh C r c k x=some p):Inv C nr p.2 p.1:=by
 have hgt:=Zgx hs;unfold Zbh at hs
 split at hs
 ·obtain⟨a,ha,rfl⟩:=Option.map_eq_some_iff.1 hs;exact (h.write (x:=⟨.num x.imm,0⟩) (Rds.zero _) ⟨hx.imm,Rds.zero _⟩ ha).next (Nat.le_succ _)
 split at hs
 ·obtain⟨a,ha,rfl⟩:=Option.map_eq_some_iff.1 hs;exact (h.write (Rds.zero _) (h.rg hx.a.1 hx.a.2).1 ha).next (Nat.le_succ _)
 split at hs
 ·simp only [Option.some.injEq] at hs;subst hs;exact (h.read (Rds.zero _)).next (Nat.le_succ _)
 split at hs
 ·simp only [Option.some.injEq] at hs;subst hs;exact (h.put (x:=⟨.num x.imm,0⟩) ⟨hx.imm,Rds.zero _⟩).next (Nat.le_succ _)
 split at hs
 ·simp only [Option.some.injEq] at hs;subst hs;exact h.bar _ _
 split at hs
 ·simp only [Option.some.injEq] at hs;subst hs;exact h.bar _ _
 split at hs
 ·obtain⟨a,ha,rfl⟩:=Option.map_eq_some_iff.1 hs;exact (h.mem hx ha).next (Nat.le_succ _)
 split at hs
 ·simp only [Option.some.injEq] at hs;subst hs;exact (h.reck hx).next (Nat.le_succ _)
 split at hs
 ·exact (h.br hx hs).next (Nat.le_of_lt hgt)
 ·simp only [Option.some.injEq] at hs;subst hs;exact h.next (Nat.le_succ _)
def Zah:Zd8->Value
 | .num n=>.iface 110 (.int .i64 n)
 | .adr s=>.iface 115 (.string ⟨s.toArray⟩)
 | .rd i=>.iface 127 (.int .i64 (i:Int))
 | .non=>.iface 197 (.agg #[])
theorem Zo2 (h:Zd8):(Zah h).oneCell'=true:=by cases h <;> rfl
abbrev Zdh:Enc Rg:=⟨5,fun x=>[Zah x.h,.int .u64 (x.on:Int),.int .u64 0,.int .u64 0,.int .u64 0],fun _=>rfl,ω,fun x u h=>by simp at h;rcases h with rfl | rfl | rfl;exact Zo2 _;rfl;rfl⟩
abbrev Zqm:Enc Evt:=⟨6,fun x=>[.int .i64 x.th,.int .i64 x.pl,.int .i64 x.dr,.int .i64 x.lc,.int .i64 x.vl,.int .i64 x.rg],fun _=>rfl,ω,fun x u h=>by simp at h;rcases h with rfl | rfl | rfl | rfl | rfl | rfl <;> rfl⟩
abbrev Zmq:Enc Br:=⟨3,fun x=>[.int .i64 x.th,.int .i64 x.pl,.int .i64 x.fe],fun _=>rfl,ω,fun x u h=>by simp at h;rcases h with rfl | rfl | rfl <;> rfl⟩
theorem Z2o:Zqm.Elem 54 35 48:=⟨Tryz.underlying35,.agg #[.int .i64 0,.int .i64 0,.int .i64 0,.int .i64 0,.int .i64 0,.int .i64 0],κ,rfl⟩
theorem Zu5:Zmq.Elem 123 36 24:=⟨Tryz.underlying36,.agg #[.int .i64 0,.int .i64 0,.int .i64 0],κ,rfl⟩
abbrev rgV (x:Rg):Value:=.agg #[Zah x.h,.int .u64 (x.on:Int),.int .u64 0,.int .u64 0,.int .u64 0]
theorem Zet {α:Type}(E:Enc α):∀ (l:List α) (i:Nat) (x:α) (m:Nat),i<l.length->(E.flat (l.set i x))[m]?=if i*E.size<=m/\m<i*E.size+E.size then (E.enc x)[m - i*E.size]? else (E.flat l)[m]?
 | [],i,x,m,h=>by simp at h
 | y :: l,0,x,m,h=>by
  rw [List.set_cons_zero,E.flat_cons,E.flat_cons,Nat.zero_mul,Nat.sub_zero,Nat.zero_add]
  split
  ·rename_i hm;rw [List.getElem?_append_left (by rw [E.len];exact hm.2)]
  ·rename_i hm;have:E.size<=m:=ω;rw [List.getElem?_append_right (by rw [E.len];exact this),List.getElem?_append_right (by rw [E.len];exact this),E.len,E.len]
 | y :: l,i+1,x,m,h=>by
  rw [List.set_cons_succ,E.flat_cons,E.flat_cons];have ih:=Zet E l i x (m - E.size) (by simpa using h);rw [Nat.succ_mul];by_cases hm:m<E.size
  ·rw [List.getElem?_append_left (by rw [E.len];exact hm),List.getElem?_append_left (by rw [E.len];exact hm),if_neg ω]
  ·rw [List.getElem?_append_right (by rw [E.len];omega),List.getElem?_append_right (by rw [E.len];omega),E.len,ih];by_cases hc:i*E.size<=m - E.size/\m - E.size<i*E.size+E.size
   ·rw [if_pos hc,if_pos ω]
    congr 1;omega
   ·rw [if_neg hc,if_neg ω]
theorem Zvh (l:List Rg)(i:Nat)(x:Rg)(h:i<l.length):((((((Zdh.flat l).toArray.setIfInBounds (i*5) (Zah x.h)).setIfInBounds (i*5+1) (.int .u64 (x.on:Int))).setIfInBounds (i*5+2) (.int .u64 0)).setIfInBounds (i*5+3) (.int .u64 0)).setIfInBounds (i*5+4) (.int .u64 0))=(Zdh.flat (l.set i x)).toArray:=by
 apply Array.ext';apply List.ext_getElem?;intro m;have hl:(Zdh.flat l).length=l.length*5:=Zdh.flat_len l;have hi:i*5+5<=l.length*5:=ω;rw [show ((Zdh.flat (l.set i x)).toArray.toList)=Zdh.flat (l.set i x) from rfl,Zet Zdh l i x m h];simp only [Array.toList_setIfInBounds,List.getElem?_set];show _=if i*5<=m/\m<i*5+5 then _ else _
 by_cases hm:i*5<=m/\m<i*5+5
 ·rw [if_pos hm];have hc:m=i*5\/m=i*5+1\/m=i*5+2\/m=i*5+3\/m=i*5+4:=ω;rcases hc with rfl | rfl | rfl | rfl | rfl
  ·simp [hl];omega
  ·simp [hl];omega
  ·simp [hl];omega
  ·simp [hl];omega
  ·simp [hl];omega
 ·rw [if_neg hm];simp [show ¬ i*5=m by omega,show ¬ i*5+1=m by omega,show ¬ i*5+2=m by omega,show ¬ i*5+3=m by omega,show ¬ i*5+4=m by omega]
structure Zd6 where
 rg:Value
 ev:Value
 br:Value
 ad:Value
 da:Value
 hg:Value
structure Zgk where
 T:Tst
 iv:Value
 cv:Value
 kv:Value
 lv:Value
 C:Cx
abbrev Zz4 (S:Zgk)(r:Rn)(V:Zd6):Array Value:=#[.int .i64 S.T.arch,.string ⟨S.T.name.toArray⟩,.string ⟨S.T.cycle.toArray⟩,S.iv,S.cv,.int .i64 S.T.q,.int .i64 S.T.k,.int .i64 S.T.t,.int .i64 S.T.r,.string ⟨S.T.l.toArray⟩,.int .i64 S.T.v,S.kv,
 .int .i64 (S.C.th:Int),S.lv,V.rg,.int .u64 (r.ctrl:Int),.int .u64 0,.int .u64 0,.int .u64 0,V.ev,V.br,V.ad,V.da,V.hg,.int .i64 (S.C.ahead:Int),.bool r.full]
def Zgy (a b:Value):Prop:=∀ x,a.ownBlock=some x->b.ownBlock≠some x
theorem Zgy.symm {a b:Value}(h:Zgy a b):Zgy b a:=fun x hx hy=>h x hy hx
def Zxw (w:World)(B:Nat)(v:Value)(l:List Rg):Prop:=∃ q,v=.slice (some ⟨q,0,none⟩) l.length l.length/\Blk w q 114 (Zdh.flat l).toArray/\B<=q
structure Za0 (w:World) (B g:Nat) (S:Zgk) (r:Rn) (V:Zd6):Prop where
 blk:Blk w g 74 (Zz4 S r V)
 hg:B<=g
 regs:Zxw w B V.rg r.regs
 evs:Zqm.Own 54 B w V.ev r.evs
 bars:Zmq.Own 123 B w V.br r.bars
 addr:Zbf.Own 129 B w V.ad r.addr
 data:Zbf.Own 129 B w V.da r.data
 hang:Zbf.Own 129 B w V.hg r.hang
 a1:Zgy V.ad V.da
 a2:Zgy V.ad V.hg
 a3:Zgy V.da V.hg
theorem Zg1 {w:World}{B:Nat}{t:TypeId}{z n:Nat}{v:Value}{cs:List Value}(h:w.ownsRow B t z v n cs){b:Nat}(hb:v.ownBlock=some b):∃ cur,w.heap[b]?=some (.cells cur t (0,0))/\B<=b:=by
 rcases h.2 with ⟨e,_⟩ | ⟨g,cap,cur,e,h1,h2,_⟩
 ·subst e;cases hb
 ·subst e;have hgb:g=b:=by simpa [Value.ownBlock] using hb
  subst hgb;exact⟨cur,h2,h1⟩
theorem Zcm {w:World}{B:Nat}{t t2:TypeId}{z n g:Nat}{v:Value}{cs:List Value}{ds:Array Value}(h:w.ownsRow B t z v n cs)(hg:Blk w g t2 ds)(hne:t≠t2):v.ownBlock≠some g:=fun e=>by
 obtain⟨cur,hc,_⟩:=Zg1 h e;unfold Blk at hg;rw [hg] at hc;simp only [Option.some.injEq,Obj.cells.injEq] at hc;exact hne hc.2.1.symm
theorem Zfh {w:World}{B:Nat}{t:TypeId}{z n b:Nat}{v:Value}{cs:List Value}(h:w.ownsRow B t z v n cs)(hb:v.ownBlock=some b):b<w.heap.size:=by
 obtain⟨cur,hc,_⟩:=Zg1 h hb;exact (Array.getElem?_eq_some_iff.1 hc).1
theorem Zaf {w:World}{B:Nat}{t t2:TypeId}{z n g:Nat}{v:Value}{cs:List Value}{ds:Array Value}(h:w.ownsRow B t z v n cs)(hg:Blk w g t2 ds)(hne:t≠t2)(i:Nat)(u:Value):(w.setCell ⟨g,i,none⟩ u).ownsRow B t z v n cs:=
 Zex h fun b hb=>Below.heap_setCell w ⟨g,i,none⟩ u b (fun e=>Zcm h hg hne (by rw [hb,e]))
theorem Za4 {w:World}{g q:Nat}{t t2:TypeId}{cs ds:Array Value}(h:Blk w g t cs)(k:Blk w q t2 ds)(hne:t≠t2):g≠q:=fun e=>by
 subst e;unfold Blk at h k;rw [h] at k;simp only [Option.some.injEq,Obj.cells.injEq] at k;exact hne k.2.1
theorem Zat {w w1:World}{B B2 g:Nat}{t t2:TypeId}{z n:Nat}{v v':Value}{cs:List Value}{ds:Array Value}(h:Blk w g t2 ds)(ho:w.ownsRow B t z v n cs)(hne:t≠t2)(hg:Zbm w w1 B2 v v'):Blk w1 g t2 ds:=(hg.keep g h.lt (Zcm ho h hne)).trans h
theorem Zbd {w w1:World}{B B3:Nat}{t:TypeId}{z n:Nat}{v v2 v3:Value}{cs:List Value}(h:w.ownsRow B t z v n cs)(ha:Zgy v v2)(hg:Zbm w w1 B3 v2 v3):w1.ownsRow B t z v n cs:=
 Zex h fun b hb=>hg.keep b (Zfh h hb) (ha b hb)
theorem Zgy.grew {w w1:World}{B B3:Nat}{t:TypeId}{z n:Nat}{v v2 v3:Value}{cs:List Value}(ha:Zgy v v2)(h:w.ownsRow B t z v n cs)(hg:Zbm w w1 B3 v2 v3):Zgy v v3:=fun b hb hb3=>by
 rcases hg.which b hb3 with e | e
 ·exact ha b hb e
 ·have:=Zfh h hb;omega
theorem Zxw.keep {w w1:World}{B:Nat}{v:Value}{l:List Rg}(h:Zxw w B v l)(hk:∀ q,Blk w q 114 (Zdh.flat l).toArray->w1.heap[q]?=w.heap[q]?):Zxw w1 B v l:=by
 obtain⟨q,h1,h2,h3⟩:=h;exact⟨q,h1,(hk q h2).trans h2,h3⟩
namespace Za0
variable {w w' w1:World} {B g:Nat} {S:Zgk} {r:Rn} {V:Zd6} {v':Value}
theorem drew (h:Za0 w B g S r V):Za0 w.drew B g S r V:=⟨h.blk,h.hg,h.regs,h.evs,h.bars,h.addr,h.data,h.hang,h.a1,h.a2,h.a3⟩
theorem below (h:Za0 w B g S r V)(hb:Below w.heap.size w w'):Za0 w' B g S r V:=
 ⟨h.blk.go hb,h.hg,h.regs.keep (fun _ hq=>hb.block _ hq.lt),Zav h.evs hb,Zav h.bars hb,Zav h.addr hb,Zav h.data hb,Zav h.hang hb,h.a1,h.a2,h.a3⟩
theorem full (h:Za0 w B g S r V):Za0 (w.setCell ⟨g,25,none⟩ (.bool true)) B g S { r with full:=true } V:=
 ⟨h.blk.set_ 25 _,h.hg,h.regs.keep (fun _ hq=>Below.heap_setCell w _ _ _ (Za4 hq h.blk (by decide))),Zaf h.evs h.blk (by decide) _ _,Zaf h.bars h.blk (by decide) _ _,Zaf h.addr h.blk (by decide) _ _,Zaf h.data h.blk (by decide) _ _,Zaf h.hang h.blk (by decide) _ _,h.a1,h.a2,h.a3⟩
theorem ev (h:Za0 w B g S r V){l:List Evt}(hg:Zbm w w1 B V.ev v')(ho:Zqm.Own 54 B w1 v' l):Za0 (w1.setCell ⟨g,19,none⟩ v') B g S { r with evs:=l } { V with ev:=v' }:=by
 have hb1:=Zat h.blk h.evs (by decide) hg;exact⟨hb1.set_ 19 _,h.hg,(h.regs.keep (fun _ hq=>(Below.heap_setCell w1 _ _ _ (Za4 hq h.blk (by decide))).trans (hg.keep _ hq.lt (Zcm h.evs hq (by decide))))),
  Zaf ho hb1 (by decide) _ _,Zaf (Zaj h.bars h.evs (by decide) hg) hb1 (by decide) _ _,Zaf (Zaj h.addr h.evs (by decide) hg) hb1 (by decide) _ _,
  Zaf (Zaj h.data h.evs (by decide) hg) hb1 (by decide) _ _,Zaf (Zaj h.hang h.evs (by decide) hg) hb1 (by decide) _ _,h.a1,h.a2,h.a3⟩
theorem br (h:Za0 w B g S r V){l:List Br}(hg:Zbm w w1 B V.br v')(ho:Zmq.Own 123 B w1 v' l):Za0 (w1.setCell ⟨g,20,none⟩ v') B g S { r with bars:=l } { V with br:=v' }:=by
 have hb1:=Zat h.blk h.bars (by decide) hg;exact⟨hb1.set_ 20 _,h.hg,(h.regs.keep (fun _ hq=>(Below.heap_setCell w1 _ _ _ (Za4 hq h.blk (by decide))).trans (hg.keep _ hq.lt (Zcm h.bars hq (by decide))))),
  Zaf (Zaj h.evs h.bars (by decide) hg) hb1 (by decide) _ _,Zaf ho hb1 (by decide) _ _,Zaf (Zaj h.addr h.bars (by decide) hg) hb1 (by decide) _ _,
  Zaf (Zaj h.data h.bars (by decide) hg) hb1 (by decide) _ _,Zaf (Zaj h.hang h.bars (by decide) hg) hb1 (by decide) _ _,h.a1,h.a2,h.a3⟩
theorem ad (h:Za0 w B g S r V){l:List (Int×Int)}(hg:Zbm w w1 B V.ad v')(ho:Zbf.Own 129 B w1 v' l):Za0 (w1.setCell ⟨g,21,none⟩ v') B g S { r with addr:=l } { V with ad:=v' }:=by
 have hb1:=Zat h.blk h.addr (by decide) hg;exact⟨hb1.set_ 21 _,h.hg,(h.regs.keep (fun _ hq=>(Below.heap_setCell w1 _ _ _ (Za4 hq h.blk (by decide))).trans (hg.keep _ hq.lt (Zcm h.addr hq (by decide))))),
  Zaf (Zaj h.evs h.addr (by decide) hg) hb1 (by decide) _ _,Zaf (Zaj h.bars h.addr (by decide) hg) hb1 (by decide) _ _,Zaf ho hb1 (by decide) _ _,
  Zaf (Zbd h.data h.a1.symm hg) hb1 (by decide) _ _,Zaf (Zbd h.hang h.a2.symm hg) hb1 (by decide) _ _,(h.a1.symm.grew h.data hg).symm,(h.a2.symm.grew h.hang hg).symm,h.a3⟩
theorem da (h:Za0 w B g S r V){l:List (Int×Int)}(hg:Zbm w w1 B V.da v')(ho:Zbf.Own 129 B w1 v' l):Za0 (w1.setCell ⟨g,22,none⟩ v') B g S { r with data:=l } { V with da:=v' }:=by
 have hb1:=Zat h.blk h.data (by decide) hg;exact⟨hb1.set_ 22 _,h.hg,(h.regs.keep (fun _ hq=>(Below.heap_setCell w1 _ _ _ (Za4 hq h.blk (by decide))).trans (hg.keep _ hq.lt (Zcm h.data hq (by decide))))),
  Zaf (Zaj h.evs h.data (by decide) hg) hb1 (by decide) _ _,Zaf (Zaj h.bars h.data (by decide) hg) hb1 (by decide) _ _,Zaf (Zbd h.addr h.a1 hg) hb1 (by decide) _ _,
  Zaf ho hb1 (by decide) _ _,Zaf (Zbd h.hang h.a3.symm hg) hb1 (by decide) _ _,h.a1.grew h.addr hg,h.a2,(h.a3.symm.grew h.hang hg).symm⟩
theorem hgg (h:Za0 w B g S r V){l:List (Int×Int)}(hg:Zbm w w1 B V.hg v')(ho:Zbf.Own 129 B w1 v' l):Za0 (w1.setCell ⟨g,23,none⟩ v') B g S { r with hang:=l } { V with hg:=v' }:=by
 have hb1:=Zat h.blk h.hang (by decide) hg;exact⟨hb1.set_ 23 _,h.hg,(h.regs.keep (fun _ hq=>(Below.heap_setCell w1 _ _ _ (Za4 hq h.blk (by decide))).trans (hg.keep _ hq.lt (Zcm h.hang hq (by decide))))),
  Zaf (Zaj h.evs h.hang (by decide) hg) hb1 (by decide) _ _,Zaf (Zaj h.bars h.hang (by decide) hg) hb1 (by decide) _ _,Zaf (Zbd h.addr h.a2 hg) hb1 (by decide) _ _,
  Zaf (Zbd h.data h.a3 hg) hb1 (by decide) _ _,Zaf ho hb1 (by decide) _ _,h.a1,h.a2.grew h.addr hg,h.a3.grew h.data hg⟩
theorem reg (h:Za0 w B g S r V){i:Nat}{x:Rg}(hi:i<r.regs.length){q:Nat}(hq:V.rg=.slice (some ⟨q,0,none⟩) r.regs.length r.regs.length) :
  Za0 (((((w.setCell ⟨q,i*5,none⟩ (Zah x.h)).setCell ⟨q,i*5+1,none⟩ (.int .u64 (x.on:Int))).setCell ⟨q,i*5+2,none⟩ (.int .u64 0)).setCell ⟨q,i*5+3,none⟩ (.int .u64 0)).setCell ⟨q,i*5+4,none⟩ (.int .u64 0)) B g S { r with regs:=r.regs.set i x } V:=by
 obtain⟨q',e,hb,hB⟩:=h.regs;rw [hq] at e;simp only [Value.slice.injEq,Option.some.injEq,Addr.mk.injEq,and_true] at e;subst e;have hgq:g≠q:=(Za4 hb h.blk (by decide)).symm;have k1:=hb.set_ (i*5) (Zah x.h);have k2:=k1.set_ (i*5+1) (.int .u64 (x.on:Int));have k3:=k2.set_ (i*5+2) (.int .u64 0);have k4:=k3.set_ (i*5+3) (.int .u64 0);have k5:=k4.set_ (i*5+4) (.int .u64 0);have ho:∀ {t:TypeId} {z n:Nat} {v:Value} {cs:List Value},w.ownsRow B t z v n cs->t≠114->(((((w.setCell ⟨q,i*5,none⟩ (Zah x.h)).setCell ⟨q,i*5+1,none⟩ (.int .u64 (x.on:Int))).setCell ⟨q,i*5+2,none⟩ (.int .u64 0)).setCell ⟨q,i*5+3,none⟩ (.int .u64 0)).setCell ⟨q,i*5+4,none⟩ (.int .u64 0)).ownsRow B t z v n cs:=
  fun h1 hne=>Zaf (Zaf (Zaf (Zaf (Zaf h1 hb hne _ _) k1 hne _ _) k2 hne _ _) k3 hne _ _) k4 hne _ _
 refine⟨((((h.blk.far hgq _).far hgq _).far hgq _).far hgq _).far hgq _,h.hg,⟨q,by rw [hq,List.length_set],?_,hB⟩,ho h.evs (by decide),ho h.bars (by decide),ho h.addr (by decide),ho h.data (by decide),ho h.hang (by decide),h.a1,h.a2,h.a3⟩;rw [<- Zvh r.regs i x hi];exact k5
end Za0
def Zrf (g:Nat)(V:Zd6)(b:Nat):Prop:=b=g\/V.rg.ownBlock=some b\/V.ev.ownBlock=some b\/V.br.ownBlock=some b\/V.ad.ownBlock=some b\/V.da.ownBlock=some b\/V.hg.ownBlock=some b
structure FrV (w w':World) (g:Nat) (V V':Zd6):Prop where
 size:w.heap.size<=w'.heap.size
 keep:∀ b,b<w.heap.size->¬ Zrf g V b->w'.heap[b]?=w.heap[b]?
 which:∀ b,Zrf g V' b->Zrf g V b\/w.heap.size<=b
theorem FrV.refl (w:World)(g:Nat)(V:Zd6):FrV w w g V V:=⟨Nat.le_refl _,fun _ _ _=>rfl,fun _ h=>Or.inl h⟩
theorem FrV.trans {w w1 w2:World}{g:Nat}{V V1 V2:Zd6}(h:FrV w w1 g V V1)(k:FrV w1 w2 g V1 V2):FrV w w2 g V V2:=
 ⟨Nat.le_trans h.size k.size,fun b hb hn=>by
  rw [k.keep b (Nat.lt_of_lt_of_le hb h.size) (fun hm=>by
   rcases h.which b hm with e | e
   ·exact hn e
   ·omega),h.keep b hb hn],fun b hm=>by
  rcases k.which b hm with e | e
  ·exact h.which b e
  ·exact Or.inr (Nat.le_trans h.size e)⟩
theorem FrV.of_below {w w':World}{g:Nat}{V:Zd6}(h:Below w.heap.size w w'):FrV w w' g V V:=⟨h.size,fun b hb _=>h.block b hb,fun _ hm=>Or.inl hm⟩
theorem FrV.drew {w w':World}{g:Nat}{V V':Zd6}(h:FrV w w' g V V'):FrV w w'.drew g V V':=⟨h.size,h.keep,h.which⟩
theorem FrV.set (w:World)(g:Nat)(V:Zd6)(i:Nat)(u:Value):FrV w (w.setCell ⟨g,i,none⟩ u) g V V:=
 ⟨by simp [World.setCell],fun b _ hn=>Below.heap_setCell w _ u b (fun e=>hn (Or.inl e)),fun _ hm=>Or.inl hm⟩
theorem FrV.row {w w1:World}{g B i:Nat}{V V':Zd6}{v v':Value}(hg:Zbm w w1 B v v')(hv:∀ b,v.ownBlock=some b->Zrf g V b)(hV:∀ b,Zrf g V' b->Zrf g V b\/v'.ownBlock=some b):FrV w (w1.setCell ⟨g,i,none⟩ v') g V V':=
 ⟨by simpa [World.setCell] using hg.below.size,fun b hb hn=>(Below.heap_setCell w1 _ _ b (fun e=>hn (Or.inl e))).trans (hg.keep b hb (fun e=>hn (hv b e))),fun b hm=>by
  rcases hV b hm with e | e
  ·exact Or.inl e
  ·rcases hg.which b e with e2 | e2
   ·exact Or.inl (hv b e2)
   ·exact Or.inr e2⟩
theorem FrV.ev {w w1:World}{g B:Nat}{V:Zd6}{v':Value}(hg:Zbm w w1 B V.ev v'):FrV w (w1.setCell ⟨g,19,none⟩ v') g V { V with ev:=v' }:=
 FrV.row hg (fun b h=>Or.inr (Or.inr (Or.inl h))) (fun b hm=>by unfold Zrf at *;simp only at hm;rcases hm with h | h | h | h | h | h | h <;> simp [h])
theorem FrV.br {w w1:World}{g B:Nat}{V:Zd6}{v':Value}(hg:Zbm w w1 B V.br v'):FrV w (w1.setCell ⟨g,20,none⟩ v') g V { V with br:=v' }:=
 FrV.row hg (fun b h=>Or.inr (Or.inr (Or.inr (Or.inl h)))) (fun b hm=>by unfold Zrf at *;simp only at hm;rcases hm with h | h | h | h | h | h | h <;> simp [h])
theorem FrV.ad {w w1:World}{g B:Nat}{V:Zd6}{v':Value}(hg:Zbm w w1 B V.ad v'):FrV w (w1.setCell ⟨g,21,none⟩ v') g V { V with ad:=v' }:=
 FrV.row hg (fun b h=>Or.inr (Or.inr (Or.inr (Or.inr (Or.inl h))))) (fun b hm=>by unfold Zrf at *;simp only at hm;rcases hm with h | h | h | h | h | h | h <;> simp [h])
theorem FrV.da {w w1:World}{g B:Nat}{V:Zd6}{v':Value}(hg:Zbm w w1 B V.da v'):FrV w (w1.setCell ⟨g,22,none⟩ v') g V { V with da:=v' }:=
 FrV.row hg (fun b h=>Or.inr (Or.inr (Or.inr (Or.inr (Or.inr (Or.inl h)))))) (fun b hm=>by unfold Zrf at *;simp only at hm;rcases hm with h | h | h | h | h | h | h <;> simp [h])
theorem FrV.hgg {w w1:World}{g B:Nat}{V:Zd6}{v':Value}(hg:Zbm w w1 B V.hg v'):FrV w (w1.setCell ⟨g,23,none⟩ v') g V { V with hg:=v' }:=
 FrV.row hg (fun b h=>Or.inr (Or.inr (Or.inr (Or.inr (Or.inr (Or.inr h)))))) (fun b hm=>by unfold Zrf at *;simp only at hm;rcases hm with h | h | h | h | h | h | h <;> simp [h])
theorem FrV.reg {w w':World}{g:Nat}{V:Zd6}(h:FrV w w' g V V){q:Nat}(hq:V.rg.ownBlock=some q)(o:Nat)(u:Value):FrV w (w'.setCell ⟨q,o,none⟩ u) g V V:=
 ⟨by simpa [World.setCell] using h.size,fun b hb hn=>(Below.heap_setCell w' _ u b (fun e=>hn (Or.inr (Or.inl (by rw [hq,e]))))).trans (h.keep b hb hn),h.which⟩
theorem Za0.mine {w:World}{B g:Nat}{S:Zgk}{r:Rn}{V:Zd6}(h:Za0 w B g S r V){b:Nat}(hm:Zrf g V b):b<w.heap.size/\B<=b:=by
 rcases hm with rfl | e | e | e | e | e | e
 ·exact⟨h.blk.lt,h.hg⟩
 ·obtain⟨q,hv,hq,hB⟩:=h.regs;rw [hv] at e;have:q=b:=by simpa [Value.ownBlock] using e
  exact this ▸ ⟨hq.lt,hB⟩
 ·exact⟨Zfh h.evs e,(Zg1 h.evs e).choose_spec.2⟩
 ·exact⟨Zfh h.bars e,(Zg1 h.bars e).choose_spec.2⟩
 ·exact⟨Zfh h.addr e,(Zg1 h.addr e).choose_spec.2⟩
 ·exact⟨Zfh h.data e,(Zg1 h.data e).choose_spec.2⟩
 ·exact⟨Zfh h.hang e,(Zg1 h.hang e).choose_spec.2⟩
theorem Blk.frv {w w':World}{g c:Nat}{V V':Zd6}{t:TypeId}{cs:Array Value}(h:Blk w c t cs)(hf:FrV w w' g V V')(hn:¬ Zrf g V c):Blk w' c t cs:=(hf.keep c h.lt hn).trans h
def Z3j (L:List Nm)(x:Nm):Nat->ByteArray:=fun t=>⟨((L[t]?).getD x).toArray⟩
theorem Zw8 {L:List Nm}(h:Zj0 L){i j:Nat}{a b:Nm}(hi:L[i]?=some a)(hj:L[j]?=some b)(hij:i<j):ltN a b=true:=by
 obtain⟨h1,rfl⟩:=List.getElem?_eq_some_iff.1 hi;obtain⟨h2,rfl⟩:=List.getElem?_eq_some_iff.1 hj;exact List.pairwise_iff_getElem.1 h i j h1 h2 hij
theorem Zvn {L:List Nm}{x:Nm}(h:x∈L):L[L.idxOf x]?=some x:=by
 have h1:=List.idxOf_lt_length_of_mem h;rw [List.getElem?_eq_getElem h1,List.getElem_idxOf]
theorem Z4o {L:List Nm}{x:Nm}(hs:Zj0 L)(hx:x∈L):Lib.bsGo (fun t=>Op.bytesLess (Z3j L x t).toList (⟨x.toArray⟩:ByteArray).toList) L.length 0 L.length=L.idxOf x:=by
 have hk:=List.idxOf_lt_length_of_mem hx;have hat:=Zvn hx;refine Lib.bsGo_spec _ _ (fun t ht=>?_) (fun t ht=>?_) _ _ _ ω ω ω
 ·rw [Zjx,Zc8];have h1:=List.getElem?_eq_getElem (show t<L.length by omega);unfold Z3j;rw [Zjx,h1];exact Zw8 hs h1 hat ht
 ·rw [Zjx,Zc8];unfold Z3j;rw [Zjx];cases h1:L[t]? with
  | none=>exact Zga x
  | some y=>
   show ltN y x=false;rcases Nat.lt_or_eq_of_le ht with h | h
   ·exact Zjw (Zw8 hs hat h1 h)
   ·rw [<- h,hat] at h1;cases h1
    exact Zga x
theorem Zq6 (A:Option Addr)(cap:Nat)(L:List Nm)(x:Nm)(w:World)(h:Zcy.At w A L)(hl:L.length<=1000000)(hs:Zj0 L)(hx:x∈L) :
  Calls Tryz.prog 13 #[.slice A L.length cap,.string ⟨x.toArray⟩] w fun e w'=>e=.returned (.tuple #[.int .i64 ((L.idxOf x:Nat):Int),.bool true])/\∃ q,w'=w.drewN q:=by
 obtain⟨b,o,rfl,_⟩:=h _ _ (Zvn hx);have hb:=Z4o hs hx;have hk:=List.idxOf_lt_length_of_mem hx;refine (Any2.slices_BinarySearch_string Tryz.searchS b o L.length cap (Z3j L x) ⟨x.toArray⟩ w ω (fun j hj=>?_)).mono ?_
 ·have h1:=List.getElem?_eq_getElem hj;obtain⟨b',o',e,hc⟩:=Z4p h h1;simp only [Option.some.injEq,Addr.mk.injEq,and_true] at e;obtain⟨rfl,rfl⟩:=e;rw [hc];unfold Z3j;rw [h1];rfl
 ·rintro e w' ⟨he,hq⟩;refine⟨?_,hq⟩;rw [he,hb];have hsx:Z3j L x (L.idxOf x)=⟨x.toArray⟩:=by
   unfold Z3j;rw [Zvn hx];rfl
  rw [hsx];simp [hk]
end Go.Proofs.YtdfmcfppoohckaaGreatDoor
