/- Layer 10: whether a RISC-V instruction may be: plain; two instructions compared. -/
import Derived.Test.YtoegmdnfbemppaaGreatDoorTf12
import Derived.Test.YtoegmdnfbemppaaGreatDoorTf13

namespace Go.Proofs.YtoegmdnfbemppaaGreatDoor
open Go.RowKit
theorem Blk.cm{w:World}{b:Nat}{t:TypeId}{cs:Array Value}(h:Blk w b t cs)(i:Nat){v:Value}{l:List Value}(hv:cs.toList.drop i=v::l:=by rfl):w.cell? ⟨b,i,none⟩=some v:=by
 rw [h.cell,<-Array.getElem?_toList,<-List.head?_drop,hv]
 rfl
def Zcb (op d a b imm:Int)(loc label:ByteArray)(fence:Int):Bool:=
 (loc.toList.isEmpty)&&
  (if op=6 then label.toList.isEmpty&&Zeg 32 d&&Zeg 32 a&&(b == 0)&&(imm == 0)&&(fence == 0)
   else if op=7 then label.toList.isEmpty&&(d == 0)&&Zeg 32 a&&Zeg 32 b&&(imm == 0)&&(fence == 0)
   else if op=8 then label.toList.isEmpty&&Zeg 32 d&&Zeg 32 a&&(b == 0)&&(decide (-2048<=imm)&&decide (imm<=2047))&&(fence == 0)
   else if op=9\/op=10 then label.toList.isEmpty&&Zeg 32 d&&Zeg 32 a&&Zeg 32 b&&(imm == 0)&&(fence == 0)
   else if op=11 then Zbb label.data.toList&&(d == 0)&&Zeg 32 a&&Zeg 32 b&&(imm == 0)&&(fence == 0)
   else if op=12 then Zbb label.data.toList&&(d == 0)&&(a == 0)&&(b == 0)&&(imm == 0)&&(fence == 0)
   else if op=13 then label.toList.isEmpty&&(d == 0)&&(a == 0)&&(b == 0)&&(imm == 0)&&(decide (2<=fence)&&decide (fence<=11))
   else false)
def Zfn (d a b imm:Int)(loc label:ByteArray)(fence:Int)(d' a' b' imm':Int)(loc' label':ByteArray)(fence':Int):Bool:=
 d == d'&&(a == a'&&(b == b'&&(imm == imm'&&(loc.toList == loc'.toList&&(label.toList == label'.toList&&fence == fence')))))
theorem Znz:Tryz.prog.underlying 77=some (.struct (Tryz.prog.fieldsOf 77)):=by kernel_rfl
theorem Zcd:Tryz.prog.eqGuardType Tryz.prog.depth 77=false:=by kernel_rfl
theorem Zfh (op d a b imm:Int)(loc label:ByteArray)(fence:Int)(d' a' b' imm':Int)(loc' label':ByteArray)(fence':Int)(w:World) :
  (binOp .neq 77 (Zcf op d a b imm loc label fence) (Zcf op d' a' b' imm' loc' label' fence')).run Tryz.prog w=.ok (.bool (!Zfn d a b imm loc label fence d' a' b' imm' loc' label' fence')) w:=by
 have hp:Tryz.prog.stoodInHeld 77=false:=by kernel_rfl
 have u3:=Tryz.underlying3
 have a3:=Tryz.isAgg3
 have z3:=Tryz.sizeOf3
 have u9:=Tryz.underlying9
 have a9:=Tryz.isAgg9
 have z9:=Tryz.sizeOf9
 rw [run_neq_struct,show (10000:Nat)=9999+1 from rfl,run_equalIn_agg w 9999 77 _ _ Znz hp]
 simp only [Program.fieldsOf,Tryz.underlying77]
 go_simp
 unfold Zfn
 by_cases h1:d=d'
 rotate_left
 ·simp [h1]
 by_cases h2:a=a'
 rotate_left
 ·simp [h1,h2]
 by_cases h3:b=b'
 rotate_left
 ·simp [h1,h2,h3]
 by_cases h4:imm=imm'
 rotate_left
 ·simp [h1,h2,h3,h4]
 by_cases h5:loc.toList=loc'.toList
 rotate_left
 ·simp [h1,h2,h3,h4,h5]
 by_cases h6:label.toList=label'.toList
 rotate_left
 ·simp [h1,h2,h3,h4,h5,h6]
 by_cases h7:fence=fence' <;> simp [h1,h2,h3,h4,h5,h6,h7]
theorem Zf8 (a b:Int):(a == b)=(b == a):=by rw [Bool.eq_iff_iff];simp;exact eq_comm
theorem Zkn (a b:List UInt8):(a == b)=(b == a):=by rw [Bool.eq_iff_iff];simp;exact eq_comm
theorem Zdz (d a b imm:Int)(loc label:ByteArray)(fence:Int)(d' a' b' imm':Int)(loc' label':ByteArray)(fence':Int):Zfn d a b imm loc label fence d' a' b' imm' loc' label' fence'=Zfn d' a' b' imm' loc' label' fence' d a b imm loc label fence:=by
 unfold Zfn
 rw [Zf8 d,Zf8 a,Zf8 b,Zf8 imm,Zkn loc.toList,Zkn label.toList,Zf8 fence]
theorem Zbr (n:Int):Zeg 32 n=true\/Zeg 32 n=false:=by cases Zeg 32 n <;> simp
def Zb9 (ok q:Bool)(d a b:Int):Bool:=ok&&(q&&(Zeg 32 d&&(Zeg 32 a&&Zeg 32 b)))
section
variable (d a b imm:Int) (loc label:ByteArray) (fence:Int)
theorem Zus:Zb9 true (Zfn d a 0 0 ⟨#[]⟩ ⟨#[]⟩ 0 d a b imm loc label fence) d a b=Zcb 6 d a b imm loc label fence:=by
 rw [Bool.eq_iff_iff]
 simp [Zb9,Zfn,Zcb,Zeg]
 by_cases p:loc.toList=[] <;> by_cases r:label.toList=[] <;> by_cases n:Zbb label.data.toList=true <;> simp [p,r] <;> omega
theorem Zto:Zb9 true (Zfn 0 a b 0 ⟨#[]⟩ ⟨#[]⟩ 0 d a b imm loc label fence) d a b=Zcb 7 d a b imm loc label fence:=by
 rw [Bool.eq_iff_iff]
 simp [Zb9,Zfn,Zcb,Zeg]
 by_cases p:loc.toList=[] <;> by_cases r:label.toList=[] <;> by_cases n:Zbb label.data.toList=true <;> simp [p,r] <;> omega
theorem Zua:Zb9 (decide (-2048<=imm)&&decide (imm<=2047)) (Zfn d a 0 imm ⟨#[]⟩ ⟨#[]⟩ 0 d a b imm loc label fence) d a b=Zcb 8 d a b imm loc label fence:=by
 rw [Bool.eq_iff_iff]
 simp [Zb9,Zfn,Zcb,Zeg]
 by_cases p:loc.toList=[] <;> by_cases r:label.toList=[] <;> by_cases n:Zbb label.data.toList=true <;> simp [p,r] <;> omega
theorem Zwc:Zb9 true (Zfn d a b 0 ⟨#[]⟩ ⟨#[]⟩ 0 d a b imm loc label fence) d a b=Zcb 9 d a b imm loc label fence:=by
 rw [Bool.eq_iff_iff]
 simp [Zb9,Zfn,Zcb,Zeg]
 by_cases p:loc.toList=[] <;> by_cases r:label.toList=[] <;> by_cases n:Zbb label.data.toList=true <;> simp [p,r] <;> omega
theorem Zrc:Zb9 true (Zfn d a b 0 ⟨#[]⟩ ⟨#[]⟩ 0 d a b imm loc label fence) d a b=Zcb 10 d a b imm loc label fence:=by
 rw [Bool.eq_iff_iff]
 simp [Zb9,Zfn,Zcb,Zeg]
 by_cases p:loc.toList=[] <;> by_cases r:label.toList=[] <;> by_cases n:Zbb label.data.toList=true <;> simp [p,r] <;> omega
theorem Zqw:Zb9 (Zbb label.data.toList) (Zfn 0 a b 0 ⟨#[]⟩ label 0 d a b imm loc label fence) d a b=Zcb 11 d a b imm loc label fence:=by
 rw [Bool.eq_iff_iff]
 simp [Zb9,Zfn,Zcb,Zeg]
 by_cases p:loc.toList=[] <;> by_cases r:label.toList=[] <;> by_cases n:Zbb label.data.toList=true <;> simp [p,n] <;> omega
theorem Zqz:Zb9 (Zbb label.data.toList) (Zfn 0 0 0 0 ⟨#[]⟩ label 0 d a b imm loc label fence) d a b=Zcb 12 d a b imm loc label fence:=by
 rw [Bool.eq_iff_iff]
 simp [Zb9,Zfn,Zcb,Zeg]
 by_cases p:loc.toList=[] <;> by_cases r:label.toList=[] <;> by_cases n:Zbb label.data.toList=true <;> simp [p,n] <;> omega
theorem Zrk:Zb9 (decide (2<=fence)&&decide (fence<=11)) (Zfn 0 0 0 0 ⟨#[]⟩ ⟨#[]⟩ fence d a b imm loc label fence) d a b=Zcb 13 d a b imm loc label fence:=by
 rw [Bool.eq_iff_iff]
 simp [Zb9,Zfn,Zcb,Zeg]
 by_cases p:loc.toList=[] <;> by_cases r:label.toList=[] <;> by_cases n:Zbb label.data.toList=true <;> simp [p,r] <;> omega
end
end Go.Proofs.YtoegmdnfbemppaaGreatDoor
namespace Go.Proofs.YtoegmdnfbemppaaGreatDoor
def fst? (p:Nat->Bool)(n:Nat):Option Nat:=(List.range n).find? p
theorem Zna {p:Nat->Bool}{n k:Nat}(hk:k<n)(h:p k=true)(hn:∀ j,j<k->p j=false):fst? p n=some k:=by
 unfold fst?
 rw [List.find?_eq_some_iff_append]
 refine⟨h,List.range k,(List.range' (k+1) (n - k - 1)),?_,?_⟩
 ·have h1:List.range n=List.range' 0 k++List.range' k (n - k):=by
   have:=@List.range'_append_1 0 k (n - k)
   rw [Nat.zero_add] at this
   rw [List.range_eq_range',this];congr 1;omega
  have h2:List.range' k (n - k)=k :: List.range' (k+1) (n - k - 1):=by
   rw [show n - k=(n - k - 1)+1 by omega,List.range'_succ];simp
  rw [h1,h2,<- List.range_eq_range']
 ·intro j hj
  simp at hj
  simp [hn j hj]
theorem Zjn {p:Nat->Bool}{n:Nat}(hn:∀ j,j<n->p j=false):fst? p n=none:=by
 unfold fst?
 rw [List.find?_eq_none]
 intro x hx
 simp at hx
 simp [hn x hx]
theorem Zga {p:Nat->Bool}{n:Nat}(h:fst? p n=none):∀ j,j<n->p j=false:=by
 unfold fst? at h
 rw [List.find?_eq_none] at h
 intro j hj
 have:=h j (by simp [hj])
 simpa using this
def Zcl (s:List UInt8)(x:Ins):Bool:=x.op == 12&&x.label == s
def Zkx (x:Ins):Bool:=Zcb x.op x.d x.a x.b x.imm ⟨x.loc.toArray⟩ ⟨x.label.toArray⟩ x.fence
def Zub (c:List Ins)(k:Nat):Bool:=match c[k]? with
 | some x=>!Zkx x
 | none=>false
def Zj0 (c:List Ins)(k:Nat):Bool:=match c[k]? with
 | some x=>(x.op == 12&&(c.take k).any (Zcl x.label))||(x.op == 11&&!(c.drop (k+1)).any (Zcl x.label))
 | none=>false
def Zqf (c:List Ins)(k:Nat):Int:=match c[k]? with
 | some x=>if x.op == 11 then ((k+1+(c.drop (k+1)).findIdx (Zcl x.label):Nat):Int) else -1
 | none=>-1
def Zfc (c:List Ins):Int×Nat:=
 if 256<c.length then (2,0)
 else match fst? (Zub c) c.length with
  | some k=>(91,k)
  | none=>match fst? (Zj0 c) c.length with
   | some k=>(93,k)
   | none=>(0,0)
def Znh (c:List Ins):List Int:=if (Zfc c).1=0 then (List.range c.length).map (Zqf c) else []
theorem Zrw {c:List Ins}{k:Nat}(h:c.length<=256)(hk:k<c.length)(h1:Zub c k=true)(hn:∀ j,j<k->Zub c j=false):Zfc c=(91,k):=by
 unfold Zfc
 rw [if_neg (by omega),Zna hk h1 hn]
theorem Zgl {c:List Ins}{k:Nat}(h:c.length<=256)(hk:k<c.length)(hc:∀ j,j<c.length->Zub c j=false)(h1:Zj0 c k=true)(hn:∀ j,j<k->Zj0 c j=false):Zfc c=(93,k):=by
 unfold Zfc
 rw [if_neg (by omega),Zjn hc]
 simp only []
 rw [Zna hk h1 hn]
theorem Zvh {c:List Ins}(h:c.length<=256)(hc:∀ j,j<c.length->Zub c j=false)(hl:∀ j,j<c.length->Zj0 c j=false):Zfc c=(0,0):=by
 unfold Zfc
 rw [if_neg (by omega),Zjn hc]
 simp only []
 rw [Zjn hl]
theorem Zmo {c:List Ins}{k:Nat}{x:Ins}(h:c[k]?=some x):Zub c k=!Zkx x:=by simp [Zub,h]
theorem Zdf {c:List Ins}{k:Nat}{x:Ins}(h:c[k]?=some x):Zj0 c k=((x.op == 12&&(c.take k).any (Zcl x.label))||(x.op == 11&&!(c.drop (k+1)).any (Zcl x.label))):=by simp [Zj0,h]
end Go.Proofs.YtoegmdnfbemppaaGreatDoor
namespace Go.Proofs.YtoegmdnfbemppaaGreatDoor
open Go.RowKit
inductive Zd6 where
 | num (n:Int)
 | adr (s:Nm)
 | rd (i:Nat)
 | non
structure Rg where
 h:Zd6
 on:Nat
structure Evt where
 th:Int
 pl:Int
 dr:Int
 lc:Int
 vl:Int
 rg:Int
structure Br where
 th:Int
 pl:Int
 fe:Int
structure Rn where
 regs:List Rg
 ctrl:Nat
 evs:List Evt
 bars:List Br
 addr:List (Int×Int)
 data:List (Int×Int)
 hang:List (Int×Int)
 full:Bool
structure Cx where
 th:Nat
 risc:Bool
 ahead:Nat
 locs:List Nm
def rgA (r:Rn)(a:Int):Rg:=(r.regs[a.toNat]?).getD ⟨.non,0⟩
def Zdj (n:Int):Prop:=-2147483648<=n/\n<=2147483647
def opN (op x y:Int):Int:=if op=8 then bits .or .i64 x y else if op=9 then bits .xor .i64 x y else IntKind.i32.wrap (x+y)
def Zcs (op:Int):Zd6->Zd6->Zd6
 | .num x,.num y=>.num (opN op x y)
 | .num x,b=>if x=0 then b else .non
 | a,.num y=>if y=0 then a else .non
 | _,_=>.non
def Zby:Zd6->Bool
 | .num _=>false
 | .adr _=>false
 | _=>true
def Zak:Zd6->Zd6->Bool
 | .num x,.num y=>decide (x≠y)
 | .adr x,.adr y=>decide (x≠y)
 | _,_=>true
def Zss (C:Cx)(pl:Nat)(dr:Int)(loc:Nm)(vl rg:Int):Evt:=⟨C.th,pl,dr,(C.locs.idxOf loc:Nat),vl,rg⟩
def Zi8 (C:Cx)(r:Rn)(pl:Nat)(dr:Int)(loc:Nm)(vl rg:Int)(on:Nat):Rn:=
 if 64<=C.ahead+r.evs.length then { r with full:=true }
 else { r with evs:=r.evs++[Zss C pl dr loc vl rg],addr:=r.addr++Zbl on r.evs.length 64,hang:=r.hang++Zbl r.ctrl r.evs.length 64 }
def Zgr (C:Cx)(r:Rn)(d:Int)(x:Rg):Rn:=if C.risc=true/\d=0 then r else { r with regs:=r.regs.set d.toNat x }
def Zi9 (r:Rn)(on i:Nat):Rn:=if r.full then r else { r with data:=r.data++Zbl on i 64 }
def Zcr (C:Cx)(r:Rn)(pl:Nat)(loc:Nm)(on:Nat)(x:Rg):Option Rn:=match x.h with
 | .num n=>some (Zi9 (Zi8 C r pl 2 loc n 0 on) x.on r.evs.length)
 | _=>none
def Zfa (C:Cx)(r:Rn)(pl:Nat)(loc:Nm)(on:Nat)(d:Int):Rn:=
 if (Zi8 C r pl 1 loc 0 d on).full then Zi8 C r pl 1 loc 0 d on else Zgr C (Zi8 C r pl 1 loc 0 d on) d ⟨.rd r.evs.length,2 ^ r.evs.length⟩
def Zff (C:Cx)(r:Rn)(x:Ins):Rn:=
 let b:=if x.op=8 then ⟨.num x.imm,0⟩ else rgA r x.b
 Zgr C r x.d ⟨if x.op=9/\x.a=x.b then .num 0 else Zcs x.op (rgA r x.a).h b.h,(rgA r x.a).on|||b.on⟩
def Zi6 (C:Cx)(r:Rn)(pl:Nat)(x:Ins):Option Rn:=match (rgA r x.a).h with
 | .adr s=>if x.op=7 then Zcr C r pl s (rgA r x.a).on (rgA r x.b) else some (Zfa C r pl s (rgA r x.a).on x.d)
 | _=>none
def Zhc (c:List Ins)(k:Nat)(x:Ins):Nat:=k+1+(c.drop (k+1)).findIdx (Zcl x.label)
def brL (r:Rn)(c:List Ins)(k:Nat)(x:Ins):Option (Rn×Nat):=
 let r1:={ r with ctrl:=r.ctrl|||(rgA r x.a).on|||(rgA r x.b).on }
 if Zby (rgA r x.a).h||Zby (rgA r x.b).h then
  (if ((c.take (Zhc c k x)).drop (k+1)).any (fun y=>decide (y.op≠12)) then none else some (r1,k+1))
 else some (r1,if Zak (rgA r x.a).h (rgA r x.b).h then Zhc c k x else k+1)
def Z10 (C:Cx)(r:Rn)(pl:Nat)(fe:Int):Rn:={ r with bars:=r.bars++[⟨C.th,pl,fe⟩] }
def Zbk (C:Cx)(r:Rn)(c:List Ins)(k:Nat)(x:Ins):Option (Rn×Nat):=
 if x.op=1 then (Zcr C r k x.loc 0 ⟨.num x.imm,0⟩).map (·,k+1)
 else if x.op=2 then (Zcr C r k x.loc 0 (rgA r x.a)).map (·,k+1)
 else if x.op=3 then some (Zfa C r k x.loc 0 x.d,k+1)
 else if x.op=4 then some (Zgr C r x.d ⟨.num x.imm,0⟩,k+1)
 else if x.op=5 then some (Z10 C r k 1,k+1)
 else if x.op=13 then some (Z10 C r k x.fence,k+1)
 else if x.op=6\/x.op=7 then (Zi6 C r k x).map (·,k+1)
 else if x.op=8\/x.op=9\/x.op=10 then some (Zff C r x,k+1)
 else if x.op=11 then brL r c k x
 else some (r,k+1)
def Zym (C:Cx)(c:List Ins):Nat->Nat->Rn->Option Rn
 | 0,_,r=>some r
 | f+1,k,r=>match c[k]? with
  | none=>some r
  | some x=>if r.full then some r else (Zbk C r c k x).bind fun p=>Zym C c f p.2 p.1
theorem Zz8 {r:Rn}{c:List Ins}{k:Nat}{x:Ins}{p:Rn×Nat}(h:brL r c k x=some p):k<p.2:=by
 unfold brL at h
 simp only [] at h
 split at h
 ·split at h
  ·cases h
  ·simp only [Option.some.injEq] at h;subst h;simp
 ·simp only [Option.some.injEq] at h;subst h
  have h1:k<Zhc c k x:=by unfold Zhc;omega
  have h2:k<k+1:=Nat.lt_succ_self k
  cases Zak (rgA r x.a).h (rgA r x.b).h
  ·exact h2
  ·exact h1
theorem Zjd {C:Cx}{r:Rn}{c:List Ins}{k:Nat}{x:Ins}{p:Rn×Nat}(h:Zbk C r c k x=some p):k<p.2:=by
 unfold Zbk at h
 split at h
 ·obtain⟨a,_,rfl⟩:=Option.map_eq_some_iff.1 h;simp
 split at h
 ·obtain⟨a,_,rfl⟩:=Option.map_eq_some_iff.1 h;simp
 split at h
 ·simp only [Option.some.injEq] at h;subst h;simp
 split at h
 ·simp only [Option.some.injEq] at h;subst h;simp
 split at h
 ·simp only [Option.some.injEq] at h;subst h;simp
 split at h
 ·simp only [Option.some.injEq] at h;subst h;simp
 split at h
 ·obtain⟨a,_,rfl⟩:=Option.map_eq_some_iff.1 h;simp
 split at h
 ·simp only [Option.some.injEq] at h;subst h;simp
 split at h
 ·exact Zz8 h
 ·simp only [Option.some.injEq] at h;subst h;simp
theorem Zol (C:Cx)(c:List Ins):∀ (f:Nat) (k:Nat) (r:Rn) (g:Nat),c.length - k<=f->c.length - k<=g->Zym C c f k r=Zym C c g k r
 | 0,k,r,g,h1,h2=>by
  cases g with
  | zero=>rfl
  | succ g=>
   unfold Zym
   rw [List.getElem?_eq_none (by omega)]
 | f+1,k,r,g,h1,h2=>by
  cases g with
  | zero=>
   unfold Zym
   rw [List.getElem?_eq_none (by omega)]
  | succ g=>
   unfold Zym
   cases hx:c[k]? with
   | none=>rfl
   | some x=>
    simp only []
    split
    ·rfl
    ·cases hs:Zbk C r c k x with
     | none=>rfl
     | some p=>
      have hp:=Zjd hs
      have hk:=(List.getElem?_eq_some_iff.1 hx).1
      exact Zol C c f p.2 p.1 g (by omega) (by omega)
def goL (C:Cx)(c:List Ins)(k:Nat)(r:Rn):Option Rn:=Zym C c (c.length - k) k r
theorem Zkc {C:Cx}{c:List Ins}{k:Nat}{r:Rn}(h:c.length<=k):goL C c k r=some r:=by
 unfold goL
 rw [Nat.sub_eq_zero_of_le h];rfl
theorem Zji {C:Cx}{c:List Ins}{k:Nat}{r:Rn}(h:r.full=true):goL C c k r=some r:=by
 unfold goL
 cases c.length - k with
 | zero=>rfl
 | succ f=>
  unfold Zym
  cases c[k]? with
  | none=>rfl
  | some x=>simp [h]
theorem Zro {C:Cx}{c:List Ins}{k:Nat}{r:Rn}{x:Ins}(hx:c[k]?=some x)(hf:r.full=false):goL C c k r=(Zbk C r c k x).bind fun p=>goL C c p.2 p.1:=by
 have hk:=(List.getElem?_eq_some_iff.1 hx).1
 unfold goL
 rw [show c.length - k=(c.length - k - 1)+1 by omega]
 conv=>lhs;unfold Zym
 rw [hx]
 simp only [hf,Bool.false_eq_true,if_false]
 cases hs:Zbk C r c k x with
 | none=>rfl
 | some p=>
  have hp:=Zjd hs
  exact Zol C c _ p.2 p.1 _ (by omega) (Nat.le_refl _)
theorem Zjm {C:Cx}{c:List Ins}{k:Nat}{r:Rn}{x:Ins}(hx:c[k]?=some x)(hf:r.full=false)(h:Zbk C r c k x=none):goL C c k r=none:=by rw [Zro hx hf,h];rfl
theorem Zje {C:Cx}{c:List Ins}{k:Nat}{r:Rn}{x:Ins}{p:Rn×Nat}(hx:c[k]?=some x)(hf:r.full=false)(h:Zbk C r c k x=some p):goL C c k r=goL C c p.2 p.1:=by rw [Zro hx hf,h];rfl
structure Zp7 (C:Cx) (nr:Nat) (c:List Ins) (k:Nat) (x:Ins):Prop where
 op:1<=x.op/\x.op<=13
 d:0<=x.d/\x.d<nr
 a:0<=x.a/\x.a<nr
 b:0<=x.b/\x.b<nr
 imm:Zdj x.imm
 loc:x.op<=3->x.loc∈C.locs
 fen:x.op=13->2<=x.fence/\x.fence<=11
 lab:x.op=11->Zhc c k x<c.length
def Zs9 (evs:List Evt)(i:Nat):Prop:=∃ e,evs[i]?=some e/\e.dr=1
def Z3o (evs:List Evt)(i:Nat):Prop:=∃ e,evs[i]?=some e/\e.dr=2
def Rds (evs:List Evt)(a:Nat):Prop:=∀ j,a.testBit j=true->Zs9 evs j
theorem Zs9.lt {evs:List Evt}{i:Nat}(h:Zs9 evs i):i<evs.length:=by
 obtain⟨e,h,_⟩:=h
 exact (List.getElem?_eq_some_iff.1 h).1
theorem Zs9.app {evs:List Evt}{i:Nat}(h:Zs9 evs i)(l:List Evt):Zs9 (evs++l) i:=by
 obtain⟨e,h1,h2⟩:=h
 exact⟨e,by rw [List.getElem?_append_left (List.getElem?_eq_some_iff.1 h1).1];exact h1,h2⟩
theorem Z3o.app {evs:List Evt}{i:Nat}(h:Z3o evs i)(l:List Evt):Z3o (evs++l) i:=by
 obtain⟨e,h1,h2⟩:=h
 exact⟨e,by rw [List.getElem?_append_left (List.getElem?_eq_some_iff.1 h1).1];exact h1,h2⟩
theorem Rds.app {evs:List Evt}{a:Nat}(h:Rds evs a)(l:List Evt):Rds (evs++l) a:=fun j hj=>(h j hj).app l
theorem Rds.zero (evs:List Evt):Rds evs 0:=fun j hj=>by simp at hj
theorem Rds.or {evs:List Evt}{a b:Nat}(h:Rds evs a)(k:Rds evs b):Rds evs (a|||b):=fun j hj=>by
 rw [Nat.testBit_or,Bool.or_eq_true] at hj
 exact hj.elim (h j) (k j)
theorem Rds.lt {evs:List Evt}{a:Nat}(h:Rds evs a):a<2 ^ evs.length:=by
 apply Nat.lt_pow_two_of_testBit
 intro i hi
 cases hb:a.testBit i with
 | false=>rfl
 | true=>have:=(h i hb).lt;omega
theorem Rds.lt64 {evs:List Evt}{a:Nat}(h:Rds evs a)(hl:evs.length<=64):a<18446744073709551616:=by
 have:=Nat.lt_of_lt_of_le h.lt (Nat.pow_le_pow_right (show 0<2 by omega) hl)
 simpa using this
theorem Rds.one {evs:List Evt}{i:Nat}(h:Zs9 evs i):Rds evs (2 ^ i):=fun j hj=>by
 rw [Nat.testBit_two_pow] at hj
 have:i=j:=by simpa using hj
 exact this ▸ h
def Zgw (C:Cx)(evs:List Evt):Zd6->Prop
 | .num v=>Zdj v
 | .adr s=>s∈C.locs
 | .rd i=>Zs9 evs i
 | .non=>True
def Zid (C:Cx)(evs:List Evt)(x:Rg):Prop:=Zgw C evs x.h/\Rds evs x.on
theorem Zgw.app {C:Cx}{evs:List Evt}{h:Zd6}(k:Zgw C evs h)(l:List Evt):Zgw C (evs++l) h:=by
 cases h with
 | num v=>exact k
 | adr s=>exact k
 | rd i=>exact Zs9.app k l
 | non=>exact k
theorem Zid.app {C:Cx}{evs:List Evt}{x:Rg}(h:Zid C evs x)(l:List Evt):Zid C (evs++l) x:=⟨h.1.app l,h.2.app l⟩
def Z24 (p q:Int×Int):Prop:=p.2<q.2\/(p.2=q.2/\p.1<q.1)
structure Zfk (evs:List Evt) (n:Nat) (l:List (Int×Int)):Prop where
 ord:l.Pairwise Z24
 at_:∀ p∈l,∃ i j:Nat,p=((i:Int),(j:Int))/\i<j/\Zs9 evs i/\j<n
 len:l.length<=64*n
theorem Zof {a k:Nat}{p:Int}(h:p∈Zdd a k):∃ i:Nat,p=(i:Int)/\a.testBit i=true/\i<k:=by
 unfold Zdd at h
 obtain⟨i,hi,rfl⟩:=List.mem_map.1 h
 rw [List.mem_filter,List.mem_range] at hi
 exact⟨i,rfl,hi.2,hi.1⟩
theorem Zl7 (a:Nat):∀ k,(Zdd a k).Pairwise (fun x y=>x<y)
 | 0=>by simp [Zdd]
 | k+1=>by
  rw [Zc9]
  split
  ·rw [List.pairwise_append]
   refine⟨Zl7 a k,by simp,fun x hx y hy=>?_⟩
   obtain⟨i,rfl,_,hi⟩:=Zof hx
   simp at hy
   subst hy
   exact Int.ofNat_lt.2 hi
  ·exact Zl7 a k
theorem Zqb (i k:Nat):Zbl 0 i k=[]:=by simp [Zbl,Zdd]
theorem Zk5 (a i k:Nat):(Zbl a i k).length<=k:=by
 unfold Zbl
 rw [List.length_map]
 exact Zjt a k
theorem Zfk.add {evs:List Evt}{n:Nat}{l:List (Int×Int)}{a:Nat}(h:Zfk evs n l)(hn:evs.length=n)(ha:Rds evs a)(e:Evt):Zfk (evs++[e]) (n+1) (l++Zbl a n 64):=by
 refine⟨?_,?_,?_⟩
 ·rw [List.pairwise_append]
  refine⟨h.ord,?_,fun p hp q hq=>?_⟩
  ·unfold Zbl
   rw [List.pairwise_map]
   exact (Zl7 a 64).imp fun hxy=>Or.inr ⟨rfl,hxy⟩
  ·obtain⟨i,j,rfl,_,_,hj⟩:=h.at_ p hp
   unfold Zbl at hq
   obtain⟨x,_,rfl⟩:=List.mem_map.1 hq
   exact Or.inl (Int.ofNat_lt.2 hj)
 ·intro p hp
  rw [List.mem_append] at hp
  rcases hp with hp | hp
  ·obtain⟨i,j,rfl,h1,h2,h3⟩:=h.at_ p hp
   exact⟨i,j,rfl,h1,h2.app _,by omega⟩
  ·unfold Zbl at hp
   obtain⟨x,hx,rfl⟩:=List.mem_map.1 hp
   obtain⟨i,rfl,h1,_⟩:=Zof hx
   have h2:=ha i h1
   have:=h2.lt
   exact⟨i,n,rfl,by omega,h2.app _,by omega⟩
 ·have:=Zk5 a n 64
  have:=h.len
  rw [List.length_append];omega
theorem Zfk.app {evs:List Evt}{n:Nat}{l:List (Int×Int)}(h:Zfk evs n l)(e:Evt):Zfk (evs++[e]) (n+1) l:=
 ⟨h.ord,fun p hp=>by obtain⟨i,j,h0,h1,h2,h3⟩:=h.at_ p hp;exact⟨i,j,h0,h1,h2.app _,by omega⟩,by have:=h.len;omega⟩
structure Inv (C:Cx) (nr k:Nat) (r:Rn):Prop where
 regs:∀ x∈r.regs,Zid C r.evs x
 rlen:r.regs.length=nr
 ctrl:Rds r.evs r.ctrl
 room:C.ahead+r.evs.length<=64
 bars:r.bars.length<=k
 addr:Zfk r.evs r.evs.length r.addr
 data:Zfk r.evs r.evs.length r.data
 hang:Zfk r.evs r.evs.length r.hang
 dwr:∀ p∈r.data,∀ j:Nat,p.2=(j:Int)->Z3o r.evs j
theorem Inv.rg {C:Cx}{nr k:Nat}{r:Rn}(h:Inv C nr k r){a:Int}(h0:0<=a)(h1:a<nr):Zid C r.evs (rgA r a)/\r.regs[a.toNat]?=some (rgA r a):=by
 have hl:a.toNat<r.regs.length:=by rw [h.rlen];omega
 unfold rgA
 rw [List.getElem?_eq_getElem hl]
 exact⟨h.regs _ (List.getElem_mem hl),rfl⟩
theorem Inv.next {C:Cx}{nr k k':Nat}{r:Rn}(h:Inv C nr k r)(hk:k<=k'):Inv C nr k' r:=⟨h.regs,h.rlen,h.ctrl,h.room,Nat.le_trans h.bars hk,h.addr,h.data,h.hang,h.dwr⟩
theorem Inv.put {C:Cx}{nr k:Nat}{r:Rn}(h:Inv C nr k r){d:Int}{x:Rg}(hx:Zid C r.evs x):Inv C nr k (Zgr C r d x):=by
 unfold Zgr
 split
 ·exact h
 ·refine⟨fun y hy=>?_,by rw [List.length_set];exact h.rlen,h.ctrl,h.room,h.bars,h.addr,h.data,h.hang,h.dwr⟩
  rcases List.mem_or_eq_of_mem_set hy with hy | rfl
  ·exact h.regs y hy
  ·exact hx
theorem Zc2 {C:Cx}{r:Rn}{pl:Nat}{dr:Int}{loc:Nm}{vl rg:Int}{on:Nat}(h:64<=C.ahead+r.evs.length):Zi8 C r pl dr loc vl rg on={ r with full:=true }:=by unfold Zi8;rw [if_pos h]
theorem Zc3 {C:Cx}{r:Rn}{pl:Nat}{dr:Int}{loc:Nm}{vl rg:Int}{on:Nat}(h:¬ 64<=C.ahead+r.evs.length):Zi8 C r pl dr loc vl rg on={ r with evs:=r.evs++[Zss C pl dr loc vl rg],addr:=r.addr++Zbl on r.evs.length 64,hang:=r.hang++Zbl r.ctrl r.evs.length 64 }:=by unfold Zi8;rw [if_neg h]
theorem Inv.full {C:Cx}{nr k:Nat}{r:Rn}(h:Inv C nr k r):Inv C nr k { r with full:=true }:=⟨h.regs,h.rlen,h.ctrl,h.room,h.bars,h.addr,h.data,h.hang,h.dwr⟩
theorem Inv.evt {C:Cx}{nr k:Nat}{r:Rn}(h:Inv C nr k r){pl:Nat}{dr:Int}{loc:Nm}{vl rg:Int}{on:Nat}(hon:Rds r.evs on):Inv C nr k (Zi8 C r pl dr loc vl rg on):=by
 by_cases hr:64<=C.ahead+r.evs.length
 ·rw [Zc2 hr];exact h.full
 ·rw [Zc3 hr]
  exact {
      regs:=fun x hx=>(h.regs x hx).app _
      rlen:=h.rlen
      ctrl:=h.ctrl.app _
      room:=by show C.ahead+(r.evs++[_]).length<=64;rw [List.length_append,List.length_singleton];omega
      bars:=h.bars
      addr:=by show Zfk _ (r.evs++[_]).length _;rw [List.length_append,List.length_singleton];exact h.addr.add rfl hon _
      data:=by show Zfk _ (r.evs++[_]).length _;rw [List.length_append,List.length_singleton];exact h.data.app _
      hang:=by show Zfk _ (r.evs++[_]).length _;rw [List.length_append,List.length_singleton];exact h.hang.add rfl h.ctrl _
      dwr:=fun p hp j hj=>(h.dwr p hp j hj).app _ }
theorem Inv.read {C:Cx}{nr k:Nat}{r:Rn}(h:Inv C nr k r){pl:Nat}{loc:Nm}{on:Nat}{d:Int}(hon:Rds r.evs on):Inv C nr k (Zfa C r pl loc on d):=by
 unfold Zfa
 have h1:=h.evt (pl:=pl) (dr:=1) (loc:=loc) (vl:=0) (rg:=d) hon
 split
 ·exact h1
 ·rename_i hf
  refine h1.put ?_
  have hr:¬ 64<=C.ahead+r.evs.length:=fun hr=>hf (by rw [Zc2 hr])
  rw [Zc3 hr]
  have:Zs9 (r.evs++[Zss C pl 1 loc 0 d]) r.evs.length:=⟨_,by rw [List.getElem?_append_right (Nat.le_refl _)];simp;rfl,rfl⟩
  exact⟨this,Rds.one this⟩
theorem Inv.write {C:Cx}{nr k:Nat}{r r':Rn}(h:Inv C nr k r){pl:Nat}{loc:Nm}{on:Nat}{x:Rg}(hon:Rds r.evs on)(hx:Zid C r.evs x)(hw:Zcr C r pl loc on x=some r'):Inv C nr k r':=by
 unfold Zcr at hw
 cases hxh:x.h with
 | num n=>
  rw [hxh] at hw
  simp only [Option.some.injEq] at hw
  subst hw
  have h1:=h.evt (pl:=pl) (dr:=2) (loc:=loc) (vl:=n) (rg:=0) hon
  unfold Zi9
  split
  ·exact h1
  ·rename_i hf1
   have hr:¬ 64<=C.ahead+r.evs.length:=fun hr=>hf1 (by rw [Zc2 hr])
   rw [Zc3 hr] at h1 ⊢
   have hwr:Z3o (r.evs++[Zss C pl 2 loc n 0]) r.evs.length:=⟨_,by rw [List.getElem?_append_right (Nat.le_refl _)];simp;rfl,rfl⟩
   exact { h1 with
       data:=by show Zfk _ (r.evs++[_]).length _;rw [List.length_append,List.length_singleton];exact h.data.add rfl hx.2 _
       dwr:=fun p hp j hj=>by
        rcases List.mem_append.1 hp with hp | hp
        ·exact (h.dwr p hp j hj).app _
        ·unfold Zbl at hp
         obtain⟨q,_,rfl⟩:=List.mem_map.1 hp
         simp only [Int.ofNat_inj] at hj
         exact hj ▸ hwr }
 | adr s=>rw [hxh] at hw;cases hw
 | rd i=>rw [hxh] at hw;cases hw
 | non=>rw [hxh] at hw;cases hw
theorem Ziz (b:BitVec 64):IntKind.i64.wrap (b.toNat:Int)=b.toInt:=by
 unfold IntKind.wrap
 have:=b.isLt
 simp [IntKind.bits,IntKind.signed,BitVec.toInt]
 omega
theorem Zdb (b:BitVec 32):IntKind.i32.wrap (b.toNat:Int)=b.toInt:=by
 unfold IntKind.wrap
 have:=b.isLt
 simp [IntKind.bits,IntKind.signed,BitVec.toInt]
 omega
theorem Zj6 {x:Int}(h:Zdj x):(BitVec.ofInt 32 x).toInt=x:=by
 unfold Zdj at h
 rw [BitVec.toInt_ofInt]
 simp [Int.bmod]
 omega
theorem Zww {x:Int}(h:Zdj x):BitVec.ofInt 64 x=(BitVec.ofInt 32 x).signExtend 64:=by
 rw [BitVec.signExtend,Zj6 h]
theorem Z28 {x y:Int}(hx:Zdj x)(hy:Zdj y):bits .or .i64 x y=bits .or .i32 x y/\Zdj (bits .or .i32 x y):=by
 have e1:bits .or .i64 x y=(BitVec.ofInt 64 x|||BitVec.ofInt 64 y).toInt:=Ziz _
 have e2:bits .or .i32 x y=(BitVec.ofInt 32 x|||BitVec.ofInt 32 y).toInt:=Zdb _
 rw [e1,e2,Zww hx,Zww hy,<- BitVec.signExtend_or,BitVec.toInt_signExtend_of_le (by omega)]
 refine⟨rfl,?_⟩
 have:=(BitVec.ofInt 32 x|||BitVec.ofInt 32 y).toInt_lt
 have:=(BitVec.ofInt 32 x|||BitVec.ofInt 32 y).le_toInt
 unfold Zdj;simp at *;omega
theorem Zs2 {x y:Int}(hx:Zdj x)(hy:Zdj y):bits .xor .i64 x y=bits .xor .i32 x y/\Zdj (bits .xor .i32 x y):=by
 have e1:bits .xor .i64 x y=(BitVec.ofInt 64 x ^^^ BitVec.ofInt 64 y).toInt:=Ziz _
 have e2:bits .xor .i32 x y=(BitVec.ofInt 32 x ^^^ BitVec.ofInt 32 y).toInt:=Zdb _
 rw [e1,e2,Zww hx,Zww hy,<- BitVec.signExtend_xor,BitVec.toInt_signExtend_of_le (by omega)]
 refine⟨rfl,?_⟩
 have:=(BitVec.ofInt 32 x ^^^ BitVec.ofInt 32 y).toInt_lt
 have:=(BitVec.ofInt 32 x ^^^ BitVec.ofInt 32 y).le_toInt
 unfold Zdj;simp at *;omega
theorem wrap32 {x:Int}(h:Zdj x):IntKind.i32.wrap x=x:=by
 unfold Zdj at h
 unfold IntKind.wrap
 simp [IntKind.bits,IntKind.signed]
 omega
theorem Zn6 (x:Int):Zdj (IntKind.i32.wrap x):=by
 unfold Zdj IntKind.wrap
 simp [IntKind.bits,IntKind.signed]
 omega
theorem Zut {x:Int}(hx:Zdj x):bits .or .i64 x 0=x:=by
 have h0:Zdj 0:=by unfold Zdj;omega
 rw [(Z28 hx h0).1]
 have e2:bits .or .i32 x 0=(BitVec.ofInt 32 x|||BitVec.ofInt 32 0).toInt:=Zdb _
 rw [e2,show BitVec.ofInt 32 0=0#32 from rfl,BitVec.or_zero,Zj6 hx]
theorem Zvl {x:Int}(hx:Zdj x):bits .or .i64 0 x=x:=by
 have h0:Zdj 0:=by unfold Zdj;omega
 rw [(Z28 h0 hx).1]
 have e2:bits .or .i32 0 x=(BitVec.ofInt 32 0|||BitVec.ofInt 32 x).toInt:=Zdb _
 rw [e2,show BitVec.ofInt 32 0=0#32 from rfl,BitVec.zero_or,Zj6 hx]
theorem Zs5 {x:Int}(hx:Zdj x):bits .xor .i64 x 0=x:=by
 have h0:Zdj 0:=by unfold Zdj;omega
 rw [(Zs2 hx h0).1]
 have e2:bits .xor .i32 x 0=(BitVec.ofInt 32 x ^^^ BitVec.ofInt 32 0).toInt:=Zdb _
 rw [e2,show BitVec.ofInt 32 0=0#32 from rfl,BitVec.xor_zero,Zj6 hx]
theorem Zsk {x:Int}(hx:Zdj x):bits .xor .i64 0 x=x:=by
 have h0:Zdj 0:=by unfold Zdj;omega
 rw [(Zs2 h0 hx).1]
 have e2:bits .xor .i32 0 x=(BitVec.ofInt 32 0 ^^^ BitVec.ofInt 32 x).toInt:=Zdb _
 rw [e2,show BitVec.ofInt 32 0=0#32 from rfl,BitVec.zero_xor,Zj6 hx]
theorem Z38 {op x y:Int}(hx:Zdj x)(hy:Zdj y):Zdj (opN op x y):=by
 unfold opN
 split
 ·rw [(Z28 hx hy).1];exact (Z28 hx hy).2
 split
 ·rw [(Zs2 hx hy).1];exact (Zs2 hx hy).2
 ·exact Zn6 _
theorem Z1f {C:Cx}{evs:List Evt}{op:Int}:∀ {a b:Zd6},Zgw C evs a->Zgw C evs b->Zgw C evs (Zcs op a b)
 | .num x,.num y,ha,hb=>Z38 ha hb
 | .num x,.adr s,_,hb=>by unfold Zcs;simp only [];split;exact hb;trivial
 | .num x,.rd s,_,hb=>by unfold Zcs;simp only [];split;exact hb;trivial
 | .num x,.non,_,hb=>by unfold Zcs;simp only [];split;exact hb;trivial
 | .adr s,.num y,ha,_=>by unfold Zcs;simp only [];split;exact ha;trivial
 | .rd s,.num y,ha,_=>by unfold Zcs;simp only [];split;exact ha;trivial
 | .non,.num y,ha,_=>by unfold Zcs;simp only [];split;exact ha;trivial
 | .adr s,.adr _,_,_=>trivial
 | .adr s,.rd _,_,_=>trivial
 | .adr s,.non,_,_=>trivial
 | .rd s,.adr _,_,_=>trivial
 | .rd s,.rd _,_,_=>trivial
 | .rd s,.non,_,_=>trivial
 | .non,.adr _,_,_=>trivial
 | .non,.rd _,_,_=>trivial
 | .non,.non,_,_=>trivial
theorem Zj7:Zdj 0:=by unfold Zdj;omega
theorem Inv.reck {C:Cx}{nr k:Nat}{r:Rn}{c:List Ins}{x:Ins}(h:Inv C nr k r)(hx:Zp7 C nr c k x):Inv C nr k (Zff C r x):=by
 unfold Zff
 simp only []
 have ha:=(h.rg hx.a.1 hx.a.2).1
 have hb:Zid C r.evs (if x.op=8 then ⟨.num x.imm,0⟩ else rgA r x.b):=by
  split
  ·exact⟨hx.imm,Rds.zero _⟩
  ·exact (h.rg hx.b.1 hx.b.2).1
 refine h.put ⟨?_,ha.2.or hb.2⟩
 show Zgw C r.evs (if _ then _ else _)
 split
 ·exact Zj7
 ·exact Z1f ha.1 hb.1
theorem Inv.mem {C:Cx}{nr k:Nat}{r r':Rn}{c:List Ins}{x:Ins}(h:Inv C nr k r)(hx:Zp7 C nr c k x)(hm:Zi6 C r k x=some r'):Inv C nr k r':=by
 have ha:=(h.rg hx.a.1 hx.a.2).1
 unfold Zi6 at hm
 cases e:(rgA r x.a).h with
 | adr s=>
  rw [e] at hm
  simp only [] at hm
  split at hm
  ·exact h.write ha.2 (h.rg hx.b.1 hx.b.2).1 hm
  ·simp only [Option.some.injEq] at hm
   subst hm
   exact h.read ha.2
 | num n=>rw [e] at hm;cases hm
 | rd i=>rw [e] at hm;cases hm
 | non=>rw [e] at hm;cases hm
theorem Inv.br {C:Cx}{nr k:Nat}{r:Rn}{p:Rn×Nat}{c:List Ins}{x:Ins}(h:Inv C nr k r)(hx:Zp7 C nr c k x)(hb:brL r c k x=some p):Inv C nr k p.1:=by
 have h1:Inv C nr k { r with ctrl:=r.ctrl|||(rgA r x.a).on|||(rgA r x.b).on }:={ h with ctrl:=(h.ctrl.or (h.rg hx.a.1 hx.a.2).1.2).or (h.rg hx.b.1 hx.b.2).1.2 }
 unfold brL at hb
 simp only [] at hb
 split at hb
 ·split at hb
  ·cases hb
  ·simp only [Option.some.injEq] at hb;subst hb;exact h1
 ·simp only [Option.some.injEq] at hb;subst hb;exact h1
theorem Inv.bar {C:Cx}{nr k:Nat}{r:Rn}(h:Inv C nr k r)(pl:Nat)(fe:Int):Inv C nr (k+1) (Z10 C r pl fe):=
 ⟨h.regs,h.rlen,h.ctrl,h.room,by show (r.bars++[_]).length<=_;rw [List.length_append,List.length_singleton];have:=h.bars;omega,h.addr,h.data,h.hang,h.dwr⟩
theorem Inv.step {C:Cx}{nr k:Nat}{r:Rn}{p:Rn×Nat}{c:List Ins}{x:Ins}(h:Inv C nr k r)(hx:Zp7 C nr c k x)(hs:Zbk C r c k x=some p):Inv C nr p.2 p.1:=by
 have hgt:=Zjd hs
 unfold Zbk at hs
 split at hs
 ·obtain⟨a,ha,rfl⟩:=Option.map_eq_some_iff.1 hs
  exact (h.write (x:=⟨.num x.imm,0⟩) (Rds.zero _) ⟨hx.imm,Rds.zero _⟩ ha).next (Nat.le_succ _)
 split at hs
 ·obtain⟨a,ha,rfl⟩:=Option.map_eq_some_iff.1 hs
  exact (h.write (Rds.zero _) (h.rg hx.a.1 hx.a.2).1 ha).next (Nat.le_succ _)
 split at hs
 ·simp only [Option.some.injEq] at hs;subst hs;exact (h.read (Rds.zero _)).next (Nat.le_succ _)
 split at hs
 ·simp only [Option.some.injEq] at hs;subst hs;exact (h.put (x:=⟨.num x.imm,0⟩) ⟨hx.imm,Rds.zero _⟩).next (Nat.le_succ _)
 split at hs
 ·simp only [Option.some.injEq] at hs;subst hs;exact h.bar _ _
 split at hs
 ·simp only [Option.some.injEq] at hs;subst hs;exact h.bar _ _
 split at hs
 ·obtain⟨a,ha,rfl⟩:=Option.map_eq_some_iff.1 hs
  exact (h.mem hx ha).next (Nat.le_succ _)
 split at hs
 ·simp only [Option.some.injEq] at hs;subst hs;exact (h.reck hx).next (Nat.le_succ _)
 split at hs
 ·exact (h.br hx hs).next (Nat.le_of_lt hgt)
 ·simp only [Option.some.injEq] at hs;subst hs;exact h.next (Nat.le_succ _)
def Zag:Zd6->Value
 | .num n=>.iface 159 (.int .i64 n)
 | .adr s=>.iface 164 (.string ⟨s.toArray⟩)
 | .rd i=>.iface 171 (.int .i64 (i:Int))
 | .non=>.iface 293 (.agg #[])
theorem Znx (h:Zd6):(Zag h).oneCell'=true:=by cases h <;> rfl
abbrev Zde:Enc Rg:=⟨5,fun x=>[Zag x.h,.int .u64 (x.on:Int),.int .u64 0,.int .u64 0,.int .u64 0],fun _=>rfl,by omega,fun x u h=>by simp at h;rcases h with rfl | rfl | rfl;exact Znx _;rfl;rfl⟩
abbrev Zp5:Enc Evt:=⟨6,fun x=>[.int .i64 x.th,.int .i64 x.pl,.int .i64 x.dr,.int .i64 x.lc,.int .i64 x.vl,.int .i64 x.rg],fun _=>rfl,by omega,fun x u h=>by simp at h;rcases h with rfl | rfl | rfl | rfl | rfl | rfl <;> rfl⟩
abbrev Zm2:Enc Br:=⟨3,fun x=>[.int .i64 x.th,.int .i64 x.pl,.int .i64 x.fe],fun _=>rfl,by omega,fun x u h=>by simp at h;rcases h with rfl | rfl | rfl <;> rfl⟩
theorem Z2b:Zp5.Elem 50 35 48:=⟨Tryz.underlying35,.agg #[.int .i64 0,.int .i64 0,.int .i64 0,.int .i64 0,.int .i64 0,.int .i64 0],by kernel_rfl,rfl⟩
theorem Zwl:Zm2.Elem 79 36 24:=⟨Tryz.underlying36,.agg #[.int .i64 0,.int .i64 0,.int .i64 0],by kernel_rfl,rfl⟩
abbrev rgV (x:Rg):Value:=.agg #[Zag x.h,.int .u64 (x.on:Int),.int .u64 0,.int .u64 0,.int .u64 0]
theorem Zeu {α:Type}(E:Enc α):∀ (l:List α) (i:Nat) (x:α) (m:Nat),i<l.length->(E.flat (l.set i x))[m]?=if i*E.size<=m/\m<i*E.size+E.size then (E.enc x)[m - i*E.size]? else (E.flat l)[m]?
 | [],i,x,m,h=>by simp at h
 | y :: l,0,x,m,h=>by
  rw [List.set_cons_zero,E.flat_cons,E.flat_cons,Nat.zero_mul,Nat.sub_zero,Nat.zero_add]
  split
  ·rename_i hm
   rw [List.getElem?_append_left (by rw [E.len];exact hm.2)]
  ·rename_i hm
   have:E.size<=m:=by omega
   rw [List.getElem?_append_right (by rw [E.len];exact this),List.getElem?_append_right (by rw [E.len];exact this),E.len,E.len]
 | y :: l,i+1,x,m,h=>by
  rw [List.set_cons_succ,E.flat_cons,E.flat_cons]
  have ih:=Zeu E l i x (m - E.size) (by simpa using h)
  rw [Nat.succ_mul]
  by_cases hm:m<E.size
  ·rw [List.getElem?_append_left (by rw [E.len];exact hm),List.getElem?_append_left (by rw [E.len];exact hm),if_neg (by omega)]
  ·rw [List.getElem?_append_right (by rw [E.len];omega),List.getElem?_append_right (by rw [E.len];omega),E.len,ih]
   by_cases hc:i*E.size<=m - E.size/\m - E.size<i*E.size+E.size
   ·rw [if_pos hc,if_pos (by omega)]
    congr 1;omega
   ·rw [if_neg hc,if_neg (by omega)]
theorem Zui (l:List Rg)(i:Nat)(x:Rg)(h:i<l.length):((((((Zde.flat l).toArray.setIfInBounds (i*5) (Zag x.h)).setIfInBounds (i*5+1) (.int .u64 (x.on:Int))).setIfInBounds (i*5+2) (.int .u64 0)).setIfInBounds (i*5+3) (.int .u64 0)).setIfInBounds (i*5+4) (.int .u64 0))=(Zde.flat (l.set i x)).toArray:=by
 apply Array.ext'
 apply List.ext_getElem?
 intro m
 have hl:(Zde.flat l).length=l.length*5:=Zde.flat_len l
 have hi:i*5+5<=l.length*5:=by omega
 rw [show ((Zde.flat (l.set i x)).toArray.toList)=Zde.flat (l.set i x) from rfl,Zeu Zde l i x m h]
 simp only [Array.toList_setIfInBounds,List.getElem?_set]
 show _=if i*5<=m/\m<i*5+5 then _ else _
 by_cases hm:i*5<=m/\m<i*5+5
 ·rw [if_pos hm]
  have hc:m=i*5\/m=i*5+1\/m=i*5+2\/m=i*5+3\/m=i*5+4:=by omega
  rcases hc with rfl | rfl | rfl | rfl | rfl
  ·simp [hl];omega
  ·simp [hl];omega
  ·simp [hl];omega
  ·simp [hl];omega
  ·simp [hl];omega
 ·rw [if_neg hm]
  simp [show ¬ i*5=m by omega,show ¬ i*5+1=m by omega,show ¬ i*5+2=m by omega,show ¬ i*5+3=m by omega,show ¬ i*5+4=m by omega]
structure Zd3 where
 rg:Value
 ev:Value
 br:Value
 ad:Value
 da:Value
 hg:Value
structure Zgi where
 T:Tst
 iv:Value
 cv:Value
 kv:Value
 lv:Value
 C:Cx
abbrev Zx2 (S:Zgi)(r:Rn)(V:Zd3):Array Value:=#[.int .i64 S.T.arch,.string ⟨S.T.name.toArray⟩,.string ⟨S.T.cycle.toArray⟩,S.iv,S.cv,.int .i64 S.T.q,.int .i64 S.T.k,.int .i64 S.T.t,.int .i64 S.T.r,.string ⟨S.T.l.toArray⟩,.int .i64 S.T.v,S.kv,
 .int .i64 (S.C.th:Int),S.lv,V.rg,.int .u64 (r.ctrl:Int),.int .u64 0,.int .u64 0,.int .u64 0,V.ev,V.br,V.ad,V.da,V.hg,.int .i64 (S.C.ahead:Int),.bool r.full]
def Zgs (a b:Value):Prop:=∀ x,a.ownBlock=some x->b.ownBlock≠some x
theorem Zgs.symm {a b:Value}(h:Zgs a b):Zgs b a:=fun x hx hy=>h x hy hx
def Zw6 (w:World)(B:Nat)(v:Value)(l:List Rg):Prop:=∃ q,v=.slice (some ⟨q,0,none⟩) l.length l.length/\Blk w q 163 (Zde.flat l).toArray/\B<=q
structure Za1 (w:World) (B g:Nat) (S:Zgi) (r:Rn) (V:Zd3):Prop where
 blk:Blk w g 114 (Zx2 S r V)
 hg:B<=g
 regs:Zw6 w B V.rg r.regs
 evs:Zp5.Own 50 B w V.ev r.evs
 bars:Zm2.Own 79 B w V.br r.bars
 addr:Zbg.Own 52 B w V.ad r.addr
 data:Zbg.Own 52 B w V.da r.data
 hang:Zbg.Own 52 B w V.hg r.hang
 a1:Zgs V.ad V.da
 a2:Zgs V.ad V.hg
 a3:Zgs V.da V.hg
theorem Zgt {w:World}{B:Nat}{t:TypeId}{z n:Nat}{v:Value}{cs:List Value}(h:w.ownsRow B t z v n cs){b:Nat}(hb:v.ownBlock=some b):∃ cur,w.heap[b]?=some (.cells cur t (0,0))/\B<=b:=by
 rcases h.2 with ⟨e,_⟩ | ⟨g,cap,cur,e,h1,h2,_⟩
 ·subst e;cases hb
 ·subst e
  have hgb:g=b:=by simpa [Value.ownBlock] using hb
  subst hgb
  exact⟨cur,h2,h1⟩
theorem Zcj {w:World}{B:Nat}{t t2:TypeId}{z n g:Nat}{v:Value}{cs:List Value}{ds:Array Value}(h:w.ownsRow B t z v n cs)(hg:Blk w g t2 ds)(hne:t≠t2):v.ownBlock≠some g:=fun e=>by
 obtain⟨cur,hc,_⟩:=Zgt h e
 unfold Blk at hg
 rw [hg] at hc
 simp only [Option.some.injEq,Obj.cells.injEq] at hc
 exact hne hc.2.1.symm
theorem Ze3 {w:World}{B:Nat}{t:TypeId}{z n b:Nat}{v:Value}{cs:List Value}(h:w.ownsRow B t z v n cs)(hb:v.ownBlock=some b):b<w.heap.size:=by
 obtain⟨cur,hc,_⟩:=Zgt h hb
 exact (Array.getElem?_eq_some_iff.1 hc).1
theorem Zaf {w:World}{B:Nat}{t t2:TypeId}{z n g:Nat}{v:Value}{cs:List Value}{ds:Array Value}(h:w.ownsRow B t z v n cs)(hg:Blk w g t2 ds)(hne:t≠t2)(i:Nat)(u:Value):(w.setCell ⟨g,i,none⟩ u).ownsRow B t z v n cs:=
 Zep h fun b hb=>Below.heap_setCell w ⟨g,i,none⟩ u b (fun e=>Zcj h hg hne (by rw [hb,e]))
theorem Zaz {w:World}{g q:Nat}{t t2:TypeId}{cs ds:Array Value}(h:Blk w g t cs)(k:Blk w q t2 ds)(hne:t≠t2):g≠q:=fun e=>by
 subst e
 unfold Blk at h k
 rw [h] at k
 simp only [Option.some.injEq,Obj.cells.injEq] at k
 exact hne k.2.1
theorem Zat {w w1:World}{B B2 g:Nat}{t t2:TypeId}{z n:Nat}{v v':Value}{cs:List Value}{ds:Array Value}(h:Blk w g t2 ds)(ho:w.ownsRow B t z v n cs)(hne:t≠t2)(hg:Zbn w w1 B2 v v'):Blk w1 g t2 ds:=(hg.keep g h.lt (Zcj ho h hne)).trans h
theorem Zbc {w w1:World}{B B3:Nat}{t:TypeId}{z n:Nat}{v v2 v3:Value}{cs:List Value}(h:w.ownsRow B t z v n cs)(ha:Zgs v v2)(hg:Zbn w w1 B3 v2 v3):w1.ownsRow B t z v n cs:=
 Zep h fun b hb=>hg.keep b (Ze3 h hb) (ha b hb)
theorem Zgs.grew {w w1:World}{B B3:Nat}{t:TypeId}{z n:Nat}{v v2 v3:Value}{cs:List Value}(ha:Zgs v v2)(h:w.ownsRow B t z v n cs)(hg:Zbn w w1 B3 v2 v3):Zgs v v3:=fun b hb hb3=>by
 rcases hg.which b hb3 with e | e
 ·exact ha b hb e
 ·have:=Ze3 h hb;omega
theorem Zw6.keep {w w1:World}{B:Nat}{v:Value}{l:List Rg}(h:Zw6 w B v l)(hk:∀ q,Blk w q 163 (Zde.flat l).toArray->w1.heap[q]?=w.heap[q]?):Zw6 w1 B v l:=by
 obtain⟨q,h1,h2,h3⟩:=h
 exact⟨q,h1,(hk q h2).trans h2,h3⟩
namespace Za1
variable {w w' w1:World} {B g:Nat} {S:Zgi} {r:Rn} {V:Zd3} {v':Value}
theorem drew (h:Za1 w B g S r V):Za1 w.drew B g S r V:=⟨h.blk,h.hg,h.regs,h.evs,h.bars,h.addr,h.data,h.hang,h.a1,h.a2,h.a3⟩
theorem below (h:Za1 w B g S r V)(hb:Below w.heap.size w w'):Za1 w' B g S r V:=
 ⟨h.blk.go hb,h.hg,h.regs.keep (fun _ hq=>hb.block _ hq.lt),Zau h.evs hb,Zau h.bars hb,Zau h.addr hb,Zau h.data hb,Zau h.hang hb,h.a1,h.a2,h.a3⟩
theorem full (h:Za1 w B g S r V):Za1 (w.setCell ⟨g,25,none⟩ (.bool true)) B g S { r with full:=true } V:=
 ⟨h.blk.set_ 25 _,h.hg,h.regs.keep (fun _ hq=>Below.heap_setCell w _ _ _ (Zaz hq h.blk (by decide))),Zaf h.evs h.blk (by decide) _ _,Zaf h.bars h.blk (by decide) _ _,Zaf h.addr h.blk (by decide) _ _,Zaf h.data h.blk (by decide) _ _,Zaf h.hang h.blk (by decide) _ _,h.a1,h.a2,h.a3⟩
theorem ev (h:Za1 w B g S r V){l:List Evt}(hg:Zbn w w1 B V.ev v')(ho:Zp5.Own 50 B w1 v' l):Za1 (w1.setCell ⟨g,19,none⟩ v') B g S { r with evs:=l } { V with ev:=v' }:=by
 have hb1:=Zat h.blk h.evs (by decide) hg
 exact⟨hb1.set_ 19 _,h.hg,(h.regs.keep (fun _ hq=>(Below.heap_setCell w1 _ _ _ (Zaz hq h.blk (by decide))).trans (hg.keep _ hq.lt (Zcj h.evs hq (by decide))))),
  Zaf ho hb1 (by decide) _ _,Zaf (Zai h.bars h.evs (by decide) hg) hb1 (by decide) _ _,Zaf (Zai h.addr h.evs (by decide) hg) hb1 (by decide) _ _,
  Zaf (Zai h.data h.evs (by decide) hg) hb1 (by decide) _ _,Zaf (Zai h.hang h.evs (by decide) hg) hb1 (by decide) _ _,h.a1,h.a2,h.a3⟩
theorem br (h:Za1 w B g S r V){l:List Br}(hg:Zbn w w1 B V.br v')(ho:Zm2.Own 79 B w1 v' l):Za1 (w1.setCell ⟨g,20,none⟩ v') B g S { r with bars:=l } { V with br:=v' }:=by
 have hb1:=Zat h.blk h.bars (by decide) hg
 exact⟨hb1.set_ 20 _,h.hg,(h.regs.keep (fun _ hq=>(Below.heap_setCell w1 _ _ _ (Zaz hq h.blk (by decide))).trans (hg.keep _ hq.lt (Zcj h.bars hq (by decide))))),
  Zaf (Zai h.evs h.bars (by decide) hg) hb1 (by decide) _ _,Zaf ho hb1 (by decide) _ _,Zaf (Zai h.addr h.bars (by decide) hg) hb1 (by decide) _ _,
  Zaf (Zai h.data h.bars (by decide) hg) hb1 (by decide) _ _,Zaf (Zai h.hang h.bars (by decide) hg) hb1 (by decide) _ _,h.a1,h.a2,h.a3⟩
theorem ad (h:Za1 w B g S r V){l:List (Int×Int)}(hg:Zbn w w1 B V.ad v')(ho:Zbg.Own 52 B w1 v' l):Za1 (w1.setCell ⟨g,21,none⟩ v') B g S { r with addr:=l } { V with ad:=v' }:=by
 have hb1:=Zat h.blk h.addr (by decide) hg
 exact⟨hb1.set_ 21 _,h.hg,(h.regs.keep (fun _ hq=>(Below.heap_setCell w1 _ _ _ (Zaz hq h.blk (by decide))).trans (hg.keep _ hq.lt (Zcj h.addr hq (by decide))))),
  Zaf (Zai h.evs h.addr (by decide) hg) hb1 (by decide) _ _,Zaf (Zai h.bars h.addr (by decide) hg) hb1 (by decide) _ _,Zaf ho hb1 (by decide) _ _,
  Zaf (Zbc h.data h.a1.symm hg) hb1 (by decide) _ _,Zaf (Zbc h.hang h.a2.symm hg) hb1 (by decide) _ _,(h.a1.symm.grew h.data hg).symm,(h.a2.symm.grew h.hang hg).symm,h.a3⟩
theorem da (h:Za1 w B g S r V){l:List (Int×Int)}(hg:Zbn w w1 B V.da v')(ho:Zbg.Own 52 B w1 v' l):Za1 (w1.setCell ⟨g,22,none⟩ v') B g S { r with data:=l } { V with da:=v' }:=by
 have hb1:=Zat h.blk h.data (by decide) hg
 exact⟨hb1.set_ 22 _,h.hg,(h.regs.keep (fun _ hq=>(Below.heap_setCell w1 _ _ _ (Zaz hq h.blk (by decide))).trans (hg.keep _ hq.lt (Zcj h.data hq (by decide))))),
  Zaf (Zai h.evs h.data (by decide) hg) hb1 (by decide) _ _,Zaf (Zai h.bars h.data (by decide) hg) hb1 (by decide) _ _,Zaf (Zbc h.addr h.a1 hg) hb1 (by decide) _ _,
  Zaf ho hb1 (by decide) _ _,Zaf (Zbc h.hang h.a3.symm hg) hb1 (by decide) _ _,h.a1.grew h.addr hg,h.a2,(h.a3.symm.grew h.hang hg).symm⟩
theorem hgg (h:Za1 w B g S r V){l:List (Int×Int)}(hg:Zbn w w1 B V.hg v')(ho:Zbg.Own 52 B w1 v' l):Za1 (w1.setCell ⟨g,23,none⟩ v') B g S { r with hang:=l } { V with hg:=v' }:=by
 have hb1:=Zat h.blk h.hang (by decide) hg
 exact⟨hb1.set_ 23 _,h.hg,(h.regs.keep (fun _ hq=>(Below.heap_setCell w1 _ _ _ (Zaz hq h.blk (by decide))).trans (hg.keep _ hq.lt (Zcj h.hang hq (by decide))))),
  Zaf (Zai h.evs h.hang (by decide) hg) hb1 (by decide) _ _,Zaf (Zai h.bars h.hang (by decide) hg) hb1 (by decide) _ _,Zaf (Zbc h.addr h.a2 hg) hb1 (by decide) _ _,
  Zaf (Zbc h.data h.a3 hg) hb1 (by decide) _ _,Zaf ho hb1 (by decide) _ _,h.a1,h.a2.grew h.addr hg,h.a3.grew h.data hg⟩
theorem reg (h:Za1 w B g S r V){i:Nat}{x:Rg}(hi:i<r.regs.length){q:Nat}(hq:V.rg=.slice (some ⟨q,0,none⟩) r.regs.length r.regs.length) :
  Za1 (((((w.setCell ⟨q,i*5,none⟩ (Zag x.h)).setCell ⟨q,i*5+1,none⟩ (.int .u64 (x.on:Int))).setCell ⟨q,i*5+2,none⟩ (.int .u64 0)).setCell ⟨q,i*5+3,none⟩ (.int .u64 0)).setCell ⟨q,i*5+4,none⟩ (.int .u64 0)) B g S { r with regs:=r.regs.set i x } V:=by
 obtain⟨q',e,hb,hB⟩:=h.regs
 rw [hq] at e
 simp only [Value.slice.injEq,Option.some.injEq,Addr.mk.injEq,and_true] at e
 subst e
 have hgq:g≠q:=(Zaz hb h.blk (by decide)).symm
 have k1:=hb.set_ (i*5) (Zag x.h)
 have k2:=k1.set_ (i*5+1) (.int .u64 (x.on:Int))
 have k3:=k2.set_ (i*5+2) (.int .u64 0)
 have k4:=k3.set_ (i*5+3) (.int .u64 0)
 have k5:=k4.set_ (i*5+4) (.int .u64 0)
 have ho:∀ {t:TypeId} {z n:Nat} {v:Value} {cs:List Value},w.ownsRow B t z v n cs->t≠163->(((((w.setCell ⟨q,i*5,none⟩ (Zag x.h)).setCell ⟨q,i*5+1,none⟩ (.int .u64 (x.on:Int))).setCell ⟨q,i*5+2,none⟩ (.int .u64 0)).setCell ⟨q,i*5+3,none⟩ (.int .u64 0)).setCell ⟨q,i*5+4,none⟩ (.int .u64 0)).ownsRow B t z v n cs:=
  fun h1 hne=>Zaf (Zaf (Zaf (Zaf (Zaf h1 hb hne _ _) k1 hne _ _) k2 hne _ _) k3 hne _ _) k4 hne _ _
 refine⟨((((h.blk.far hgq _).far hgq _).far hgq _).far hgq _).far hgq _,h.hg,⟨q,by rw [hq,List.length_set],?_,hB⟩,ho h.evs (by decide),ho h.bars (by decide),ho h.addr (by decide),ho h.data (by decide),ho h.hang (by decide),h.a1,h.a2,h.a3⟩
 rw [<- Zui r.regs i x hi]
 exact k5
end Za1
def Zq6 (g:Nat)(V:Zd3)(b:Nat):Prop:=b=g\/V.rg.ownBlock=some b\/V.ev.ownBlock=some b\/V.br.ownBlock=some b\/V.ad.ownBlock=some b\/V.da.ownBlock=some b\/V.hg.ownBlock=some b
structure FrV (w w':World) (g:Nat) (V V':Zd3):Prop where
 size:w.heap.size<=w'.heap.size
 keep:∀ b,b<w.heap.size->¬ Zq6 g V b->w'.heap[b]?=w.heap[b]?
 which:∀ b,Zq6 g V' b->Zq6 g V b\/w.heap.size<=b
theorem FrV.refl (w:World)(g:Nat)(V:Zd3):FrV w w g V V:=⟨Nat.le_refl _,fun _ _ _=>rfl,fun _ h=>Or.inl h⟩
theorem FrV.trans {w w1 w2:World}{g:Nat}{V V1 V2:Zd3}(h:FrV w w1 g V V1)(k:FrV w1 w2 g V1 V2):FrV w w2 g V V2:=
 ⟨Nat.le_trans h.size k.size,fun b hb hn=>by
  rw [k.keep b (Nat.lt_of_lt_of_le hb h.size) (fun hm=>by
   rcases h.which b hm with e | e
   ·exact hn e
   ·omega),h.keep b hb hn],fun b hm=>by
  rcases k.which b hm with e | e
  ·exact h.which b e
  ·exact Or.inr (Nat.le_trans h.size e)⟩
theorem FrV.of_below {w w':World}{g:Nat}{V:Zd3}(h:Below w.heap.size w w'):FrV w w' g V V:=⟨h.size,fun b hb _=>h.block b hb,fun _ hm=>Or.inl hm⟩
theorem FrV.drew {w w':World}{g:Nat}{V V':Zd3}(h:FrV w w' g V V'):FrV w w'.drew g V V':=⟨h.size,h.keep,h.which⟩
theorem FrV.set (w:World)(g:Nat)(V:Zd3)(i:Nat)(u:Value):FrV w (w.setCell ⟨g,i,none⟩ u) g V V:=
 ⟨by simp [World.setCell],fun b _ hn=>Below.heap_setCell w _ u b (fun e=>hn (Or.inl e)),fun _ hm=>Or.inl hm⟩
theorem FrV.row {w w1:World}{g B i:Nat}{V V':Zd3}{v v':Value}(hg:Zbn w w1 B v v')(hv:∀ b,v.ownBlock=some b->Zq6 g V b)(hV:∀ b,Zq6 g V' b->Zq6 g V b\/v'.ownBlock=some b):FrV w (w1.setCell ⟨g,i,none⟩ v') g V V':=
 ⟨by simpa [World.setCell] using hg.below.size,fun b hb hn=>(Below.heap_setCell w1 _ _ b (fun e=>hn (Or.inl e))).trans (hg.keep b hb (fun e=>hn (hv b e))),fun b hm=>by
  rcases hV b hm with e | e
  ·exact Or.inl e
  ·rcases hg.which b e with e2 | e2
   ·exact Or.inl (hv b e2)
   ·exact Or.inr e2⟩
theorem FrV.ev {w w1:World}{g B:Nat}{V:Zd3}{v':Value}(hg:Zbn w w1 B V.ev v'):FrV w (w1.setCell ⟨g,19,none⟩ v') g V { V with ev:=v' }:=
 FrV.row hg (fun b h=>Or.inr (Or.inr (Or.inl h))) (fun b hm=>by unfold Zq6 at *;simp only at hm;rcases hm with h | h | h | h | h | h | h <;> simp [h])
theorem FrV.br {w w1:World}{g B:Nat}{V:Zd3}{v':Value}(hg:Zbn w w1 B V.br v'):FrV w (w1.setCell ⟨g,20,none⟩ v') g V { V with br:=v' }:=
 FrV.row hg (fun b h=>Or.inr (Or.inr (Or.inr (Or.inl h)))) (fun b hm=>by unfold Zq6 at *;simp only at hm;rcases hm with h | h | h | h | h | h | h <;> simp [h])
theorem FrV.ad {w w1:World}{g B:Nat}{V:Zd3}{v':Value}(hg:Zbn w w1 B V.ad v'):FrV w (w1.setCell ⟨g,21,none⟩ v') g V { V with ad:=v' }:=
 FrV.row hg (fun b h=>Or.inr (Or.inr (Or.inr (Or.inr (Or.inl h))))) (fun b hm=>by unfold Zq6 at *;simp only at hm;rcases hm with h | h | h | h | h | h | h <;> simp [h])
theorem FrV.da {w w1:World}{g B:Nat}{V:Zd3}{v':Value}(hg:Zbn w w1 B V.da v'):FrV w (w1.setCell ⟨g,22,none⟩ v') g V { V with da:=v' }:=
 FrV.row hg (fun b h=>Or.inr (Or.inr (Or.inr (Or.inr (Or.inr (Or.inl h)))))) (fun b hm=>by unfold Zq6 at *;simp only at hm;rcases hm with h | h | h | h | h | h | h <;> simp [h])
theorem FrV.hgg {w w1:World}{g B:Nat}{V:Zd3}{v':Value}(hg:Zbn w w1 B V.hg v'):FrV w (w1.setCell ⟨g,23,none⟩ v') g V { V with hg:=v' }:=
 FrV.row hg (fun b h=>Or.inr (Or.inr (Or.inr (Or.inr (Or.inr (Or.inr h)))))) (fun b hm=>by unfold Zq6 at *;simp only at hm;rcases hm with h | h | h | h | h | h | h <;> simp [h])
theorem FrV.reg {w w':World}{g:Nat}{V:Zd3}(h:FrV w w' g V V){q:Nat}(hq:V.rg.ownBlock=some q)(o:Nat)(u:Value):FrV w (w'.setCell ⟨q,o,none⟩ u) g V V:=
 ⟨by simpa [World.setCell] using h.size,fun b hb hn=>(Below.heap_setCell w' _ u b (fun e=>hn (Or.inr (Or.inl (by rw [hq,e]))))).trans (h.keep b hb hn),h.which⟩
theorem Za1.mine {w:World}{B g:Nat}{S:Zgi}{r:Rn}{V:Zd3}(h:Za1 w B g S r V){b:Nat}(hm:Zq6 g V b):b<w.heap.size/\B<=b:=by
 rcases hm with rfl | e | e | e | e | e | e
 ·exact⟨h.blk.lt,h.hg⟩
 ·obtain⟨q,hv,hq,hB⟩:=h.regs
  rw [hv] at e
  have:q=b:=by simpa [Value.ownBlock] using e
  exact this ▸ ⟨hq.lt,hB⟩
 ·exact⟨Ze3 h.evs e,(Zgt h.evs e).choose_spec.2⟩
 ·exact⟨Ze3 h.bars e,(Zgt h.bars e).choose_spec.2⟩
 ·exact⟨Ze3 h.addr e,(Zgt h.addr e).choose_spec.2⟩
 ·exact⟨Ze3 h.data e,(Zgt h.data e).choose_spec.2⟩
 ·exact⟨Ze3 h.hang e,(Zgt h.hang e).choose_spec.2⟩
theorem Blk.frv {w w':World}{g c:Nat}{V V':Zd3}{t:TypeId}{cs:Array Value}(h:Blk w c t cs)(hf:FrV w w' g V V')(hn:¬ Zq6 g V c):Blk w' c t cs:=(hf.keep c h.lt hn).trans h
def Z04 (L:List Nm)(x:Nm):Nat->ByteArray:=fun t=>⟨((L[t]?).getD x).toArray⟩
theorem Zvj {L:List Nm}(h:Zj1 L){i j:Nat}{a b:Nm}(hi:L[i]?=some a)(hj:L[j]?=some b)(hij:i<j):ltN a b=true:=by
 obtain⟨h1,rfl⟩:=List.getElem?_eq_some_iff.1 hi
 obtain⟨h2,rfl⟩:=List.getElem?_eq_some_iff.1 hj
 exact List.pairwise_iff_getElem.1 h i j h1 h2 hij
theorem Zv8 {L:List Nm}{x:Nm}(h:x∈L):L[L.idxOf x]?=some x:=by
 have h1:=List.idxOf_lt_length_of_mem h
 rw [List.getElem?_eq_getElem h1,List.getElem_idxOf]
theorem Z46 {L:List Nm}{x:Nm}(hs:Zj1 L)(hx:x∈L):Lib.bsGo (fun t=>Op.bytesLess (Z04 L x t).toList (⟨x.toArray⟩:ByteArray).toList) L.length 0 L.length=L.idxOf x:=by
 have hk:=List.idxOf_lt_length_of_mem hx
 have hat:=Zv8 hx
 refine Lib.bsGo_spec _ _ (fun t ht=>?_) (fun t ht=>?_) _ _ _ (by omega) (by omega) (by omega)
 ·rw [Zjl,Zgh]
  have h1:=List.getElem?_eq_getElem (show t<L.length by omega)
  unfold Z04
  rw [Zjl,h1]
  exact Zvj hs h1 hat ht
 ·rw [Zjl,Zgh]
  unfold Z04
  rw [Zjl]
  cases h1:L[t]? with
  | none=>exact Zg1 x
  | some y=>
   show ltN y x=false
   rcases Nat.lt_or_eq_of_le ht with h | h
   ·exact Zni (Zvj hs hat h1 h)
   ·rw [<- h,hat] at h1
    cases h1
    exact Zg1 x
theorem Zpr (A:Option Addr)(cap:Nat)(L:List Nm)(x:Nm)(w:World)(h:Zcx.At w A L)(hl:L.length<=1000000)(hs:Zj1 L)(hx:x∈L) :
  Calls Tryz.prog 30 #[.slice A L.length cap,.string ⟨x.toArray⟩] w fun e w'=>e=.returned (.tuple #[.int .i64 ((L.idxOf x:Nat):Int),.bool true])/\∃ q,w'=w.drewN q:=by
 obtain⟨b,o,rfl,_⟩:=h _ _ (Zv8 hx)
 have hb:=Z46 hs hx
 have hk:=List.idxOf_lt_length_of_mem hx
 refine (Any2.slices_BinarySearch_string Tryz.searchS b o L.length cap (Z04 L x) ⟨x.toArray⟩ w (by omega) (fun j hj=>?_)).mono ?_
 ·have h1:=List.getElem?_eq_getElem hj
  obtain⟨b',o',e,hc⟩:=Z3w h h1
  simp only [Option.some.injEq,Addr.mk.injEq,and_true] at e
  obtain⟨rfl,rfl⟩:=e
  rw [hc]
  unfold Z04
  rw [h1];rfl
 ·rintro e w' ⟨he,hq⟩
  refine⟨?_,hq⟩
  rw [he,hb]
  have hsx:Z04 L x (L.idxOf x)=⟨x.toArray⟩:=by
   unfold Z04
   rw [Zv8 hx];rfl
  rw [hsx]
  simp [hk]
end Go.Proofs.YtoegmdnfbemppaaGreatDoor
