/- Layer 10: whether a RISC-V instruction may be: plain; two instructions compared. -/
import Derived.Test.YtgjefdaaihgliaaGreatDoorMn11
import Derived.Test.YtgjefdaaihgliaaGreatDoorMn12

namespace Go.Proofs.YtgjefdaaihgliaaGreatDoor
open Go.RowKit
def Zch (op d a b imm:Int)(loc label:ByteArray)(fence:Int):Bool:=
 (loc.toList.isEmpty)&&
  (if op=6 then label.toList.isEmpty&&Zed 32 d&&Zed 32 a&&(b == 0)&&(imm == 0)&&(fence == 0)
   else if op=7 then label.toList.isEmpty&&(d == 0)&&Zed 32 a&&Zed 32 b&&(imm == 0)&&(fence == 0)
   else if op=8 then label.toList.isEmpty&&Zed 32 d&&Zed 32 a&&(b == 0)&&(decide (-2048<=imm)&&decide (imm<=2047))&&(fence == 0)
   else if op=9\/op=10 then label.toList.isEmpty&&Zed 32 d&&Zed 32 a&&Zed 32 b&&(imm == 0)&&(fence == 0)
   else if op=11 then Zbl label.data.toList&&(d == 0)&&Zed 32 a&&Zed 32 b&&(imm == 0)&&(fence == 0)
   else if op=12 then Zbl label.data.toList&&(d == 0)&&(a == 0)&&(b == 0)&&(imm == 0)&&(fence == 0)
   else if op=13 then label.toList.isEmpty&&(d == 0)&&(a == 0)&&(b == 0)&&(imm == 0)&&(decide (2<=fence)&&decide (fence<=11))
   else false)
def Zfx (d a b imm:Int)(loc label:ByteArray)(fence:Int)(d' a' b' imm':Int)(loc' label':ByteArray)(fence':Int):Bool:=
 d == d'&&(a == a'&&(b == b'&&(imm == imm'&&(loc.toList == loc'.toList&&(label.toList == label'.toList&&fence == fence')))))
theorem Zpi:Tryz.prog.underlying 92=some (.struct (Tryz.prog.fieldsOf 92)):=by kernel_rfl
theorem Zck:Tryz.prog.eqGuardType Tryz.prog.depth 92=false:=by kernel_rfl
theorem Zfp (op d a b imm:Int)(loc label:ByteArray)(fence:Int)(d' a' b' imm':Int)(loc' label':ByteArray)(fence':Int)(w:World) :
  (binOp .neq 92 (Zcl op d a b imm loc label fence) (Zcl op d' a' b' imm' loc' label' fence')).run Tryz.prog w=.ok (.bool (!Zfx d a b imm loc label fence d' a' b' imm' loc' label' fence')) w:=by
 have hp:Tryz.prog.stoodInHeld 92=false:=by kernel_rfl
 have u3:=Tryz.underlying3;have a3:=Tryz.isAgg3;have z3:=Tryz.sizeOf3;have u9:=Tryz.underlying9;have a9:=Tryz.isAgg9;have z9:=Tryz.sizeOf9;rw [run_neq_struct,show (10000:Nat)=9999+1 from rfl,run_equalIn_agg w 9999 92 _ _ Zpi hp];simp only [Program.fieldsOf,Tryz.underlying92];go_simp;unfold Zfx;by_cases h1:d=d'
 rotate_left
 ·simp [h1]
 by_cases h2:a=a'
 rotate_left
 ·simp [h1,h2]
 by_cases h3:b=b'
 rotate_left
 ·simp [h1,h2,h3]
 by_cases h4:imm=imm'
 rotate_left
 ·simp [h1,h2,h3,h4]
 by_cases h5:loc.toList=loc'.toList
 rotate_left
 ·simp [h1,h2,h3,h4,h5]
 by_cases h6:label.toList=label'.toList
 rotate_left
 ·simp [h1,h2,h3,h4,h5,h6]
 by_cases h7:fence=fence' <;> simp [h1,h2,h3,h4,h5,h6,h7]
theorem Zf5 (a b:Int):(a == b)=(b == a):=by rw [Bool.eq_iff_iff];simp;exact eq_comm
theorem Zjs (a b:List UInt8):(a == b)=(b == a):=by rw [Bool.eq_iff_iff];simp;exact eq_comm
theorem Zd3 (d a b imm:Int)(loc label:ByteArray)(fence:Int)(d' a' b' imm':Int)(loc' label':ByteArray)(fence':Int):Zfx d a b imm loc label fence d' a' b' imm' loc' label' fence'=Zfx d' a' b' imm' loc' label' fence' d a b imm loc label fence:=by
 unfold Zfx;rw [Zf5 d,Zf5 a,Zf5 b,Zf5 imm,Zjs loc.toList,Zjs label.toList,Zf5 fence]
theorem Zbt (n:Int):Zed 32 n=true\/Zed 32 n=false:=by cases Zed 32 n <;> simp
def Zcc (ok q:Bool)(d a b:Int):Bool:=ok&&(q&&(Zed 32 d&&(Zed 32 a&&Zed 32 b)))
section
variable (d a b imm:Int) (loc label:ByteArray) (fence:Int)
theorem Zt3:Zcc true (Zfx d a 0 0 ⟨#[]⟩ ⟨#[]⟩ 0 d a b imm loc label fence) d a b=Zch 6 d a b imm loc label fence:=by
 rw [Bool.eq_iff_iff];simp [Zcc,Zfx,Zch,Zed];by_cases p:loc.toList=[] <;> by_cases r:label.toList=[] <;> by_cases n:Zbl label.data.toList=true <;> simp [p,r] <;> omega
theorem Zt4:Zcc true (Zfx 0 a b 0 ⟨#[]⟩ ⟨#[]⟩ 0 d a b imm loc label fence) d a b=Zch 7 d a b imm loc label fence:=by
 rw [Bool.eq_iff_iff];simp [Zcc,Zfx,Zch,Zed];by_cases p:loc.toList=[] <;> by_cases r:label.toList=[] <;> by_cases n:Zbl label.data.toList=true <;> simp [p,r] <;> omega
theorem Zt5:Zcc (decide (-2048<=imm)&&decide (imm<=2047)) (Zfx d a 0 imm ⟨#[]⟩ ⟨#[]⟩ 0 d a b imm loc label fence) d a b=Zch 8 d a b imm loc label fence:=by
 rw [Bool.eq_iff_iff];simp [Zcc,Zfx,Zch,Zed];by_cases p:loc.toList=[] <;> by_cases r:label.toList=[] <;> by_cases n:Zbl label.data.toList=true <;> simp [p,r] <;> omega
theorem Zt6:Zcc true (Zfx d a b 0 ⟨#[]⟩ ⟨#[]⟩ 0 d a b imm loc label fence) d a b=Zch 9 d a b imm loc label fence:=by
 rw [Bool.eq_iff_iff];simp [Zcc,Zfx,Zch,Zed];by_cases p:loc.toList=[] <;> by_cases r:label.toList=[] <;> by_cases n:Zbl label.data.toList=true <;> simp [p,r] <;> omega
theorem Zq3:Zcc true (Zfx d a b 0 ⟨#[]⟩ ⟨#[]⟩ 0 d a b imm loc label fence) d a b=Zch 10 d a b imm loc label fence:=by
 rw [Bool.eq_iff_iff];simp [Zcc,Zfx,Zch,Zed];by_cases p:loc.toList=[] <;> by_cases r:label.toList=[] <;> by_cases n:Zbl label.data.toList=true <;> simp [p,r] <;> omega
theorem Zq4:Zcc (Zbl label.data.toList) (Zfx 0 a b 0 ⟨#[]⟩ label 0 d a b imm loc label fence) d a b=Zch 11 d a b imm loc label fence:=by
 rw [Bool.eq_iff_iff];simp [Zcc,Zfx,Zch,Zed];by_cases p:loc.toList=[] <;> by_cases r:label.toList=[] <;> by_cases n:Zbl label.data.toList=true <;> simp [p,n] <;> omega
theorem Zq5:Zcc (Zbl label.data.toList) (Zfx 0 0 0 0 ⟨#[]⟩ label 0 d a b imm loc label fence) d a b=Zch 12 d a b imm loc label fence:=by
 rw [Bool.eq_iff_iff];simp [Zcc,Zfx,Zch,Zed];by_cases p:loc.toList=[] <;> by_cases r:label.toList=[] <;> by_cases n:Zbl label.data.toList=true <;> simp [p,n] <;> omega
theorem Zq6:Zcc (decide (2<=fence)&&decide (fence<=11)) (Zfx 0 0 0 0 ⟨#[]⟩ ⟨#[]⟩ fence d a b imm loc label fence) d a b=Zch 13 d a b imm loc label fence:=by
 rw [Bool.eq_iff_iff];simp [Zcc,Zfx,Zch,Zed];by_cases p:loc.toList=[] <;> by_cases r:label.toList=[] <;> by_cases n:Zbl label.data.toList=true <;> simp [p,r] <;> omega
end
end Go.Proofs.YtgjefdaaihgliaaGreatDoor
namespace Go.Proofs.YtgjefdaaihgliaaGreatDoor
def fst? (p:Nat->Bool)(n:Nat):Option Nat:=(List.range n).find? p
theorem Zmo {p:Nat->Bool}{n k:Nat}(hk:k<n)(h:p k=true)(hn:∀ j,j<k->p j=false):fst? p n=some k:=by
 unfold fst?;rw [List.find?_eq_some_iff_append];refine⟨h,List.range k,(List.range' (k+1) (n - k - 1)),?_,?_⟩
 ·have h1:List.range n=List.range' 0 k++List.range' k (n - k):=by
   have:=@List.range'_append_1 0 k (n - k);rw [Nat.zero_add] at this;rw [List.range_eq_range',this];congr 1;omega
  have h2:List.range' k (n - k)=k :: List.range' (k+1) (n - k - 1):=by
   rw [show n - k=(n - k - 1)+1 by omega,List.range'_succ];simp
  rw [h1,h2,<- List.range_eq_range']
 ·intro j hj;simp at hj;simp [hn j hj]
theorem Zjd {p:Nat->Bool}{n:Nat}(hn:∀ j,j<n->p j=false):fst? p n=none:=by
 unfold fst?;rw [List.find?_eq_none];intro x hx;simp at hx;simp [hn x hx]
theorem Zes {p:Nat->Bool}{n:Nat}(h:fst? p n=none):∀ j,j<n->p j=false:=by
 unfold fst? at h;rw [List.find?_eq_none] at h;intro j hj;have:=h j (by simp [hj]);simpa using this
def Zct (s:List UInt8)(x:Ins):Bool:=x.op == 12&&x.label == s
def Zk9 (x:Ins):Bool:=Zch x.op x.d x.a x.b x.imm ⟨x.loc.toArray⟩ ⟨x.label.toArray⟩ x.fence
def Zt2 (c:List Ins)(k:Nat):Bool:=match c[k]? with
 | some x=>!Zk9 x
 | none=>false
def Zj8 (c:List Ins)(k:Nat):Bool:=match c[k]? with
 | some x=>(x.op == 12&&(c.take k).any (Zct x.label))||(x.op == 11&&!(c.drop (k+1)).any (Zct x.label))
 | none=>false
def Zqg (c:List Ins)(k:Nat):Int:=match c[k]? with
 | some x=>if x.op == 11 then ((k+1+(c.drop (k+1)).findIdx (Zct x.label):Nat):Int) else -1
 | none=>-1
def Zfi (c:List Ins):Int×Nat:=
 if 256<c.length then (2,0)
 else match fst? (Zt2 c) c.length with
  | some k=>(91,k)
  | none=>match fst? (Zj8 c) c.length with
   | some k=>(93,k)
   | none=>(0,0)
def Zmx (c:List Ins):List Int:=if (Zfi c).1=0 then (List.range c.length).map (Zqg c) else []
theorem Zri {c:List Ins}{k:Nat}(h:c.length<=256)(hk:k<c.length)(h1:Zt2 c k=true)(hn:∀ j,j<k->Zt2 c j=false):Zfi c=(91,k):=by
 unfold Zfi;rw [if_neg ω,Zmo hk h1 hn]
theorem Zgr {c:List Ins}{k:Nat}(h:c.length<=256)(hk:k<c.length)(hc:∀ j,j<c.length->Zt2 c j=false)(h1:Zj8 c k=true)(hn:∀ j,j<k->Zj8 c j=false):Zfi c=(93,k):=by
 unfold Zfi;rw [if_neg ω,Zjd hc];simp only [];rw [Zmo hk h1 hn]
theorem Zvc {c:List Ins}(h:c.length<=256)(hc:∀ j,j<c.length->Zt2 c j=false)(hl:∀ j,j<c.length->Zj8 c j=false):Zfi c=(0,0):=by
 unfold Zfi;rw [if_neg ω,Zjd hc];simp only [];rw [Zjd hl]
theorem Zmi {c:List Ins}{k:Nat}{x:Ins}(h:c[k]?=some x):Zt2 c k=!Zk9 x:=by simp [Zt2,h]
theorem Zdh {c:List Ins}{k:Nat}{x:Ins}(h:c[k]?=some x):Zj8 c k=((x.op == 12&&(c.take k).any (Zct x.label))||(x.op == 11&&!(c.drop (k+1)).any (Zct x.label))):=by simp [Zj8,h]
end Go.Proofs.YtgjefdaaihgliaaGreatDoor
namespace Go.Proofs.YtgjefdaaihgliaaGreatDoor
open Go.RowKit
inductive Zeb where
 | num (n:Int)
 | adr (s:Nm)
 | rd (i:Nat)
 | non
structure Rg where
 h:Zeb
 on:Nat
structure Evt where
 th:Int
 pl:Int
 dr:Int
 lc:Int
 vl:Int
 rg:Int
structure Br where
 th:Int
 pl:Int
 fe:Int
structure Rn where
 regs:List Rg
 ctrl:Nat
 evs:List Evt
 bars:List Br
 addr:List (Int×Int)
 data:List (Int×Int)
 hang:List (Int×Int)
 full:Bool
structure Cx where
 th:Nat
 risc:Bool
 ahead:Nat
 locs:List Nm
def rgA (r:Rn)(a:Int):Rg:=(r.regs[a.toNat]?).getD ⟨.non,0⟩
def Zdl (n:Int):Prop:=-2147483648<=n/\n<=2147483647
def opN (op x y:Int):Int:=if op=8 then bits .or .i64 x y else if op=9 then bits .xor .i64 x y else IntKind.i32.wrap (x+y)
def Zc0 (op:Int):Zeb->Zeb->Zeb
 | .num x,.num y=>.num (opN op x y)
 | .num x,b=>if x=0 then b else .non
 | a,.num y=>if y=0 then a else .non
 | _,_=>.non
def Zbz:Zeb->Bool
 | .num _=>false
 | .adr _=>false
 | _=>true
def Zap:Zeb->Zeb->Bool
 | .num x,.num y=>decide (x≠y)
 | .adr x,.adr y=>decide (x≠y)
 | _,_=>true
def Zsi (C:Cx)(pl:Nat)(dr:Int)(loc:Nm)(vl rg:Int):Evt:=⟨C.th,pl,dr,(C.locs.idxOf loc:Nat),vl,rg⟩
def Zi5 (C:Cx)(r:Rn)(pl:Nat)(dr:Int)(loc:Nm)(vl rg:Int)(on:Nat):Rn:=
 if 64<=C.ahead+r.evs.length then { r with full:=true }
 else { r with evs:=r.evs++[Zsi C pl dr loc vl rg],addr:=r.addr++Zbm on r.evs.length 64,hang:=r.hang++Zbm r.ctrl r.evs.length 64 }
def Zg1 (C:Cx)(r:Rn)(d:Int)(x:Rg):Rn:=if C.risc=true/\d=0 then r else { r with regs:=r.regs.set d.toNat x }
def Zi4 (r:Rn)(on i:Nat):Rn:=if r.full then r else { r with data:=r.data++Zbm on i 64 }
def Zcz (C:Cx)(r:Rn)(pl:Nat)(loc:Nm)(on:Nat)(x:Rg):Option Rn:=match x.h with
 | .num n=>some (Zi4 (Zi5 C r pl 2 loc n 0 on) x.on r.evs.length)
 | _=>none
def Zfd (C:Cx)(r:Rn)(pl:Nat)(loc:Nm)(on:Nat)(d:Int):Rn:=
 if (Zi5 C r pl 1 loc 0 d on).full then Zi5 C r pl 1 loc 0 d on else Zg1 C (Zi5 C r pl 1 loc 0 d on) d ⟨.rd r.evs.length,2 ^ r.evs.length⟩
def Zfq (C:Cx)(r:Rn)(x:Ins):Rn:=
 let b:=if x.op=8 then ⟨.num x.imm,0⟩ else rgA r x.b
 Zg1 C r x.d ⟨if x.op=9/\x.a=x.b then .num 0 else Zc0 x.op (rgA r x.a).h b.h,(rgA r x.a).on|||b.on⟩
def Zit (C:Cx)(r:Rn)(pl:Nat)(x:Ins):Option Rn:=match (rgA r x.a).h with
 | .adr s=>if x.op=7 then Zcz C r pl s (rgA r x.a).on (rgA r x.b) else some (Zfd C r pl s (rgA r x.a).on x.d)
 | _=>none
def Zhp (c:List Ins)(k:Nat)(x:Ins):Nat:=k+1+(c.drop (k+1)).findIdx (Zct x.label)
def brL (r:Rn)(c:List Ins)(k:Nat)(x:Ins):Option (Rn×Nat):=
 let r1:={ r with ctrl:=r.ctrl|||(rgA r x.a).on|||(rgA r x.b).on }
 if Zbz (rgA r x.a).h||Zbz (rgA r x.b).h then
  (if ((c.take (Zhp c k x)).drop (k+1)).any (fun y=>decide (y.op≠12)) then none else some (r1,k+1))
 else some (r1,if Zap (rgA r x.a).h (rgA r x.b).h then Zhp c k x else k+1)
def Z1d (C:Cx)(r:Rn)(pl:Nat)(fe:Int):Rn:={ r with bars:=r.bars++[⟨C.th,pl,fe⟩] }
def Zbn (C:Cx)(r:Rn)(c:List Ins)(k:Nat)(x:Ins):Option (Rn×Nat):=
 if x.op=1 then (Zcz C r k x.loc 0 ⟨.num x.imm,0⟩).map (·,k+1)
 else if x.op=2 then (Zcz C r k x.loc 0 (rgA r x.a)).map (·,k+1)
 else if x.op=3 then some (Zfd C r k x.loc 0 x.d,k+1)
 else if x.op=4 then some (Zg1 C r x.d ⟨.num x.imm,0⟩,k+1)
 else if x.op=5 then some (Z1d C r k 1,k+1)
 else if x.op=13 then some (Z1d C r k x.fence,k+1)
 else if x.op=6\/x.op=7 then (Zit C r k x).map (·,k+1)
 else if x.op=8\/x.op=9\/x.op=10 then some (Zfq C r x,k+1)
 else if x.op=11 then brL r c k x
 else some (r,k+1)
def Zzh (C:Cx)(c:List Ins):Nat->Nat->Rn->Option Rn
 | 0,_,r=>some r
 | f+1,k,r=>match c[k]? with
  | none=>some r
  | some x=>if r.full then some r else (Zbn C r c k x).bind fun p=>Zzh C c f p.2 p.1
theorem Z0e {r:Rn}{c:List Ins}{k:Nat}{x:Ins}{p:Rn×Nat}(h:brL r c k x=some p):k<p.2:=by
 unfold brL at h;simp only [] at h
 split at h
 ·split at h
  ·cases h
  ·simp only [Option.some.injEq] at h;subst h;simp
 ·simp only [Option.some.injEq] at h;subst h;have h1:k<Zhp c k x:=by unfold Zhp;omega
  have h2:k<k+1:=Nat.lt_succ_self k;cases Zap (rgA r x.a).h (rgA r x.b).h
  ·exact h2
  ·exact h1
theorem Zjl {C:Cx}{r:Rn}{c:List Ins}{k:Nat}{x:Ins}{p:Rn×Nat}(h:Zbn C r c k x=some p):k<p.2:=by
 unfold Zbn at h
 split at h
 ·obtain⟨a,_,rfl⟩:=Option.map_eq_some_iff.1 h;simp
 split at h
 ·obtain⟨a,_,rfl⟩:=Option.map_eq_some_iff.1 h;simp
 split at h
 ·simp only [Option.some.injEq] at h;subst h;simp
 split at h
 ·simp only [Option.some.injEq] at h;subst h;simp
 split at h
 ·simp only [Option.some.injEq] at h;subst h;simp
 split at h
 ·simp only [Option.some.injEq] at h;subst h;simp
 split at h
 ·obtain⟨a,_,rfl⟩:=Option.map_eq_some_iff.1 h;simp
 split at h
 ·simp only [Option.some.injEq] at h;subst h;simp
 split at h
 ·exact Z0e h
 ·simp only [Option.some.injEq] at h;subst h;simp
theorem Zpg (C:Cx)(c:List Ins):∀ (f:Nat) (k:Nat) (r:Rn) (g:Nat),c.length - k<=f->c.length - k<=g->Zzh C c f k r=Zzh C c g k r
 | 0,k,r,g,h1,h2=>by
  cases g with
  | zero=>rfl
  | succ g=>
   unfold Zzh;rw [List.getElem?_eq_none ω]
 | f+1,k,r,g,h1,h2=>by
  cases g with
  | zero=>
   unfold Zzh;rw [List.getElem?_eq_none ω]
  | succ g=>
   unfold Zzh;cases hx:c[k]? with
   | none=>rfl
   | some x=>
    simp only []
    split
    ·rfl
    ·cases hs:Zbn C r c k x with
     | none=>rfl
     | some p=>
      have hp:=Zjl hs;have hk:=(List.getElem?_eq_some_iff.1 hx).1;exact Zpg C c f p.2 p.1 g ω ω
def goL (C:Cx)(c:List Ins)(k:Nat)(r:Rn):Option Rn:=Zzh C c (c.length - k) k r
theorem Zj2 {C:Cx}{c:List Ins}{k:Nat}{r:Rn}(h:c.length<=k):goL C c k r=some r:=by
 unfold goL;rw [Nat.sub_eq_zero_of_le h];rfl
theorem Zje {C:Cx}{c:List Ins}{k:Nat}{r:Rn}(h:r.full=true):goL C c k r=some r:=by
 unfold goL;cases c.length - k with
 | zero=>rfl
 | succ f=>
  unfold Zzh;cases c[k]? with
  | none=>rfl
  | some x=>simp [h]
theorem Zrc {C:Cx}{c:List Ins}{k:Nat}{r:Rn}{x:Ins}(hx:c[k]?=some x)(hf:r.full=false):goL C c k r=(Zbn C r c k x).bind fun p=>goL C c p.2 p.1:=by
 have hk:=(List.getElem?_eq_some_iff.1 hx).1;unfold goL;rw [show c.length - k=(c.length - k - 1)+1 by omega]
 conv=>lhs;unfold Zzh
 rw [hx];simp only [hf,Bool.false_eq_true,if_false];cases hs:Zbn C r c k x with
 | none=>rfl
 | some p=>
  have hp:=Zjl hs;exact Zpg C c _ p.2 p.1 _ ω (Nat.le_refl _)
theorem Zjf {C:Cx}{c:List Ins}{k:Nat}{r:Rn}{x:Ins}(hx:c[k]?=some x)(hf:r.full=false)(h:Zbn C r c k x=none):goL C c k r=none:=by rw [Zrc hx hf,h];rfl
theorem Zjg {C:Cx}{c:List Ins}{k:Nat}{r:Rn}{x:Ins}{p:Rn×Nat}(hx:c[k]?=some x)(hf:r.full=false)(h:Zbn C r c k x=some p):goL C c k r=goL C c p.2 p.1:=by rw [Zrc hx hf,h];rfl
structure Zpw (C:Cx) (nr:Nat) (c:List Ins) (k:Nat) (x:Ins):Prop where
 op:1<=x.op/\x.op<=13
 d:0<=x.d/\x.d<nr
 a:0<=x.a/\x.a<nr
 b:0<=x.b/\x.b<nr
 imm:Zdl x.imm
 loc:x.op<=3->x.loc∈C.locs
 fen:x.op=13->2<=x.fence/\x.fence<=11
 lab:x.op=11->Zhp c k x<c.length
def Ztk (evs:List Evt)(i:Nat):Prop:=∃ e,evs[i]?=some e/\e.dr=1
def Z4d (evs:List Evt)(i:Nat):Prop:=∃ e,evs[i]?=some e/\e.dr=2
def Rds (evs:List Evt)(a:Nat):Prop:=∀ j,a.testBit j=true->Ztk evs j
theorem Ztk.lt {evs:List Evt}{i:Nat}(h:Ztk evs i):i<evs.length:=by
 obtain⟨e,h,_⟩:=h;exact (List.getElem?_eq_some_iff.1 h).1
theorem Ztk.app {evs:List Evt}{i:Nat}(h:Ztk evs i)(l:List Evt):Ztk (evs++l) i:=by
 obtain⟨e,h1,h2⟩:=h;exact⟨e,by rw [List.getElem?_append_left (List.getElem?_eq_some_iff.1 h1).1];exact h1,h2⟩
theorem Z4d.app {evs:List Evt}{i:Nat}(h:Z4d evs i)(l:List Evt):Z4d (evs++l) i:=by
 obtain⟨e,h1,h2⟩:=h;exact⟨e,by rw [List.getElem?_append_left (List.getElem?_eq_some_iff.1 h1).1];exact h1,h2⟩
theorem Rds.app {evs:List Evt}{a:Nat}(h:Rds evs a)(l:List Evt):Rds (evs++l) a:=fun j hj=>(h j hj).app l
theorem Rds.zero (evs:List Evt):Rds evs 0:=fun j hj=>by simp at hj
theorem Rds.or {evs:List Evt}{a b:Nat}(h:Rds evs a)(k:Rds evs b):Rds evs (a|||b):=fun j hj=>by
 rw [Nat.testBit_or,Bool.or_eq_true] at hj;exact hj.elim (h j) (k j)
theorem Rds.lt {evs:List Evt}{a:Nat}(h:Rds evs a):a<2 ^ evs.length:=by
 apply Nat.lt_pow_two_of_testBit;intro i hi;cases hb:a.testBit i with
 | false=>rfl
 | true=>have:=(h i hb).lt;omega
theorem Rds.lt64 {evs:List Evt}{a:Nat}(h:Rds evs a)(hl:evs.length<=64):a<18446744073709551616:=by
 have:=Nat.lt_of_lt_of_le h.lt (Nat.pow_le_pow_right (show 0<2 by omega) hl);simpa using this
theorem Rds.one {evs:List Evt}{i:Nat}(h:Ztk evs i):Rds evs (2 ^ i):=fun j hj=>by
 rw [Nat.testBit_two_pow] at hj;have:i=j:=by simpa using hj
 exact this ▸ h
def Zg2 (C:Cx)(evs:List Evt):Zeb->Prop
 | .num v=>Zdl v
 | .adr s=>s∈C.locs
 | .rd i=>Ztk evs i
 | .non=>True
def Zid (C:Cx)(evs:List Evt)(x:Rg):Prop:=Zg2 C evs x.h/\Rds evs x.on
theorem Zg2.app {C:Cx}{evs:List Evt}{h:Zeb}(k:Zg2 C evs h)(l:List Evt):Zg2 C (evs++l) h:=by
 cases h with
 | num v=>exact k
 | adr s=>exact k
 | rd i=>exact Ztk.app k l
 | non=>exact k
theorem Zid.app {C:Cx}{evs:List Evt}{x:Rg}(h:Zid C evs x)(l:List Evt):Zid C (evs++l) x:=⟨h.1.app l,h.2.app l⟩
def Z35 (p q:Int×Int):Prop:=p.2<q.2\/(p.2=q.2/\p.1<q.1)
structure Zfj (evs:List Evt) (n:Nat) (l:List (Int×Int)):Prop where
 ord:l.Pairwise Z35
 at_:∀ p∈l,∃ i j:Nat,p=((i:Int),(j:Int))/\i<j/\Ztk evs i/\j<n
 len:l.length<=64*n
theorem Zn6 {a k:Nat}{p:Int}(h:p∈Zdd a k):∃ i:Nat,p=(i:Int)/\a.testBit i=true/\i<k:=by
 unfold Zdd at h;obtain⟨i,hi,rfl⟩:=List.mem_map.1 h;rw [List.mem_filter,List.mem_range] at hi;exact⟨i,rfl,hi.2,hi.1⟩
theorem Zmg (a:Nat):∀ k,(Zdd a k).Pairwise (fun x y=>x<y)
 | 0=>by simp [Zdd]
 | k+1=>by
  rw [Zdb]
  split
  ·rw [List.pairwise_append];refine⟨Zmg a k,by simp,fun x hx y hy=>?_⟩;obtain⟨i,rfl,_,hi⟩:=Zn6 hx;simp at hy;subst hy;exact Int.ofNat_lt.2 hi
  ·exact Zmg a k
theorem Zql (i k:Nat):Zbm 0 i k=[]:=by simp [Zbm,Zdd]
theorem Zlu (a i k:Nat):(Zbm a i k).length<=k:=by
 unfold Zbm;rw [List.length_map];exact Zju a k
theorem Zfj.add {evs:List Evt}{n:Nat}{l:List (Int×Int)}{a:Nat}(h:Zfj evs n l)(hn:evs.length=n)(ha:Rds evs a)(e:Evt):Zfj (evs++[e]) (n+1) (l++Zbm a n 64):=by
 refine⟨?_,?_,?_⟩
 ·rw [List.pairwise_append];refine⟨h.ord,?_,fun p hp q hq=>?_⟩
  ·unfold Zbm;rw [List.pairwise_map];exact (Zmg a 64).imp fun hxy=>Or.inr ⟨rfl,hxy⟩
  ·obtain⟨i,j,rfl,_,_,hj⟩:=h.at_ p hp;unfold Zbm at hq;obtain⟨x,_,rfl⟩:=List.mem_map.1 hq;exact Or.inl (Int.ofNat_lt.2 hj)
 ·intro p hp;rw [List.mem_append] at hp;rcases hp with hp | hp
  ·obtain⟨i,j,rfl,h1,h2,h3⟩:=h.at_ p hp;exact⟨i,j,rfl,h1,h2.app _,ω⟩
  ·unfold Zbm at hp;obtain⟨x,hx,rfl⟩:=List.mem_map.1 hp;obtain⟨i,rfl,h1,_⟩:=Zn6 hx;have h2:=ha i h1;have:=h2.lt;exact⟨i,n,rfl,ω,h2.app _,ω⟩
 ·have:=Zlu a n 64;have:=h.len;rw [List.length_append];omega
theorem Zfj.app {evs:List Evt}{n:Nat}{l:List (Int×Int)}(h:Zfj evs n l)(e:Evt):Zfj (evs++[e]) (n+1) l:=
 ⟨h.ord,fun p hp=>by obtain⟨i,j,h0,h1,h2,h3⟩:=h.at_ p hp;exact⟨i,j,h0,h1,h2.app _,ω⟩,by have:=h.len;omega⟩
structure Inv (C:Cx) (nr k:Nat) (r:Rn):Prop where
 regs:∀ x∈r.regs,Zid C r.evs x
 rlen:r.regs.length=nr
 ctrl:Rds r.evs r.ctrl
 room:C.ahead+r.evs.length<=64
 bars:r.bars.length<=k
 addr:Zfj r.evs r.evs.length r.addr
 data:Zfj r.evs r.evs.length r.data
 hang:Zfj r.evs r.evs.length r.hang
 dwr:∀ p∈r.data,∀ j:Nat,p.2=(j:Int)->Z4d r.evs j
theorem Inv.rg {C:Cx}{nr k:Nat}{r:Rn}(h:Inv C nr k r){a:Int}(h0:0<=a)(h1:a<nr):Zid C r.evs (rgA r a)/\r.regs[a.toNat]?=some (rgA r a):=by
 have hl:a.toNat<r.regs.length:=by rw [h.rlen];omega
 unfold rgA;rw [List.getElem?_eq_getElem hl];exact⟨h.regs _ (List.getElem_mem hl),rfl⟩
theorem Inv.next {C:Cx}{nr k k':Nat}{r:Rn}(h:Inv C nr k r)(hk:k<=k'):Inv C nr k' r:=⟨h.regs,h.rlen,h.ctrl,h.room,Nat.le_trans h.bars hk,h.addr,h.data,h.hang,h.dwr⟩
theorem Inv.put {C:Cx}{nr k:Nat}{r:Rn}(h:Inv C nr k r){d:Int}{x:Rg}(hx:Zid C r.evs x):Inv C nr k (Zg1 C r d x):=by
 unfold Zg1
 split
 ·exact h
 ·refine⟨fun y hy=>?_,by rw [List.length_set];exact h.rlen,h.ctrl,h.room,h.bars,h.addr,h.data,h.hang,h.dwr⟩;rcases List.mem_or_eq_of_mem_set hy with hy | rfl
  ·exact h.regs y hy
  ·exact hx
theorem Zc7 {C:Cx}{r:Rn}{pl:Nat}{dr:Int}{loc:Nm}{vl rg:Int}{on:Nat}(h:64<=C.ahead+r.evs.length):Zi5 C r pl dr loc vl rg on={ r with full:=true }:=by unfold Zi5;rw [if_pos h]
theorem Zc8 {C:Cx}{r:Rn}{pl:Nat}{dr:Int}{loc:Nm}{vl rg:Int}{on:Nat}(h:¬ 64<=C.ahead+r.evs.length):Zi5 C r pl dr loc vl rg on={ r with evs:=r.evs++[Zsi C pl dr loc vl rg],addr:=r.addr++Zbm on r.evs.length 64,hang:=r.hang++Zbm r.ctrl r.evs.length 64 }:=by unfold Zi5;rw [if_neg h]
theorem Inv.full {C:Cx}{nr k:Nat}{r:Rn}(h:Inv C nr k r):Inv C nr k { r with full:=true }:=⟨h.regs,h.rlen,h.ctrl,h.room,h.bars,h.addr,h.data,h.hang,h.dwr⟩
theorem Inv.evt {C:Cx}{nr k:Nat}{r:Rn}(h:Inv C nr k r){pl:Nat}{dr:Int}{loc:Nm}{vl rg:Int}{on:Nat}(hon:Rds r.evs on):Inv C nr k (Zi5 C r pl dr loc vl rg on):=by
 by_cases hr:64<=C.ahead+r.evs.length
 ·rw [Zc7 hr];exact h.full
 ·rw [Zc8 hr]
  exact {
      regs:=fun x hx=>(h.regs x hx).app _
      rlen:=h.rlen
      ctrl:=h.ctrl.app _
      room:=by show C.ahead+(r.evs++[_]).length<=64;rw [List.length_append,List.length_singleton];omega
      bars:=h.bars
      addr:=by show Zfj _ (r.evs++[_]).length _;rw [List.length_append,List.length_singleton];exact h.addr.add rfl hon _
      data:=by show Zfj _ (r.evs++[_]).length _;rw [List.length_append,List.length_singleton];exact h.data.app _
      hang:=by show Zfj _ (r.evs++[_]).length _;rw [List.length_append,List.length_singleton];exact h.hang.add rfl h.ctrl _
      dwr:=fun p hp j hj=>(h.dwr p hp j hj).app _ }
theorem Inv.read {C:Cx}{nr k:Nat}{r:Rn}(h:Inv C nr k r){pl:Nat}{loc:Nm}{on:Nat}{d:Int}(hon:Rds r.evs on):Inv C nr k (Zfd C r pl loc on d):=by
 unfold Zfd;have h1:=h.evt (pl:=pl) (dr:=1) (loc:=loc) (vl:=0) (rg:=d) hon
 split
 ·exact h1
 ·rename_i hf;refine h1.put ?_;have hr:¬ 64<=C.ahead+r.evs.length:=fun hr=>hf (by rw [Zc7 hr])
  rw [Zc8 hr];have:Ztk (r.evs++[Zsi C pl 1 loc 0 d]) r.evs.length:=⟨_,by rw [List.getElem?_append_right (Nat.le_refl _)];simp;rfl,rfl⟩;exact⟨this,Rds.one this⟩
theorem Inv.write {C:Cx}{nr k:Nat}{r r':Rn}(h:Inv C nr k r){pl:Nat}{loc:Nm}{on:Nat}{x:Rg}(hon:Rds r.evs on)(hx:Zid C r.evs x)(hw:Zcz C r pl loc on x=some r'):Inv C nr k r':=by
 unfold Zcz at hw;cases hxh:x.h with
 | num n=>
  rw [hxh] at hw;simp only [Option.some.injEq] at hw;subst hw;have h1:=h.evt (pl:=pl) (dr:=2) (loc:=loc) (vl:=n) (rg:=0) hon;unfold Zi4
  split
  ·exact h1
  ·rename_i hf1;have hr:¬ 64<=C.ahead+r.evs.length:=fun hr=>hf1 (by rw [Zc7 hr])
   rw [Zc8 hr] at h1 ⊢;have hwr:Z4d (r.evs++[Zsi C pl 2 loc n 0]) r.evs.length:=⟨_,by rw [List.getElem?_append_right (Nat.le_refl _)];simp;rfl,rfl⟩
   exact { h1 with
       data:=by show Zfj _ (r.evs++[_]).length _;rw [List.length_append,List.length_singleton];exact h.data.add rfl hx.2 _
       dwr:=fun p hp j hj=>by
        rcases List.mem_append.1 hp with hp | hp
        ·exact (h.dwr p hp j hj).app _
        ·unfold Zbm at hp;obtain⟨q,_,rfl⟩:=List.mem_map.1 hp;simp only [Int.ofNat_inj] at hj
         exact hj ▸ hwr }
 | adr s=>rw [hxh] at hw;cases hw
 | rd i=>rw [hxh] at hw;cases hw
 | non=>rw [hxh] at hw;cases hw
theorem Zi1 (b:BitVec 64):IntKind.i64.wrap (b.toNat:Int)=b.toInt:=by
 unfold IntKind.wrap;have:=b.isLt;simp [IntKind.bits,IntKind.signed,BitVec.toInt];omega
theorem Zdc (b:BitVec 32):IntKind.i32.wrap (b.toNat:Int)=b.toInt:=by
 unfold IntKind.wrap;have:=b.isLt;simp [IntKind.bits,IntKind.signed,BitVec.toInt];omega
theorem Zko {x:Int}(h:Zdl x):(BitVec.ofInt 32 x).toInt=x:=by
 unfold Zdl at h;rw [BitVec.toInt_ofInt];simp [Int.bmod];omega
theorem Zyb {x:Int}(h:Zdl x):BitVec.ofInt 64 x=(BitVec.ofInt 32 x).signExtend 64:=by
 rw [BitVec.signExtend,Zko h]
theorem Z34 {x y:Int}(hx:Zdl x)(hy:Zdl y):bits .or .i64 x y=bits .or .i32 x y/\Zdl (bits .or .i32 x y):=by
 have e1:bits .or .i64 x y=(BitVec.ofInt 64 x|||BitVec.ofInt 64 y).toInt:=Zi1 _;have e2:bits .or .i32 x y=(BitVec.ofInt 32 x|||BitVec.ofInt 32 y).toInt:=Zdc _;rw [e1,e2,Zyb hx,Zyb hy,<- BitVec.signExtend_or,BitVec.toInt_signExtend_of_le ω];refine⟨rfl,?_⟩;have:=(BitVec.ofInt 32 x|||BitVec.ofInt 32 y).toInt_lt;have:=(BitVec.ofInt 32 x|||BitVec.ofInt 32 y).le_toInt;unfold Zdl;simp at *;omega
theorem Zte {x y:Int}(hx:Zdl x)(hy:Zdl y):bits .xor .i64 x y=bits .xor .i32 x y/\Zdl (bits .xor .i32 x y):=by
 have e1:bits .xor .i64 x y=(BitVec.ofInt 64 x ^^^ BitVec.ofInt 64 y).toInt:=Zi1 _;have e2:bits .xor .i32 x y=(BitVec.ofInt 32 x ^^^ BitVec.ofInt 32 y).toInt:=Zdc _;rw [e1,e2,Zyb hx,Zyb hy,<- BitVec.signExtend_xor,BitVec.toInt_signExtend_of_le ω];refine⟨rfl,?_⟩;have:=(BitVec.ofInt 32 x ^^^ BitVec.ofInt 32 y).toInt_lt;have:=(BitVec.ofInt 32 x ^^^ BitVec.ofInt 32 y).le_toInt;unfold Zdl;simp at *;omega
theorem wrap32 {x:Int}(h:Zdl x):IntKind.i32.wrap x=x:=by
 unfold Zdl at h;unfold IntKind.wrap;simp [IntKind.bits,IntKind.signed];omega
theorem Zos (x:Int):Zdl (IntKind.i32.wrap x):=by
 unfold Zdl IntKind.wrap;simp [IntKind.bits,IntKind.signed];omega
theorem Zv2 {x:Int}(hx:Zdl x):bits .or .i64 x 0=x:=by
 have h0:Zdl 0:=by unfold Zdl;omega
 rw [(Z34 hx h0).1];have e2:bits .or .i32 x 0=(BitVec.ofInt 32 x|||BitVec.ofInt 32 0).toInt:=Zdc _;rw [e2,show BitVec.ofInt 32 0=0#32 from rfl,BitVec.or_zero,Zko hx]
theorem Zxd {x:Int}(hx:Zdl x):bits .or .i64 0 x=x:=by
 have h0:Zdl 0:=by unfold Zdl;omega
 rw [(Z34 h0 hx).1];have e2:bits .or .i32 0 x=(BitVec.ofInt 32 0|||BitVec.ofInt 32 x).toInt:=Zdc _;rw [e2,show BitVec.ofInt 32 0=0#32 from rfl,BitVec.zero_or,Zko hx]
theorem Ztf {x:Int}(hx:Zdl x):bits .xor .i64 x 0=x:=by
 have h0:Zdl 0:=by unfold Zdl;omega
 rw [(Zte hx h0).1];have e2:bits .xor .i32 x 0=(BitVec.ofInt 32 x ^^^ BitVec.ofInt 32 0).toInt:=Zdc _;rw [e2,show BitVec.ofInt 32 0=0#32 from rfl,BitVec.xor_zero,Zko hx]
theorem Zth {x:Int}(hx:Zdl x):bits .xor .i64 0 x=x:=by
 have h0:Zdl 0:=by unfold Zdl;omega
 rw [(Zte h0 hx).1];have e2:bits .xor .i32 0 x=(BitVec.ofInt 32 0 ^^^ BitVec.ofInt 32 x).toInt:=Zdc _;rw [e2,show BitVec.ofInt 32 0=0#32 from rfl,BitVec.zero_xor,Zko hx]
theorem Z5y {op x y:Int}(hx:Zdl x)(hy:Zdl y):Zdl (opN op x y):=by
 unfold opN
 split
 ·rw [(Z34 hx hy).1];exact (Z34 hx hy).2
 split
 ·rw [(Zte hx hy).1];exact (Zte hx hy).2
 ·exact Zos _
theorem Z2q {C:Cx}{evs:List Evt}{op:Int}:∀ {a b:Zeb},Zg2 C evs a->Zg2 C evs b->Zg2 C evs (Zc0 op a b)
 | .num x,.num y,ha,hb=>Z5y ha hb
 | .num x,.adr s,_,hb=>by unfold Zc0;simp only [];split;exact hb;trivial
 | .num x,.rd s,_,hb=>by unfold Zc0;simp only [];split;exact hb;trivial
 | .num x,.non,_,hb=>by unfold Zc0;simp only [];split;exact hb;trivial
 | .adr s,.num y,ha,_=>by unfold Zc0;simp only [];split;exact ha;trivial
 | .rd s,.num y,ha,_=>by unfold Zc0;simp only [];split;exact ha;trivial
 | .non,.num y,ha,_=>by unfold Zc0;simp only [];split;exact ha;trivial
 | .adr s,.adr _,_,_=>trivial
 | .adr s,.rd _,_,_=>trivial
 | .adr s,.non,_,_=>trivial
 | .rd s,.adr _,_,_=>trivial
 | .rd s,.rd _,_,_=>trivial
 | .rd s,.non,_,_=>trivial
 | .non,.adr _,_,_=>trivial
 | .non,.rd _,_,_=>trivial
 | .non,.non,_,_=>trivial
theorem Zj4:Zdl 0:=by unfold Zdl;omega
theorem Inv.reck {C:Cx}{nr k:Nat}{r:Rn}{c:List Ins}{x:Ins}(h:Inv C nr k r)(hx:Zpw C nr c k x):Inv C nr k (Zfq C r x):=by
 unfold Zfq;simp only [];have ha:=(h.rg hx.a.1 hx.a.2).1;have hb:Zid C r.evs (if x.op=8 then ⟨.num x.imm,0⟩ else rgA r x.b):=by
  split
  ·exact⟨hx.imm,Rds.zero _⟩
  ·exact (h.rg hx.b.1 hx.b.2).1
 refine h.put ⟨?_,ha.2.or hb.2⟩;show Zg2 C r.evs (if _ then _ else _)
 split
 ·exact Zj4
 ·exact Z2q ha.1 hb.1
theorem Inv.mem {C:Cx}{nr k:Nat}{r r':Rn}{c:List Ins}{x:Ins}(h:Inv C nr k r)(hx:Zpw C nr c k x)(hm:Zit C r k x=some r'):Inv C nr k r':=by
 have ha:=(h.rg hx.a.1 hx.a.2).1;unfold Zit at hm;cases e:(rgA r x.a).h with
 | adr s=>
  rw [e] at hm;simp only [] at hm
  split at hm
  ·exact h.write ha.2 (h.rg hx.b.1 hx.b.2).1 hm
  ·simp only [Option.some.injEq] at hm;subst hm;exact h.read ha.2
 | num n=>rw [e] at hm;cases hm
 | rd i=>rw [e] at hm;cases hm
 | non=>rw [e] at hm;cases hm
theorem Inv.br {C:Cx}{nr k:Nat}{r:Rn}{p:Rn×Nat}{c:List Ins}{x:Ins}(h:Inv C nr k r)(hx:Zpw C nr c k x)(hb:brL r c k x=some p):Inv C nr k p.1:=by
 have h1:Inv C nr k { r with ctrl:=r.ctrl|||(rgA r x.a).on|||(rgA r x.b).on }:={ h with ctrl:=(h.ctrl.or (h.rg hx.a.1 hx.a.2).1.2).or (h.rg hx.b.1 hx.b.2).1.2 };unfold brL at hb;simp only [] at hb
 split at hb
 ·split at hb
  ·cases hb
  ·simp only [Option.some.injEq] at hb;subst hb;exact h1
 ·simp only [Option.some.injEq] at hb;subst hb;exact h1
theorem Inv.bar {C:Cx}{nr k:Nat}{r:Rn}(h:Inv C nr k r)(pl:Nat)(fe:Int):Inv C nr (k+1) (Z1d C r pl fe):=
 ⟨h.regs,h.rlen,h.ctrl,h.room,by show (r.bars++[_]).length<=_;rw [List.length_append,List.length_singleton];have:=h.bars;omega,h.addr,h.data,h.hang,h.dwr⟩
theorem Inv.step {C:Cx}{nr k:Nat}{r:Rn}{p:Rn×Nat}{c:List Ins}{x:Ins}(h:Inv C nr k r)(hx:Zpw C nr c k x)(hs:Zbn C r c k x=some p):Inv C nr p.2 p.1:=by
 have hgt:=Zjl hs;unfold Zbn at hs
 split at hs
 ·obtain⟨a,ha,rfl⟩:=Option.map_eq_some_iff.1 hs;exact (h.write (x:=⟨.num x.imm,0⟩) (Rds.zero _) ⟨hx.imm,Rds.zero _⟩ ha).next (Nat.le_succ _)
 split at hs
 ·obtain⟨a,ha,rfl⟩:=Option.map_eq_some_iff.1 hs;exact (h.write (Rds.zero _) (h.rg hx.a.1 hx.a.2).1 ha).next (Nat.le_succ _)
 split at hs
 ·simp only [Option.some.injEq] at hs;subst hs;exact (h.read (Rds.zero _)).next (Nat.le_succ _)
 split at hs
 ·simp only [Option.some.injEq] at hs;subst hs;exact (h.put (x:=⟨.num x.imm,0⟩) ⟨hx.imm,Rds.zero _⟩).next (Nat.le_succ _)
 split at hs
 ·simp only [Option.some.injEq] at hs;subst hs;exact h.bar _ _
 split at hs
 ·simp only [Option.some.injEq] at hs;subst hs;exact h.bar _ _
 split at hs
 ·obtain⟨a,ha,rfl⟩:=Option.map_eq_some_iff.1 hs;exact (h.mem hx ha).next (Nat.le_succ _)
 split at hs
 ·simp only [Option.some.injEq] at hs;subst hs;exact (h.reck hx).next (Nat.le_succ _)
 split at hs
 ·exact (h.br hx hs).next (Nat.le_of_lt hgt)
 ·simp only [Option.some.injEq] at hs;subst hs;exact h.next (Nat.le_succ _)
def Zai:Zeb->Value
 | .num n=>.iface 159 (.int .i64 n)
 | .adr s=>.iface 164 (.string ⟨s.toArray⟩)
 | .rd i=>.iface 173 (.int .i64 (i:Int))
 | .non=>.iface 268 (.agg #[])
theorem Zor (h:Zeb):(Zai h).oneCell'=true:=by cases h <;> rfl
abbrev Zdf:Enc Rg:=⟨5,fun x=>[Zai x.h,.int .u64 (x.on:Int),.int .u64 0,.int .u64 0,.int .u64 0],fun _=>rfl,ω,fun x u h=>by simp at h;rcases h with rfl | rfl | rfl;exact Zor _;rfl;rfl⟩
abbrev Zq8:Enc Evt:=⟨6,fun x=>[.int .i64 x.th,.int .i64 x.pl,.int .i64 x.dr,.int .i64 x.lc,.int .i64 x.vl,.int .i64 x.rg],fun _=>rfl,ω,fun x u h=>by simp at h;rcases h with rfl | rfl | rfl | rfl | rfl | rfl <;> rfl⟩
abbrev Zoe:Enc Br:=⟨3,fun x=>[.int .i64 x.th,.int .i64 x.pl,.int .i64 x.fe],fun _=>rfl,ω,fun x u h=>by simp at h;rcases h with rfl | rfl | rfl <;> rfl⟩
theorem Z18:Zq8.Elem 225 82 48:=⟨Tryz.underlying82,.agg #[.int .i64 0,.int .i64 0,.int .i64 0,.int .i64 0,.int .i64 0,.int .i64 0],κ,rfl⟩
theorem Zum:Zoe.Elem 169 83 24:=⟨Tryz.underlying83,.agg #[.int .i64 0,.int .i64 0,.int .i64 0],κ,rfl⟩
abbrev rgV (x:Rg):Value:=.agg #[Zai x.h,.int .u64 (x.on:Int),.int .u64 0,.int .u64 0,.int .u64 0]
theorem Zfn {α:Type}(E:Enc α):∀ (l:List α) (i:Nat) (x:α) (m:Nat),i<l.length->(E.flat (l.set i x))[m]?=if i*E.size<=m/\m<i*E.size+E.size then (E.enc x)[m - i*E.size]? else (E.flat l)[m]?
 | [],i,x,m,h=>by simp at h
 | y :: l,0,x,m,h=>by
  rw [List.set_cons_zero,E.flat_cons,E.flat_cons,Nat.zero_mul,Nat.sub_zero,Nat.zero_add]
  split
  ·rename_i hm;rw [List.getElem?_append_left (by rw [E.len];exact hm.2)]
  ·rename_i hm;have:E.size<=m:=ω;rw [List.getElem?_append_right (by rw [E.len];exact this),List.getElem?_append_right (by rw [E.len];exact this),E.len,E.len]
 | y :: l,i+1,x,m,h=>by
  rw [List.set_cons_succ,E.flat_cons,E.flat_cons];have ih:=Zfn E l i x (m - E.size) (by simpa using h);rw [Nat.succ_mul];by_cases hm:m<E.size
  ·rw [List.getElem?_append_left (by rw [E.len];exact hm),List.getElem?_append_left (by rw [E.len];exact hm),if_neg ω]
  ·rw [List.getElem?_append_right (by rw [E.len];omega),List.getElem?_append_right (by rw [E.len];omega),E.len,ih];by_cases hc:i*E.size<=m - E.size/\m - E.size<i*E.size+E.size
   ·rw [if_pos hc,if_pos ω]
    congr 1;omega
   ·rw [if_neg hc,if_neg ω]
theorem Zuy (l:List Rg)(i:Nat)(x:Rg)(h:i<l.length):((((((Zdf.flat l).toArray.setIfInBounds (i*5) (Zai x.h)).setIfInBounds (i*5+1) (.int .u64 (x.on:Int))).setIfInBounds (i*5+2) (.int .u64 0)).setIfInBounds (i*5+3) (.int .u64 0)).setIfInBounds (i*5+4) (.int .u64 0))=(Zdf.flat (l.set i x)).toArray:=by
 apply Array.ext';apply List.ext_getElem?;intro m;have hl:(Zdf.flat l).length=l.length*5:=Zdf.flat_len l;have hi:i*5+5<=l.length*5:=ω;rw [show ((Zdf.flat (l.set i x)).toArray.toList)=Zdf.flat (l.set i x) from rfl,Zfn Zdf l i x m h];simp only [Array.toList_setIfInBounds,List.getElem?_set];show _=if i*5<=m/\m<i*5+5 then _ else _
 by_cases hm:i*5<=m/\m<i*5+5
 ·rw [if_pos hm];have hc:m=i*5\/m=i*5+1\/m=i*5+2\/m=i*5+3\/m=i*5+4:=ω;rcases hc with rfl | rfl | rfl | rfl | rfl
  ·simp [hl];omega
  ·simp [hl];omega
  ·simp [hl];omega
  ·simp [hl];omega
  ·simp [hl];omega
 ·rw [if_neg hm];simp [show ¬ i*5=m by omega,show ¬ i*5+1=m by omega,show ¬ i*5+2=m by omega,show ¬ i*5+3=m by omega,show ¬ i*5+4=m by omega]
structure Zd8 where
 rg:Value
 ev:Value
 br:Value
 ad:Value
 da:Value
 hg:Value
structure Zgk where
 T:Tst
 iv:Value
 cv:Value
 kv:Value
 lv:Value
 C:Cx
abbrev Zzg (S:Zgk)(r:Rn)(V:Zd8):Array Value:=#[.int .i64 S.T.arch,.string ⟨S.T.name.toArray⟩,.string ⟨S.T.cycle.toArray⟩,S.iv,S.cv,.int .i64 S.T.q,.int .i64 S.T.k,.int .i64 S.T.t,.int .i64 S.T.r,.string ⟨S.T.l.toArray⟩,.int .i64 S.T.v,S.kv,
 .int .i64 (S.C.th:Int),S.lv,V.rg,.int .u64 (r.ctrl:Int),.int .u64 0,.int .u64 0,.int .u64 0,V.ev,V.br,V.ad,V.da,V.hg,.int .i64 (S.C.ahead:Int),.bool r.full]
def Zfz (a b:Value):Prop:=∀ x,a.ownBlock=some x->b.ownBlock≠some x
theorem Zfz.symm {a b:Value}(h:Zfz a b):Zfz b a:=fun x hx hy=>h x hy hx
def Zxj (w:World)(B:Nat)(v:Value)(l:List Rg):Prop:=∃ q,v=.slice (some ⟨q,0,none⟩) l.length l.length/\Blk w q 163 (Zdf.flat l).toArray/\B<=q
structure Za7 (w:World) (B g:Nat) (S:Zgk) (r:Rn) (V:Zd8):Prop where
 blk:Blk w g 128 (Zzg S r V)
 hg:B<=g
 regs:Zxj w B V.rg r.regs
 evs:Zq8.Own 225 B w V.ev r.evs
 bars:Zoe.Own 169 B w V.br r.bars
 addr:Zbj.Own 175 B w V.ad r.addr
 data:Zbj.Own 175 B w V.da r.data
 hang:Zbj.Own 175 B w V.hg r.hang
 a1:Zfz V.ad V.da
 a2:Zfz V.ad V.hg
 a3:Zfz V.da V.hg
theorem Zdi {w:World}{B:Nat}{t:TypeId}{z n:Nat}{v:Value}{cs:List Value}(h:w.ownsRow B t z v n cs){b:Nat}(hb:v.ownBlock=some b):∃ cur,w.heap[b]?=some (.cells cur t (0,0))/\B<=b:=by
 rcases h.2 with ⟨e,_⟩ | ⟨g,cap,cur,e,h1,h2,_⟩
 ·subst e;cases hb
 ·subst e;have hgb:g=b:=by simpa [Value.ownBlock] using hb
  subst hgb;exact⟨cur,h2,h1⟩
theorem Zc2 {w:World}{B:Nat}{t t2:TypeId}{z n g:Nat}{v:Value}{cs:List Value}{ds:Array Value}(h:w.ownsRow B t z v n cs)(hg:Blk w g t2 ds)(hne:t≠t2):v.ownBlock≠some g:=fun e=>by
 obtain⟨cur,hc,_⟩:=Zdi h e;unfold Blk at hg;rw [hg] at hc;simp only [Option.some.injEq,Obj.cells.injEq] at hc;exact hne hc.2.1.symm
theorem Zd5 {w:World}{B:Nat}{t:TypeId}{z n b:Nat}{v:Value}{cs:List Value}(h:w.ownsRow B t z v n cs)(hb:v.ownBlock=some b):b<w.heap.size:=by
 obtain⟨cur,hc,_⟩:=Zdi h hb;exact (Array.getElem?_eq_some_iff.1 hc).1
theorem Zae {w:World}{B:Nat}{t t2:TypeId}{z n g:Nat}{v:Value}{cs:List Value}{ds:Array Value}(h:w.ownsRow B t z v n cs)(hg:Blk w g t2 ds)(hne:t≠t2)(i:Nat)(u:Value):(w.setCell ⟨g,i,none⟩ u).ownsRow B t z v n cs:=
 Zb7 h fun b hb=>Below.heap_setCell w ⟨g,i,none⟩ u b (fun e=>Zc2 h hg hne (by rw [hb,e]))
theorem Za5 {w:World}{g q:Nat}{t t2:TypeId}{cs ds:Array Value}(h:Blk w g t cs)(k:Blk w q t2 ds)(hne:t≠t2):g≠q:=fun e=>by
 subst e;unfold Blk at h k;rw [h] at k;simp only [Option.some.injEq,Obj.cells.injEq] at k;exact hne k.2.1
theorem Zax {w w1:World}{B B2 g:Nat}{t t2:TypeId}{z n:Nat}{v v':Value}{cs:List Value}{ds:Array Value}(h:Blk w g t2 ds)(ho:w.ownsRow B t z v n cs)(hne:t≠t2)(hg:Zbh w w1 B2 v v'):Blk w1 g t2 ds:=(hg.keep g h.lt (Zc2 ho h hne)).trans h
theorem Zbc {w w1:World}{B B3:Nat}{t:TypeId}{z n:Nat}{v v2 v3:Value}{cs:List Value}(h:w.ownsRow B t z v n cs)(ha:Zfz v v2)(hg:Zbh w w1 B3 v2 v3):w1.ownsRow B t z v n cs:=
 Zb7 h fun b hb=>hg.keep b (Zd5 h hb) (ha b hb)
theorem Zfz.grew {w w1:World}{B B3:Nat}{t:TypeId}{z n:Nat}{v v2 v3:Value}{cs:List Value}(ha:Zfz v v2)(h:w.ownsRow B t z v n cs)(hg:Zbh w w1 B3 v2 v3):Zfz v v3:=fun b hb hb3=>by
 rcases hg.which b hb3 with e | e
 ·exact ha b hb e
 ·have:=Zd5 h hb;omega
theorem Zxj.keep {w w1:World}{B:Nat}{v:Value}{l:List Rg}(h:Zxj w B v l)(hk:∀ q,Blk w q 163 (Zdf.flat l).toArray->w1.heap[q]?=w.heap[q]?):Zxj w1 B v l:=by
 obtain⟨q,h1,h2,h3⟩:=h;exact⟨q,h1,(hk q h2).trans h2,h3⟩
namespace Za7
variable {w w' w1:World} {B g:Nat} {S:Zgk} {r:Rn} {V:Zd8} {v':Value}
theorem drew (h:Za7 w B g S r V):Za7 w.drew B g S r V:=⟨h.blk,h.hg,h.regs,h.evs,h.bars,h.addr,h.data,h.hang,h.a1,h.a2,h.a3⟩
theorem below (h:Za7 w B g S r V)(hb:Below w.heap.size w w'):Za7 w' B g S r V:=
 ⟨h.blk.go hb,h.hg,h.regs.keep (fun _ hq=>hb.block _ hq.lt),Zah h.evs hb,Zah h.bars hb,Zah h.addr hb,Zah h.data hb,Zah h.hang hb,h.a1,h.a2,h.a3⟩
theorem full (h:Za7 w B g S r V):Za7 (w.setCell ⟨g,25,none⟩ (.bool true)) B g S { r with full:=true } V:=
 ⟨h.blk.set_ 25 _,h.hg,h.regs.keep (fun _ hq=>Below.heap_setCell w _ _ _ (Za5 hq h.blk (by decide))),Zae h.evs h.blk (by decide) _ _,Zae h.bars h.blk (by decide) _ _,Zae h.addr h.blk (by decide) _ _,Zae h.data h.blk (by decide) _ _,Zae h.hang h.blk (by decide) _ _,h.a1,h.a2,h.a3⟩
theorem ev (h:Za7 w B g S r V){l:List Evt}(hg:Zbh w w1 B V.ev v')(ho:Zq8.Own 225 B w1 v' l):Za7 (w1.setCell ⟨g,19,none⟩ v') B g S { r with evs:=l } { V with ev:=v' }:=by
 have hb1:=Zax h.blk h.evs (by decide) hg
 exact⟨hb1.set_ 19 _,h.hg,(h.regs.keep (fun _ hq=>(Below.heap_setCell w1 _ _ _ (Za5 hq h.blk (by decide))).trans (hg.keep _ hq.lt (Zc2 h.evs hq (by decide))))),
  Zae ho hb1 (by decide) _ _,Zae (Zaj h.bars h.evs (by decide) hg) hb1 (by decide) _ _,Zae (Zaj h.addr h.evs (by decide) hg) hb1 (by decide) _ _,
  Zae (Zaj h.data h.evs (by decide) hg) hb1 (by decide) _ _,Zae (Zaj h.hang h.evs (by decide) hg) hb1 (by decide) _ _,h.a1,h.a2,h.a3⟩
theorem br (h:Za7 w B g S r V){l:List Br}(hg:Zbh w w1 B V.br v')(ho:Zoe.Own 169 B w1 v' l):Za7 (w1.setCell ⟨g,20,none⟩ v') B g S { r with bars:=l } { V with br:=v' }:=by
 have hb1:=Zax h.blk h.bars (by decide) hg
 exact⟨hb1.set_ 20 _,h.hg,(h.regs.keep (fun _ hq=>(Below.heap_setCell w1 _ _ _ (Za5 hq h.blk (by decide))).trans (hg.keep _ hq.lt (Zc2 h.bars hq (by decide))))),
  Zae (Zaj h.evs h.bars (by decide) hg) hb1 (by decide) _ _,Zae ho hb1 (by decide) _ _,Zae (Zaj h.addr h.bars (by decide) hg) hb1 (by decide) _ _,
  Zae (Zaj h.data h.bars (by decide) hg) hb1 (by decide) _ _,Zae (Zaj h.hang h.bars (by decide) hg) hb1 (by decide) _ _,h.a1,h.a2,h.a3⟩
theorem ad (h:Za7 w B g S r V){l:List (Int×Int)}(hg:Zbh w w1 B V.ad v')(ho:Zbj.Own 175 B w1 v' l):Za7 (w1.setCell ⟨g,21,none⟩ v') B g S { r with addr:=l } { V with ad:=v' }:=by
 have hb1:=Zax h.blk h.addr (by decide) hg
 exact⟨hb1.set_ 21 _,h.hg,(h.regs.keep (fun _ hq=>(Below.heap_setCell w1 _ _ _ (Za5 hq h.blk (by decide))).trans (hg.keep _ hq.lt (Zc2 h.addr hq (by decide))))),
  Zae (Zaj h.evs h.addr (by decide) hg) hb1 (by decide) _ _,Zae (Zaj h.bars h.addr (by decide) hg) hb1 (by decide) _ _,Zae ho hb1 (by decide) _ _,
  Zae (Zbc h.data h.a1.symm hg) hb1 (by decide) _ _,Zae (Zbc h.hang h.a2.symm hg) hb1 (by decide) _ _,(h.a1.symm.grew h.data hg).symm,(h.a2.symm.grew h.hang hg).symm,h.a3⟩
theorem da (h:Za7 w B g S r V){l:List (Int×Int)}(hg:Zbh w w1 B V.da v')(ho:Zbj.Own 175 B w1 v' l):Za7 (w1.setCell ⟨g,22,none⟩ v') B g S { r with data:=l } { V with da:=v' }:=by
 have hb1:=Zax h.blk h.data (by decide) hg
 exact⟨hb1.set_ 22 _,h.hg,(h.regs.keep (fun _ hq=>(Below.heap_setCell w1 _ _ _ (Za5 hq h.blk (by decide))).trans (hg.keep _ hq.lt (Zc2 h.data hq (by decide))))),
  Zae (Zaj h.evs h.data (by decide) hg) hb1 (by decide) _ _,Zae (Zaj h.bars h.data (by decide) hg) hb1 (by decide) _ _,Zae (Zbc h.addr h.a1 hg) hb1 (by decide) _ _,
  Zae ho hb1 (by decide) _ _,Zae (Zbc h.hang h.a3.symm hg) hb1 (by decide) _ _,h.a1.grew h.addr hg,h.a2,(h.a3.symm.grew h.hang hg).symm⟩
theorem hgg (h:Za7 w B g S r V){l:List (Int×Int)}(hg:Zbh w w1 B V.hg v')(ho:Zbj.Own 175 B w1 v' l):Za7 (w1.setCell ⟨g,23,none⟩ v') B g S { r with hang:=l } { V with hg:=v' }:=by
 have hb1:=Zax h.blk h.hang (by decide) hg
 exact⟨hb1.set_ 23 _,h.hg,(h.regs.keep (fun _ hq=>(Below.heap_setCell w1 _ _ _ (Za5 hq h.blk (by decide))).trans (hg.keep _ hq.lt (Zc2 h.hang hq (by decide))))),
  Zae (Zaj h.evs h.hang (by decide) hg) hb1 (by decide) _ _,Zae (Zaj h.bars h.hang (by decide) hg) hb1 (by decide) _ _,Zae (Zbc h.addr h.a2 hg) hb1 (by decide) _ _,
  Zae (Zbc h.data h.a3 hg) hb1 (by decide) _ _,Zae ho hb1 (by decide) _ _,h.a1,h.a2.grew h.addr hg,h.a3.grew h.data hg⟩
theorem reg (h:Za7 w B g S r V){i:Nat}{x:Rg}(hi:i<r.regs.length){q:Nat}(hq:V.rg=.slice (some ⟨q,0,none⟩) r.regs.length r.regs.length) :
  Za7 (((((w.setCell ⟨q,i*5,none⟩ (Zai x.h)).setCell ⟨q,i*5+1,none⟩ (.int .u64 (x.on:Int))).setCell ⟨q,i*5+2,none⟩ (.int .u64 0)).setCell ⟨q,i*5+3,none⟩ (.int .u64 0)).setCell ⟨q,i*5+4,none⟩ (.int .u64 0)) B g S { r with regs:=r.regs.set i x } V:=by
 obtain⟨q',e,hb,hB⟩:=h.regs;rw [hq] at e;simp only [Value.slice.injEq,Option.some.injEq,Addr.mk.injEq,and_true] at e;subst e;have hgq:g≠q:=(Za5 hb h.blk (by decide)).symm;have k1:=hb.set_ (i*5) (Zai x.h);have k2:=k1.set_ (i*5+1) (.int .u64 (x.on:Int));have k3:=k2.set_ (i*5+2) (.int .u64 0);have k4:=k3.set_ (i*5+3) (.int .u64 0);have k5:=k4.set_ (i*5+4) (.int .u64 0);have ho:∀ {t:TypeId} {z n:Nat} {v:Value} {cs:List Value},w.ownsRow B t z v n cs->t≠163->(((((w.setCell ⟨q,i*5,none⟩ (Zai x.h)).setCell ⟨q,i*5+1,none⟩ (.int .u64 (x.on:Int))).setCell ⟨q,i*5+2,none⟩ (.int .u64 0)).setCell ⟨q,i*5+3,none⟩ (.int .u64 0)).setCell ⟨q,i*5+4,none⟩ (.int .u64 0)).ownsRow B t z v n cs:=
  fun h1 hne=>Zae (Zae (Zae (Zae (Zae h1 hb hne _ _) k1 hne _ _) k2 hne _ _) k3 hne _ _) k4 hne _ _
 refine⟨((((h.blk.far hgq _).far hgq _).far hgq _).far hgq _).far hgq _,h.hg,⟨q,by rw [hq,List.length_set],?_,hB⟩,ho h.evs (by decide),ho h.bars (by decide),ho h.addr (by decide),ho h.data (by decide),ho h.hang (by decide),h.a1,h.a2,h.a3⟩;rw [<- Zuy r.regs i x hi];exact k5
end Za7
def Zqw (g:Nat)(V:Zd8)(b:Nat):Prop:=b=g\/V.rg.ownBlock=some b\/V.ev.ownBlock=some b\/V.br.ownBlock=some b\/V.ad.ownBlock=some b\/V.da.ownBlock=some b\/V.hg.ownBlock=some b
structure FrV (w w':World) (g:Nat) (V V':Zd8):Prop where
 size:w.heap.size<=w'.heap.size
 keep:∀ b,b<w.heap.size->¬ Zqw g V b->w'.heap[b]?=w.heap[b]?
 which:∀ b,Zqw g V' b->Zqw g V b\/w.heap.size<=b
theorem FrV.refl (w:World)(g:Nat)(V:Zd8):FrV w w g V V:=⟨Nat.le_refl _,fun _ _ _=>rfl,fun _ h=>Or.inl h⟩
theorem FrV.trans {w w1 w2:World}{g:Nat}{V V1 V2:Zd8}(h:FrV w w1 g V V1)(k:FrV w1 w2 g V1 V2):FrV w w2 g V V2:=
 ⟨Nat.le_trans h.size k.size,fun b hb hn=>by
  rw [k.keep b (Nat.lt_of_lt_of_le hb h.size) (fun hm=>by
   rcases h.which b hm with e | e
   ·exact hn e
   ·omega),h.keep b hb hn],fun b hm=>by
  rcases k.which b hm with e | e
  ·exact h.which b e
  ·exact Or.inr (Nat.le_trans h.size e)⟩
theorem FrV.of_below {w w':World}{g:Nat}{V:Zd8}(h:Below w.heap.size w w'):FrV w w' g V V:=⟨h.size,fun b hb _=>h.block b hb,fun _ hm=>Or.inl hm⟩
theorem FrV.drew {w w':World}{g:Nat}{V V':Zd8}(h:FrV w w' g V V'):FrV w w'.drew g V V':=⟨h.size,h.keep,h.which⟩
theorem FrV.set (w:World)(g:Nat)(V:Zd8)(i:Nat)(u:Value):FrV w (w.setCell ⟨g,i,none⟩ u) g V V:=
 ⟨by simp [World.setCell],fun b _ hn=>Below.heap_setCell w _ u b (fun e=>hn (Or.inl e)),fun _ hm=>Or.inl hm⟩
theorem FrV.row {w w1:World}{g B i:Nat}{V V':Zd8}{v v':Value}(hg:Zbh w w1 B v v')(hv:∀ b,v.ownBlock=some b->Zqw g V b)(hV:∀ b,Zqw g V' b->Zqw g V b\/v'.ownBlock=some b):FrV w (w1.setCell ⟨g,i,none⟩ v') g V V':=
 ⟨by simpa [World.setCell] using hg.below.size,fun b hb hn=>(Below.heap_setCell w1 _ _ b (fun e=>hn (Or.inl e))).trans (hg.keep b hb (fun e=>hn (hv b e))),fun b hm=>by
  rcases hV b hm with e | e
  ·exact Or.inl e
  ·rcases hg.which b e with e2 | e2
   ·exact Or.inl (hv b e2)
   ·exact Or.inr e2⟩
theorem FrV.ev {w w1:World}{g B:Nat}{V:Zd8}{v':Value}(hg:Zbh w w1 B V.ev v'):FrV w (w1.setCell ⟨g,19,none⟩ v') g V { V with ev:=v' }:=
 FrV.row hg (fun b h=>Or.inr (Or.inr (Or.inl h))) (fun b hm=>by unfold Zqw at *;simp only at hm;rcases hm with h | h | h | h | h | h | h <;> simp [h])
theorem FrV.br {w w1:World}{g B:Nat}{V:Zd8}{v':Value}(hg:Zbh w w1 B V.br v'):FrV w (w1.setCell ⟨g,20,none⟩ v') g V { V with br:=v' }:=
 FrV.row hg (fun b h=>Or.inr (Or.inr (Or.inr (Or.inl h)))) (fun b hm=>by unfold Zqw at *;simp only at hm;rcases hm with h | h | h | h | h | h | h <;> simp [h])
theorem FrV.ad {w w1:World}{g B:Nat}{V:Zd8}{v':Value}(hg:Zbh w w1 B V.ad v'):FrV w (w1.setCell ⟨g,21,none⟩ v') g V { V with ad:=v' }:=
 FrV.row hg (fun b h=>Or.inr (Or.inr (Or.inr (Or.inr (Or.inl h))))) (fun b hm=>by unfold Zqw at *;simp only at hm;rcases hm with h | h | h | h | h | h | h <;> simp [h])
theorem FrV.da {w w1:World}{g B:Nat}{V:Zd8}{v':Value}(hg:Zbh w w1 B V.da v'):FrV w (w1.setCell ⟨g,22,none⟩ v') g V { V with da:=v' }:=
 FrV.row hg (fun b h=>Or.inr (Or.inr (Or.inr (Or.inr (Or.inr (Or.inl h)))))) (fun b hm=>by unfold Zqw at *;simp only at hm;rcases hm with h | h | h | h | h | h | h <;> simp [h])
theorem FrV.hgg {w w1:World}{g B:Nat}{V:Zd8}{v':Value}(hg:Zbh w w1 B V.hg v'):FrV w (w1.setCell ⟨g,23,none⟩ v') g V { V with hg:=v' }:=
 FrV.row hg (fun b h=>Or.inr (Or.inr (Or.inr (Or.inr (Or.inr (Or.inr h)))))) (fun b hm=>by unfold Zqw at *;simp only at hm;rcases hm with h | h | h | h | h | h | h <;> simp [h])
theorem FrV.reg {w w':World}{g:Nat}{V:Zd8}(h:FrV w w' g V V){q:Nat}(hq:V.rg.ownBlock=some q)(o:Nat)(u:Value):FrV w (w'.setCell ⟨q,o,none⟩ u) g V V:=
 ⟨by simpa [World.setCell] using h.size,fun b hb hn=>(Below.heap_setCell w' _ u b (fun e=>hn (Or.inr (Or.inl (by rw [hq,e]))))).trans (h.keep b hb hn),h.which⟩
theorem Za7.mine {w:World}{B g:Nat}{S:Zgk}{r:Rn}{V:Zd8}(h:Za7 w B g S r V){b:Nat}(hm:Zqw g V b):b<w.heap.size/\B<=b:=by
 rcases hm with rfl | e | e | e | e | e | e
 ·exact⟨h.blk.lt,h.hg⟩
 ·obtain⟨q,hv,hq,hB⟩:=h.regs;rw [hv] at e;have:q=b:=by simpa [Value.ownBlock] using e
  exact this ▸ ⟨hq.lt,hB⟩
 ·exact⟨Zd5 h.evs e,(Zdi h.evs e).choose_spec.2⟩
 ·exact⟨Zd5 h.bars e,(Zdi h.bars e).choose_spec.2⟩
 ·exact⟨Zd5 h.addr e,(Zdi h.addr e).choose_spec.2⟩
 ·exact⟨Zd5 h.data e,(Zdi h.data e).choose_spec.2⟩
 ·exact⟨Zd5 h.hang e,(Zdi h.hang e).choose_spec.2⟩
theorem Blk.frv {w w':World}{g c:Nat}{V V':Zd8}{t:TypeId}{cs:Array Value}(h:Blk w c t cs)(hf:FrV w w' g V V')(hn:¬ Zqw g V c):Blk w' c t cs:=(hf.keep c h.lt hn).trans h
def Z3c (L:List Nm)(x:Nm):Nat->ByteArray:=fun t=>⟨((L[t]?).getD x).toArray⟩
theorem Zws {L:List Nm}(h:Zi3 L){i j:Nat}{a b:Nm}(hi:L[i]?=some a)(hj:L[j]?=some b)(hij:i<j):ltN a b=true:=by
 obtain⟨h1,rfl⟩:=List.getElem?_eq_some_iff.1 hi;obtain⟨h2,rfl⟩:=List.getElem?_eq_some_iff.1 hj;exact List.pairwise_iff_getElem.1 h i j h1 h2 hij
theorem Zu3 {L:List Nm}{x:Nm}(h:x∈L):L[L.idxOf x]?=some x:=by
 have h1:=List.idxOf_lt_length_of_mem h;rw [List.getElem?_eq_getElem h1,List.getElem_idxOf]
theorem Z4l {L:List Nm}{x:Nm}(hs:Zi3 L)(hx:x∈L):Lib.bsGo (fun t=>Op.bytesLess (Z3c L x t).toList (⟨x.toArray⟩:ByteArray).toList) L.length 0 L.length=L.idxOf x:=by
 have hk:=List.idxOf_lt_length_of_mem hx;have hat:=Zu3 hx;refine Lib.bsGo_spec _ _ (fun t ht=>?_) (fun t ht=>?_) _ _ _ ω ω ω
 ·rw [Zjm,Zhr];have h1:=List.getElem?_eq_getElem (show t<L.length by omega);unfold Z3c;rw [Zjm,h1];exact Zws hs h1 hat ht
 ·rw [Zjm,Zhr];unfold Z3c;rw [Zjm];cases h1:L[t]? with
  | none=>exact Zg8 x
  | some y=>
   show ltN y x=false;rcases Nat.lt_or_eq_of_le ht with h | h
   ·exact Zm0 (Zws hs hat h1 h)
   ·rw [<- h,hat] at h1;cases h1
    exact Zg8 x
theorem Zno (A:Option Addr)(cap:Nat)(L:List Nm)(x:Nm)(w:World)(h:Zc1.At w A L)(hl:L.length<=1000000)(hs:Zi3 L)(hx:x∈L) :
  Calls Tryz.prog 19 #[.slice A L.length cap,.string ⟨x.toArray⟩] w fun e w'=>e=.returned (.tuple #[.int .i64 ((L.idxOf x:Nat):Int),.bool true])/\∃ q,w'=w.drewN q:=by
 obtain⟨b,o,rfl,_⟩:=h _ _ (Zu3 hx);have hb:=Z4l hs hx;have hk:=List.idxOf_lt_length_of_mem hx;refine (Any2.slices_BinarySearch_string Tryz.searchS b o L.length cap (Z3c L x) ⟨x.toArray⟩ w ω (fun j hj=>?_)).mono ?_
 ·have h1:=List.getElem?_eq_getElem hj;obtain⟨b',o',e,hc⟩:=Z4m h h1;simp only [Option.some.injEq,Addr.mk.injEq,and_true] at e;obtain⟨rfl,rfl⟩:=e;rw [hc];unfold Z3c;rw [h1];rfl
 ·rintro e w' ⟨he,hq⟩;refine⟨?_,hq⟩;rw [he,hb];have hsx:Z3c L x (L.idxOf x)=⟨x.toArray⟩:=by
   unfold Z3c;rw [Zu3 hx];rfl
  rw [hsx];simp [hk]
end Go.Proofs.YtgjefdaaihgliaaGreatDoor
