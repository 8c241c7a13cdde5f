/- Layer 15: the runner's run: the program's: one round's arms told plainly. -/
import Derived.Test.YtdfmcfppoohckaaGreatDoorTm24

namespace Go.Proofs.YtdfmcfppoohckaaGreatDoor
open Go.RowKit
section
def Zhj (B g:Nat)(S:Zgk)(V:Zd6)(o:Option Rn)(w:World)(e:Ending)(w':World):Prop:=match o with
 | some r'=>Zb1 B g S V r' (.bool true) w e w'
 | none=>∃ r',Zb1 B g S V r' (.bool false) w e w'
theorem Zhj.yes {B g:Nat}{S:Zgk}{V:Zd6}{r':Rn}{o:Option Rn}{w w':World}{e:Ending}(h:o=some r')(p:Zb1 B g S V r' (.bool true) w e w'):Zhj B g S V o w e w':=by subst h;exact p
theorem Zhj.no {B g:Nat}{S:Zgk}{V:Zd6}{r':Rn}{o:Option Rn}{w w':World}{e:Ending}(h:o=none)(p:Zb1 B g S V r' (.bool false) w e w'):Zhj B g S V o w e w':=by subst h;exact⟨r',p⟩
structure Rnd (w0 w:World) (g nr:Nat) (S:Zgk) (c:List Ins) (X:Option Rn) (V:Zd6) (k:Nat) (r:Rn) (V':Zd6) (wr:World):Prop where
 inv:Inv S.C nr k r
 run:Za0 wr w0.heap.size g S r V'
 go:goL S.C c k r=X
 below:Below w0.heap.size w wr
 fr:FrV w wr g V V'
theorem Rnd.step {w0 w wr w2:World}{g nr k n:Nat}{S:Zgk}{c:List Ins}{X:Option Rn}{V V1 V2:Zd6}{r r2:Rn}{x:Ins}(h:Rnd w0 w g nr S c X V k r V1 wr)(hx:c[k]?=some x)(hf:r.full=false)(hv:Zoe S.C nr c k x)(hs:Zbh S.C r c k x=some (r2,n))(hR:Za0 w2 w0.heap.size g S r2 V2)(hb:Below w0.heap.size wr w2)(hF:FrV wr w2 g V1 V2):Rnd w0 w g nr S c X V n r2 V2 w2:=
 ⟨h.inv.step hv hs,hR,by rw [<- h.go,Zht hx hf hs],h.below.trans hb,h.fr.trans hF⟩
theorem Rnd.fell {w0 w wr w2:World}{g nr k:Nat}{S:Zgk}{c:List Ins}{X:Option Rn}{V V1 V2:Zd6}{r r2:Rn}{x:Ins}{e:Ending}(h:Rnd w0 w g nr S c X V k r V1 wr)(hx:c[k]?=some x)(hf:r.full=false)(hs:Zbh S.C r c k x=none)(he:e=.returned (.bool false))(hR:Za0 w2 w0.heap.size g S r2 V2)(hb:Below w0.heap.size wr w2)(hF:FrV wr w2 g V1 V2):Zhj w0.heap.size g S V X w e w2:=
 Zhj.no (by rw [<- h.go,Zhs hx hf hs]) ⟨V2,he,hR,h.below.trans hb,h.fr.trans hF⟩
section
variable {C:Cx} {r:Rn} {c:List Ins} {k:Nat} {d a b imm fence:Int} {loc label:Nm}
theorem Z1f:Zbh C r c k ⟨1,d,a,b,imm,loc,label,fence⟩=(Zcj C r k loc 0 ⟨.num imm,0⟩).map (·,k+1):=rfl
theorem Z1g:Zbh C r c k ⟨2,d,a,b,imm,loc,label,fence⟩=(Zcj C r k loc 0 (rgA r a)).map (·,k+1):=rfl
theorem Z53:Zbh C r c k ⟨3,d,a,b,imm,loc,label,fence⟩=some (Zej C r k loc 0 d,k+1):=rfl
theorem Z54:Zbh C r c k ⟨4,d,a,b,imm,loc,label,fence⟩=some (Zfz C r d ⟨.num imm,0⟩,k+1):=rfl
theorem Z55:Zbh C r c k ⟨5,d,a,b,imm,loc,label,fence⟩=some (Zx0 C r k 1,k+1):=rfl
theorem Z3v:Zbh C r c k ⟨13,d,a,b,imm,loc,label,fence⟩=some (Zx0 C r k fence,k+1):=rfl
theorem Z1h:Zbh C r c k ⟨6,d,a,b,imm,loc,label,fence⟩=(Zi2 C r k ⟨6,d,a,b,imm,loc,label,fence⟩).map (·,k+1):=rfl
theorem Z1i:Zbh C r c k ⟨7,d,a,b,imm,loc,label,fence⟩=(Zi2 C r k ⟨7,d,a,b,imm,loc,label,fence⟩).map (·,k+1):=rfl
theorem Z56:Zbh C r c k ⟨8,d,a,b,imm,loc,label,fence⟩=some (Zeq C r ⟨8,d,a,b,imm,loc,label,fence⟩,k+1):=rfl
theorem Z57:Zbh C r c k ⟨9,d,a,b,imm,loc,label,fence⟩=some (Zeq C r ⟨9,d,a,b,imm,loc,label,fence⟩,k+1):=rfl
theorem Z3t:Zbh C r c k ⟨10,d,a,b,imm,loc,label,fence⟩=some (Zeq C r ⟨10,d,a,b,imm,loc,label,fence⟩,k+1):=rfl
theorem Zw7:Zbh C r c k ⟨11,d,a,b,imm,loc,label,fence⟩=brL r c k ⟨11,d,a,b,imm,loc,label,fence⟩:=rfl
theorem Z3u:Zbh C r c k ⟨12,d,a,b,imm,loc,label,fence⟩=some (r,k+1):=rfl
end
section
set_option maxHeartbeats 4000000
set_option maxRecDepth 100000
variable {w0 w:World} {g nr k:Nat} {S:Zgk} {r:Rn} {V:Zd6}
theorem Z33 (pl:Nat)(loc:Nm)(x:Rg)(HS:Zrg w0 S)(hb:Below w0.heap.size w0 w)(hI:Inv S.C nr k r)(hf:r.full=false)(hR:Za0 w w0.heap.size g S r V)(hloc:loc∈S.C.locs)(hx:Zil S.C r.evs x) :
  Calls Tryz.prog 56 #[.pointer (some ⟨g,0,none⟩),.int .i64 (pl:Int),.string ⟨loc.toArray⟩,.agg #[.int .u64 0,.int .u64 0,.int .u64 0,.int .u64 0],rgV x] w (Zcq w0.heap.size g S V r (Zcj S.C r pl loc 0 x) w):=Zxm pl loc 0 x HS hb hI hf hR hloc (Rds.zero _) hx
theorem Z34 (pl:Nat)(loc:Nm)(n:Int)(HS:Zrg w0 S)(hb:Below w0.heap.size w0 w)(hI:Inv S.C nr k r)(hf:r.full=false)(hR:Za0 w w0.heap.size g S r V)(hloc:loc∈S.C.locs)(hn:Zc7 n) :
  Calls Tryz.prog 56 #[.pointer (some ⟨g,0,none⟩),.int .i64 (pl:Int),.string ⟨loc.toArray⟩,.agg #[.int .u64 0,.int .u64 0,.int .u64 0,.int .u64 0],.agg #[.iface 110 (.int .i64 n),.int .u64 0,.int .u64 0,.int .u64 0,.int .u64 0]] w (Zcq w0.heap.size g S V r (Zcj S.C r pl loc 0 ⟨.num n,0⟩) w):=Zxm pl loc 0 ⟨.num n,0⟩ HS hb hI hf hR hloc (Rds.zero _) ⟨hn,Rds.zero _⟩
theorem Z5w (pl:Nat)(loc:Nm)(d:Nat)(HS:Zrg w0 S)(hb:Below w0.heap.size w0 w)(hI:Inv S.C nr k r)(hf:r.full=false)(hR:Za0 w w0.heap.size g S r V)(hloc:loc∈S.C.locs)(hd:d<r.regs.length)(hl:r.regs.length<=32) :
  Calls Tryz.prog 57 #[.pointer (some ⟨g,0,none⟩),.int .i64 (pl:Int),.string ⟨loc.toArray⟩,.agg #[.int .u64 0,.int .u64 0,.int .u64 0,.int .u64 0],.int .i64 (d:Int)] w (Zb1 w0.heap.size g S V (Zej S.C r pl loc 0 (d:Int)) (.tuple #[]) w):=Z5v pl loc 0 d HS hb hI hf hR hloc (Rds.zero _) hd hl
theorem Z7c (d:Nat)(n:Int)(HS:Zrg w0 S)(hb:Below w0.heap.size w0 w)(hd:d<r.regs.length)(hl:r.regs.length<=32)(hR:Za0 w w0.heap.size g S r V) :
  Calls Tryz.prog 58 #[.pointer (some ⟨g,0,none⟩),.int .i64 (d:Int),.agg #[.iface 110 (.int .i64 n),.int .u64 0,.int .u64 0,.int .u64 0,.int .u64 0]] w (Zb1 w0.heap.size g S V (Zfz S.C r (d:Int) ⟨.num n,0⟩) (.tuple #[]) w):=Z6m d ⟨.num n,0⟩ HS hb hd hl hR
theorem Z7t (pl d a b:Nat)(op imm:Int)(hop:op=6\/op=7)(loc label:List UInt8)(fence:Int)(HS:Zrg w0 S)(hb:Below w0.heap.size w0 w)(hI:Inv S.C nr k r)(hf:r.full=false)(hR:Za0 w w0.heap.size g S r V)(hd:d<r.regs.length)(hl:r.regs.length<=32)(ha:a<r.regs.length)(hb2:b<r.regs.length) :
  Calls Tryz.prog 59 #[.pointer (some ⟨g,0,none⟩),.int .i64 (pl:Int),Z04 op d a b imm loc label fence] w (Zcq w0.heap.size g S V r (Zi2 S.C r pl ⟨op,d,a,b,imm,loc,label,fence⟩) w):=by
 have hae:=List.getElem?_eq_getElem ha;have hbe:=List.getElem?_eq_getElem hb2;obtain⟨ra,hra⟩:∃ x,r.regs[a]=x:=⟨_,rfl⟩;obtain⟨rb,hrb⟩:∃ x,r.regs[b]=x:=⟨_,rfl⟩;rw [hra] at hae;rw [hrb] at hbe;have oka:=hI.regs ra (List.mem_of_getElem? hae);have okb:=hI.regs rb (List.mem_of_getElem? hbe);have ga:=Zh4 hae;have gb:=Zh4 hbe;obtain⟨ah,ao⟩:=ra;cases ah with
 | adr s=>
  rcases hop with rfl | rfl
  ·have hm:Zi2 S.C r pl ⟨6,d,a,b,imm,loc,label,fence⟩=some (Zej S.C r pl s ao (d:Int)):=by unfold Zi2;simp only [ga];rfl
   rw [hm];exact Z5f pl d a b 6 imm rfl loc label fence s ao HS hb hI hf hR hd hl hae oka
  ·have hm:Zi2 S.C r pl ⟨7,d,a,b,imm,loc,label,fence⟩=Zcj S.C r pl s ao rb:=by unfold Zi2;simp only [ga,gb];rfl
   rw [hm];exact Z5h pl d a b 7 imm rfl loc label fence s ao rb HS hb hI hf hR hae oka hbe okb
 | num n=>
  have hm:Zi2 S.C r pl ⟨op,d,a,b,imm,loc,label,fence⟩=none:=by unfold Zi2;simp only [ga]
  rw [hm];exact Z5e pl op d a b imm loc label fence n ao hb hI hR hae
 | rd n=>
  have hm:Zi2 S.C r pl ⟨op,d,a,b,imm,loc,label,fence⟩=none:=by unfold Zi2;simp only [ga]
  rw [hm];exact Z5g pl op d a b imm loc label fence n ao hb hI hR hae
 | non=>
  have hm:Zi2 S.C r pl ⟨op,d,a,b,imm,loc,label,fence⟩=none:=by unfold Zi2;simp only [ga]
  rw [hm];exact Z5d pl op d a b imm loc label fence ao hb hI hR hae
theorem Z3c (op:Int)(hop:op=8\/op=9\/op=10)(d a b:Nat)(imm:Int)(loc label:List UInt8)(fence:Int)(HS:Zrg w0 S)(hb:Below w0.heap.size w0 w)(hI:Inv S.C nr k r)(hR:Za0 w w0.heap.size g S r V)(hd:d<r.regs.length)(hl:r.regs.length<=32)(ha:a<r.regs.length)(hb2:b<r.regs.length)(himm:Zc7 imm) :
  Calls Tryz.prog 60 #[.pointer (some ⟨g,0,none⟩),Z04 op d a b imm loc label fence] w (Zb1 w0.heap.size g S V (Zeq S.C r ⟨op,d,a,b,imm,loc,label,fence⟩) (.tuple #[]) w):=by
 have hae:=List.getElem?_eq_getElem ha;have hbe:=List.getElem?_eq_getElem hb2;obtain⟨ra,hra⟩:∃ x,r.regs[a]=x:=⟨_,rfl⟩;obtain⟨rb,hrb⟩:∃ x,r.regs[b]=x:=⟨_,rfl⟩;rw [hra] at hae;rw [hrb] at hbe;have oka:=hI.regs ra (List.mem_of_getElem? hae);have okb:=hI.regs rb (List.mem_of_getElem? hbe);have ga:=Zh4 hae;have gb:=Zh4 hbe;have hm:Zeq S.C r ⟨op,d,a,b,imm,loc,label,fence⟩=Zfz S.C r (d:Int) (Znr op a b ra (if op=8 then ⟨.num imm,0⟩ else rb)):=by
  rcases hop with rfl | rfl | rfl
  ·unfold Zeq Znr;simp only [ga];simp
  ·unfold Zeq Znr;simp only [ga,gb];by_cases hab:a=b
   ·simp [hab]
   ·have hab2:¬ (a:Int)=(b:Int):=ω;simp [hab,hab2]
  ·unfold Zeq Znr;simp only [ga,gb];simp
 rw [hm];exact Z7e op d a b imm loc label fence ra rb _ rfl himm HS hb hI hR hd hae oka hbe okb hl
end
end
end Go.Proofs.YtdfmcfppoohckaaGreatDoor
