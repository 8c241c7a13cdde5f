/- slices.Clone at instructions and at ints. -/
import Derived.Test.YtgjefdaaihgliaaGreatDoorMn31

namespace Go.Proofs.YtgjefdaaihgliaaGreatDoor
open Go.RowKit
section
set_option maxHeartbeats 2000000
set_option maxRecDepth 100000
theorem Zub (A:Option Addr)(cap:Nat)(c:List Ins)(w:World)(h:Zcj w A c)(hl:c.length<=256) :
  Calls Tryz.prog 25 #[.slice A c.length cap] w fun e w'=>∃ A' cp,e=.returned (.slice A' c.length cp)/\Zx9.Own 92 w.heap.size w' (.slice A' c.length cp) c/\Below w.heap.size w w':=by
 cases A with
 | none=>
  have hc:c=[]:=by
   cases c with
   | nil=>rfl
   | cons x r=>
    obtain⟨b,o,e,_⟩:=h 0 x rfl;cases e
  subst hc;refine (AnyE.slices_Clone_nil Tryz.cloneN 0 cap w).mono ?_;rintro e w' ⟨rfl,rfl⟩;exact⟨none,0,rfl,Enc.Own.nil _ _ _,Below.refl _ _⟩
 | some p=>
  obtain⟨z,hz,hzs⟩:=Z7s.info;obtain⟨i0,hi,hz0,hz1,hz2⟩:=Zbx hz;have hcells:∀ j u,(Zx9.flat c)[j]?=some u->w.cell? (p.add j)=some u:=fun j u hj=>by
   have h0:0<c.length:=by
    refine Nat.pos_of_ne_zero fun e=>?_
    rw [List.length_eq_zero_iff.1 e] at hj;cases hj
   obtain⟨b,o,e,_⟩:=h 0 c[0] (List.getElem?_eq_getElem h0);cases e
   rw [Enc.addr_add];exact (Z2e h).cells j u hj
  have HC:=Zh hcells;have hsl:=fun (W:World)=>Lib.run_eql_slice_nil (P:=Tryz.prog) W 66 92 (some p) c.length cap 0 0 Tryz.underlying66
  clear h hcells;go_enter Tryz.func25,Tryz.ntmps25
  go_wp2_with (at_builtin;refine wpList_append_own _ rfl _ _ 66 rfl w.heap.size 92 i0 z 8 80 Tryz.underlying66 hi hz0 hz1 hz2 hzs (by decide) _ _ _ rfl (World.ownsRow_made w #[] 0 (Nat.le_refl _) (Nat.zero_le _) (by simp)) p c.length cap (Zx9.flat c) rfl ?qc1 ?qc2 ?qc3 ?qc4 ?qc5 ?qc6 ?_)
  case qc1=>exact Zx9.flat_len c
  case qc2=>exact fun j u hj=>Lib.cell?_alloc_some _ (HC.o j u hj)
  case qc3=>exact Zf9
  case qc4=>unfold maxLen;omega
  case qc5=>omega
  intro v' w1 hown hgrow hnil;have HO:=Zh hown;have HB:=Zh (((Below.refl _ w).alloc (Nat.le_refl _) _).grown hgrow (by simp) (by intro k hk;simp [Value.ownBlock] at hk;omega));clear hown hgrow;go_wp2;go_ret;obtain⟨A',cp,rfl⟩:=Zbe HO.o;exact⟨A',cp,rfl,HO.o,HB.o⟩
theorem Zua (A:Option Addr)(cap:Nat)(l:List Int)(w:World)(h:Zde.At w A l)(hl:l.length<=1000000) :
  Calls Tryz.prog 18 #[.slice A l.length cap] w (Zn1 l w):=by
 cases A with
 | none=>
  have hc:l=[]:=by
   cases l with
   | nil=>rfl
   | cons x r=>
    obtain⟨b,o,e,_⟩:=h 0 x rfl;cases e
  subst hc;refine (AnyE.slices_Clone_nil Tryz.cloneI 0 cap w).mono ?_;rintro e w' ⟨rfl,rfl⟩;exact⟨_,rfl,Enc.Own.nil _ _ _,Below.refl _ _⟩
 | some p=>
  obtain⟨z,hz,hzs⟩:=Zmm.info;obtain⟨i0,hi,hz0,hz1,hz2⟩:=Zbx hz;have hcells:∀ j u,(Zde.flat l)[j]?=some u->w.cell? (p.add j)=some u:=fun j u hj=>by
   have h0:0<l.length:=by
    refine Nat.pos_of_ne_zero fun e=>?_
    rw [List.length_eq_zero_iff.1 e] at hj;cases hj
   obtain⟨b,o,e,_⟩:=h 0 l[0] (List.getElem?_eq_getElem h0);cases e
   rw [Enc.addr_add];exact h.cells j u hj
  have HC:=Zh hcells;have hsl:=fun (W:World)=>Lib.run_eql_slice_nil (P:=Tryz.prog) W 37 3 (some p) l.length cap 0 0 Tryz.underlying37
  clear h hcells;go_enter Tryz.func18,Tryz.ntmps18
  go_wp2_with (at_builtin;refine wpList_append_own _ rfl _ _ 37 rfl w.heap.size 3 i0 z 1 8 Tryz.underlying37 hi hz0 hz1 hz2 hzs (by decide) _ _ _ rfl (World.ownsRow_made w #[] 0 (Nat.le_refl _) (Nat.zero_le _) (by simp)) p l.length cap (Zde.flat l) rfl ?qc1 ?qc2 ?qc3 ?qc4 ?qc5 ?qc6 ?_)
  case qc1=>simpa using Zde.flat_len l
  case qc2=>exact fun j u hj=>Lib.cell?_alloc_some _ (HC.o j u hj)
  case qc3=>exact Zf9
  case qc4=>unfold maxLen;omega
  case qc5=>omega
  intro v' w1 hown hgrow hnil;have HO:=Zh hown;have HB:=Zh (((Below.refl _ w).alloc (Nat.le_refl _) _).grown hgrow (by simp) (by intro k hk;simp [Value.ownBlock] at hk;omega));clear hown hgrow;go_wp2;go_ret;exact⟨_,rfl,HO.o,HB.o⟩
end
end Go.Proofs.YtgjefdaaihgliaaGreatDoor
