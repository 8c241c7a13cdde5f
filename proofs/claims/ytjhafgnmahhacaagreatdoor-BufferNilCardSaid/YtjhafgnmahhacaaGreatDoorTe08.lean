/- Layer 8: what the calls read of the library's variables (Env), and the library's contracts -/
import Derived.Test.YtjhafgnmahhacaaGreatDoorTe07
import Derived.Lib.AppendIntMem
import Derived.Lib.AtoiErrMem
import Derived.Sort.Statements
import Derived.Laws.StructEq
import Derived.Lib.ItoaLen
import Derived.RegionTactic
import Derived.BigRegion
import Derived.Shelf.SlGeneric
import Derived.Shelf.SlSortCmp.WholeK
import Derived.Ground.SlsfProg
import Derived.Shelf.Spec.SearchS
import Derived.ProofKit
import Derived.OpenShut
import Derived.Deep.DeepHandedRow
import Derived.Carry
namespace Go.Proofs.YtjhafgnmahhacaaGreatDoor
open Go.RowKit
theorem compare_c (s p : ByteArray) (w : World) : Calls Tryz.prog 269 #[.string s, .string p] w fun e w' => e = .returned (.int .i64 (Lib.compareBytes s.data.toList p.data.toList)) ∧ w = w' :=
  (Tryz.strings_Compare s p w).mono fun _ _ ⟨h, k⟩ => ⟨h, k.symm⟩
def standC (x y : Th) : Int :=
  if x.1 = -1 ∧ y.1 = -1 then Lib.compareBytes x.2.2 y.2.2
  else if x.1 = -1 then 1 else if y.1 = -1 then -1
  else if x.1 ≠ y.1 then x.1 - y.1 else x.2.1 - y.2.1
theorem grow_two (w : World) (a b : Obj) : ∃ q os', (w.alloc a).alloc b = Sort.grow (w.drewN q) os' := ⟨0, #[a, b], by rw [Sort.alloc_eq_grow, Sort.alloc_eq_grow, Sort.grow_grow]; rfl⟩
abbrev thVal (t r : Int) (l : List UInt8) : Value := .agg #[.int .i64 t, .int .i64 r, .string ⟨l.toArray⟩]
section
variable {t r t' r' : Int} {l l' : List UInt8} {w : World}
set_option maxHeartbeats 2000000 in
set_option maxRecDepth 100000 in
theorem standP (h1 : -1 ≤ t) (h2 : t ≤ 15) (h3 : 0 ≤ r) (h4 : r ≤ 31) (h1' : -1 ≤ t') (h2' : t' ≤ 15) (h3' : 0 ≤ r') (h4' : r' ≤ 31) :
    Calls Tryz.prog 204 #[thVal t r l, thVal t' r' l'] w fun e w' => e = .returned (.int .i64 (standC (t, r, l) (t', r', l'))) ∧ ∃ q os', w' = Sort.grow (w.drewN q) os' := by
  have HG := Lib.hid (grow_two w (.cells #[.int .i64 t, .int .i64 r, .string ⟨l.toArray⟩] 25 (0, 0)) (.cells #[.int .i64 t', .int .i64 r', .string ⟨l'.toArray⟩] 25 (0, 0)))
  by_cases ha : t = -1
  · subst ha
    by_cases hb : t' = -1
    · subst hb
      have HV := Lib.hid (show standC (-1, r, l) (-1, r', l') = Lib.compareBytes l l' by simp [standC])
      go_enter Tryz.func204, Tryz.ntmps204
      go_wp2_with (go_at_call 269; refine (compare_c _ _ _).mono ?_; rintro e w' ⟨rfl, rfl⟩)
      go_ret
      exact ⟨ret_int HV.out.symm, HG.out⟩
    · have hb' : (t' == -1) = false := by simpa using hb
      have HV := Lib.hid (show standC (-1, r, l) (t', r', l') = 1 by simp [standC, hb])
      clear hb
      go_enter Tryz.func204, Tryz.ntmps204
      go_wp2_with fail
      go_ret
      exact ⟨ret_int HV.out.symm, HG.out⟩
  · have ha' : (t == -1) = false := by simpa using ha
    by_cases hb : t' = -1
    · subst hb
      have HV := Lib.hid (show standC (t, r, l) (-1, r', l') = -1 by simp [standC, ha])
      clear ha
      go_enter Tryz.func204, Tryz.ntmps204
      go_wp2_with fail
      go_ret
      exact ⟨ret_int HV.out.symm, HG.out⟩
    · have hb' : (t' == -1) = false := by simpa using hb
      by_cases hc : t = t'
      · subst hc
        have HV := Lib.hid (show standC (t, r, l) (t, r', l') = r - r' by simp [standC, ha])
        clear ha hb
        go_enter Tryz.func204, Tryz.ntmps204
        go_wp2_with fail
        go_ret
        exact ⟨ret_int HV.out.symm, HG.out⟩
      · have HV := Lib.hid (show standC (t, r, l) (t', r', l') = t - t' by simp [standC, ha, hb, hc])
        have hc' : (t == t') = false := by simpa using hc
        have hc'' : (t != t') = true := by simpa using hc
        clear ha hb hc
        go_enter Tryz.func204, Tryz.ntmps204
        go_wp2_with fail
        go_ret
        exact ⟨ret_int HV.out.symm, HG.out⟩
end
/-- A thing that may be. -/
def VTh : Type := {x : Th // thingB 2 x.1 x.2.1 x.2.2 = true}
theorem cmpB_irr : ∀ a, Lib.compareBytes a a = 0
  | [] => rfl
  | x :: r => by simp [Lib.compareBytes, cmpB_irr r]
theorem cmpB_lt (x y : UInt8) (r q : List UInt8) : Lib.compareBytes (x :: r) (y :: q) < 0 ↔ x.toNat < y.toNat ∨ (x.toNat = y.toNat ∧ Lib.compareBytes r q < 0) := by
  simp only [Lib.compareBytes, UInt8.lt_iff_toNat_lt]
  by_cases h1 : x.toNat < y.toNat
  · simp [h1]
  · by_cases h2 : y.toNat < x.toNat
    · simp only [if_neg h1, if_pos h2]
      omega
    · simp only [if_neg h1, if_neg h2]
      omega
theorem cmpB_trans : ∀ a b c, Lib.compareBytes a b < 0 → Lib.compareBytes b c < 0 → Lib.compareBytes a c < 0
  | [], [], _, h, _ => by simp [Lib.compareBytes] at h
  | [], _ :: _, [], _, h => by simp [Lib.compareBytes] at h
  | [], _ :: _, _ :: _, _, _ => by simp [Lib.compareBytes]
  | _ :: _, [], _, h, _ => by simp [Lib.compareBytes] at h
  | _ :: _, _ :: _, [], _, h => by simp [Lib.compareBytes] at h
  | x :: a, y :: b, z :: c, h, k => by
    rw [cmpB_lt] at h k ⊢
    have ih := cmpB_trans a b c
    rcases h with h | ⟨h, h'⟩ <;> rcases k with k | ⟨k, k'⟩
    · left; omega
    · left; omega
    · left; omega
    · exact .inr ⟨by omega, ih h' k'⟩
theorem cmpB_ntrans : ∀ a b c, ¬ Lib.compareBytes a b < 0 → ¬ Lib.compareBytes b c < 0 → ¬ Lib.compareBytes a c < 0
  | [], [], _, _, k => k
  | [], _ :: _, _, h, _ => by simp [Lib.compareBytes] at h
  | _ :: _, _, [], _, _ => by simp [Lib.compareBytes]
  | _ :: _, [], _ :: _, _, k => by simp [Lib.compareBytes] at k
  | x :: a, y :: b, z :: c, h, k => by
    rw [cmpB_lt] at h k ⊢
    have ih := cmpB_ntrans a b c
    rintro (h1 | ⟨h1, h2⟩)
    · exact absurd h1 (by omega)
    · by_cases h3 : x.toNat = y.toNat
      · have a1 : ¬ Lib.compareBytes a b < 0 := fun e => h (.inr ⟨h3, e⟩)
        have a2 : ¬ Lib.compareBytes b c < 0 := fun e => k (.inr ⟨by omega, e⟩)
        exact ih a1 a2 h2
      · omega
theorem cmpB_eq : ∀ a b, ¬ Lib.compareBytes a b < 0 → ¬ Lib.compareBytes b a < 0 → a = b
  | [], [], _, _ => rfl
  | [], _ :: _, h, _ => by simp [Lib.compareBytes] at h
  | _ :: _, [], _, h => by simp [Lib.compareBytes] at h
  | x :: r, y :: q, h, k => by
    rw [cmpB_lt] at h k
    have he : x.toNat = y.toNat := by omega
    have h1 : ¬ Lib.compareBytes r q < 0 := fun e => h (.inr ⟨he, e⟩)
    have k1 : ¬ Lib.compareBytes q r < 0 := fun e => k (.inr ⟨he.symm, e⟩)
    rw [UInt8.toNat_inj.1 he, cmpB_eq r q h1 k1]
theorem vth_parts (x : VTh) : (x.1.1 = -1 ∧ x.1.2.1 = 0 ∧ x.1.2.2.length ≤ 32) ∨ (0 ≤ x.1.1 ∧ x.1.1 < 16 ∧ 0 ≤ x.1.2.1 ∧ x.1.2.1 < 32 ∧ x.1.2.2 = []) := by
  have h := x.2
  unfold thingB at h
  split at h
  · rename_i h1
    simp at h
    refine .inl ⟨h1, h.1, ?_⟩
    have h2 := h.2
    revert h2
    cases x.1.2.2 with
    | nil => simp
    | cons c r => simp [nameB]; omega
  · simp [regs] at h
    exact .inr ⟨h.1.1.1.1, h.1.1.1.2, h.1.1.2, h.1.2, h.2⟩
def ltT (x y : VTh) : Bool := decide (standC x.1 y.1 < 0)
theorem ltT_iff (x y : VTh) : ltT x y = true ↔ (x.1.1 = -1 ∧ y.1.1 = -1 ∧ Lib.compareBytes x.1.2.2 y.1.2.2 < 0) ∨ (x.1.1 ≠ -1 ∧ y.1.1 = -1) ∨ (x.1.1 ≠ -1 ∧ y.1.1 ≠ -1 ∧ (x.1.1 < y.1.1 ∨ (x.1.1 = y.1.1 ∧ x.1.2.1 < y.1.2.1))) := by
  unfold ltT
  rw [decide_eq_true_iff]
  unfold standC
  by_cases h1 : x.1.1 = -1 <;> by_cases h2 : y.1.1 = -1
  · simp [h1, h2]
  · simp [h1, h2]
  · simp [h1, h2]
  · by_cases h3 : x.1.1 = y.1.1
    · simp [h2, h3]; omega
    · simp [h1, h2, h3]; omega
theorem ltT_swo : Sort.SWO ltT where
  irrefl x := by
    rw [Bool.eq_false_iff]
    intro h
    rw [ltT_iff] at h
    have := cmpB_irr x.1.2.2
    omega
  trans x y z h k := by
    rw [ltT_iff] at h k ⊢
    have ht := cmpB_trans x.1.2.2 y.1.2.2 z.1.2.2
    rcases h with ⟨a, b, c⟩ | ⟨a, b⟩ | ⟨a, b, c⟩ <;> rcases k with ⟨a', b', c'⟩ | ⟨a', b'⟩ | ⟨a', b', c'⟩
    · exact .inl ⟨a, b', ht c c'⟩
    all_goals omega
  ntrans x y z h k := by
    rw [Bool.eq_false_iff] at h k ⊢
    rw [Ne, ltT_iff] at h k ⊢
    have ht := cmpB_ntrans x.1.2.2 y.1.2.2 z.1.2.2
    intro hh
    rcases hh with ⟨a, b, c⟩ | ⟨a, b⟩ | ⟨a, b, c⟩
    · by_cases hy : y.1.1 = -1
      · exact ht (fun e => h (.inl ⟨a, hy, e⟩)) (fun e => k (.inl ⟨hy, b, e⟩)) c
      · exact k (.inr (.inl ⟨hy, b⟩))
    · by_cases hy : y.1.1 = -1
      · exact h (.inr (.inl ⟨a, hy⟩))
      · exact k (.inr (.inl ⟨hy, b⟩))
    · by_cases hy : y.1.1 = -1
      · exact h (.inr (.inl ⟨a, hy⟩))
      · have h' : ¬ (x.1.1 < y.1.1 ∨ (x.1.1 = y.1.1 ∧ x.1.2.1 < y.1.2.1)) := fun e => h (.inr (.inr ⟨a, hy, e⟩))
        have k' : ¬ (y.1.1 < z.1.1 ∨ (y.1.1 = z.1.1 ∧ y.1.2.1 < z.1.2.1)) := fun e => k (.inr (.inr ⟨hy, b, e⟩))
        omega
theorem ltT_total (x y : VTh) (h : ltT x y = false) (k : ltT y x = false) : x = y := by
  rw [Bool.eq_false_iff, Ne, ltT_iff] at h k
  have hx := vth_parts x
  have hy := vth_parts y
  apply Subtype.ext
  have h1 : x.1.1 = y.1.1 := by omega
  have h2 : x.1.2.1 = y.1.2.1 := by omega
  have h3 : x.1.2.2 = y.1.2.2 := by
    by_cases hl : x.1.1 = -1
    · exact cmpB_eq _ _ (fun e => h (.inl ⟨hl, by omega, e⟩)) (fun e => k (.inl ⟨by omega, hl, e⟩))
    · rcases hx with hx | hx
      · exact absurd hx.1 hl
      · rcases hy with hy | hy
        · omega
        · rw [hx.2.2.2.2, hy.2.2.2.2]
  obtain ⟨⟨a, b, c⟩, _⟩ := x
  obtain ⟨⟨a', b', c'⟩, _⟩ := y
  simp only at h1 h2 h3
  subst h1 h2 h3
  rfl
theorem struct_thing : Tryz.prog.underlying 25 = some (.struct (Tryz.prog.fieldsOf 25)) := by kernel_rfl
theorem guard_thing : Tryz.prog.eqGuardType Tryz.prog.depth 25 = false := by kernel_rfl
theorem eql_thing (x y : Th) (w : World) : (binOp .eql 25 (thVal x.1 x.2.1 x.2.2) (thVal y.1 y.2.1 y.2.2)).run Tryz.prog w = .ok (.bool (decide (x = y))) w := by
  have hp : Tryz.prog.stoodInHeld 25 = false := by kernel_rfl
  have u3 := Tryz.underlying3
  have a3 := Tryz.isAgg3
  have z3 := Tryz.sizeOf3
  have u9 := Tryz.underlying9
  have a9 := Tryz.isAgg9
  have z9 := Tryz.sizeOf9
  obtain ⟨t, r, l⟩ := x
  obtain ⟨t', r', l'⟩ := y
  rw [run_eql_struct, show (10000 : Nat) = 9999 + 1 from rfl, run_equalIn_agg w 9999 25 _ _ struct_thing hp]
  simp only [Program.fieldsOf, Tryz.underlying25]
  go_simp
  by_cases h1 : t = t' <;> by_cases h2 : r = r' <;> by_cases h3 : l = l' <;> simp [h1, h2, h3]
/-- All nodes may be. -/
def okF (a : Int) : Fr → Prop
  | .nil => True
  | .cons k t r l v kids rest => ownB a k t r l v kids.len = true ∧ okF a kids ∧ okF a rest
def Fr.size : Fr → Nat
  | .nil => 0
  | .cons _ _ _ _ _ kids rest => kids.size + rest.size + 1
theorem walkF_ok (a : Int) : ∀ (f : Fr) (met deep : Nat), (walkF a f met deep).2 = 0 → okF a f ∧ (walkF a f met deep).1 = met + f.size
  | .nil, met, _, _ => ⟨trivial, rfl⟩
  | .cons k t r l v kids rest, met, deep, h => by
    unfold walkF at h ⊢
    split at h
    · simp at h
    · rename_i h0
      rw [if_neg h0]
      split at h
      · simp at h
      · rename_i h1
        rw [if_neg h1]
        split at h
        · rename_i h2
          rw [if_pos h2]
          obtain ⟨k1, k2⟩ := walkF_ok a kids _ _ h2
          obtain ⟨r1, r2⟩ := walkF_ok a rest _ _ h
          refine ⟨⟨by simpa using h1, k1, r1⟩, ?_⟩
          rw [r2, k2]
          simp only [Fr.size]; omega
        · rename_i h2
          exact absurd h h2
theorem checkC_ok {a q k t r : Int} {l : List UInt8} {v : Int} {kids : Fr} (h : checkC a q k t r l v kids = 0) : archB a = true ∧ 1 ≤ q ∧ q ≤ 3 ∧ ownB a k t r l v kids.len = true ∧ okF a kids ∧ kids.size + 1 ≤ 1024 := by
  unfold checkC at h
  split at h
  · cases h
  · rename_i ha
    split at h
    · cases h
    · rename_i hq
      obtain ⟨h1, h2⟩ := walkF_ok a (.cons k t r l v kids .nil) 0 0 h
      have h3 := walkF_met a (.cons k t r l v kids .nil) 0 0 (by omega)
      rw [h2] at h3
      simp only [Fr.size] at h3
      exact ⟨by simpa using ha, by omega, by omega, h1.1, h1.2.1, by omega⟩
end Go.Proofs.YtjhafgnmahhacaaGreatDoor
namespace Go.Proofs
open Go.Shelf
def Tryz.sortPr_ren : Go.Shelf.Ren := ⟨fun | 6 => 141 | 15 => 213 | 14 => 212 | 28 => 279 | 29 => 280 | 20 => 271 | 21 => 272 | 22 => 273 | 23 => 274 | 24 => 275 | 25 => 276 | 26 => 277 | 27 => 278 | 46 => 327 | 47 => 328 | 48 => 329 | 49 => 330 | 50 => 331 | 57 => 360 | n => n, fun | 22 => 37 | 24 => 106 | 25 => 227 | 3 => 3 | 39 => 208 | 0 => 0 | 53 => 340 | 55 => 139 | 4 => 4 | 46 => 334 | 45 => 333 | 50 => 132 | 5 => 5 | 9 => 9 | 66 => 369 | 70 => 373 | 76 => 390 | 77 => 391 | n => n, fun | n => n⟩
theorem Tryz.sortPr : Go.Proofs.SlLaysF0.n6 Tryz.prog Tryz.sortPr_ren := {
  mixed := by kernel_rfl
  f6 := ⟨Tryz.f141.name, by decide, Tryz.func141.trans (congrArg some (by kernel_rfl))⟩
  f14 := ⟨Tryz.f212.name, by decide, Tryz.func212.trans (congrArg some (by kernel_rfl))⟩
  f15 := Tryz.func213.trans (congrArg some (by kernel_rfl))
  f20 := ⟨Tryz.f271.name, by decide, Tryz.func271.trans (congrArg some (by kernel_rfl))⟩
  f21 := ⟨Tryz.f272.name, by decide, Tryz.func272.trans (congrArg some (by kernel_rfl))⟩
  f22 := ⟨Tryz.f273.name, by decide, Tryz.func273.trans (congrArg some (by kernel_rfl))⟩
  f23 := ⟨Tryz.f274.name, by decide, Tryz.func274.trans (congrArg some (by kernel_rfl))⟩
  f24 := ⟨Tryz.f275.name, by decide, Tryz.func275.trans (congrArg some (by kernel_rfl))⟩
  f25 := ⟨Tryz.f276.name, by decide, Tryz.func276.trans (congrArg some (by kernel_rfl))⟩
  f26 := ⟨Tryz.f277.name, by decide, Tryz.func277.trans (congrArg some (by kernel_rfl))⟩
  f27 := ⟨Tryz.f278.name, by decide, Tryz.func278.trans (congrArg some (by kernel_rfl))⟩
  f28 := Tryz.func279.trans (congrArg some (by kernel_rfl))
  f29 := Tryz.func280.trans (congrArg some (by kernel_rfl))
  f46 := ⟨Tryz.f327.name, by decide, Tryz.func327.trans (congrArg some (by kernel_rfl))⟩
  f47 := Tryz.func328.trans (congrArg some (by kernel_rfl))
  f48 := Tryz.func329.trans (congrArg some (by kernel_rfl))
  f49 := ⟨Tryz.f330.name, by decide, Tryz.func330.trans (congrArg some (by kernel_rfl))⟩
  f50 := ⟨Tryz.f331.name, by decide, Tryz.func331.trans (congrArg some (by kernel_rfl))⟩
  f57 := ⟨Tryz.f360.name, by decide, Tryz.func360.trans (congrArg some (by kernel_rfl))⟩
  t0 := Tryz.underlying0
  a0 := Tryz.isAgg0
  z0 := Tryz.sizeOf0
  v0 := Tryz.zeroValue0
  t3 := Tryz.underlying3
  a3 := Tryz.isAgg3
  z3 := Tryz.sizeOf3
  v3 := Tryz.zeroValue3
  t4 := Tryz.underlying4
  a4 := Tryz.isAgg4
  z4 := Tryz.sizeOf4
  v4 := Tryz.zeroValue4
  t5 := Tryz.underlying5
  a5 := Tryz.isAgg5
  z5 := Tryz.sizeOf5
  v5 := Tryz.zeroValue5
  t9 := Tryz.underlying9
  a9 := Tryz.isAgg9
  z9 := Tryz.sizeOf9
  v9 := Tryz.zeroValue9
  t22 := Tryz.underlying37
  a22 := Tryz.isAgg37
  z22 := Tryz.sizeOf37
  v22 := Tryz.zeroValue37
  t25 := Tryz.underlying227
  a25 := Tryz.isAgg227
  z25 := Tryz.sizeOf227
  v25 := Tryz.zeroValue227
  t39 := Tryz.underlying208
  a39 := Tryz.isAgg208
  z39 := Tryz.sizeOf208
  v39 := Tryz.zeroValue208
  t45 := Tryz.underlying333
  a45 := Tryz.isAgg333
  z45 := Tryz.sizeOf333
  v45 := Tryz.zeroValue333
  t46 := Tryz.underlying334
  a46 := Tryz.isAgg334
  z46 := Tryz.sizeOf334
  v46 := Tryz.zeroValue334
  t50 := Tryz.underlying132
  a50 := Tryz.isAgg132
  z50 := Tryz.sizeOf132
  v50 := Tryz.zeroValue132
  t53 := Tryz.underlying340
  a53 := Tryz.isAgg340
  z53 := Tryz.sizeOf340
  v53 := Tryz.zeroValue340
  t55 := Tryz.underlying139
  a55 := Tryz.isAgg139
  z55 := Tryz.sizeOf139
  v55 := Tryz.zeroValue139
  t66 := Tryz.underlying369
  a66 := Tryz.isAgg369
  z66 := Tryz.sizeOf369
  v66 := Tryz.zeroValue369
  t70 := Tryz.underlying373
  a70 := Tryz.isAgg373
  z70 := Tryz.sizeOf373
  v70 := Tryz.zeroValue373
  t76 := Tryz.underlying390
  a76 := Tryz.isAgg390
  z76 := Tryz.sizeOf390
  v76 := Tryz.zeroValue390
  t77 := Tryz.underlying391
  a77 := Tryz.isAgg391
  z77 := Tryz.sizeOf391
  v77 := Tryz.zeroValue391 }
def Tryz.searchS_ren : Go.Shelf.Ren := ⟨fun | 26 => 60 | 33 => 131 | 34 => 132 | 38 => 200 | n => n, fun | 24 => 33 | 9 => 9 | 3 => 3 | 4 => 4 | 40 => 208 | 0 => 0 | n => n, fun | n => n⟩
theorem Tryz.searchS : Go.Proofs.Lays2.n26 Tryz.prog Tryz.searchS_ren := {
  mixed := by kernel_rfl
  f26 := Tryz.func60.trans (congrArg some (by kernel_rfl))
  f33 := Tryz.func131.trans (congrArg some (by kernel_rfl))
  f34 := Tryz.func132.trans (congrArg some (by kernel_rfl))
  f38 := Tryz.func200.trans (congrArg some (by kernel_rfl))
  t0 := Tryz.underlying0
  a0 := Tryz.isAgg0
  z0 := Tryz.sizeOf0
  v0 := Tryz.zeroValue0
  t3 := Tryz.underlying3
  a3 := Tryz.isAgg3
  z3 := Tryz.sizeOf3
  v3 := Tryz.zeroValue3
  t4 := Tryz.underlying4
  a4 := Tryz.isAgg4
  z4 := Tryz.sizeOf4
  v4 := Tryz.zeroValue4
  t9 := Tryz.underlying9
  a9 := Tryz.isAgg9
  z9 := Tryz.sizeOf9
  v9 := Tryz.zeroValue9
  t24 := Tryz.underlying33
  a24 := Tryz.isAgg33
  z24 := Tryz.sizeOf33
  v24 := Tryz.zeroValue33
  t40 := Tryz.underlying208
  a40 := Tryz.isAgg208
  z40 := Tryz.sizeOf208
  v40 := Tryz.zeroValue208 }
end Go.Proofs
namespace Go.Proofs.YtjhafgnmahhacaaGreatDoor
open Go.RowKit Go.WideShapes Go.ChangeShapes
section
variable {H : Type} {enc : TypeId × Value → H} {P : Program}
theorem post_of_below {f : Func} {s : ChangeSpec} {apart fresh handsOn again : Bool} {W W' : World} {args : Array Value} {v : Value} {ds gs : List (DataW H)} {before pa pv : List MemPlace}
    (hW : DataW.Whole enc P f.params.toList s.vars apart W args.toList ds gs before)
    (hres : ∀ (b : Nat) (sp : Nat → Bool) (hd : Bool), DataW.TrodAll enc P W' b sp hd f.resultTypes.toList (v.resultList f.resultTypes.size) (s.fn H (ds ++ gs)).results [])
    (hargs : ∀ sp : Nat → Bool, (∀ p ∈ before, sp p.block = true) → DataW.TrodAll enc P W' 0 sp true f.params.toList args.toList (s.fn H (ds ++ gs)).args pa)
    (hvars : ∀ sp : Nat → Bool, (∀ p ∈ before, sp p.block = true) → DataW.TrodVars enc P W' sp s.vars (s.fn H (ds ++ gs)).vars pv)
    (hps : before = pa ++ pv) (hb : Below W.heap.size W W')
    (hok : ∀ (j : Nat) (t : TypeId) (r : Value), f.resultTypes[j]? = some t → (v.resultList f.resultTypes.size)[j]? = some r → Value.okWide P W' .any 0 t r) :
    s.post enc P f apart fresh handsOn again W args v W' := by
  have hlt : ∀ p ∈ before, p.block < W.heap.size := fun p hp => hW.lt p hp
  have hold : ∀ p ∈ before, (fun b => decide (b < W.heap.size)) p.block = true := fun p hp => by simpa using hlt p hp
  refine ⟨ds, gs, before, [], pa, pv, hW, hres _ _ _, hargs _ hold, hvars _ hold, World.keptBut_mono (fun p hp => ⟨hp, ?_⟩) (hb.frame (· ∈ before)), fun _ => ?_⟩
  · rw [hps, List.mem_append] at hp
    exact Or.inr hp
  · obtain ⟨_, _, _, _, _, hz, hn⟩ := hW
    refine ⟨hok, _, _, ([] ++ pa) ++ pv, ⟨[] ++ pa, pv, trodAll_append (hargs _ (fun _ _ => rfl)) (hres _ _ _), hvars _ (fun _ _ => rfl), rfl, ?_, ?_⟩, ?_⟩
    · intro b off hp
      have hin : MemPlace.cell b off ∈ before := by rw [hps]; simpa using hp
      rw [hb.frozen (hlt _ hin)]
      exact hz b off hin
    · intro ha
      have := hn ha
      rw [hps] at this
      simpa using this
    · intro p hp _
      rw [hps]
      simpa using hp
theorem trodAll_stays (hl : laidOutB P = true) {W W' : World} (hb : Below W.heap.size W W') {sp : Nat → Bool} : ∀ {ts : List TypeId} {vs : List Value} {ds : List (DataW H)} {ps : List MemPlace},
    (∀ t ∈ ts, P.readableRec t = true ∧ t < P.types.size) → DataW.TrodAll enc P W 0 (fun _ => true) true ts vs ds ps → (∀ p ∈ ps, p.block < W.heap.size) → (∀ p ∈ ps, sp p.block = true) → DataW.TrodAll enc P W' 0 sp true ts vs ds ps
  | [], _, _, _, _, h, _, _ => by
    obtain ⟨rfl, rfl, rfl⟩ := trodAll_nil h
    rfl
  | t :: ts, _, _, _, hr, h, hlt, hsp => by
    obtain ⟨v, vs, d, ds, p, q, rfl, rfl, rfl, h1, h2⟩ := trodAll_cons h
    exact ⟨p, q, WideElems.Trod_stays hl (hr t (by simp)).1 (hr t (by simp)).2 h1 (fun x hx => hb.same (hlt x (by simp [hx]))) (fun x hx => hsp x (by simp [hx])),
      trodAll_stays hl hb (fun u hu => hr u (by simp [hu])) h2 (fun x hx => hlt x (by simp [hx])) (fun x hx => hsp x (by simp [hx])), rfl⟩
theorem trodAll_len {w : World} {base : Nat} {spare : Nat → Bool} {held : Bool} : ∀ {ts : List TypeId} {vs : List Value} {ds : List (DataW H)} {ps : List MemPlace}, DataW.TrodAll enc P w base spare held ts vs ds ps → ds.length = ts.length
  | [], _, _, _, h => by
    obtain ⟨rfl, rfl, rfl⟩ := trodAll_nil h
    rfl
  | t :: ts, _, _, _, h => by
    obtain ⟨v, vs, d, ds, p, q, rfl, rfl, rfl, h1, h2⟩ := trodAll_cons h
    simp [trodAll_len h2]
/-- The row's last step for a law: it returned true, and all that was there stays. -/
theorem post_true {f : Func} {s : ChangeSpec} {tb : TypeId} {W W' : World} {args : Array Value} {ds gs : List (DataW H)} {before : List MemPlace} (hl : laidOutB P = true)
    (hr : (f.params.toList.all fun t => P.readableRec t && decide (t < P.types.size)) = true) (hv : s.vars = []) (hrt : f.resultTypes = #[tb]) (htb : P.underlying tb = some .bool)
    (hs : ∀ ds : List (DataW H), ds.length = f.params.toList.length → s.fn H ds = { results := [.lit (.bool true)], args := ds })
    (hW : DataW.Whole enc P f.params.toList s.vars false W args.toList ds gs before) (hb : Below W.heap.size W W') : s.post enc P f false true false false W args (.bool true) W' := by
  have hr' : ∀ t ∈ f.params.toList, P.readableRec t = true ∧ t < P.types.size := fun t ht => by
    have := List.all_eq_true.1 hr t ht
    simpa using this
  have hW' := hW
  obtain ⟨p, q, hA, hV, rfl, hfz, hnd⟩ := hW
  rw [hv] at hV
  obtain ⟨rfl, rfl⟩ := trodVars_none hV
  have hlen := trodAll_len hA
  have hfn := hs ds hlen
  have hlt : ∀ x ∈ p, x.block < W.heap.size := fun x hx => hW'.lt x (by simpa using hx)
  refine post_of_below (pa := p) (pv := []) hW' (fun _ _ _ => ?_) (fun sp hsp => ?_) (fun _ _ => ?_) rfl hb (ok_one hrt rfl (okWide_bool_mk htb _))
  · rw [List.append_nil, hfn, hrt]
    exact trodAll_cons_mk (shut_bool htb _) trodAll_mk0
  · rw [List.append_nil, hfn]
    exact trodAll_stays hl hb hr' hA hlt (fun x hx => hsp x (by simpa using hx))
  · rw [List.append_nil, hfn, hv]; rfl
end
end Go.Proofs.YtjhafgnmahhacaaGreatDoor
