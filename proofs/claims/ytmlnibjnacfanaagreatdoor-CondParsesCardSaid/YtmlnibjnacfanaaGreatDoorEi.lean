/- Layer 8: how two things stand: the program's stand. Layer 8: the order of things: plain. Layer 8: slices.Compact at things of which no two neighbours are the same. -/
import Derived.Test.YtmlnibjnacfanaaGreatDoorEa
import Derived.Test.YtmlnibjnacfanaaGreatDoorCl
import Derived.Sort.Statements
import Derived.Laws.StructEq
namespace Go.Proofs.YtmlnibjnacfanaaGreatDoor
open Go.RowKit

def standC (x y : Th) : Int :=
  if x.1 = -1 ∧ y.1 = -1 then Lib.compareBytes x.2.2 y.2.2
  else if x.1 = -1 then 1 else if y.1 = -1 then -1
  else if x.1 ≠ y.1 then x.1 - y.1 else x.2.1 - y.2.1
theorem grow_two (w : World) (a b : Obj) : ∃ q os', (w.alloc a).alloc b = Sort.grow (w.drewN q) os' := ⟨0, #[a, b], by rw [Sort.alloc_eq_grow, Sort.alloc_eq_grow, Sort.grow_grow]; rfl⟩
abbrev thVal (t r : Int) (l : List UInt8) : Value := .agg #[.int .i64 t, .int .i64 r, .string ⟨l.toArray⟩]
section
variable {t r t' r' : Int} {l l' : List UInt8} {w : World}
set_option maxHeartbeats 2000000 in
set_option maxRecDepth 100000 in
theorem standP (h1 : -1 ≤ t) (h2 : t ≤ 15) (h3 : 0 ≤ r) (h4 : r ≤ 31) (h1' : -1 ≤ t') (h2' : t' ≤ 15) (h3' : 0 ≤ r') (h4' : r' ≤ 31) :
    Calls Tryz.prog 89 #[thVal t r l, thVal t' r' l'] w fun e w' => e = .returned (.int .i64 (standC (t, r, l) (t', r', l'))) ∧ ∃ q os', w' = Sort.grow (w.drewN q) os' := by
  have HG := Lib.hid (grow_two w (.cells #[.int .i64 t, .int .i64 r, .string ⟨l.toArray⟩] 23 (0, 0)) (.cells #[.int .i64 t', .int .i64 r', .string ⟨l'.toArray⟩] 23 (0, 0)))
  by_cases ha : t = -1
  · subst ha
    by_cases hb : t' = -1
    · subst hb
      have HV := Lib.hid (show standC (-1, r, l) (-1, r', l') = Lib.compareBytes l l' by simp [standC])
      go_enter Tryz.func89, Tryz.ntmps89
      go_wp2_with (go_at_call 116; refine (compare_c _ _ _).mono ?_; rintro e w' ⟨rfl, rfl⟩)
      go_ret
      exact ⟨ret_int HV.out.symm, HG.out⟩
    · have hb' : (t' == -1) = false := by simpa using hb
      have HV := Lib.hid (show standC (-1, r, l) (t', r', l') = 1 by simp [standC, hb])
      clear hb
      go_enter Tryz.func89, Tryz.ntmps89
      go_wp2_with fail
      go_ret
      exact ⟨ret_int HV.out.symm, HG.out⟩
  · have ha' : (t == -1) = false := by simpa using ha
    by_cases hb : t' = -1
    · subst hb
      have HV := Lib.hid (show standC (t, r, l) (-1, r', l') = -1 by simp [standC, ha])
      clear ha
      go_enter Tryz.func89, Tryz.ntmps89
      go_wp2_with fail
      go_ret
      exact ⟨ret_int HV.out.symm, HG.out⟩
    · have hb' : (t' == -1) = false := by simpa using hb
      by_cases hc : t = t'
      · subst hc
        have HV := Lib.hid (show standC (t, r, l) (t, r', l') = r - r' by simp [standC, ha])
        clear ha hb
        go_enter Tryz.func89, Tryz.ntmps89
        go_wp2_with fail
        go_ret
        exact ⟨ret_int HV.out.symm, HG.out⟩
      · have HV := Lib.hid (show standC (t, r, l) (t', r', l') = t - t' by simp [standC, ha, hb, hc])
        have hc' : (t == t') = false := by simpa using hc
        have hc'' : (t != t') = true := by simpa using hc
        clear ha hb hc
        go_enter Tryz.func89, Tryz.ntmps89
        go_wp2_with fail
        go_ret
        exact ⟨ret_int HV.out.symm, HG.out⟩
end

/-- A thing that may be. -/
def VTh : Type := {x : Th // thingB 2 x.1 x.2.1 x.2.2 = true}
theorem cmpB_irr : ∀ a, Lib.compareBytes a a = 0
  | [] => rfl
  | x :: r => by simp [Lib.compareBytes, cmpB_irr r]
theorem cmpB_lt (x y : UInt8) (r q : List UInt8) : Lib.compareBytes (x :: r) (y :: q) < 0 ↔ x.toNat < y.toNat ∨ (x.toNat = y.toNat ∧ Lib.compareBytes r q < 0) := by
  simp only [Lib.compareBytes, UInt8.lt_iff_toNat_lt]
  by_cases h1 : x.toNat < y.toNat
  · simp [h1]
  · by_cases h2 : y.toNat < x.toNat
    · simp only [if_neg h1, if_pos h2]
      omega
    · simp only [if_neg h1, if_neg h2]
      omega
theorem cmpB_trans : ∀ a b c, Lib.compareBytes a b < 0 → Lib.compareBytes b c < 0 → Lib.compareBytes a c < 0
  | [], [], _, h, _ => by simp [Lib.compareBytes] at h
  | [], _ :: _, [], _, h => by simp [Lib.compareBytes] at h
  | [], _ :: _, _ :: _, _, _ => by simp [Lib.compareBytes]
  | _ :: _, [], _, h, _ => by simp [Lib.compareBytes] at h
  | _ :: _, _ :: _, [], _, h => by simp [Lib.compareBytes] at h
  | x :: a, y :: b, z :: c, h, k => by
    rw [cmpB_lt] at h k ⊢
    have ih := cmpB_trans a b c
    rcases h with h | ⟨h, h'⟩ <;> rcases k with k | ⟨k, k'⟩
    · left; omega
    · left; omega
    · left; omega
    · exact .inr ⟨by omega, ih h' k'⟩
theorem cmpB_ntrans : ∀ a b c, ¬ Lib.compareBytes a b < 0 → ¬ Lib.compareBytes b c < 0 → ¬ Lib.compareBytes a c < 0
  | [], [], _, _, k => k
  | [], _ :: _, _, h, _ => by simp [Lib.compareBytes] at h
  | _ :: _, _, [], _, _ => by simp [Lib.compareBytes]
  | _ :: _, [], _ :: _, _, k => by simp [Lib.compareBytes] at k
  | x :: a, y :: b, z :: c, h, k => by
    rw [cmpB_lt] at h k ⊢
    have ih := cmpB_ntrans a b c
    rintro (h1 | ⟨h1, h2⟩)
    · exact absurd h1 (by omega)
    · by_cases h3 : x.toNat = y.toNat
      · have a1 : ¬ Lib.compareBytes a b < 0 := fun e => h (.inr ⟨h3, e⟩)
        have a2 : ¬ Lib.compareBytes b c < 0 := fun e => k (.inr ⟨by omega, e⟩)
        exact ih a1 a2 h2
      · omega
theorem cmpB_eq : ∀ a b, ¬ Lib.compareBytes a b < 0 → ¬ Lib.compareBytes b a < 0 → a = b
  | [], [], _, _ => rfl
  | [], _ :: _, h, _ => by simp [Lib.compareBytes] at h
  | _ :: _, [], _, h => by simp [Lib.compareBytes] at h
  | x :: r, y :: q, h, k => by
    rw [cmpB_lt] at h k
    have he : x.toNat = y.toNat := by omega
    have h1 : ¬ Lib.compareBytes r q < 0 := fun e => h (.inr ⟨he, e⟩)
    have k1 : ¬ Lib.compareBytes q r < 0 := fun e => k (.inr ⟨he.symm, e⟩)
    rw [UInt8.toNat_inj.1 he, cmpB_eq r q h1 k1]
theorem vth_parts (x : VTh) : (x.1.1 = -1 ∧ x.1.2.1 = 0 ∧ x.1.2.2.length ≤ 32) ∨ (0 ≤ x.1.1 ∧ x.1.1 < 16 ∧ 0 ≤ x.1.2.1 ∧ x.1.2.1 < 32 ∧ x.1.2.2 = []) := by
  have h := x.2
  unfold thingB at h
  split at h
  · rename_i h1
    simp at h
    refine .inl ⟨h1, h.1, ?_⟩
    have h2 := h.2
    revert h2
    cases x.1.2.2 with
    | nil => simp
    | cons c r => simp [nameB]; omega
  · simp [regs] at h
    exact .inr ⟨h.1.1.1.1, h.1.1.1.2, h.1.1.2, h.1.2, h.2⟩
def ltT (x y : VTh) : Bool := decide (standC x.1 y.1 < 0)
theorem ltT_iff (x y : VTh) : ltT x y = true ↔ (x.1.1 = -1 ∧ y.1.1 = -1 ∧ Lib.compareBytes x.1.2.2 y.1.2.2 < 0) ∨ (x.1.1 ≠ -1 ∧ y.1.1 = -1) ∨ (x.1.1 ≠ -1 ∧ y.1.1 ≠ -1 ∧ (x.1.1 < y.1.1 ∨ (x.1.1 = y.1.1 ∧ x.1.2.1 < y.1.2.1))) := by
  unfold ltT
  rw [decide_eq_true_iff]
  unfold standC
  by_cases h1 : x.1.1 = -1 <;> by_cases h2 : y.1.1 = -1
  · simp [h1, h2]
  · simp [h1, h2]
  · simp [h1, h2]
  · by_cases h3 : x.1.1 = y.1.1
    · simp [h2, h3]; omega
    · simp [h1, h2, h3]; omega
theorem ltT_swo : Sort.SWO ltT where
  irrefl x := by
    rw [Bool.eq_false_iff]
    intro h
    rw [ltT_iff] at h
    have := cmpB_irr x.1.2.2
    omega
  trans x y z h k := by
    rw [ltT_iff] at h k ⊢
    have ht := cmpB_trans x.1.2.2 y.1.2.2 z.1.2.2
    rcases h with ⟨a, b, c⟩ | ⟨a, b⟩ | ⟨a, b, c⟩ <;> rcases k with ⟨a', b', c'⟩ | ⟨a', b'⟩ | ⟨a', b', c'⟩
    · exact .inl ⟨a, b', ht c c'⟩
    all_goals omega
  ntrans x y z h k := by
    rw [Bool.eq_false_iff] at h k ⊢
    rw [Ne, ltT_iff] at h k ⊢
    have ht := cmpB_ntrans x.1.2.2 y.1.2.2 z.1.2.2
    intro hh
    rcases hh with ⟨a, b, c⟩ | ⟨a, b⟩ | ⟨a, b, c⟩
    · by_cases hy : y.1.1 = -1
      · exact ht (fun e => h (.inl ⟨a, hy, e⟩)) (fun e => k (.inl ⟨hy, b, e⟩)) c
      · exact k (.inr (.inl ⟨hy, b⟩))
    · by_cases hy : y.1.1 = -1
      · exact h (.inr (.inl ⟨a, hy⟩))
      · exact k (.inr (.inl ⟨hy, b⟩))
    · by_cases hy : y.1.1 = -1
      · exact h (.inr (.inl ⟨a, hy⟩))
      · have h' : ¬ (x.1.1 < y.1.1 ∨ (x.1.1 = y.1.1 ∧ x.1.2.1 < y.1.2.1)) := fun e => h (.inr (.inr ⟨a, hy, e⟩))
        have k' : ¬ (y.1.1 < z.1.1 ∨ (y.1.1 = z.1.1 ∧ y.1.2.1 < z.1.2.1)) := fun e => k (.inr (.inr ⟨hy, b, e⟩))
        omega
theorem ltT_total (x y : VTh) (h : ltT x y = false) (k : ltT y x = false) : x = y := by
  rw [Bool.eq_false_iff, Ne, ltT_iff] at h k
  have hx := vth_parts x
  have hy := vth_parts y
  apply Subtype.ext
  have h1 : x.1.1 = y.1.1 := by omega
  have h2 : x.1.2.1 = y.1.2.1 := by omega
  have h3 : x.1.2.2 = y.1.2.2 := by
    by_cases hl : x.1.1 = -1
    · exact cmpB_eq _ _ (fun e => h (.inl ⟨hl, by omega, e⟩)) (fun e => k (.inl ⟨by omega, hl, e⟩))
    · rcases hx with hx | hx
      · exact absurd hx.1 hl
      · rcases hy with hy | hy
        · omega
        · rw [hx.2.2.2.2, hy.2.2.2.2]
  obtain ⟨⟨a, b, c⟩, _⟩ := x
  obtain ⟨⟨a', b', c'⟩, _⟩ := y
  simp only at h1 h2 h3
  subst h1 h2 h3
  rfl

theorem struct_thing : Tryz.prog.underlying 23 = some (.struct (Tryz.prog.fieldsOf 23)) := by kernel_rfl
theorem guard_thing : Tryz.prog.eqGuardType Tryz.prog.depth 23 = false := by kernel_rfl
theorem eql_thing (x y : Th) (w : World) : (binOp .eql 23 (thVal x.1 x.2.1 x.2.2) (thVal y.1 y.2.1 y.2.2)).run Tryz.prog w = .ok (.bool (decide (x = y))) w := by
  have hp : Tryz.prog.stoodInHeld 23 = false := by kernel_rfl
  have u3 := Tryz.underlying3
  have a3 := Tryz.isAgg3
  have z3 := Tryz.sizeOf3
  have u9 := Tryz.underlying9
  have a9 := Tryz.isAgg9
  have z9 := Tryz.sizeOf9
  obtain ⟨t, r, l⟩ := x
  obtain ⟨t', r', l'⟩ := y
  rw [run_eql_struct, show (10000 : Nat) = 9999 + 1 from rfl, run_equalIn_agg w 9999 23 _ _ struct_thing hp]
  simp only [Program.fieldsOf, Tryz.underlying23]
  go_simp
  by_cases h1 : t = t' <;> by_cases h2 : r = r' <;> by_cases h3 : l = l' <;> simp [h1, h2, h3]
section
variable {w : World}
set_option maxHeartbeats 2000000 in
set_option maxRecDepth 100000 in
theorem compactP_same (g cap : Nat) (T : List Th) (hlen : T.length ≤ 1000000) (hnd : ∀ i x y, T[i]? = some x → T[i + 1]? = some y → x ≠ y)
    (hc : ∀ i x, T[i]? = some x → w.cell? ⟨g, i * 3, none⟩ = some (.int .i64 x.1) ∧ w.cell? ⟨g, i * 3 + 1, none⟩ = some (.int .i64 x.2.1) ∧ w.cell? ⟨g, i * 3 + 2, none⟩ = some (.string ⟨x.2.2.toArray⟩)) :
    Calls Tryz.prog 90 #[.slice (some ⟨g, 0, none⟩) T.length cap] w fun e w' => e = .returned (.slice (some ⟨g, 0, none⟩) T.length cap) ∧ Below w.heap.size w w' := by
  have HND := Lib.hid hnd
  have HC := Lib.hid hc
  clear hnd hc
  by_cases h2 : T.length < 2
  · go_enter Tryz.func90, Tryz.ntmps90
    go_wp2_with fail
    go_ret
    exact ⟨rfl, Below.refl _ _⟩
  · have hd2 : decide (T.length < 2) = false := by simpa using h2
    go_enter Tryz.func90, Tryz.ntmps90
    go_wp2_with fail
    go_loopw [3] (fun i wr => ∃ j : Nat, 1 ≤ j ∧ j ≤ T.length ∧ i = .int .i64 j ∧ Below w.heap.size w wr) (fun i _ => T.length - (intOf i).toNat)
    case atStart => exact ⟨1, Nat.le_refl _, by omega, rfl, Below.refl _ _⟩
    case round =>
      obtain ⟨j, hj1, hj, rfl, hb⟩ := hrel
      have HB := Lib.hid hb
      clear hb
      by_cases hlt : j < T.length
      · have e1 := List.getElem?_eq_getElem hlt
        have e0 := List.getElem?_eq_getElem (show j - 1 < T.length by omega)
        obtain ⟨y, hy⟩ : ∃ y, T[j] = y := ⟨_, rfl⟩
        obtain ⟨x, hx⟩ : ∃ x, T[j - 1] = x := ⟨_, rfl⟩
        rw [hy] at e1
        rw [hx] at e0
        have hne := Lib.hid (HND.out _ _ _ e0 (by rw [show j - 1 + 1 = j by omega]; exact e1))
        obtain ⟨b0, b1, b2⟩ := HC.out _ _ e0
        obtain ⟨c0, c1, c2⟩ := HC.out _ _ e1
        have b0r := cell_go b0 HB.out
        have b1r := cell_go b1 HB.out
        have b2r := cell_go b2 HB.out
        have c0r := cell_go c0 HB.out
        have c1r := cell_go c1 HB.out
        have c2r := cell_go c2 HB.out
        have i0 : (1 : Int) ≤ (j : Int) := by omega
        have i1 : ((j : Int) - 1).toNat = j - 1 := by omega
        have i2 : (0 : Int) ≤ (j : Int) - 1 := by omega
        have i3 : (j : Int) - 1 < (T.length : Int) := by omega
        have i4 : IntKind.i64.wrap ((j : Int) - 1) = (j : Int) - 1 := IntWalk.i64_in _ (by omega)
        have hl1 : (j : Int) < (T.length : Int) := by omega
        clear e0 e1 hx hy b0 b1 b2 c0 c1 c2
        have heq : ∀ w, (binOp .eql 23 (thVal y.1 y.2.1 y.2.2) (thVal x.1 x.2.1 x.2.2)).run Tryz.prog w = .ok (.bool false) w := fun w => by rw [eql_thing, decide_eq_false (fun e => hne.out e.symm)]
        have hgd := fun (w : World) (op : BinOp) (x y : Operand) (xs ys : Array Value) => run_eqGuard_agg (P := Tryz.prog) w op 23 x y xs ys guard_thing
        go_wp2_with fail
        go_quiet (fail)
        go_wp2_with fail
        go_roundw
        case rel => exact ⟨j + 1, by omega, by omega, by go_num, below_drewN HB.out _⟩
        case measure => simp [intOf]; omega
      · go_wp2_with fail
        go_ret
        exact ⟨rfl, HB.out⟩
end
end Go.Proofs.YtmlnibjnacfanaaGreatDoor
