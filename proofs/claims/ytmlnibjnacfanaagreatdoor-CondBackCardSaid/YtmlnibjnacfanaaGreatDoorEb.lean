/- Layer 8: how two things stand: the program's stand. -/
import Derived.Test.YtmlnibjnacfanaaGreatDoorEa
import Derived.Test.YtmlnibjnacfanaaGreatDoorCl
namespace Go.Proofs.YtmlnibjnacfanaaGreatDoor
open Go.RowKit

def standC (x y : Th) : Int :=
  if x.1 = -1 ∧ y.1 = -1 then Lib.compareBytes x.2.2 y.2.2
  else if x.1 = -1 then 1 else if y.1 = -1 then -1
  else if x.1 ≠ y.1 then x.1 - y.1 else x.2.1 - y.2.1
theorem grow_two (w : World) (a b : Obj) : ∃ q os', (w.alloc a).alloc b = Sort.grow (w.drewN q) os' := ⟨0, #[a, b], by rw [Sort.alloc_eq_grow, Sort.alloc_eq_grow, Sort.grow_grow]; rfl⟩
abbrev thVal (t r : Int) (l : List UInt8) : Value := .agg #[.int .i64 t, .int .i64 r, .string ⟨l.toArray⟩]
section
variable {t r t' r' : Int} {l l' : List UInt8} {w : World}
set_option maxHeartbeats 2000000 in
set_option maxRecDepth 100000 in
theorem standP (h1 : -1 ≤ t) (h2 : t ≤ 15) (h3 : 0 ≤ r) (h4 : r ≤ 31) (h1' : -1 ≤ t') (h2' : t' ≤ 15) (h3' : 0 ≤ r') (h4' : r' ≤ 31) :
    Calls Tryz.prog 89 #[thVal t r l, thVal t' r' l'] w fun e w' => e = .returned (.int .i64 (standC (t, r, l) (t', r', l'))) ∧ ∃ q os', w' = Sort.grow (w.drewN q) os' := by
  have HG := Lib.hid (grow_two w (.cells #[.int .i64 t, .int .i64 r, .string ⟨l.toArray⟩] 23 (0, 0)) (.cells #[.int .i64 t', .int .i64 r', .string ⟨l'.toArray⟩] 23 (0, 0)))
  by_cases ha : t = -1
  · subst ha
    by_cases hb : t' = -1
    · subst hb
      have HV := Lib.hid (show standC (-1, r, l) (-1, r', l') = Lib.compareBytes l l' by simp [standC])
      go_enter Tryz.func89, Tryz.ntmps89
      go_wp2_with (go_at_call 116; refine (compare_c _ _ _).mono ?_; rintro e w' ⟨rfl, rfl⟩)
      go_ret
      exact ⟨ret_int HV.out.symm, HG.out⟩
    · have hb' : (t' == -1) = false := by simpa using hb
      have HV := Lib.hid (show standC (-1, r, l) (t', r', l') = 1 by simp [standC, hb])
      clear hb
      go_enter Tryz.func89, Tryz.ntmps89
      go_wp2_with fail
      go_ret
      exact ⟨ret_int HV.out.symm, HG.out⟩
  · have ha' : (t == -1) = false := by simpa using ha
    by_cases hb : t' = -1
    · subst hb
      have HV := Lib.hid (show standC (t, r, l) (-1, r', l') = -1 by simp [standC, ha])
      clear ha
      go_enter Tryz.func89, Tryz.ntmps89
      go_wp2_with fail
      go_ret
      exact ⟨ret_int HV.out.symm, HG.out⟩
    · have hb' : (t' == -1) = false := by simpa using hb
      by_cases hc : t = t'
      · subst hc
        have HV := Lib.hid (show standC (t, r, l) (t, r', l') = r - r' by simp [standC, ha])
        clear ha hb
        go_enter Tryz.func89, Tryz.ntmps89
        go_wp2_with fail
        go_ret
        exact ⟨ret_int HV.out.symm, HG.out⟩
      · have HV := Lib.hid (show standC (t, r, l) (t', r', l') = t - t' by simp [standC, ha, hb, hc])
        have hc' : (t == t') = false := by simpa using hc
        have hc'' : (t != t') = true := by simpa using hc
        clear ha hb hc
        go_enter Tryz.func89, Tryz.ntmps89
        go_wp2_with fail
        go_ret
        exact ⟨ret_int HV.out.symm, HG.out⟩
end
end Go.Proofs.YtmlnibjnacfanaaGreatDoor
