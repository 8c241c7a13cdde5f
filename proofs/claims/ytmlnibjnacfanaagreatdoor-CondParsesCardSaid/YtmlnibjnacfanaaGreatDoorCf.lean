/- Layer 8: the registers' names: the program's and the reference's; the register of a name. -/
import Derived.Test.YtmlnibjnacfanaaGreatDoorCl
import Derived.Lib.ItoaLen
import Derived.Test.YtmlnibjnacfanaaGreatDoorCa
namespace Go.Proofs.YtmlnibjnacfanaaGreatDoor
open Go.RowKit

def regL : List (List UInt8) := [[69, 65, 88], [69, 66, 88], [69, 67, 88], [69, 68, 88], [69, 83, 73], [69, 68, 73], [69, 66, 80], [82, 56, 68], [82, 57, 68], [82, 49, 48, 68], [82, 49, 49, 68], [82, 49, 50, 68], [82, 49, 51, 68], [82, 49, 52, 68], [82, 49, 53, 68]]
def regN (k : Nat) : List UInt8 := regL.getD k []
def strV (l : List UInt8) : Value := .string ⟨l.toArray⟩
def regArr : Array Value := #[.string ⟨#[69, 65, 88]⟩, .string ⟨#[69, 66, 88]⟩, .string ⟨#[69, 67, 88]⟩, .string ⟨#[69, 68, 88]⟩, .string ⟨#[69, 83, 73]⟩, .string ⟨#[69, 68, 73]⟩, .string ⟨#[69, 66, 80]⟩, .string ⟨#[82, 56, 68]⟩, .string ⟨#[82, 57, 68]⟩, .string ⟨#[82, 49, 48, 68]⟩, .string ⟨#[82, 49, 49, 68]⟩, .string ⟨#[82, 49, 50, 68]⟩, .string ⟨#[82, 49, 51, 68]⟩, .string ⟨#[82, 49, 52, 68]⟩, .string ⟨#[82, 49, 53, 68]⟩]
theorem regArr_at : ∀ k : Fin 15, regArr[k.val]? = some (.string ⟨(regN k.val).toArray⟩) := by
  intro ⟨k, hk⟩
  match k, hk with
  | 0, _ => rfl
  | 1, _ => rfl
  | 2, _ => rfl
  | 3, _ => rfl
  | 4, _ => rfl
  | 5, _ => rfl
  | 6, _ => rfl
  | 7, _ => rfl
  | 8, _ => rfl
  | 9, _ => rfl
  | 10, _ => rfl
  | 11, _ => rfl
  | 12, _ => rfl
  | 13, _ => rfl
  | 14, _ => rfl

def regT (a n : Int) : List UInt8 := if a = 1 then regL.getD n.toNat [] else 120 :: Lib.itoa n
theorem names_c (w : World) : Calls Tryz.prog 104 #[] w fun e w' => e = .returned (.slice (some ⟨w.heap.size, 0, none⟩) 15 15) ∧ w' = w.alloc (.cells regArr 9 (0, 0)) := by
  go_enter Tryz.func104, Tryz.ntmps104
  go_wp2
  go_ret
  exact ⟨rfl, rfl⟩
theorem regT_lt {a n : Int} (h1 : n < regs a) : n < 32 := by have := regs_pos a; omega
set_option maxHeartbeats 1000000 in
theorem registerP (a n : Int) (h0 : 0 ≤ n) (h1 : n < regs a) (w : World) (hE : Env w) : Calls Tryz.prog 70 #[.int .i64 a, .int .i64 n] w fun e w' => e = .returned (.string ⟨(regT a n).toArray⟩) ∧ Below w.heap.size w w' := by
  obtain ⟨k, rfl⟩ := Int.eq_ofNat_of_zero_le h0
  by_cases ha : a = 1
  · subst ha
    have hk : k < 15 := by simp [regs] at h1; omega
    have hc : ((w.alloc (.cells regArr 9 (0, 0))).cell? ⟨w.heap.size, k, none⟩) = some (.string ⟨(regN k).toArray⟩) := by
      rw [cell_new]; exact regArr_at ⟨k, hk⟩
    have HV := Lib.hid (show regT 1 k = regN k by simp [regT, regN])
    clear h0 h1
    go_enter Tryz.func70, Tryz.ntmps70
    go_wp2_with (go_at_call 104; refine (names_c _).mono ?_; rintro e w' ⟨rfl, rfl⟩)
    go_ret
    exact ⟨ret_str HV.out.symm, alloc_b _ _⟩
  · have ha' : (a == 1) = false := by simpa using ha
    have HV := Lib.hid (show regT a k = 120 :: Lib.itoa k by simp [regT, ha])
    have hlt := regT_lt h1
    have hil := Lib.itoa_length_le k (by omega) (by omega)
    clear ha h1
    go_enter Tryz.func70, Tryz.ntmps70
    go_wp2_with (go_at_call 69; refine (itoa_c _ _ hE (by omega) (by omega)).mono ?_; rintro e w' ⟨rfl, hb⟩)
    go_ret
    exact ⟨ret_ba (by rw [HV.out, ba_append]; rfl), hb⟩
set_option maxHeartbeats 2000000 in
theorem registerR (a n : Int) (h0 : 0 ≤ n) (h1 : n < regs a) (w : World) (hE : Env w) : Calls Tryz.prog 105 #[.int .i64 a, .int .i64 n] w fun e w' => e = .returned (.string ⟨(regT a n).toArray⟩) ∧ Below w.heap.size w w' := by
  by_cases ha : a = 1
  · subst ha
    have hk : n < 15 := by simpa [regs] using h1
    clear h1
    by_cases h7 : n < 7
    · have : n = 0 ∨ n = 1 ∨ n = 2 ∨ n = 3 ∨ n = 4 ∨ n = 5 ∨ n = 6 := by omega
      rcases this with rfl | rfl | rfl | rfl | rfl | rfl | rfl
      all_goals
        go_enter Tryz.func105, Tryz.ntmps105
        go_wp2_with fail
        go_ret
        exact ⟨rfl, Below.refl _ _⟩
    · have HV := Lib.hid (show 82 :: (Lib.itoa (n + 1) ++ [68]) = regT 1 n by
        have : n = 7 ∨ n = 8 ∨ n = 9 ∨ n = 10 ∨ n = 11 ∨ n = 12 ∨ n = 13 ∨ n = 14 := by omega
        rcases this with rfl | rfl | rfl | rfl | rfl | rfl | rfl | rfl <;> decide +kernel)
      have hil := Lib.itoa_length_le (n + 1) (by omega) (by omega)
      go_enter Tryz.func105, Tryz.ntmps105
      go_wp2_with (go_at_call 69; refine (itoa_c _ _ hE (by omega) (by omega)).mono ?_; rintro e w' ⟨rfl, hb⟩)
      go_ret
      exact ⟨ret_ba (by rw [← HV.out, ba_append, ba_append]; rfl), hb⟩
  · have ha' : (a != 1) = true := by simpa using ha
    have HV := Lib.hid (show regT a n = 120 :: Lib.itoa n by simp [regT, ha])
    have hlt := regT_lt h1
    have hil := Lib.itoa_length_le n (by omega) (by omega)
    clear ha h1
    go_enter Tryz.func105, Tryz.ntmps105
    go_wp2_with (go_at_call 69; refine (itoa_c _ _ hE (by omega) (by omega)).mono ?_; rintro e w' ⟨rfl, hb⟩)
    go_ret
    exact ⟨ret_ba (by rw [HV.out, ba_append]; rfl), hb⟩

/-- The register of a name. -/
def regOf (a : Int) (l : List UInt8) : Option Nat := (List.range (regs a).toNat).find? (fun k => regT a k == l)
theorem regOf_some {a : Int} {l : List UInt8} {k : Nat} (hk : (k : Int) < regs a) (h : regT a k = l) (hn : ∀ j : Nat, j < k → regT a j ≠ l) : regOf a l = some k := by
  unfold regOf
  rw [List.find?_range_eq_some]
  refine ⟨by simpa using h, by simp; omega, fun j hj => by simpa using hn j hj⟩
theorem regOf_none {a : Int} {l : List UInt8} (hn : ∀ j : Nat, (j : Int) < regs a → regT a j ≠ l) : regOf a l = none := by
  unfold regOf
  rw [List.find?_eq_none]
  intro j hj
  simpa using hn j (by have := regs_pos a; simp at hj; omega)
def regOfI (a : Int) (l : List UInt8) : Int := match regOf a l with
  | some k => k
  | none => -1
def regOfV (a : Int) (l : List UInt8) : Value := match regOf a l with
  | some k => .tuple #[.int .i64 k, .bool true]
  | none => .tuple #[.int .i64 0, .bool false]
theorem regOfI_some {a : Int} {l : List UInt8} {k : Nat} (hk : (k : Int) < regs a) (h : regT a k = l) (hn : ∀ j : Nat, j < k → regT a j ≠ l) : Ending.returned (.int .i64 k) = .returned (.int .i64 (regOfI a l)) := by
  rw [regOfI, regOf_some hk h hn]
theorem regOfI_none {a : Int} {l : List UInt8} (hn : ∀ j : Nat, (j : Int) < regs a → regT a j ≠ l) : Ending.returned (.int .i64 (-1)) = .returned (.int .i64 (regOfI a l)) := by
  rw [regOfI, regOf_none hn]
theorem regOfV_some {a : Int} {l : List UInt8} {k : Nat} (hk : (k : Int) < regs a) (h : regT a k = l) (hn : ∀ j : Nat, j < k → regT a j ≠ l) : Ending.returned (.tuple #[.int .i64 k, .bool true]) = .returned (regOfV a l) := by
  rw [regOfV, regOf_some hk h hn]
theorem regOfV_none {a : Int} {l : List UInt8} (hn : ∀ j : Nat, (j : Int) < regs a → regT a j ≠ l) : Ending.returned (.tuple #[.int .i64 0, .bool false]) = .returned (regOfV a l) := by
  rw [regOfV, regOf_none hn]
set_option maxHeartbeats 1000000 in
theorem regOfP (a : Int) (s : ByteArray) (w : World) (hE : Env w) : Calls Tryz.prog 151 #[.int .i64 a, .string s] w fun e w' => e = .returned (.int .i64 (regOfI a s.data.toList)) ∧ Below w.heap.size w w' := by
  have hrp := regs_pos a
  obtain ⟨rn, hrn⟩ := Int.eq_ofNat_of_zero_le (show 0 ≤ regs a by omega)
  have HR := Lib.hid hrn
  have hr1 : 15 ≤ rn := by omega
  have hr2 : rn ≤ 32 := by omega
  clear hrp hrn
  go_enter Tryz.func151, Tryz.ntmps151
  go_wp2_with (go_at_call 99; refine (regsP _ _).mono ?_; rw [HR.out]; rintro e w' ⟨rfl, rfl⟩)
  go_loopw [8] (fun i wr => ∃ k : Nat, k ≤ rn ∧ i = .int .i64 k ∧ (∀ j : Nat, j < k → regT a j ≠ s.data.toList) ∧ Below w.heap.size w wr) (fun i _ => rn - (intOf i).toNat)
  case atStart => exact ⟨0, Nat.zero_le _, rfl, fun j h => absurd h (Nat.not_lt_zero _), Below.refl _ _⟩
  case round =>
    obtain ⟨k, hk, rfl, hall, hb⟩ := hrel
    have H := Lib.hid hall
    have HEr := Lib.hid (hE.mono hb)
    clear hall
    by_cases hlt : k < rn
    · have HL := Lib.hid (show (k : Int) < regs a by have := HR.out; omega)
      go_wp2_with (go_at_call 70; refine (registerP a k (by omega) HL.out _ HEr.out).mono ?_; rintro e w' ⟨rfl, hb2⟩)
      · have h : (regT a k == s.toList) = true := by assumption
        go_ret
        exact ⟨regOfI_some HL.out (str_beq_t h) (fun j hj => H.out j hj), below_trans hb hb2⟩
      · have h : (regT a k == s.toList) = false := by assumption
        go_roundw
        case rel => exact ⟨k + 1, by omega, by go_num, fun j hj => by
          by_cases e : j < k
          · exact H.out j e
          · obtain rfl : j = k := by omega
            exact str_beq_f h, below_trans hb hb2⟩
        case measure => simp [intOf]; omega
    · go_wp2
      go_ret
      exact ⟨regOfI_none (fun j hj => H.out j (by have := HR.out; omega)), hb⟩
set_option maxHeartbeats 1000000 in
theorem regOfR (a : Int) (s : ByteArray) (w : World) (hE : Env w) : Calls Tryz.prog 122 #[.int .i64 a, .string s] w fun e w' => e = .returned (regOfV a s.data.toList) ∧ Below w.heap.size w w' := by
  have hrp := regs_pos a
  obtain ⟨rn, hrn⟩ := Int.eq_ofNat_of_zero_le (show 0 ≤ regs a by omega)
  have HR := Lib.hid hrn
  have hr1 : 15 ≤ rn := by omega
  have hr2 : rn ≤ 32 := by omega
  clear hrp hrn
  go_enter Tryz.func122, Tryz.ntmps122
  go_wp2_with fail
  go_loopw [6] (fun i wr => ∃ k : Nat, k ≤ rn ∧ i = .int .i64 k ∧ (∀ j : Nat, j < k → regT a j ≠ s.data.toList) ∧ Below w.heap.size w wr) (fun i _ => rn - (intOf i).toNat)
  case atStart => exact ⟨0, Nat.zero_le _, rfl, fun j h => absurd h (Nat.not_lt_zero _), Below.refl _ _⟩
  case round =>
    obtain ⟨k, hk, rfl, hall, hb⟩ := hrel
    have H := Lib.hid hall
    have HEr := Lib.hid (hE.mono hb)
    clear hall
    by_cases hlt : k < rn
    · have HL := Lib.hid (show (k : Int) < regs a by have := HR.out; omega)
      go_wp2_with (first | (go_at_call 101; refine (regsR _ _).mono ?_; rw [HR.out]; rintro e w' ⟨rfl, rfl⟩) | (go_at_call 105; refine (registerR a k (by omega) HL.out _ HEr.out).mono ?_; rintro e w' ⟨rfl, hb2⟩))
      · have h : (regT a k == s.toList) = true := by assumption
        go_ret2
        exact ⟨regOfV_some HL.out (str_beq_t h) (fun j hj => H.out j hj), below_trans hb hb2⟩
      · have h : (regT a k == s.toList) = false := by assumption
        go_roundw
        case rel => exact ⟨k + 1, by omega, by go_num, fun j hj => by
          by_cases e : j < k
          · exact H.out j e
          · obtain rfl : j = k := by omega
            exact str_beq_f h, below_trans hb hb2⟩
        case measure => simp [intOf]; omega
    · go_wp2_with (go_at_call 101; refine (regsR _ _).mono ?_; rw [HR.out]; rintro e w' ⟨rfl, rfl⟩)
      go_ret2
      exact ⟨regOfV_none (fun j hj => H.out j (by have := HR.out; omega)), hb⟩
end Go.Proofs.YtmlnibjnacfanaaGreatDoor
