/- Layer 15: the program's small functions of the runner: mixed, unlike, open. -/
import Derived.Test.YtjhafgnmahhacaaGreatDoorTe19

namespace Go.Proofs.YtjhafgnmahhacaaGreatDoor
open Go.RowKit
section
theorem ta_n_n (v : Value) (w : World) : (Instr.typeAssert (.iface 213 v) 215 213 true).run Tryz.prog w = .ok (.tuple #[v, .bool true]) w := by kernel_rfl
theorem ta_n_a (v : Value) (w : World) : (Instr.typeAssert (.iface 218 v) 215 213 true).run Tryz.prog w = .ok (.tuple #[.int .i64 0, .bool false]) w := by kernel_rfl
theorem ta_n_t (v : Value) (w : World) : (Instr.typeAssert (.iface 225 v) 215 213 true).run Tryz.prog w = .ok (.tuple #[.int .i64 0, .bool false]) w := by kernel_rfl
theorem ta_n_h (v : Value) (w : World) : (Instr.typeAssert (.iface 331 v) 215 213 true).run Tryz.prog w = .ok (.tuple #[.int .i64 0, .bool false]) w := by kernel_rfl
theorem ta_a_n (v : Value) (w : World) : (Instr.typeAssert (.iface 213 v) 215 218 true).run Tryz.prog w = .ok (.tuple #[.string ⟨#[]⟩, .bool false]) w := by kernel_rfl
theorem ta_a_a (v : Value) (w : World) : (Instr.typeAssert (.iface 218 v) 215 218 true).run Tryz.prog w = .ok (.tuple #[v, .bool true]) w := by kernel_rfl
theorem ta_a_t (v : Value) (w : World) : (Instr.typeAssert (.iface 225 v) 215 218 true).run Tryz.prog w = .ok (.tuple #[.string ⟨#[]⟩, .bool false]) w := by kernel_rfl
theorem ta_a_h (v : Value) (w : World) : (Instr.typeAssert (.iface 331 v) 215 218 true).run Tryz.prog w = .ok (.tuple #[.string ⟨#[]⟩, .bool false]) w := by kernel_rfl
theorem ta_t_n (v : Value) (w : World) : (Instr.typeAssert (.iface 213 v) 215 225 true).run Tryz.prog w = .ok (.tuple #[.int .i64 0, .bool false]) w := by kernel_rfl
theorem ta_t_a (v : Value) (w : World) : (Instr.typeAssert (.iface 218 v) 215 225 true).run Tryz.prog w = .ok (.tuple #[.int .i64 0, .bool false]) w := by kernel_rfl
theorem ta_t_t (v : Value) (w : World) : (Instr.typeAssert (.iface 225 v) 215 225 true).run Tryz.prog w = .ok (.tuple #[v, .bool true]) w := by kernel_rfl
theorem ta_t_h (v : Value) (w : World) : (Instr.typeAssert (.iface 331 v) 215 225 true).run Tryz.prog w = .ok (.tuple #[.int .i64 0, .bool false]) w := by kernel_rfl
theorem wrap64_32 {z : Int} (h : in32 z) : wrap64 z = z := by
  unfold in32 at h
  simp [wrap64]
  omega
theorem ret_num {a b : Int} (h : a = b) : Ending.returned (.iface 213 (.int .i64 a)) = .returned (.iface 213 (.int .i64 b)) := by rw [h]
section
set_option maxHeartbeats 4000000
set_option maxRecDepth 100000
theorem mixed_nn (op x y : Int) (hx : in32 x) (hy : in32 y) (w : World) : Calls Tryz.prog 209 #[.int .i64 op, holdV (.num x), holdV (.num y)] w fun e w' => e = .returned (holdV (.num (opN op x y))) ∧ w = w' := by
  have h1 : IntKind.i32.wrap x = x := wrap32 hx
  have h2 : IntKind.i32.wrap y = y := wrap32 hy
  have h3 := or32 hx hy
  have h4 := xor32 hx hy
  have h5 := wrap64_32 h3.2
  have h6 := wrap64_32 h4.2
  have HE : Hid (RowKit.wrap32 (x + y) = IntKind.i32.wrap (x + y)) := Lib.hid (by
    unfold IntKind.wrap
    simp [RowKit.wrap32, IntKind.bits, IntKind.signed]
    omega)
  have h7 : wrap64 (RowKit.wrap32 (x + y)) = RowKit.wrap32 (x + y) := wrap64_32 (by rw [HE.out]; exact in32_wrap _)
  have q1 := fun w => ta_n_n (.int .i64 x) w
  have q2 := fun w => ta_n_n (.int .i64 y) w
  have h30 := h3.1
  have h40 := h4.1
  clear h3 h4 hx hy
  unfold holdV
  by_cases e8 : op = 8
  · subst e8
    go_enter Tryz.func209, Tryz.ntmps209
    go_wp2_with fail
    go_ret
    exact ⟨ret_num (by simp [opN, h30]), rfl⟩
  · by_cases e9 : op = 9
    · subst e9
      go_enter Tryz.func209, Tryz.ntmps209
      go_wp2_with fail
      go_ret
      exact ⟨ret_num (by simp [opN, h40]), rfl⟩
    · go_enter Tryz.func209, Tryz.ntmps209
      go_wp2_with fail
      go_ret
      exact ⟨ret_num (by unfold opN; rw [if_neg e8, if_neg e9]; exact HE.out), rfl⟩
theorem mixed_num_adr (op : Int) (x : Int) (y : Nm) (w : World) : Calls Tryz.prog 209 #[.int .i64 op, holdV (.num x), holdV (.adr y)] w fun e w' => e = .returned (holdV (mixL op (.num x) (.adr y))) ∧ w = w' := by
  have q1 := fun w => ta_n_n (.int .i64 x) w
  have q2 := fun w => ta_n_a (.string ⟨(y : List UInt8).toArray⟩) w
  by_cases e : x = 0
  · subst e
    rw [show mixL op (.num 0) (.adr y) = (.adr y) from rfl]
    unfold holdV
    go_enter Tryz.func209, Tryz.ntmps209
    go_wp2_with fail
    go_ret
    exact ⟨rfl, rfl⟩
  · rw [show mixL op (.num x) (.adr y) = .non from if_neg e]
    unfold holdV
    go_enter Tryz.func209, Tryz.ntmps209
    go_wp2_with fail
    go_ret
    exact ⟨rfl, rfl⟩
theorem mixed_num_rd (op : Int) (x : Int) (y : Nat) (w : World) : Calls Tryz.prog 209 #[.int .i64 op, holdV (.num x), holdV (.rd y)] w fun e w' => e = .returned (holdV (mixL op (.num x) (.rd y))) ∧ w = w' := by
  have q1 := fun w => ta_n_n (.int .i64 x) w
  have q2 := fun w => ta_n_t (.int .i64 ((y : Nat) : Int)) w
  by_cases e : x = 0
  · subst e
    rw [show mixL op (.num 0) (.rd y) = (.rd y) from rfl]
    unfold holdV
    go_enter Tryz.func209, Tryz.ntmps209
    go_wp2_with fail
    go_ret
    exact ⟨rfl, rfl⟩
  · rw [show mixL op (.num x) (.rd y) = .non from if_neg e]
    unfold holdV
    go_enter Tryz.func209, Tryz.ntmps209
    go_wp2_with fail
    go_ret
    exact ⟨rfl, rfl⟩
theorem mixed_num_non (op : Int) (x : Int)  (w : World) : Calls Tryz.prog 209 #[.int .i64 op, holdV (.num x), holdV .non] w fun e w' => e = .returned (holdV (mixL op (.num x) .non)) ∧ w = w' := by
  have q1 := fun w => ta_n_n (.int .i64 x) w
  have q2 := fun w => ta_n_h (.agg #[]) w
  by_cases e : x = 0
  · subst e
    rw [show mixL op (.num 0) .non = .non from rfl]
    unfold holdV
    go_enter Tryz.func209, Tryz.ntmps209
    go_wp2_with fail
    go_ret
    exact ⟨rfl, rfl⟩
  · rw [show mixL op (.num x) .non = .non from if_neg e]
    unfold holdV
    go_enter Tryz.func209, Tryz.ntmps209
    go_wp2_with fail
    go_ret
    exact ⟨rfl, rfl⟩
theorem mixed_adr_num (op : Int) (x : Nm) (y : Int) (w : World) : Calls Tryz.prog 209 #[.int .i64 op, holdV (.adr x), holdV (.num y)] w fun e w' => e = .returned (holdV (mixL op (.adr x) (.num y))) ∧ w = w' := by
  have q1 := fun w => ta_n_a (.string ⟨(x : List UInt8).toArray⟩) w
  have q2 := fun w => ta_n_n (.int .i64 y) w
  by_cases e : y = 0
  · subst e
    rw [show mixL op (.adr x) (.num 0) = (.adr x) from rfl]
    unfold holdV
    go_enter Tryz.func209, Tryz.ntmps209
    go_wp2_with fail
    go_ret
    exact ⟨rfl, rfl⟩
  · rw [show mixL op (.adr x) (.num y) = .non from if_neg e]
    unfold holdV
    go_enter Tryz.func209, Tryz.ntmps209
    go_wp2_with fail
    go_ret
    exact ⟨rfl, rfl⟩
theorem mixed_adr_adr (op : Int) (x : Nm) (y : Nm) (w : World) : Calls Tryz.prog 209 #[.int .i64 op, holdV (.adr x), holdV (.adr y)] w fun e w' => e = .returned (holdV (mixL op (.adr x) (.adr y))) ∧ w = w' := by
  have q1 := fun w => ta_n_a (.string ⟨(x : List UInt8).toArray⟩) w
  have q2 := fun w => ta_n_a (.string ⟨(y : List UInt8).toArray⟩) w
  rw [show mixL op (.adr x) (.adr y) = .non from rfl]
  unfold holdV
  go_enter Tryz.func209, Tryz.ntmps209
  go_wp2_with fail
  go_ret
  exact ⟨rfl, rfl⟩
theorem mixed_adr_rd (op : Int) (x : Nm) (y : Nat) (w : World) : Calls Tryz.prog 209 #[.int .i64 op, holdV (.adr x), holdV (.rd y)] w fun e w' => e = .returned (holdV (mixL op (.adr x) (.rd y))) ∧ w = w' := by
  have q1 := fun w => ta_n_a (.string ⟨(x : List UInt8).toArray⟩) w
  have q2 := fun w => ta_n_t (.int .i64 ((y : Nat) : Int)) w
  rw [show mixL op (.adr x) (.rd y) = .non from rfl]
  unfold holdV
  go_enter Tryz.func209, Tryz.ntmps209
  go_wp2_with fail
  go_ret
  exact ⟨rfl, rfl⟩
theorem mixed_adr_non (op : Int) (x : Nm)  (w : World) : Calls Tryz.prog 209 #[.int .i64 op, holdV (.adr x), holdV .non] w fun e w' => e = .returned (holdV (mixL op (.adr x) .non)) ∧ w = w' := by
  have q1 := fun w => ta_n_a (.string ⟨(x : List UInt8).toArray⟩) w
  have q2 := fun w => ta_n_h (.agg #[]) w
  rw [show mixL op (.adr x) .non = .non from rfl]
  unfold holdV
  go_enter Tryz.func209, Tryz.ntmps209
  go_wp2_with fail
  go_ret
  exact ⟨rfl, rfl⟩
theorem mixed_rd_num (op : Int) (x : Nat) (y : Int) (w : World) : Calls Tryz.prog 209 #[.int .i64 op, holdV (.rd x), holdV (.num y)] w fun e w' => e = .returned (holdV (mixL op (.rd x) (.num y))) ∧ w = w' := by
  have q1 := fun w => ta_n_t (.int .i64 ((x : Nat) : Int)) w
  have q2 := fun w => ta_n_n (.int .i64 y) w
  by_cases e : y = 0
  · subst e
    rw [show mixL op (.rd x) (.num 0) = (.rd x) from rfl]
    unfold holdV
    go_enter Tryz.func209, Tryz.ntmps209
    go_wp2_with fail
    go_ret
    exact ⟨rfl, rfl⟩
  · rw [show mixL op (.rd x) (.num y) = .non from if_neg e]
    unfold holdV
    go_enter Tryz.func209, Tryz.ntmps209
    go_wp2_with fail
    go_ret
    exact ⟨rfl, rfl⟩
theorem mixed_rd_adr (op : Int) (x : Nat) (y : Nm) (w : World) : Calls Tryz.prog 209 #[.int .i64 op, holdV (.rd x), holdV (.adr y)] w fun e w' => e = .returned (holdV (mixL op (.rd x) (.adr y))) ∧ w = w' := by
  have q1 := fun w => ta_n_t (.int .i64 ((x : Nat) : Int)) w
  have q2 := fun w => ta_n_a (.string ⟨(y : List UInt8).toArray⟩) w
  rw [show mixL op (.rd x) (.adr y) = .non from rfl]
  unfold holdV
  go_enter Tryz.func209, Tryz.ntmps209
  go_wp2_with fail
  go_ret
  exact ⟨rfl, rfl⟩
theorem mixed_rd_rd (op : Int) (x : Nat) (y : Nat) (w : World) : Calls Tryz.prog 209 #[.int .i64 op, holdV (.rd x), holdV (.rd y)] w fun e w' => e = .returned (holdV (mixL op (.rd x) (.rd y))) ∧ w = w' := by
  have q1 := fun w => ta_n_t (.int .i64 ((x : Nat) : Int)) w
  have q2 := fun w => ta_n_t (.int .i64 ((y : Nat) : Int)) w
  rw [show mixL op (.rd x) (.rd y) = .non from rfl]
  unfold holdV
  go_enter Tryz.func209, Tryz.ntmps209
  go_wp2_with fail
  go_ret
  exact ⟨rfl, rfl⟩
theorem mixed_rd_non (op : Int) (x : Nat)  (w : World) : Calls Tryz.prog 209 #[.int .i64 op, holdV (.rd x), holdV .non] w fun e w' => e = .returned (holdV (mixL op (.rd x) .non)) ∧ w = w' := by
  have q1 := fun w => ta_n_t (.int .i64 ((x : Nat) : Int)) w
  have q2 := fun w => ta_n_h (.agg #[]) w
  rw [show mixL op (.rd x) .non = .non from rfl]
  unfold holdV
  go_enter Tryz.func209, Tryz.ntmps209
  go_wp2_with fail
  go_ret
  exact ⟨rfl, rfl⟩
theorem mixed_non_num (op : Int)  (y : Int) (w : World) : Calls Tryz.prog 209 #[.int .i64 op, holdV .non, holdV (.num y)] w fun e w' => e = .returned (holdV (mixL op .non (.num y))) ∧ w = w' := by
  have q1 := fun w => ta_n_h (.agg #[]) w
  have q2 := fun w => ta_n_n (.int .i64 y) w
  by_cases e : y = 0
  · subst e
    rw [show mixL op .non (.num 0) = .non from rfl]
    unfold holdV
    go_enter Tryz.func209, Tryz.ntmps209
    go_wp2_with fail
    go_ret
    exact ⟨rfl, rfl⟩
  · rw [show mixL op .non (.num y) = .non from if_neg e]
    unfold holdV
    go_enter Tryz.func209, Tryz.ntmps209
    go_wp2_with fail
    go_ret
    exact ⟨rfl, rfl⟩
theorem mixed_non_adr (op : Int)  (y : Nm) (w : World) : Calls Tryz.prog 209 #[.int .i64 op, holdV .non, holdV (.adr y)] w fun e w' => e = .returned (holdV (mixL op .non (.adr y))) ∧ w = w' := by
  have q1 := fun w => ta_n_h (.agg #[]) w
  have q2 := fun w => ta_n_a (.string ⟨(y : List UInt8).toArray⟩) w
  rw [show mixL op .non (.adr y) = .non from rfl]
  unfold holdV
  go_enter Tryz.func209, Tryz.ntmps209
  go_wp2_with fail
  go_ret
  exact ⟨rfl, rfl⟩
theorem mixed_non_rd (op : Int)  (y : Nat) (w : World) : Calls Tryz.prog 209 #[.int .i64 op, holdV .non, holdV (.rd y)] w fun e w' => e = .returned (holdV (mixL op .non (.rd y))) ∧ w = w' := by
  have q1 := fun w => ta_n_h (.agg #[]) w
  have q2 := fun w => ta_n_t (.int .i64 ((y : Nat) : Int)) w
  rw [show mixL op .non (.rd y) = .non from rfl]
  unfold holdV
  go_enter Tryz.func209, Tryz.ntmps209
  go_wp2_with fail
  go_ret
  exact ⟨rfl, rfl⟩
theorem mixed_non_non (op : Int)   (w : World) : Calls Tryz.prog 209 #[.int .i64 op, holdV .non, holdV .non] w fun e w' => e = .returned (holdV (mixL op .non .non)) ∧ w = w' := by
  have q1 := fun w => ta_n_h (.agg #[]) w
  have q2 := fun w => ta_n_h (.agg #[]) w
  rw [show mixL op .non .non = .non from rfl]
  unfold holdV
  go_enter Tryz.func209, Tryz.ntmps209
  go_wp2_with fail
  go_ret
  exact ⟨rfl, rfl⟩
def holdN : Hold → Prop
  | .num x => in32 x
  | _ => True
theorem HoldOK.num {C : Cx} {evs : List Evt} : ∀ {h : Hold}, HoldOK C evs h → holdN h
  | .num _, h => h
  | .adr _, _ => trivial
  | .rd _, _ => trivial
  | .non, _ => trivial
theorem mixedP (op : Int) (w : World) : ∀ (a b : Hold), holdN a → holdN b → Calls Tryz.prog 209 #[.int .i64 op, holdV a, holdV b] w fun e w' => e = .returned (holdV (mixL op a b)) ∧ w = w'
  | .num x, .num y, ha, hb => mixed_nn op x y ha hb w
  | .num x, .adr y, _, _ => mixed_num_adr op x y w
  | .num x, .rd y, _, _ => mixed_num_rd op x y w
  | .num x, .non, _, _ => mixed_num_non op x  w
  | .adr x, .num y, _, _ => mixed_adr_num op x y w
  | .adr x, .adr y, _, _ => mixed_adr_adr op x y w
  | .adr x, .rd y, _, _ => mixed_adr_rd op x y w
  | .adr x, .non, _, _ => mixed_adr_non op x  w
  | .rd x, .num y, _, _ => mixed_rd_num op x y w
  | .rd x, .adr y, _, _ => mixed_rd_adr op x y w
  | .rd x, .rd y, _, _ => mixed_rd_rd op x y w
  | .rd x, .non, _, _ => mixed_rd_non op x  w
  | .non, .num y, _, _ => mixed_non_num op  y w
  | .non, .adr y, _, _ => mixed_non_adr op  y w
  | .non, .rd y, _, _ => mixed_non_rd op  y w
  | .non, .non, _, _ => mixed_non_non op   w
theorem unlike_num_num (x : Int) (y : Int) (w : World) : Calls Tryz.prog 211 #[holdV (.num x), holdV (.num y)] w fun e w' => e = .returned (.bool (unlikeL (.num x) (.num y))) ∧ w = w' := by
  have q1 := fun w => ta_n_n (.int .i64 x) w
  have q2 := fun w => ta_a_n (.int .i64 x) w
  have q3 := fun w => ta_n_n (.int .i64 y) w
  have q4 := fun w => ta_a_n (.int .i64 y) w
  by_cases e : x = y
  · rw [show unlikeL (.num x) (.num y) = false from by simp [unlikeL, e]]
    subst e
    unfold holdV
    go_enter Tryz.func211, Tryz.ntmps211
    go_wp2_with fail
    go_ret
    exact ⟨ret_bool (by simp), rfl⟩
  · rw [show unlikeL (.num x) (.num y) = true from by simp [unlikeL, e]]
    unfold holdV
    go_enter Tryz.func211, Tryz.ntmps211
    go_wp2_with fail
    go_ret
    exact ⟨ret_bool (by simp [e]), rfl⟩
theorem unlike_num_adr (x : Int) (y : Nm) (w : World) : Calls Tryz.prog 211 #[holdV (.num x), holdV (.adr y)] w fun e w' => e = .returned (.bool (unlikeL (.num x) (.adr y))) ∧ w = w' := by
  have q1 := fun w => ta_n_n (.int .i64 x) w
  have q2 := fun w => ta_a_n (.int .i64 x) w
  have q3 := fun w => ta_n_a (.string ⟨(y : List UInt8).toArray⟩) w
  have q4 := fun w => ta_a_a (.string ⟨(y : List UInt8).toArray⟩) w
  rw [show unlikeL (.num x) (.adr y) = true from rfl]
  unfold holdV
  go_enter Tryz.func211, Tryz.ntmps211
  go_wp2_with fail
  go_ret
  exact ⟨rfl, rfl⟩
theorem unlike_num_rd (x : Int) (y : Nat) (w : World) : Calls Tryz.prog 211 #[holdV (.num x), holdV (.rd y)] w fun e w' => e = .returned (.bool (unlikeL (.num x) (.rd y))) ∧ w = w' := by
  have q1 := fun w => ta_n_n (.int .i64 x) w
  have q2 := fun w => ta_a_n (.int .i64 x) w
  have q3 := fun w => ta_n_t (.int .i64 ((y : Nat) : Int)) w
  have q4 := fun w => ta_a_t (.int .i64 ((y : Nat) : Int)) w
  rw [show unlikeL (.num x) (.rd y) = true from rfl]
  unfold holdV
  go_enter Tryz.func211, Tryz.ntmps211
  go_wp2_with fail
  go_ret
  exact ⟨rfl, rfl⟩
theorem unlike_num_non (x : Int)  (w : World) : Calls Tryz.prog 211 #[holdV (.num x), holdV .non] w fun e w' => e = .returned (.bool (unlikeL (.num x) .non)) ∧ w = w' := by
  have q1 := fun w => ta_n_n (.int .i64 x) w
  have q2 := fun w => ta_a_n (.int .i64 x) w
  have q3 := fun w => ta_n_h (.agg #[]) w
  have q4 := fun w => ta_a_h (.agg #[]) w
  rw [show unlikeL (.num x) .non = true from rfl]
  unfold holdV
  go_enter Tryz.func211, Tryz.ntmps211
  go_wp2_with fail
  go_ret
  exact ⟨rfl, rfl⟩
theorem unlike_adr_num (x : Nm) (y : Int) (w : World) : Calls Tryz.prog 211 #[holdV (.adr x), holdV (.num y)] w fun e w' => e = .returned (.bool (unlikeL (.adr x) (.num y))) ∧ w = w' := by
  have q1 := fun w => ta_n_a (.string ⟨(x : List UInt8).toArray⟩) w
  have q2 := fun w => ta_a_a (.string ⟨(x : List UInt8).toArray⟩) w
  have q3 := fun w => ta_n_n (.int .i64 y) w
  have q4 := fun w => ta_a_n (.int .i64 y) w
  rw [show unlikeL (.adr x) (.num y) = true from rfl]
  unfold holdV
  go_enter Tryz.func211, Tryz.ntmps211
  go_wp2_with fail
  go_ret
  exact ⟨rfl, rfl⟩
theorem unlike_adr_adr (x : Nm) (y : Nm) (w : World) : Calls Tryz.prog 211 #[holdV (.adr x), holdV (.adr y)] w fun e w' => e = .returned (.bool (unlikeL (.adr x) (.adr y))) ∧ w = w' := by
  have q1 := fun w => ta_n_a (.string ⟨(x : List UInt8).toArray⟩) w
  have q2 := fun w => ta_a_a (.string ⟨(x : List UInt8).toArray⟩) w
  have q3 := fun w => ta_n_a (.string ⟨(y : List UInt8).toArray⟩) w
  have q4 := fun w => ta_a_a (.string ⟨(y : List UInt8).toArray⟩) w
  by_cases e : x = y
  · rw [show unlikeL (.adr x) (.adr y) = false from by simp [unlikeL, e]]
    have e1 : (x == y) = true := by simpa using e
    subst e
    unfold holdV
    go_enter Tryz.func211, Tryz.ntmps211
    go_wp2_with fail
    go_ret
    exact ⟨ret_bool (by simp), rfl⟩
  · rw [show unlikeL (.adr x) (.adr y) = true from by simp [unlikeL, e]]
    have e1 : (x == y) = false := by simpa using e
    unfold holdV
    go_enter Tryz.func211, Tryz.ntmps211
    go_wp2_with fail
    go_ret
    exact ⟨ret_bool (by simp), rfl⟩
theorem unlike_adr_rd (x : Nm) (y : Nat) (w : World) : Calls Tryz.prog 211 #[holdV (.adr x), holdV (.rd y)] w fun e w' => e = .returned (.bool (unlikeL (.adr x) (.rd y))) ∧ w = w' := by
  have q1 := fun w => ta_n_a (.string ⟨(x : List UInt8).toArray⟩) w
  have q2 := fun w => ta_a_a (.string ⟨(x : List UInt8).toArray⟩) w
  have q3 := fun w => ta_n_t (.int .i64 ((y : Nat) : Int)) w
  have q4 := fun w => ta_a_t (.int .i64 ((y : Nat) : Int)) w
  rw [show unlikeL (.adr x) (.rd y) = true from rfl]
  unfold holdV
  go_enter Tryz.func211, Tryz.ntmps211
  go_wp2_with fail
  go_ret
  exact ⟨rfl, rfl⟩
theorem unlike_adr_non (x : Nm)  (w : World) : Calls Tryz.prog 211 #[holdV (.adr x), holdV .non] w fun e w' => e = .returned (.bool (unlikeL (.adr x) .non)) ∧ w = w' := by
  have q1 := fun w => ta_n_a (.string ⟨(x : List UInt8).toArray⟩) w
  have q2 := fun w => ta_a_a (.string ⟨(x : List UInt8).toArray⟩) w
  have q3 := fun w => ta_n_h (.agg #[]) w
  have q4 := fun w => ta_a_h (.agg #[]) w
  rw [show unlikeL (.adr x) .non = true from rfl]
  unfold holdV
  go_enter Tryz.func211, Tryz.ntmps211
  go_wp2_with fail
  go_ret
  exact ⟨rfl, rfl⟩
theorem unlike_rd_num (x : Nat) (y : Int) (w : World) : Calls Tryz.prog 211 #[holdV (.rd x), holdV (.num y)] w fun e w' => e = .returned (.bool (unlikeL (.rd x) (.num y))) ∧ w = w' := by
  have q1 := fun w => ta_n_t (.int .i64 ((x : Nat) : Int)) w
  have q2 := fun w => ta_a_t (.int .i64 ((x : Nat) : Int)) w
  have q3 := fun w => ta_n_n (.int .i64 y) w
  have q4 := fun w => ta_a_n (.int .i64 y) w
  rw [show unlikeL (.rd x) (.num y) = true from rfl]
  unfold holdV
  go_enter Tryz.func211, Tryz.ntmps211
  go_wp2_with fail
  go_ret
  exact ⟨rfl, rfl⟩
theorem unlike_rd_adr (x : Nat) (y : Nm) (w : World) : Calls Tryz.prog 211 #[holdV (.rd x), holdV (.adr y)] w fun e w' => e = .returned (.bool (unlikeL (.rd x) (.adr y))) ∧ w = w' := by
  have q1 := fun w => ta_n_t (.int .i64 ((x : Nat) : Int)) w
  have q2 := fun w => ta_a_t (.int .i64 ((x : Nat) : Int)) w
  have q3 := fun w => ta_n_a (.string ⟨(y : List UInt8).toArray⟩) w
  have q4 := fun w => ta_a_a (.string ⟨(y : List UInt8).toArray⟩) w
  rw [show unlikeL (.rd x) (.adr y) = true from rfl]
  unfold holdV
  go_enter Tryz.func211, Tryz.ntmps211
  go_wp2_with fail
  go_ret
  exact ⟨rfl, rfl⟩
theorem unlike_rd_rd (x : Nat) (y : Nat) (w : World) : Calls Tryz.prog 211 #[holdV (.rd x), holdV (.rd y)] w fun e w' => e = .returned (.bool (unlikeL (.rd x) (.rd y))) ∧ w = w' := by
  have q1 := fun w => ta_n_t (.int .i64 ((x : Nat) : Int)) w
  have q2 := fun w => ta_a_t (.int .i64 ((x : Nat) : Int)) w
  have q3 := fun w => ta_n_t (.int .i64 ((y : Nat) : Int)) w
  have q4 := fun w => ta_a_t (.int .i64 ((y : Nat) : Int)) w
  rw [show unlikeL (.rd x) (.rd y) = true from rfl]
  unfold holdV
  go_enter Tryz.func211, Tryz.ntmps211
  go_wp2_with fail
  go_ret
  exact ⟨rfl, rfl⟩
theorem unlike_rd_non (x : Nat)  (w : World) : Calls Tryz.prog 211 #[holdV (.rd x), holdV .non] w fun e w' => e = .returned (.bool (unlikeL (.rd x) .non)) ∧ w = w' := by
  have q1 := fun w => ta_n_t (.int .i64 ((x : Nat) : Int)) w
  have q2 := fun w => ta_a_t (.int .i64 ((x : Nat) : Int)) w
  have q3 := fun w => ta_n_h (.agg #[]) w
  have q4 := fun w => ta_a_h (.agg #[]) w
  rw [show unlikeL (.rd x) .non = true from rfl]
  unfold holdV
  go_enter Tryz.func211, Tryz.ntmps211
  go_wp2_with fail
  go_ret
  exact ⟨rfl, rfl⟩
theorem unlike_non_num  (y : Int) (w : World) : Calls Tryz.prog 211 #[holdV .non, holdV (.num y)] w fun e w' => e = .returned (.bool (unlikeL .non (.num y))) ∧ w = w' := by
  have q1 := fun w => ta_n_h (.agg #[]) w
  have q2 := fun w => ta_a_h (.agg #[]) w
  have q3 := fun w => ta_n_n (.int .i64 y) w
  have q4 := fun w => ta_a_n (.int .i64 y) w
  rw [show unlikeL .non (.num y) = true from rfl]
  unfold holdV
  go_enter Tryz.func211, Tryz.ntmps211
  go_wp2_with fail
  go_ret
  exact ⟨rfl, rfl⟩
theorem unlike_non_adr  (y : Nm) (w : World) : Calls Tryz.prog 211 #[holdV .non, holdV (.adr y)] w fun e w' => e = .returned (.bool (unlikeL .non (.adr y))) ∧ w = w' := by
  have q1 := fun w => ta_n_h (.agg #[]) w
  have q2 := fun w => ta_a_h (.agg #[]) w
  have q3 := fun w => ta_n_a (.string ⟨(y : List UInt8).toArray⟩) w
  have q4 := fun w => ta_a_a (.string ⟨(y : List UInt8).toArray⟩) w
  rw [show unlikeL .non (.adr y) = true from rfl]
  unfold holdV
  go_enter Tryz.func211, Tryz.ntmps211
  go_wp2_with fail
  go_ret
  exact ⟨rfl, rfl⟩
theorem unlike_non_rd  (y : Nat) (w : World) : Calls Tryz.prog 211 #[holdV .non, holdV (.rd y)] w fun e w' => e = .returned (.bool (unlikeL .non (.rd y))) ∧ w = w' := by
  have q1 := fun w => ta_n_h (.agg #[]) w
  have q2 := fun w => ta_a_h (.agg #[]) w
  have q3 := fun w => ta_n_t (.int .i64 ((y : Nat) : Int)) w
  have q4 := fun w => ta_a_t (.int .i64 ((y : Nat) : Int)) w
  rw [show unlikeL .non (.rd y) = true from rfl]
  unfold holdV
  go_enter Tryz.func211, Tryz.ntmps211
  go_wp2_with fail
  go_ret
  exact ⟨rfl, rfl⟩
theorem unlike_non_non   (w : World) : Calls Tryz.prog 211 #[holdV .non, holdV .non] w fun e w' => e = .returned (.bool (unlikeL .non .non)) ∧ w = w' := by
  have q1 := fun w => ta_n_h (.agg #[]) w
  have q2 := fun w => ta_a_h (.agg #[]) w
  have q3 := fun w => ta_n_h (.agg #[]) w
  have q4 := fun w => ta_a_h (.agg #[]) w
  rw [show unlikeL .non .non = true from rfl]
  unfold holdV
  go_enter Tryz.func211, Tryz.ntmps211
  go_wp2_with fail
  go_ret
  exact ⟨rfl, rfl⟩
theorem unlikeP (w : World) : ∀ (a b : Hold), Calls Tryz.prog 211 #[holdV a, holdV b] w fun e w' => e = .returned (.bool (unlikeL a b)) ∧ w = w'
  | .num x, .num y => unlike_num_num x y w
  | .num x, .adr y => unlike_num_adr x y w
  | .num x, .rd y => unlike_num_rd x y w
  | .num x, .non => unlike_num_non x  w
  | .adr x, .num y => unlike_adr_num x y w
  | .adr x, .adr y => unlike_adr_adr x y w
  | .adr x, .rd y => unlike_adr_rd x y w
  | .adr x, .non => unlike_adr_non x  w
  | .rd x, .num y => unlike_rd_num x y w
  | .rd x, .adr y => unlike_rd_adr x y w
  | .rd x, .rd y => unlike_rd_rd x y w
  | .rd x, .non => unlike_rd_non x  w
  | .non, .num y => unlike_non_num  y w
  | .non, .adr y => unlike_non_adr  y w
  | .non, .rd y => unlike_non_rd  y w
  | .non, .non => unlike_non_non   w
end
end
end Go.Proofs.YtjhafgnmahhacaaGreatDoor
