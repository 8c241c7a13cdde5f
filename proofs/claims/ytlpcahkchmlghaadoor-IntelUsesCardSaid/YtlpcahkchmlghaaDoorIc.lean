/- The world's tables (Env), and contracts of Reg and RegOf, of the program and of the reference. -/
import Derived.Test.YtlpcahkchmlghaaDoorIa
namespace Go.Proofs.YtlpcahkchmlghaaDoor
open Go.RowKit

def regL : List (List UInt8) := [[69, 65, 88], [69, 66, 88], [69, 67, 88], [69, 68, 88], [69, 83, 73], [69, 68, 73], [69, 66, 80], [82, 56, 68], [82, 57, 68], [82, 49, 48, 68], [82, 49, 49, 68], [82, 49, 50, 68], [82, 49, 51, 68], [82, 49, 52, 68], [82, 49, 53, 68]]
def regN (k : Nat) : List UInt8 := regL.getD k []
def strV (l : List UInt8) : Value := .string ⟨l.toArray⟩
def regArr : Array Value := #[.string ⟨#[69, 65, 88]⟩, .string ⟨#[69, 66, 88]⟩, .string ⟨#[69, 67, 88]⟩, .string ⟨#[69, 68, 88]⟩, .string ⟨#[69, 83, 73]⟩, .string ⟨#[69, 68, 73]⟩, .string ⟨#[69, 66, 80]⟩, .string ⟨#[82, 56, 68]⟩, .string ⟨#[82, 57, 68]⟩, .string ⟨#[82, 49, 48, 68]⟩, .string ⟨#[82, 49, 49, 68]⟩, .string ⟨#[82, 49, 50, 68]⟩, .string ⟨#[82, 49, 51, 68]⟩, .string ⟨#[82, 49, 52, 68]⟩, .string ⟨#[82, 49, 53, 68]⟩]
theorem regArr_at : ∀ k : Fin 15, regArr[k.val]? = some (.string ⟨(regN k.val).toArray⟩) := by
  intro ⟨k, hk⟩
  match k, hk with
  | 0, _ => rfl
  | 1, _ => rfl
  | 2, _ => rfl
  | 3, _ => rfl
  | 4, _ => rfl
  | 5, _ => rfl
  | 6, _ => rfl
  | 7, _ => rfl
  | 8, _ => rfl
  | 9, _ => rfl
  | 10, _ => rfl
  | 11, _ => rfl
  | 12, _ => rfl
  | 13, _ => rfl
  | 14, _ => rfl

/-- What the calls read of the package-level variables. -/
structure Env (w : World) : Prop where
  size : 9 ≤ w.heap.size
  pow : Lib.TabIs Tryd.prog w "internal/strconv.uint64pow10" .u64 Lib.pow10Tab
  regs : ∃ t fr, w.heap[(0 : Nat)]? = some (.cells regArr t fr)
  maxl : ∃ m, w.cell? ⟨1, 0, none⟩ = some (.int .i64 m)
  esyn : ∃ tp p, w.var? Tryd.prog "strconv.ErrSyntax" = some #[.iface tp p]
  eran : ∃ tp p, w.var? Tryd.prog "strconv.ErrRange" = some #[.iface tp p]

theorem var_below {w w' : World} (h : Below w.heap.size w w') {nm : String} {g : Nat} (hg : Tryd.prog.globalNamed nm = some g) (hs : g < w.heap.size) : w'.var? Tryd.prog nm = w.var? Tryd.prog nm := by
  unfold World.var?
  rw [hg]
  simp only [Option.bind_some]
  rw [h.block g hs]
theorem Env.mono {w w' : World} (h : Env w) (hb : Below w.heap.size w w') : Env w' := by
  have h9 := h.size
  have g1 : Tryd.prog.globalNamed "internal/strconv.uint64pow10" = some 4 := by kernel_rfl
  have g2 : Tryd.prog.globalNamed "strconv.ErrSyntax" = some 5 := by kernel_rfl
  have g3 : Tryd.prog.globalNamed "strconv.ErrRange" = some 6 := by kernel_rfl
  refine ⟨Nat.le_trans h9 hb.size, ?_, ?_, ?_, ?_, ?_⟩
  · show w'.var? _ _ = _
    rw [var_below hb g1 (by omega)]; exact h.pow
  · rw [hb.block _ (by omega)]; exact h.regs
  · obtain ⟨m, hm⟩ := h.maxl
    exact ⟨m, by rw [hb.cell (p := ⟨1, 0, none⟩) (show (1 : Nat) < _ by omega)]; exact hm⟩
  · rw [var_below hb g2 (by omega)]; exact h.esyn
  · rw [var_below hb g3 (by omega)]; exact h.eran
theorem Env.reg {w : World} (h : Env w) (k : Nat) (hk : k < 15) : w.cell? ⟨0, k, none⟩ = some (.string ⟨(regN k).toArray⟩) := by
  obtain ⟨t, fr, hh⟩ := h.regs
  unfold World.cell?
  simp only [hh]
  simpa using regArr_at ⟨k, hk⟩

theorem reg_ok (k : Nat) (hk : k < 15) (w : World) (hE : Env w) : Calls Tryd.prog 17 #[.int .i64 k] w fun e w' => e = .returned (.tuple #[.string ⟨(regN k).toArray⟩, .int .i64 0]) ∧ w = w' := by
  have hc := hE.reg k hk
  have h1 : decide ((k : Int) < 0) = false := by simp
  have h2 : decide ((15 : Int) ≤ (k : Int)) = false := by simp; omega
  go_enter Tryd.func17, Tryd.ntmps17
  go_wp2
  go_ret2
  exact ⟨rfl, rfl⟩
theorem reg_no (n : Int) (hn : regB n = false) (w : World) : Calls Tryd.prog 17 #[.int .i64 n] w fun e w' => e = .returned (.tuple #[.string ⟨#[]⟩, .int .i64 90]) ∧ w = w' := by
  unfold regB at hn
  rw [Bool.and_eq_false_iff] at hn
  simp at hn
  have hn' : n < 0 ∨ 15 ≤ n := hn
  clear hn
  go_enter Tryd.func17, Tryd.ntmps17
  go_wp2
  all_goals (go_ret2; exact ⟨rfl, rfl⟩)

def regOf (l : List UInt8) : Option Nat := (List.range 15).find? (fun k => regN k == l)
theorem regOf_some {l : List UInt8} {k : Nat} (hk : k < 15) (h : regN k = l) (hn : ∀ j, j < k → regN j ≠ l) : regOf l = some k := by
  unfold regOf
  rw [List.find?_range_eq_some]
  refine ⟨by simpa using h, by simpa using hk, fun j hj => by simpa using hn j hj⟩
theorem regOf_none {l : List UInt8} (hn : ∀ j, j < 15 → regN j ≠ l) : regOf l = none := by
  unfold regOf
  rw [List.find?_eq_none]
  intro j hj
  simpa using hn j (by simpa using hj)
def regOfV (l : List UInt8) : Value := match regOf l with
  | some k => .tuple #[.int .i64 k, .int .i64 0]
  | none => .tuple #[.int .i64 0, .int .i64 90]

theorem regOfV_some {l : List UInt8} {k : Nat} (hk : k < 15) (h : regN k = l) (hn : ∀ j, j < k → regN j ≠ l) : Ending.returned (.tuple #[.int .i64 k, .int .i64 0]) = .returned (regOfV l) := by
  rw [regOfV, regOf_some hk h hn]
theorem regOfV_none {l : List UInt8} (hn : ∀ j, j < 15 → regN j ≠ l) : Ending.returned (.tuple #[.int .i64 0, .int .i64 90]) = .returned (regOfV l) := by
  rw [regOfV, regOf_none hn]
theorem names_c (w : World) : Calls Tryd.prog 45 #[] w fun e w' => e = .returned (.slice (some ⟨w.heap.size, 0, none⟩) 15 15) ∧ w' = w.alloc (.cells regArr 9 (0, 0)) := by
  go_enter Tryd.func45, Tryd.ntmps45
  go_wp2
  go_ret
  exact ⟨rfl, rfl⟩

set_option maxHeartbeats 400000 in
theorem regOfR (s : ByteArray) (w : World) : Calls Tryd.prog 20 #[.string s] w fun e w' => e = .returned (regOfV s.data.toList) ∧ Below w.heap.size w w' := by
  go_enter Tryd.func20, Tryd.ntmps20
  go_wp2
  go_loopw [4] (fun i wr => ∃ k : Nat, k ≤ 15 ∧ i = .int .i64 k ∧ (∀ j, j < k → regN j ≠ s.data.toList) ∧ Below w.heap.size w wr) (fun i _ => 15 - (intOf i).toNat)
  case atStart => exact ⟨0, Nat.zero_le _, rfl, fun j h => absurd h (Nat.not_lt_zero _), Below.refl _ _⟩
  case round =>
    obtain ⟨k, hk, rfl, hall, hb⟩ := hrel
    have H := Lib.hid hall
    clear hall
    by_cases hlt : k < 15
    · have hc : ((wr.alloc (.cells regArr 9 (0, 0))).cell? ⟨wr.heap.size, k, none⟩) = some (.string ⟨(regN k).toArray⟩) := by
        rw [cell_new]; exact regArr_at ⟨k, hlt⟩
      go_wp2_with (go_at_call 45; refine (names_c _).mono ?_; rintro e w' ⟨rfl, rfl⟩)
      · have h : (regN k == s.toList) = true := by assumption
        go_ret2
        exact ⟨regOfV_some hlt (str_beq_t h) (fun j hj => H.out j hj), below_alloc hb _⟩
      · have h : (regN k == s.toList) = false := by assumption
        go_roundw
        case rel => exact ⟨k + 1, by omega, by go_num, fun j hj => by
          by_cases e : j < k
          · exact H.out j e
          · obtain rfl : j = k := by omega
            exact str_beq_f h, below_alloc hb _⟩
        case measure => simp [intOf]; omega
    · go_wp2
      go_ret2
      exact ⟨regOfV_none (fun j hj => H.out j (by omega)), hb⟩

theorem regIdx0 (w : World) : (Instr.index 71 (.agg regArr) (.int .i64 0)).run Tryd.prog w = .ok (.string ⟨(regN 0).toArray⟩) w := by kernel_rfl
theorem regIdx1 (w : World) : (Instr.index 71 (.agg regArr) (.int .i64 1)).run Tryd.prog w = .ok (.string ⟨(regN 1).toArray⟩) w := by kernel_rfl
theorem regIdx2 (w : World) : (Instr.index 71 (.agg regArr) (.int .i64 2)).run Tryd.prog w = .ok (.string ⟨(regN 2).toArray⟩) w := by kernel_rfl
theorem regIdx3 (w : World) : (Instr.index 71 (.agg regArr) (.int .i64 3)).run Tryd.prog w = .ok (.string ⟨(regN 3).toArray⟩) w := by kernel_rfl
theorem regIdx4 (w : World) : (Instr.index 71 (.agg regArr) (.int .i64 4)).run Tryd.prog w = .ok (.string ⟨(regN 4).toArray⟩) w := by kernel_rfl
theorem regIdx5 (w : World) : (Instr.index 71 (.agg regArr) (.int .i64 5)).run Tryd.prog w = .ok (.string ⟨(regN 5).toArray⟩) w := by kernel_rfl
theorem regIdx6 (w : World) : (Instr.index 71 (.agg regArr) (.int .i64 6)).run Tryd.prog w = .ok (.string ⟨(regN 6).toArray⟩) w := by kernel_rfl
theorem regIdx7 (w : World) : (Instr.index 71 (.agg regArr) (.int .i64 7)).run Tryd.prog w = .ok (.string ⟨(regN 7).toArray⟩) w := by kernel_rfl
theorem regIdx8 (w : World) : (Instr.index 71 (.agg regArr) (.int .i64 8)).run Tryd.prog w = .ok (.string ⟨(regN 8).toArray⟩) w := by kernel_rfl
theorem regIdx9 (w : World) : (Instr.index 71 (.agg regArr) (.int .i64 9)).run Tryd.prog w = .ok (.string ⟨(regN 9).toArray⟩) w := by kernel_rfl
theorem regIdx10 (w : World) : (Instr.index 71 (.agg regArr) (.int .i64 10)).run Tryd.prog w = .ok (.string ⟨(regN 10).toArray⟩) w := by kernel_rfl
theorem regIdx11 (w : World) : (Instr.index 71 (.agg regArr) (.int .i64 11)).run Tryd.prog w = .ok (.string ⟨(regN 11).toArray⟩) w := by kernel_rfl
theorem regIdx12 (w : World) : (Instr.index 71 (.agg regArr) (.int .i64 12)).run Tryd.prog w = .ok (.string ⟨(regN 12).toArray⟩) w := by kernel_rfl
theorem regIdx13 (w : World) : (Instr.index 71 (.agg regArr) (.int .i64 13)).run Tryd.prog w = .ok (.string ⟨(regN 13).toArray⟩) w := by kernel_rfl
theorem regIdx14 (w : World) : (Instr.index 71 (.agg regArr) (.int .i64 14)).run Tryd.prog w = .ok (.string ⟨(regN 14).toArray⟩) w := by kernel_rfl
theorem regIdx (k : Nat) (hk : k < 15) (w : World) : (Instr.index 71 (.agg regArr) (.int .i64 k)).run Tryd.prog w = .ok (.string ⟨(regN k).toArray⟩) w :=
  match k, hk with
  | 0, _ => regIdx0 w
  | 1, _ => regIdx1 w
  | 2, _ => regIdx2 w
  | 3, _ => regIdx3 w
  | 4, _ => regIdx4 w
  | 5, _ => regIdx5 w
  | 6, _ => regIdx6 w
  | 7, _ => regIdx7 w
  | 8, _ => regIdx8 w
  | 9, _ => regIdx9 w
  | 10, _ => regIdx10 w
  | 11, _ => regIdx11 w
  | 12, _ => regIdx12 w
  | 13, _ => regIdx13 w
  | 14, _ => regIdx14 w

set_option maxHeartbeats 400000 in
theorem regOfP (s : ByteArray) (w : World) (hE : Env w) : Calls Tryd.prog 19 #[.string s] w fun e w' => e = .returned (regOfV s.data.toList) ∧ w = w' := by
  obtain ⟨t, fr, hg⟩ := hE.regs
  go_enter Tryd.func19, Tryd.ntmps19
  go_wp2_with (refine wpList_load_row rfl _ _ rfl 0 rfl t regArr fr _ hg Tryd.underlying71 rfl (by kernel_rfl) ?_)
  go_loop [4, 5, 7] (fun _ _ i => ∃ k : Nat, k ≤ 15 ∧ i = .int .i64 k ∧ (∀ j, j < k → regN j ≠ s.data.toList)) (fun _ _ i => 15 - (intOf i).toNat)
  case atStart => exact ⟨0, Nat.zero_le _, rfl, fun j h => absurd h (Nat.not_lt_zero _)⟩
  case round =>
    obtain ⟨k, hk, rfl, hall⟩ := hrel
    have H := Lib.hid hall
    clear hall
    by_cases hlt : k < 15
    · have hi := fun w => regIdx k hlt w
      go_wp2
      · have h : (regN k == s.toList) = true := by assumption
        go_ret2
        exact ⟨regOfV_some hlt (str_beq_t h) (fun j hj => H.out j hj), rfl⟩
      · have h : (regN k == s.toList) = false := by assumption
        go_round
        case rel => exact ⟨k + 1, by omega, by go_num, fun j hj => by
          by_cases e : j < k
          · exact H.out j e
          · obtain rfl : j = k := by omega
            exact str_beq_f h⟩
        case measure => simp [intOf]; omega
    · go_wp2
      go_ret2
      exact ⟨regOfV_none (fun j hj => H.out j (by omega)), rfl⟩
end Go.Proofs.YtlpcahkchmlghaaDoor
