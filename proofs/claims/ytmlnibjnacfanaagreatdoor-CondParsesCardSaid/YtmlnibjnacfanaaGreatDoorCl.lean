/- Layer 8: what the calls read of the library's variables (Env), and the library's contracts in one form. -/
import Derived.Test.YtmlnibjnacfanaaGreatDoorCh
import Derived.Test.YtmlnibjnacfanaaGreatDoorShelf
import Derived.Lib.AppendIntMem
import Derived.Lib.AtoiErrMem
namespace Go.Proofs.YtmlnibjnacfanaaGreatDoor
open Go.RowKit

/-- What the calls read of the package-level variables. -/
structure Env (w : World) : Prop where
  size : 6 ≤ w.heap.size
  pow : Lib.TabIs Tryz.prog w "internal/strconv.uint64pow10" .u64 Lib.pow10Tab
  esyn : ∃ tp p, w.var? Tryz.prog "strconv.ErrSyntax" = some #[.iface tp p]
  eran : ∃ tp p, w.var? Tryz.prog "strconv.ErrRange" = some #[.iface tp p]
theorem var_below {w w' : World} (h : Below w.heap.size w w') {nm : String} {g : Nat} (hg : Tryz.prog.globalNamed nm = some g) (hs : g < w.heap.size) : w'.var? Tryz.prog nm = w.var? Tryz.prog nm := by
  unfold World.var?
  rw [hg]
  simp only [Option.bind_some]
  rw [h.block g hs]
theorem Env.mono {w w' : World} (h : Env w) (hb : Below w.heap.size w w') : Env w' := by
  have h9 := h.size
  have g1 : Tryz.prog.globalNamed "internal/strconv.uint64pow10" = some 1 := by kernel_rfl
  have g2 : Tryz.prog.globalNamed "strconv.ErrSyntax" = some 4 := by kernel_rfl
  have g3 : Tryz.prog.globalNamed "strconv.ErrRange" = some 5 := by kernel_rfl
  refine ⟨Nat.le_trans h9 hb.size, ?_, ?_, ?_⟩
  · show w'.var? _ _ = _
    rw [var_below hb g1 (by omega)]; exact h.pow
  · rw [var_below hb g2 (by omega)]; exact h.esyn
  · rw [var_below hb g3 (by omega)]; exact h.eran
theorem var_only {w w' : World} {q : Nat} (h : Only q w w') {nm : String} {g : Nat} (hg : Tryz.prog.globalNamed nm = some g) (hs : g < w.heap.size) (hne : g ≠ q) : w'.var? Tryz.prog nm = w.var? Tryz.prog nm := by
  unfold World.var?
  rw [hg]
  simp only [Option.bind_some]
  rw [h.block g hs (fun e => hne (by injection e))]
theorem Env.only {w w' : World} {q : Nat} (h : Env w) (hb : Only q w w') (hq : 6 ≤ q) : Env w' := by
  have h9 := h.size
  have g1 : Tryz.prog.globalNamed "internal/strconv.uint64pow10" = some 1 := by kernel_rfl
  have g2 : Tryz.prog.globalNamed "strconv.ErrSyntax" = some 4 := by kernel_rfl
  have g3 : Tryz.prog.globalNamed "strconv.ErrRange" = some 5 := by kernel_rfl
  refine ⟨Nat.le_trans h9 hb.size, ?_, ?_, ?_⟩
  · show w'.var? _ _ = _
    rw [var_only hb g1 (by omega) (by omega)]; exact h.pow
  · rw [var_only hb g2 (by omega) (by omega)]; exact h.esyn
  · rw [var_only hb g3 (by omega) (by omega)]; exact h.eran
theorem Env.low {w w' : World} {B : Nat} (h : Env w) (hb : Below B w w') (hB : 6 ≤ B) : Env w' := by
  have g1 : Tryz.prog.globalNamed "internal/strconv.uint64pow10" = some 1 := by kernel_rfl
  have g2 : Tryz.prog.globalNamed "strconv.ErrSyntax" = some 4 := by kernel_rfl
  have g3 : Tryz.prog.globalNamed "strconv.ErrRange" = some 5 := by kernel_rfl
  have hv : ∀ {nm : String} {g : Nat}, Tryz.prog.globalNamed nm = some g → g < 6 → w'.var? Tryz.prog nm = w.var? Tryz.prog nm := fun hg h6 => by
    unfold World.var?
    rw [hg]
    simp only [Option.bind_some]
    rw [hb.block _ (by omega)]
  refine ⟨Nat.le_trans h.size hb.size, ?_, ?_, ?_⟩
  · show w'.var? _ _ = _
    rw [hv g1 (by omega)]; exact h.pow
  · rw [hv g2 (by omega)]; exact h.esyn
  · rw [hv g3 (by omega)]; exact h.eran
theorem hasPrefix_c (s p : ByteArray) (w : World) : Calls Tryz.prog 109 #[.string s, .string p] w fun e w' => e = .returned (.bool (Lib.hasPrefix s.data.toList p.data.toList)) ∧ w = w' :=
  (Tryz.strings_HasPrefix s p w).mono fun _ _ ⟨h, k⟩ => ⟨h, k.symm⟩
theorem compare_c (s p : ByteArray) (w : World) : Calls Tryz.prog 116 #[.string s, .string p] w fun e w' => e = .returned (.int .i64 (Lib.compareBytes s.data.toList p.data.toList)) ∧ w = w' :=
  (Tryz.strings_Compare s p w).mono fun _ _ ⟨h, k⟩ => ⟨h, k.symm⟩
theorem itoa_c (n : Int) (w : World) (hE : Env w) (h0 : -9223372036854775808 ≤ n) (h1 : n ≤ 9223372036854775807) :
    Calls Tryz.prog 69 #[.int .i64 n] w fun e w' => e = .returned (.string ⟨(Lib.itoa n).toArray⟩) ∧ Below w.heap.size w w' := by
  refine (Tryz.strconv_Itoa n h0 h1 w hE.pow).mono fun _ _ ⟨h, k, os, hw⟩ => ⟨h, ?_⟩
  subst hw
  exact Lib.below_grow _ _ (Nat.le_refl _) _ _

def atoiN (l : List UInt8) : Int := match Lib.atoiAll l with
  | .ok v => v
  | .range => Lib.atoiSat l
  | _ => 0
def atoiB (l : List UInt8) : Bool := match Lib.atoiAll l with
  | .ok _ => true
  | _ => false
def AtoiSome (l : List UInt8) (w : World) (e : Ending) (w' : World) : Prop := ∃ t a, e = .returned (.tuple #[.int .i64 (atoiN l), .iface t (.pointer (some a))]) ∧ Below w.heap.size w w'

theorem atoi_yes (s : ByteArray) (w : World) (hs : s.size ≤ 281474976710656) (h : atoiB s.data.toList = true) :
    Calls Tryz.prog 152 #[.string s] w fun e w' => e = .returned (.tuple #[.int .i64 (atoiN s.data.toList), .nilIface]) ∧ Below w.heap.size w w' := by
  have hx : ∃ v, Lib.atoiAll s.data.toList = .ok v := by
    unfold atoiB at h
    rcases e : Lib.atoiAll s.data.toList with v | _ | _
    · exact ⟨v, rfl⟩
    · rw [e] at h; cases h
    · rw [e] at h; cases h
  obtain ⟨v, hv⟩ := hx
  have hn : atoiN s.data.toList = v := by simp [atoiN, hv]
  rw [hn]
  refine (Tryz.strconv_Atoi_ok s (by omega) v hv w).mono fun _ _ ⟨h, hw⟩ => ⟨h, ?_⟩
  rcases hw with rfl | ⟨t, rfl⟩
  · exact Below.refl _ _
  · exact Lib.bytesWorld_below _ _ _
theorem atoi_no (s : ByteArray) (w : World) (hE : Env w) (hs : s.size ≤ 281474976710656) (h : atoiB s.data.toList = false) :
    Calls Tryz.prog 152 #[.string s] w (AtoiSome s.data.toList w) := by
  obtain ⟨tp, p, hv⟩ := hE.esyn
  obtain ⟨tp', p', hv'⟩ := hE.eran
  rcases e : Lib.atoiAll s.data.toList with v | _ | _
  · simp [atoiB, e] at h
  · have hn : atoiN s.data.toList = 0 := by simp [atoiN, e]
    refine (Tryz.strconv_Atoi_syntax_var s hs e tp p w hv).mono fun _ _ ⟨N, h, _, _, hb⟩ => ?_
    exact ⟨_, _, by rw [hn]; exact h, hb⟩
  · have hn : atoiN s.data.toList = Lib.atoiSat s.data.toList := by simp [atoiN, e]
    refine (Tryz.strconv_Atoi_range_var s hs e tp' p' w hv').mono fun _ _ ⟨N, h, _, _, hb⟩ => ?_
    exact ⟨_, _, by rw [hn]; exact h, hb⟩

end Go.Proofs.YtmlnibjnacfanaaGreatDoor
