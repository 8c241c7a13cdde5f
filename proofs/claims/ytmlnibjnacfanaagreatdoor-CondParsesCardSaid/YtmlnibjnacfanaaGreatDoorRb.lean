/- What the rows' lists of package-level variables give (Env), and a world for the witness. -/
import Derived.Test.YtmlnibjnacfanaaGreatDoorCl
import Derived.Test.YtmlnibjnacfanaaGreatDoorPost
import Derived.Test.YtmlnibjnacfanaaGreatDoorCards
import Derived.Test.YtmlnibjnacfanaaGreatDoorTie
import Derived.Deep.DeepWitnessRowRef
import Derived.LaidMore
import Derived.Shelf.Vars
namespace Go.Proofs.YtmlnibjnacfanaaGreatDoor
open Go.ChangeShapes Go.WideShapes Go.ChangeAt Go.RowKit

theorem laidOutB_prog : laidOutB Tryz.prog = true := by kernel_rfl
theorem own : ownKnob Tryz.prog.godebug = none := by kernel_rfl
theorem laid_get {P : Program} {w : World} : ∀ {laid : List (String × DataW Unit)} {ps : List MemPlace} {n : String} {d : DataW Unit}, DataW.LaidVars P w laid ps → (n, d) ∈ laid →
    ∃ g t cs fuel p, P.globalNamed n = some g ∧ (P.globals[g]?).map (·.type) = some t ∧ w.var? P n = some cs ∧ DataW.trod (fun _ => ()) P w 0 (fun _ => true) false fuel t cs.toList = some (d, p)
  | [], _, _, _, _, h => by simp at h
  | (n', d') :: r, ps, n, d, h, hm => by
    obtain ⟨g, t, cs, fuel, p, q, h1, h2, h3, h4, h5, _⟩ := h
    rcases List.mem_cons.1 hm with e | hm
    · injection e with e1 e2
      subst e1 e2
      exact ⟨g, t, cs, fuel, p, h1, h2, h3, h4⟩
    · exact laid_get h5 hm
theorem cells_of_iface {P : Program} {w : World} {fuel : Nat} {t : TypeId} {ms : Array (String × TypeId)} {cs : List Value} {nm : String} {d : DataW Unit} {p : List MemPlace}
    (ht : P.underlying t = some (.interface ms)) (h : DataW.trod (fun _ => ()) P w 0 (fun _ => true) false fuel t cs = some (.iface nm d, p)) : ∃ u v, cs = [.iface u v] := by
  cases fuel with
  | zero => simp [DataW.trod] at h
  | succ fuel =>
    unfold DataW.trod at h
    rw [ht] at h
    split at h <;> first | (cases h; done) | exact ⟨_, _, rfl⟩ | (simp at h; done) | skip
    all_goals simp_all

/-- The list of all five rows. -/
def laidAll : List (String × DataW Unit) := [("math/bits.deBruijn32tab", Rows.laid_math_bits_deBruijn32tab), ("math/bits.deBruijn64tab", Rows.laid_math_bits_deBruijn64tab), ("internal/strconv.uint64pow10", Rows.laid_internal_strconv_uint64pow10), ("strconv.ErrRange", Rows.laid_strconv_ErrRange), ("strconv.ErrSyntax", Rows.laid_strconv_ErrSyntax)]
theorem laid_plain : (laidAll.filter fun x => x.2.handleName?.isSome) = [] := by kernel_rfl
theorem laid_of {W : World} (h : laidMetH Tryz.prog laidAll W) : laidMet Tryz.prog laidAll W := by
  unfold laidMetH at h
  rw [laid_plain] at h
  exact h
theorem pow_eq : (Rows.laid_internal_strconv_uint64pow10 : DataW Unit) = Lib.tabData .u64 Lib.pow10Tab := by kernel_rfl
theorem g4 : Tryz.prog.globalNamed "internal/strconv.uint64pow10" = some 1 := by kernel_rfl
theorem g4t : (Tryz.prog.globals[(1 : Nat)]?).map (·.type) = some 172 := by kernel_rfl
theorem g5 : Tryz.prog.globalNamed "strconv.ErrSyntax" = some 4 := by kernel_rfl
theorem g5t : (Tryz.prog.globals[(4 : Nat)]?).map (·.type) = some 74 := by kernel_rfl
theorem g6 : Tryz.prog.globalNamed "strconv.ErrRange" = some 5 := by kernel_rfl
theorem g6t : (Tryz.prog.globals[(5 : Nat)]?).map (·.type) = some 74 := by kernel_rfl
theorem cU : Tryz.prog.cellsOf 159 = 1 := by kernel_rfl
theorem cP : Tryz.prog.cellsOf 172 = 20 := by kernel_rfl
theorem env_of {W : World} (h : laidMetH Tryz.prog laidAll W) (_hs : W.ShapedOpen Tryz.prog) : Env W := by
  obtain ⟨ps, hl, _⟩ := laid_of h
  have hv : ∀ (g : Nat) nm cs, Tryz.prog.globalNamed nm = some g → W.var? Tryz.prog nm = some cs → ∃ t fr, W.heap[g]? = some (.cells cs t fr) := by
    intro g nm cs hg hv
    unfold World.var? at hv
    rw [hg] at hv
    simp only [Option.bind_some] at hv
    split at hv
    · rename_i c t fr hh
      injection hv with hv
      subst hv
      exact ⟨_, _, hh⟩
    · cases hv
  obtain ⟨gp, tp, cp, fp, pp, p1, p2, p3, p4⟩ := laid_get (n := "internal/strconv.uint64pow10") (d := Rows.laid_internal_strconv_uint64pow10) hl (by simp [laidAll])
  obtain rfl := Option.some.inj (g4.symm.trans p1)
  obtain rfl := Option.some.inj (g4t.symm.trans p2)
  rw [pow_eq] at p4
  have hpow : Lib.TabIs Tryz.prog W "internal/strconv.uint64pow10" .u64 Lib.pow10Tab := by
    unfold Lib.TabIs
    rw [p3, ← Lib.cells_of_tab Tryz.underlying172 Tryz.underlying159 cU cP p4]
  obtain ⟨gs, ts, csy, fs, pss, s1, s2, s3, s4⟩ := laid_get (n := "strconv.ErrSyntax") (d := Rows.laid_strconv_ErrSyntax) hl (by simp [laidAll])
  obtain rfl := Option.some.inj (g5.symm.trans s1)
  obtain rfl := Option.some.inj (g5t.symm.trans s2)
  obtain ⟨u1, v1, e1⟩ := cells_of_iface Tryz.underlying74 s4
  obtain ⟨gn, tn, cn, fn, pn, n1, n2, n3, n4⟩ := laid_get (n := "strconv.ErrRange") (d := Rows.laid_strconv_ErrRange) hl (by simp [laidAll])
  obtain rfl := Option.some.inj (g6.symm.trans n1)
  obtain rfl := Option.some.inj (g6t.symm.trans n2)
  obtain ⟨u2, v2, e2⟩ := cells_of_iface Tryz.underlying74 n4
  have arr : ∀ (c : Array Value) (x : Value), c.toList = [x] → c = #[x] := fun c x h => by
    cases c with
    | mk l => simp at h; rw [h]
  refine ⟨?_, hpow, ⟨u1, v1, by rw [s3, arr _ _ e1]⟩, ⟨u2, v2, by rw [n3, arr _ _ e2]⟩⟩
  obtain ⟨t, fr, hh⟩ := hv _ _ _ g6 n3
  rcases Nat.lt_or_ge 5 W.heap.size with h | h
  · exact h
  · rw [Array.getElem?_eq_none h] at hh; cases hh

/-- A world for the witness: what the initialisers leave, and the pinned table. -/
noncomputable def laidWorld (os : Os) : World := World.doorLaid Tryz.prog 400 os
theorem laid_met (os : Os) (args : Array Value) : laidMetH Tryz.prog laidAll ((laidWorld os).forCall (fun _ _ => 0) ⟨#[], args, []⟩).memory := by
  unfold laidMetH
  rw [laid_plain]
  exact laidMet_of_run' 8 (by kernel_rfl) (by kernel_rfl)
end Go.Proofs.YtmlnibjnacfanaaGreatDoor
