/- What the rows' lists of package-level variables give (Env), and a world for the witness. -/
import Derived.Test.YtlpcahkchmlghaaDoorIc
import Derived.Test.YtlpcahkchmlghaaDoorPost
import Derived.Test.YtlpcahkchmlghaaDoorCards
import Derived.Test.YtlpcahkchmlghaaDoorTie
import Derived.Deep.DeepWitnessRowRef
import Derived.LaidMore
import Derived.Shelf.Vars
namespace Go.Proofs.YtlpcahkchmlghaaDoor
open Go.ChangeShapes Go.WideShapes Go.ChangeAt Go.RowKit

theorem laidOutB_prog : laidOutB Tryd.prog = true := by kernel_rfl
theorem own : ownKnob Tryd.prog.godebug = none := by kernel_rfl
theorem laid_get {P : Program} {w : World} : ∀ {laid : List (String × DataW Unit)} {ps : List MemPlace} {n : String} {d : DataW Unit}, DataW.LaidVars P w laid ps → (n, d) ∈ laid →
    ∃ g t cs fuel p, P.globalNamed n = some g ∧ (P.globals[g]?).map (·.type) = some t ∧ w.var? P n = some cs ∧ DataW.trod (fun _ => ()) P w 0 (fun _ => true) false fuel t cs.toList = some (d, p)
  | [], _, _, _, _, h => by simp at h
  | (n', d') :: r, ps, n, d, h, hm => by
    obtain ⟨g, t, cs, fuel, p, q, h1, h2, h3, h4, h5, _⟩ := h
    rcases List.mem_cons.1 hm with e | hm
    · injection e with e1 e2
      subst e1 e2
      exact ⟨g, t, cs, fuel, p, h1, h2, h3, h4⟩
    · exact laid_get h5 hm
theorem cells_of_strs {P : Program} {w : World} {fuel : Nat} {t e : TypeId} {n : Nat} {cs : List Value} {zs : List (List UInt8)} {p : List MemPlace}
    (ht : P.underlying t = some (.array n e)) (he : P.underlying e = some .string) (hce : P.cellsOf e = 1) (hct : P.cellsOf t = n)
    (h : DataW.trod (fun _ => ()) P w 0 (fun _ => true) false fuel t cs = some (.agg (zs.map fun z => .lit (.string z)), p)) : cs = zs.map fun z => .string ⟨z.toArray⟩ := by
  cases fuel with
  | zero => simp [DataW.trod] at h
  | succ fuel =>
    simp only [DataW.trod, ht, hce, hct, Nat.mul_one] at h
    split at h
    · rename_i hl
      obtain ⟨xs, hm, hx⟩ := Option.map_eq_some_iff.1 h
      have hxs : xs.map (·.1) = zs.map fun z => (DataW.lit (.string z) : DataW Unit) := by
        have := congrArg Prod.fst hx
        simpa using this
      have hxl : xs.length = n := by simpa using Lib.mapM_length hm
      have hzl : zs.length = n := by
        have := congrArg List.length hxs
        simp at this
        omega
      apply List.ext_getElem?
      intro i
      by_cases hi : i < n
      · obtain ⟨b, hb, hf⟩ := Lib.mapM_at hm i i (by simp [hi])
        have hd : List.take 1 (List.drop i cs) = [cs[i]'(by omega)] := by
          rw [List.drop_eq_getElem_cons (by omega), List.take_succ_cons, List.take_zero]
        rw [hd] at hf
        cases fuel with
        | zero => simp [DataW.trod] at hf
        | succ fuel =>
          cases hc : cs[i]'(by omega) with
          | string s =>
            rw [hc] at hf
            simp only [DataW.trod, he] at hf
            split at hf
            · injection hf with hf
              have h2 : (xs.map (·.1))[i]? = some (DataW.lit (.string s.data.toList) : DataW Unit) := by simp [hb, ← hf]
              rw [hxs] at h2
              simp only [List.getElem?_map, Option.map_eq_some_iff, DataW.lit.injEq, Lit.string.injEq] at h2
              obtain ⟨z, hz1, hz2⟩ := h2
              rw [List.getElem?_eq_getElem (by omega), hc]
              simp only [List.getElem?_map, hz1, Option.map_some, hz2, str_eta]
            · cases hf
          | _ => rw [hc] at hf; simp [DataW.trod, he] at hf
      · rw [List.getElem?_eq_none (by omega), List.getElem?_eq_none (by simp; omega)]
    · cases h
theorem cells_of_iface {P : Program} {w : World} {fuel : Nat} {t : TypeId} {ms : Array (String × TypeId)} {cs : List Value} {nm : String} {d : DataW Unit} {p : List MemPlace}
    (ht : P.underlying t = some (.interface ms)) (h : DataW.trod (fun _ => ()) P w 0 (fun _ => true) false fuel t cs = some (.iface nm d, p)) : ∃ u v, cs = [.iface u v] := by
  cases fuel with
  | zero => simp [DataW.trod] at h
  | succ fuel =>
    unfold DataW.trod at h
    rw [ht] at h
    split at h <;> first | (cases h; done) | exact ⟨_, _, rfl⟩ | (simp at h; done) | skip
    all_goals simp_all

/-- The list of all seven rows. -/
def laidAll : List (String × DataW Unit) := [("math/bits.deBruijn32tab", Rows.laid_math_bits_deBruijn32tab), ("math/bits.deBruijn64tab", Rows.laid_math_bits_deBruijn64tab), ("internal/strconv.uint64pow10", Rows.laid_internal_strconv_uint64pow10), ("unicode/utf8.acceptRanges", Rows.laid_unicode_utf8_acceptRanges), ("strconv.ErrRange", Rows.laid_strconv_ErrRange), ("strconv.ErrSyntax", Rows.laid_strconv_ErrSyntax), ("alembic/intel.regs", Rows.laid_alembic_intel_regs), ("unicode/utf8.first", Rows.laid_unicode_utf8_first)]
theorem laid_plain : (laidAll.filter fun x => x.2.handleName?.isSome) = [] := by kernel_rfl
theorem laid_of {W : World} (h : laidMetH Tryd.prog laidAll W) : laidMet Tryd.prog laidAll W := by
  unfold laidMetH at h
  rw [laid_plain] at h
  exact h
theorem pow_eq : (Rows.laid_internal_strconv_uint64pow10 : DataW Unit) = Lib.tabData .u64 Lib.pow10Tab := by kernel_rfl
theorem regs_eq : (Rows.laid_alembic_intel_regs : DataW Unit) = .agg (regL.map fun z => .lit (.string z)) := by kernel_rfl
theorem regArr_eq : (regL.map fun z => Value.string ⟨z.toArray⟩) = regArr.toList := rfl
theorem g0 : Tryd.prog.globalNamed "alembic/intel.regs" = some 0 := by kernel_rfl
theorem g0t : (Tryd.prog.globals[(0 : Nat)]?).map (·.type) = some 71 := by kernel_rfl
theorem g4 : Tryd.prog.globalNamed "internal/strconv.uint64pow10" = some 4 := by kernel_rfl
theorem g4t : (Tryd.prog.globals[(4 : Nat)]?).map (·.type) = some 133 := by kernel_rfl
theorem g5 : Tryd.prog.globalNamed "strconv.ErrSyntax" = some 5 := by kernel_rfl
theorem g5t : (Tryd.prog.globals[(5 : Nat)]?).map (·.type) = some 107 := by kernel_rfl
theorem g6 : Tryd.prog.globalNamed "strconv.ErrRange" = some 6 := by kernel_rfl
theorem g6t : (Tryd.prog.globals[(6 : Nat)]?).map (·.type) = some 107 := by kernel_rfl
theorem cS : Tryd.prog.cellsOf 9 = 1 := by kernel_rfl
theorem cA : Tryd.prog.cellsOf 71 = 15 := by kernel_rfl
theorem cU : Tryd.prog.cellsOf 113 = 1 := by kernel_rfl
theorem cP : Tryd.prog.cellsOf 133 = 20 := by kernel_rfl
theorem env_of {W : World} (h : laidMetH Tryd.prog laidAll W) (hs : W.ShapedOpen Tryd.prog) : Env W := by
  obtain ⟨ps, hl, _⟩ := laid_of h
  have hv : ∀ (g : Nat) nm cs, Tryd.prog.globalNamed nm = some g → W.var? Tryd.prog nm = some cs → ∃ t fr, W.heap[g]? = some (.cells cs t fr) := by
    intro g nm cs hg hv
    unfold World.var? at hv
    rw [hg] at hv
    simp only [Option.bind_some] at hv
    split at hv
    · rename_i c t fr hh
      injection hv with hv
      subst hv
      exact ⟨_, _, hh⟩
    · cases hv
  obtain ⟨gp, tp, cp, fp, pp, p1, p2, p3, p4⟩ := laid_get (n := "internal/strconv.uint64pow10") (d := Rows.laid_internal_strconv_uint64pow10) hl (by simp [laidAll])
  obtain rfl := Option.some.inj (g4.symm.trans p1)
  obtain rfl := Option.some.inj (g4t.symm.trans p2)
  rw [pow_eq] at p4
  have hpow : Lib.TabIs Tryd.prog W "internal/strconv.uint64pow10" .u64 Lib.pow10Tab := by
    unfold Lib.TabIs
    rw [p3, ← Lib.cells_of_tab Tryd.underlying133 Tryd.underlying113 cU cP p4]
  obtain ⟨gr, tr, cr, fr, pr, r1, r2, r3, r4⟩ := laid_get (n := "alembic/intel.regs") (d := Rows.laid_alembic_intel_regs) hl (by simp [laidAll])
  obtain rfl := Option.some.inj (g0.symm.trans r1)
  obtain rfl := Option.some.inj (g0t.symm.trans r2)
  rw [regs_eq] at r4
  have hcr := cells_of_strs Tryd.underlying71 Tryd.underlying9 cS cA r4
  rw [regArr_eq] at hcr
  have hcr' : cr = regArr := by
    cases cr with
    | mk l => simp at hcr; rw [hcr]
  obtain ⟨gs, ts, csy, fs, pss, s1, s2, s3, s4⟩ := laid_get (n := "strconv.ErrSyntax") (d := Rows.laid_strconv_ErrSyntax) hl (by simp [laidAll])
  obtain rfl := Option.some.inj (g5.symm.trans s1)
  obtain rfl := Option.some.inj (g5t.symm.trans s2)
  obtain ⟨u1, v1, e1⟩ := cells_of_iface Tryd.underlying107 s4
  obtain ⟨gn, tn, cn, fn, pn, n1, n2, n3, n4⟩ := laid_get (n := "strconv.ErrRange") (d := Rows.laid_strconv_ErrRange) hl (by simp [laidAll])
  obtain rfl := Option.some.inj (g6.symm.trans n1)
  obtain rfl := Option.some.inj (g6t.symm.trans n2)
  obtain ⟨u2, v2, e2⟩ := cells_of_iface Tryd.underlying107 n4
  have arr : ∀ (c : Array Value) (x : Value), c.toList = [x] → c = #[x] := fun c x h => by
    cases c with
    | mk l => simp at h; rw [h]
  refine ⟨?_, hpow, ?_, ?_, ⟨u1, v1, by rw [s3, arr _ _ e1]⟩, ⟨u2, v2, by rw [n3, arr _ _ e2]⟩⟩
  · obtain ⟨gd, td, cd, fd, pd, d1, d2, d3, d4⟩ := laid_get (n := "math/bits.deBruijn64tab") (d := Rows.laid_math_bits_deBruijn64tab) hl (by simp [laidAll])
    have e8 : Tryd.prog.globalNamed "math/bits.deBruijn64tab" = some 8 := by kernel_rfl
    obtain rfl := Option.some.inj (e8.symm.trans d1)
    obtain ⟨t, fr, hh⟩ := hv _ _ _ e8 d3
    rcases Nat.lt_or_ge 8 W.heap.size with h | h
    · exact h
    · rw [Array.getElem?_eq_none h] at hh; cases hh
  · obtain ⟨t, fr, hh⟩ := hv _ _ _ g0 r3
    exact ⟨t, fr, by rw [hh, hcr']⟩
  · exact cell_of_shapedOpen_int (k := .i64) (zero := #[.int .i64 0]) (t := 3) hs (of_decide_eq_true (by kernel_rfl)) (by kernel_rfl) (by kernel_rfl) (by kernel_rfl) (by kernel_rfl) Tryd.underlying3

/-- A world for the witness: what the initialisers leave, and the pinned table. -/
noncomputable def laidWorld (os : Os) : World :=
  { World.doorLaid Tryd.prog 400 os with heap := (World.doorLaid Tryd.prog 400 os).heap.modify 2 fun
      | .cells _ t frozen => .cells (Go.Pinned.utf8FirstZ.map fun (n : Nat) => Value.int .u8 (n : Int)).toArray t frozen
      | o => o }
theorem laid_met (os : Os) (args : Array Value) : laidMetH Tryd.prog laidAll ((laidWorld os).forCall (fun _ _ => 0) ⟨#[], args, []⟩).memory := by
  unfold laidMetH
  rw [laid_plain]
  exact laidMet_of_run' 8 (by kernel_rfl) (by kernel_rfl)
end Go.Proofs.YtlpcahkchmlghaaDoor
