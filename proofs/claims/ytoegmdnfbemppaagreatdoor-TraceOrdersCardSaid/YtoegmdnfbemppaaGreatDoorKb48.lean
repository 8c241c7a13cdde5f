/- Layer 15: a runner at a thread's beginning: small things. Layer 15: the program's Fenced of a trace that may be, without dependencies. Layer 15: the small test of the law. Layer 15: the small test of the law, in memory. -/
import Derived.Test.YtoegmdnfbemppaaGreatDoorKb11
import Derived.Test.YtoegmdnfbemppaaGreatDoorKb12
import Derived.Test.YtoegmdnfbemppaaGreatDoorKb14
import Derived.Test.YtoegmdnfbemppaaGreatDoorKb15
import Derived.Test.YtoegmdnfbemppaaGreatDoorKb32
import Derived.Test.YtoegmdnfbemppaaGreatDoorKb35
import Derived.Test.YtoegmdnfbemppaaGreatDoorKb37
import Derived.Test.YtoegmdnfbemppaaGreatDoorKb41
import Derived.Test.YtoegmdnfbemppaaGreatDoorKb47

namespace Go.Proofs.YtoegmdnfbemppaaGreatDoor
open Go.RowKit

/-- Registers of which some hold the number 0 and the others nothing yet. -/
abbrev encZ : Enc Bool := ⟨5, fun b => [if b then .iface 159 (.int .i64 0) else .nilIface, .int .u64 0, .int .u64 0, .int .u64 0, .int .u64 0], fun _ => rfl, by omega, fun x u h => by simp at h; rcases h with rfl | rfl; cases x <;> rfl; rfl⟩
def zl (i n : Nat) : List Bool := List.replicate i true ++ List.replicate (n - i) false
theorem zl_len {i n : Nat} (h : i ≤ n) : (zl i n).length = n := by simp [zl]; omega
theorem zl_set {i n : Nat} (h : i < n) : (zl i n).set i true = zl (i + 1) n := by
  unfold zl
  rw [List.set_append_right _ _ (by simp)]
  simp only [List.length_replicate, Nat.sub_self]
  rw [show n - i = (n - (i + 1)) + 1 by omega, List.replicate_succ, List.set_cons_zero, List.replicate_succ', List.append_assoc]
  rfl
theorem zl_at {i n : Nat} (h : i < n) : (zl i n)[i]? = some false := by
  unfold zl
  rw [List.getElem?_append_right (by simp)]
  simp only [List.length_replicate, Nat.sub_self]
  rw [show n - i = (n - i - 1) + 1 by omega, List.replicate_succ]; rfl
theorem flatZ_set (l : List Bool) (i : Nat) (h : i < l.length) : (encZ.flat l).toArray.setIfInBounds (i * 5) (.iface 159 (.int .i64 0)) = (encZ.flat (l.set i true)).toArray := by
  apply Array.ext'
  apply List.ext_getElem?
  intro m
  have hl : (encZ.flat l).length = l.length * 5 := encZ.flat_len l
  rw [show ((encZ.flat (l.set i true)).toArray.toList) = encZ.flat (l.set i true) from rfl, flat_set encZ l i true m h]
  simp only [Array.toList_setIfInBounds, List.getElem?_set]
  show _ = if i * 5 ≤ m ∧ m < i * 5 + 5 then _ else _
  by_cases hm : i * 5 ≤ m ∧ m < i * 5 + 5
  · rw [if_pos hm]
    by_cases h0 : m = i * 5
    · subst h0; simp [hl]; omega
    · rw [if_neg (by omega)]
      have hx := encZ.flat_at (List.getElem?_eq_getElem h) (show m - i * 5 < 5 by omega)
      rw [show i * encZ.size + (m - i * 5) = m by show i * 5 + (m - i * 5) = m; omega] at hx
      rw [hx]
      have hc : m - i * 5 = 1 ∨ m - i * 5 = 2 ∨ m - i * 5 = 3 ∨ m - i * 5 = 4 := by omega
      show _ = (encZ.enc true)[m - i * 5]?
      rcases hc with hc | hc | hc | hc <;> rw [hc] <;> rfl
  · rw [if_neg hm, if_neg (by omega)]
theorem flatZ_done (n : Nat) : encZ.flat (zl n n) = encR.flat (List.replicate n ⟨.num 0, 0⟩) := by
  unfold zl
  rw [Nat.sub_self, List.replicate_zero, List.append_nil]
  unfold Enc.flat
  rw [List.map_replicate, List.map_replicate]
  rfl
theorem madeZ (n : Nat) : madeCells #[.nilIface, .int .u64 0, .int .u64 0, .int .u64 0, .int .u64 0] (n * 5) = (encZ.flat (zl 0 n)).toArray := by
  apply Array.ext'
  apply List.ext_getElem?
  intro m
  have hl : (encZ.flat (zl 0 n)).length = n * 5 := by rw [encZ.flat_len, zl_len (Nat.zero_le n)]
  by_cases hm : m < n * 5
  · have h1 : m / 5 < n := by omega
    have h2 : (zl 0 n)[m / 5]? = some false := by simp [zl, h1]
    have h3 := encZ.flat_at h2 (show m % 5 < 5 by omega)
    rw [show m / 5 * encZ.size + m % 5 = m by show m / 5 * 5 + m % 5 = m; omega] at h3
    rw [h3]
    unfold madeCells
    have hc : m % 5 = 0 ∨ m % 5 = 1 ∨ m % 5 = 2 ∨ m % 5 = 3 ∨ m % 5 = 4 := by omega
    rcases hc with hc | hc | hc | hc | hc <;> simp [hc, hm]
  · rw [List.getElem?_eq_none (by simp [madeCells]; omega), List.getElem?_eq_none (by simp [hl]; omega)]
theorem infoRg : (Tryz.prog.info? 163).map (fun i => (i.zero, i.size, i.bytes)) = some (some (.agg #[.nilIface, .int .u64 0, .int .u64 0, .int .u64 0, .int .u64 0]), 5, 48) := by kernel_rfl
theorem mk_regs (n : Nat) (hn : n ≤ 1000) (w : World) : (Instr.makeSlice 109 (.int .i64 (n : Int)) (.int .i64 (n : Int))).run Tryz.prog w = .ok (.slice (some ⟨w.heap.size, 0, none⟩) n n) (w.alloc (.cells (encZ.flat (zl 0 n)).toArray 163 (0, 0))) := by
  obtain ⟨i0, hi, hz0, hz1, hz2⟩ := info_partsM infoRg
  have h := run_make (P := Tryz.prog) w 109 163 i0 _ Tryz.underlying109 hi hz0 .i64 .i64 (n : Int) (n : Int) (by omega) (Int.le_refl _) (by rw [hz2]; omega) (by omega)
  rw [h, hz1]
  simp only [Int.toNat_natCast]
  rw [show (Value.agg #[.nilIface, .int .u64 0, .int .u64 0, .int .u64 0, .int .u64 0]).cells = #[.nilIface, .int .u64 0, .int .u64 0, .int .u64 0, .int .u64 0] from rfl, ← madeZ]
/-- What one holds is set. -/
theorem flatR_has (l : List Rg) (i : Nat) (x : Rg) (h : l[i]? = some x) (v : Hold) : (encR.flat l).toArray.setIfInBounds (i * 5) (holdV v) = (encR.flat (l.set i ⟨v, x.on⟩)).toArray := by
  have hi := (List.getElem?_eq_some_iff.1 h).1
  apply Array.ext'
  apply List.ext_getElem?
  intro m
  have hl : (encR.flat l).length = l.length * 5 := encR.flat_len l
  rw [show ((encR.flat (l.set i ⟨v, x.on⟩)).toArray.toList) = encR.flat (l.set i ⟨v, x.on⟩) from rfl, flat_set encR l i _ m hi]
  simp only [Array.toList_setIfInBounds, List.getElem?_set]
  show _ = if i * 5 ≤ m ∧ m < i * 5 + 5 then _ else _
  by_cases hm : i * 5 ≤ m ∧ m < i * 5 + 5
  · rw [if_pos hm]
    by_cases h0 : m = i * 5
    · subst h0; simp [hl]; omega
    · rw [if_neg (by omega)]
      have hx := encR.flat_at h (show m - i * 5 < 5 by omega)
      rw [show i * encR.size + (m - i * 5) = m by show i * 5 + (m - i * 5) = m; omega] at hx
      rw [hx]
      have hc : m - i * 5 = 1 ∨ m - i * 5 = 2 ∨ m - i * 5 = 3 ∨ m - i * 5 = 4 := by omega
      show _ = (encR.enc ⟨v, x.on⟩)[m - i * 5]?
      rcases hc with hc | hc | hc | hc <;> rw [hc] <;> rfl
  · rw [if_neg hm, if_neg (by omega)]
theorem RunAt.has {w : World} {B g : Nat} {S : RunS} {r : Rn} {V : RunV} (h : RunAt w B g S r V) {i q : Nat} {x : Rg} (hi : r.regs[i]? = some x) (hq : V.rg = .slice (some ⟨q, 0, none⟩) r.regs.length r.regs.length) (v : Hold) :
    RunAt (w.setCell ⟨q, i * 5, none⟩ (holdV v)) B g S { r with regs := r.regs.set i ⟨v, x.on⟩ } V := by
  obtain ⟨q', e, hb, hB⟩ := h.regs
  rw [hq] at e
  simp only [Value.slice.injEq, Option.some.injEq, Addr.mk.injEq, and_true] at e
  subst e
  have hgq : g ≠ q := (blk_ne hb h.blk (by decide)).symm
  have k1 := hb.set_ (i * 5) (holdV v)
  rw [flatR_has r.regs i x hi v] at k1
  have ho : ∀ {t : TypeId} {z n : Nat} {u : Value} {cs : List Value}, w.ownsRow B t z u n cs → t ≠ 163 → (w.setCell ⟨q, i * 5, none⟩ (holdV v)).ownsRow B t z u n cs := fun h1 hne => own_setO h1 hb hne _ _
  exact ⟨h.blk.far hgq _, h.hg, ⟨q, by rw [hq, List.length_set], k1, hB⟩, ho h.evs (by decide), ho h.bars (by decide), ho h.addr (by decide), ho h.data (by decide), ho h.hang (by decide), h.a1, h.a2, h.a3⟩
end Go.Proofs.YtoegmdnfbemppaaGreatDoor
namespace Go.Proofs.YtoegmdnfbemppaaGreatDoor
open Go.RowKit

section
set_option maxHeartbeats 4000000
set_option maxRecDepth 100000
theorem fencedP (L : OutL) (V : TrcV) (w : World) (h : TrcAt w L V) (G : TrGood L) (hp0 : L.a.addr = []) (hp1 : L.a.data = []) (hp2 : L.a.hang = []) (hth : L.th.length ≤ 1) : Calls Tryz.prog 24 #[trcV V] w (FenPost L w) := by
  have HB1 := Lib.hid (below_2 w (.cells (trcC V) 41 (0, 0)) (.cells #[.int .i64 0, .slice none 0 0] 58 (0, 0)))
  have HK1 := Lib.hid (Blk.alloc (Blk.new w 41 (trcC V)) (.cells #[.int .i64 0, .slice none 0 0] 58 (0, 0)))
  have HR1 : Hid (Blk _ (w.heap.size + 1) 58 #[.int .i64 0, .slice none 0 0]) := Lib.hid (blk_new2 w (.cells (trcC V) 41 (0, 0)) 58 #[.int .i64 0, .slice none 0 0])
  have HBT := Lib.hid (betweenF L V w.heap.size _ (h.below HB1.out) G hp0 hp1 hp2 hth (HK1.out.cell 3))
  obtain ⟨n, hn⟩ : ∃ n, L.a.evs.length = n := ⟨_, rfl⟩
  unfold FenPost at HBT ⊢
  rw [hn] at HBT ⊢
  clear hn h G
  obtain ⟨⟨Al, nl, cl⟩, ⟨Ai, ni, ci⟩, ⟨Ae, ne, ce⟩, ⟨Ab, nb, cb⟩, ⟨Aa, na, ca⟩, ⟨Ad, nd, cd⟩, ⟨Ac, nc, cc⟩, ⟨At, nt, ct⟩, ⟨Ax, nx, cx⟩⟩ := V
  simp only [trcV, trcC, Sl.v] at HBT HB1 HK1 HR1 ⊢
  have hz : ((w.alloc (.cells #[.slice Al nl cl, .slice Ai ni ci, .slice Ae ne ce, .slice Ab nb cb, .slice Aa na ca, .slice Ad nd cd, .slice Ac nc cc, .slice At nt ct, .slice Ax nx cx] 41 (0, 0))).alloc (.cells #[.int .i64 0, .slice none 0 0] 58 (0, 0))).heap.size = w.heap.size + 1 + 1 := by simp
  go_enter Tryz.func24, Tryz.ntmps24
  go_wp2_with (go_at_call 55; refine HBT.out.mono ?_; rintro e w9 ⟨q9, rfl, hq9, hb9⟩; have HQ9 := Lib.hid hq9; have HB9 := Lib.hid hb9; have HR9 := Lib.hid (HR1.out.go hb9); clear hq9 hb9; have r0 := HR9.out.cell 0; have r1 := HR9.out.cell 1; have fr := HR9.out.frozen)
  refine bodyPost_ret (v := .tuple #[.agg #[.int .i64 (n : Int), .slice (some ⟨q9, 0, none⟩) n n], .int .i64 0]) (by simp [results, Tryz.results24, go_sem, *]) rfl ?_
  have hne := blk_ne HQ9.out HR9.out (by decide)
  refine ⟨q9, rfl, ?_, ?_⟩
  · exact (HQ9.out.far (p := ⟨w.heap.size + 1, 0, none⟩) hne _).far (p := ⟨w.heap.size + 1, 1, none⟩) hne _
  · exact ((below_trans HB1.out HB9.out).setCell (p := ⟨w.heap.size + 1, 0, none⟩) (show w.heap.size ≤ w.heap.size + 1 by omega) _).setCell (p := ⟨w.heap.size + 1, 1, none⟩) (show w.heap.size ≤ w.heap.size + 1 by omega) _
end
end Go.Proofs.YtoegmdnfbemppaaGreatDoor
namespace Go.Proofs.YtoegmdnfbemppaaGreatDoor
open Go.RowKit

def smallT : Tst := ⟨1, [116], [], [], [[⟨1, 0, 0, 0, 3, [120], [], 0⟩, ⟨5, 0, 0, 0, 0, [], [], 0⟩, ⟨3, 1, 0, 0, 0, [121], [], 0⟩]], 1, 2, 0, 1, [], 0, .nil⟩
def smallA : Tr := ⟨[⟨0, 0, 2, 0, 3, 0⟩, ⟨0, 2, 1, 1, 0, 1⟩], [⟨0, 1, 1⟩], [], [], [], [(2, 1)]⟩
set_option maxRecDepth 100000 in
theorem small_check : checkC 2 1 2 0 1 [] 0 .nil = 0 ∧ checkC 1 1 2 0 1 [] 0 .nil = 0 := by decide
set_option maxRecDepth 100000 in
theorem small_ths : thsT smallT = [(0, 1, [])] := by
  unfold thsT topT
  rw [if_pos (show checkC 2 smallT.q smallT.k smallT.t smallT.r smallT.l smallT.v smallT.kids = 0 from small_check.1), ← gatL_thsU]
  · decide
  · intro x hx
    have : x = (0, 1, []) := by simpa [smallT, atL, atomsF] using hx
    subst this
    exact (by decide : thingB 2 0 1 [] = true)
theorem small_locs : locsT smallT = [[120], [121]] := by
  refine strN_unique (locsN_str _) (by unfold StrN; simp; decide) (fun x => ?_)
  unfold locsT
  rw [locsN_mem]
  have : rawN smallT = [[120], [], [121], []] := by
    unfold rawN
    rw [show topT smallT.q smallT.k smallT.t smallT.r smallT.l smallT.v smallT.kids = [(0, 1, [])] from small_ths]
    rfl
  rw [this]
  simp
  constructor
  · rintro ⟨h | h | h, h2⟩ <;> simp_all
  · rintro (rfl | rfl) <;> simp
set_option maxRecDepth 100000 in
theorem small_file : fileE smallT = 0 := by
  unfold fileE
  rw [if_neg (by decide +kernel), if_neg (by decide +kernel), if_neg (by decide +kernel), if_neg (by decide +kernel), if_neg (by rw [show smallT.arch = 1 from rfl]; exact fun h => h small_check.2), small_ths, if_neg (by decide), if_neg (by rw [show locsN (rawN smallT) = [[120], [121]] from small_locs]; decide)]
set_option maxRecDepth 100000 in
theorem small_tr : traceL smallT = .ok smallA := by
  unfold traceL
  rw [if_neg (by rw [small_file]; decide), small_locs, small_ths]
  first | kernel_rfl | rfl | decide
end Go.Proofs.YtoegmdnfbemppaaGreatDoor
namespace Go.Proofs.YtoegmdnfbemppaaGreatDoor
open Go.RowKit

theorem small_good : TrGood ⟨[[120], [121]], [0, 0], [(0, 1, [])], smallA⟩ := by
  refine ⟨by decide, rfl, ?_, ?_, ?_, by decide, ?_, ?_, by decide, ?_, ?_, ?_, ?_, ?_, ?_, ?_, ?_, ?_, rfl, by decide, ?_, ?_⟩
  · intro x hx; simp at hx; rcases hx with rfl | rfl <;> decide
  · unfold StrN; simp; decide
  · intro n hn; simp at hn; subst hn; decide
  · intro e he
    simp [smallA] at he
    rcases he with rfl | rfl
    · exact ⟨by decide, by decide, by decide, by decide, by decide, Or.inr ⟨rfl, rfl⟩⟩
    · exact ⟨by decide, by decide, by decide, by decide, by decide, Or.inl ⟨rfl, rfl⟩⟩
  · intro i x y hx hy
    match i, hx, hy with
    | 0, hx, hy => simp [smallA] at hx hy; subst hx hy; unfold ahdI; decide
    | i + 1, hx, hy => simp [smallA] at hy
  · intro b hb; simp [smallA] at hb; subst hb; exact ⟨by decide, by decide, by decide⟩
  · intro i x y hx hy; simp [smallA] at hy
  · intro b hb e he
    simp [smallA] at hb he
    subst hb
    rcases he with rfl | rfl <;> decide
  · intro p hp; simp [smallA] at hp
  · intro i x y hx; simp [smallA] at hx
  · intro p hp; simp [smallA] at hp
  · intro i x y hx; simp [smallA] at hx
  · intro p hp; simp [smallA] at hp
  · intro i x y hx; simp [smallA] at hx
  · intro i x y hx hy; simp at hy
  · intro i x e hx he
    match i, hx, he with
    | 0, hx, he =>
      simp [smallA] at hx he
      subst hx he
      exact Or.inr ⟨by decide, by decide, by decide, by decide, rfl, Or.inr ⟨rfl, 1, ⟨0, 2, 1, 1, 0, 1⟩, rfl, rfl, rfl, rfl⟩⟩
    | i + 1, hx, he => simp at hx
section
set_option maxHeartbeats 4000000
set_option maxRecDepth 100000
theorem smallP (w : World) : Calls Tryz.prog 45 #[] w fun e w' => ∃ Ac, e = .returned (testV smallT (.slice none 0 0) (.slice Ac 1 1) (.slice none 0 0)) ∧ TstAt w' smallT none Ac (.slice none 0 0) ∧ Below w.heap.size w w' := by
  go_enter Tryz.func45, Tryz.ntmps45
  go_wp2_with fail
  refine bodyPost_ret (v := testV smallT (.slice none 0 0) (.slice (some ⟨w.heap.size + 1 + 1 + 1, 0, none⟩) 1 1) (.slice none 0 0)) (by simp [results, Tryz.results45, go_sem, smallT]) rfl ?_
  have HI := Lib.hid (Blk.alloc (Blk.new ((w.alloc (.cells #[.int .i64 1, .string ⟨#[116]⟩, .string ⟨#[]⟩, .slice none 0 0, .slice (some ⟨w.heap.size + 1 + 1 + 1, 0, none⟩) 1 1, .int .i64 1, .int .i64 2, .int .i64 0, .int .i64 1, .string ⟨#[]⟩, .int .i64 0, .slice none 0 0] 32 (0, 0))).alloc (.cells #[.int .i64 0, .int .i64 1, .string ⟨#[]⟩] 25 (0, 0))) 77 #[.int .i64 1, .int .i64 0, .int .i64 0, .int .i64 0, .int .i64 3, .string ⟨#[120]⟩, .string ⟨#[]⟩, .int .i64 0, .int .i64 5, .int .i64 0, .int .i64 0, .int .i64 0, .int .i64 0, .string ⟨#[]⟩, .string ⟨#[]⟩, .int .i64 0, .int .i64 3, .int .i64 1, .int .i64 0, .int .i64 0, .int .i64 0, .string ⟨#[121]⟩, .string ⟨#[]⟩, .int .i64 0]) (.cells #[.slice (some ⟨w.heap.size + 1 + 1, 0, none⟩) 3 3] 69 (0, 0)))
  have HC := Lib.hid (Blk.new (((w.alloc (.cells #[.int .i64 1, .string ⟨#[116]⟩, .string ⟨#[]⟩, .slice none 0 0, .slice (some ⟨w.heap.size + 1 + 1 + 1, 0, none⟩) 1 1, .int .i64 1, .int .i64 2, .int .i64 0, .int .i64 1, .string ⟨#[]⟩, .int .i64 0, .slice none 0 0] 32 (0, 0))).alloc (.cells #[.int .i64 0, .int .i64 1, .string ⟨#[]⟩] 25 (0, 0))).alloc (.cells #[.int .i64 1, .int .i64 0, .int .i64 0, .int .i64 0, .int .i64 3, .string ⟨#[120]⟩, .string ⟨#[]⟩, .int .i64 0, .int .i64 5, .int .i64 0, .int .i64 0, .int .i64 0, .int .i64 0, .string ⟨#[]⟩, .string ⟨#[]⟩, .int .i64 0, .int .i64 3, .int .i64 1, .int .i64 0, .int .i64 0, .int .i64 0, .string ⟨#[121]⟩, .string ⟨#[]⟩, .int .i64 0] 77 (0, 0))) 69 #[.slice (some ⟨w.heap.size + 1 + 1, 0, none⟩) 3 3])
  simp only [World.size_alloc] at HI HC
  refine ⟨some ⟨w.heap.size + 1 + 1 + 1, 0, none⟩, rfl, ⟨?_, ?_, SlAt.nil _ _ _ _ (by decide), by decide, by decide, by decide, by decide, by decide⟩, below_alloc (below_alloc (below_alloc (below_alloc (Below.refl _ _) _) _) _) _⟩
  · intro i x hx; simp [smallT] at hx
  · intro i c hc
    match i, hc with
    | 0, hc =>
      simp [smallT] at hc
      subst hc
      refine ⟨_, 0, some ⟨w.heap.size + 1 + 1, 0, none⟩, 3, rfl, HC.out.cell 0, ?_, by decide, by decide⟩
      intro j x hx
      match j, hx with
      | 0, hx =>
        simp at hx
        subst hx
        exact ⟨_, 0, rfl, (HI.out.cell 0).trans rfl, (HI.out.cell 1).trans rfl, (HI.out.cell 2).trans rfl, (HI.out.cell 3).trans rfl, (HI.out.cell 4).trans rfl, (HI.out.cell 5).trans rfl, (HI.out.cell 6).trans rfl, (HI.out.cell 7).trans rfl, by decide, by decide⟩
      | 1, hx =>
        simp at hx
        subst hx
        exact ⟨_, 0, rfl, (HI.out.cell 8).trans rfl, (HI.out.cell 9).trans rfl, (HI.out.cell 10).trans rfl, (HI.out.cell 11).trans rfl, (HI.out.cell 12).trans rfl, (HI.out.cell 13).trans rfl, (HI.out.cell 14).trans rfl, (HI.out.cell 15).trans rfl, by decide, by decide⟩
      | 2, hx =>
        simp at hx
        subst hx
        exact ⟨_, 0, rfl, (HI.out.cell 16).trans rfl, (HI.out.cell 17).trans rfl, (HI.out.cell 18).trans rfl, (HI.out.cell 19).trans rfl, (HI.out.cell 20).trans rfl, (HI.out.cell 21).trans rfl, (HI.out.cell 22).trans rfl, (HI.out.cell 23).trans rfl, by decide, by decide⟩
      | j + 3, hx => simp at hx
    | i + 1, hc => simp [smallT] at hc
end
end Go.Proofs.YtoegmdnfbemppaaGreatDoor
