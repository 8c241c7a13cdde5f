/- Layer 15: a runner at a thread's beginning: small things. -/
import Derived.Test.YtjhafgnmahhacaaGreatDoorTe25
import Derived.Test.YtjhafgnmahhacaaGreatDoorTe31

namespace Go.Proofs.YtjhafgnmahhacaaGreatDoor
open Go.RowKit
/-- Registers of which some hold the number 0 and the others nothing yet. -/
abbrev encZ : Enc Bool := ⟨5, fun b => [if b then .iface 213 (.int .i64 0) else .nilIface, .int .u64 0, .int .u64 0, .int .u64 0, .int .u64 0], fun _ => rfl, by omega, fun x u h => by simp at h; rcases h with rfl | rfl; cases x <;> rfl; rfl⟩
def zl (i n : Nat) : List Bool := List.replicate i true ++ List.replicate (n - i) false
theorem zl_len {i n : Nat} (h : i ≤ n) : (zl i n).length = n := by simp [zl]; omega
theorem zl_set {i n : Nat} (h : i < n) : (zl i n).set i true = zl (i + 1) n := by
  unfold zl
  rw [List.set_append_right _ _ (by simp)]
  simp only [List.length_replicate, Nat.sub_self]
  rw [show n - i = (n - (i + 1)) + 1 by omega, List.replicate_succ, List.set_cons_zero, List.replicate_succ', List.append_assoc]
  rfl
theorem zl_at {i n : Nat} (h : i < n) : (zl i n)[i]? = some false := by
  unfold zl
  rw [List.getElem?_append_right (by simp)]
  simp only [List.length_replicate, Nat.sub_self]
  rw [show n - i = (n - i - 1) + 1 by omega, List.replicate_succ]; rfl
theorem flatZ_set (l : List Bool) (i : Nat) (h : i < l.length) : (encZ.flat l).toArray.setIfInBounds (i * 5) (.iface 213 (.int .i64 0)) = (encZ.flat (l.set i true)).toArray := by
  apply Array.ext'
  apply List.ext_getElem?
  intro m
  have hl : (encZ.flat l).length = l.length * 5 := encZ.flat_len l
  rw [show ((encZ.flat (l.set i true)).toArray.toList) = encZ.flat (l.set i true) from rfl, flat_set encZ l i true m h]
  simp only [Array.toList_setIfInBounds, List.getElem?_set]
  show _ = if i * 5 ≤ m ∧ m < i * 5 + 5 then _ else _
  by_cases hm : i * 5 ≤ m ∧ m < i * 5 + 5
  · rw [if_pos hm]
    by_cases h0 : m = i * 5
    · subst h0; simp [hl]; omega
    · rw [if_neg (by omega)]
      have hx := encZ.flat_at (List.getElem?_eq_getElem h) (show m - i * 5 < 5 by omega)
      rw [show i * encZ.size + (m - i * 5) = m by show i * 5 + (m - i * 5) = m; omega] at hx
      rw [hx]
      have hc : m - i * 5 = 1 ∨ m - i * 5 = 2 ∨ m - i * 5 = 3 ∨ m - i * 5 = 4 := by omega
      show _ = (encZ.enc true)[m - i * 5]?
      rcases hc with hc | hc | hc | hc <;> rw [hc] <;> rfl
  · rw [if_neg hm, if_neg (by omega)]
theorem flatZ_done (n : Nat) : encZ.flat (zl n n) = encR.flat (List.replicate n ⟨.num 0, 0⟩) := by
  unfold zl
  rw [Nat.sub_self, List.replicate_zero, List.append_nil]
  unfold Enc.flat
  rw [List.map_replicate, List.map_replicate]
  rfl
theorem madeZ (n : Nat) : madeCells #[.nilIface, .int .u64 0, .int .u64 0, .int .u64 0, .int .u64 0] (n * 5) = (encZ.flat (zl 0 n)).toArray := by
  apply Array.ext'
  apply List.ext_getElem?
  intro m
  have hl : (encZ.flat (zl 0 n)).length = n * 5 := by rw [encZ.flat_len, zl_len (Nat.zero_le n)]
  by_cases hm : m < n * 5
  · have h1 : m / 5 < n := by omega
    have h2 : (zl 0 n)[m / 5]? = some false := by simp [zl, h1]
    have h3 := encZ.flat_at h2 (show m % 5 < 5 by omega)
    rw [show m / 5 * encZ.size + m % 5 = m by show m / 5 * 5 + m % 5 = m; omega] at h3
    rw [h3]
    unfold madeCells
    have hc : m % 5 = 0 ∨ m % 5 = 1 ∨ m % 5 = 2 ∨ m % 5 = 3 ∨ m % 5 = 4 := by omega
    rcases hc with hc | hc | hc | hc | hc <;> simp [hc, hm]
  · rw [List.getElem?_eq_none (by simp [madeCells]; omega), List.getElem?_eq_none (by simp [hl]; omega)]
theorem infoRg : (Tryz.prog.info? 217).map (fun i => (i.zero, i.size, i.bytes)) = some (some (.agg #[.nilIface, .int .u64 0, .int .u64 0, .int .u64 0, .int .u64 0]), 5, 48) := by kernel_rfl
theorem mk_regs (n : Nat) (hn : n ≤ 1000) (w : World) : (Instr.makeSlice 138 (.int .i64 (n : Int)) (.int .i64 (n : Int))).run Tryz.prog w = .ok (.slice (some ⟨w.heap.size, 0, none⟩) n n) (w.alloc (.cells (encZ.flat (zl 0 n)).toArray 217 (0, 0))) := by
  obtain ⟨i0, hi, hz0, hz1, hz2⟩ := info_partsM infoRg
  have h := run_make (P := Tryz.prog) w 138 217 i0 _ Tryz.underlying138 hi hz0 .i64 .i64 (n : Int) (n : Int) (by omega) (Int.le_refl _) (by rw [hz2]; omega) (by omega)
  rw [h, hz1]
  simp only [Int.toNat_natCast]
  rw [show (Value.agg #[.nilIface, .int .u64 0, .int .u64 0, .int .u64 0, .int .u64 0]).cells = #[.nilIface, .int .u64 0, .int .u64 0, .int .u64 0, .int .u64 0] from rfl, ← madeZ]
/-- What one holds is set. -/
theorem flatR_has (l : List Rg) (i : Nat) (x : Rg) (h : l[i]? = some x) (v : Hold) : (encR.flat l).toArray.setIfInBounds (i * 5) (holdV v) = (encR.flat (l.set i ⟨v, x.on⟩)).toArray := by
  have hi := (List.getElem?_eq_some_iff.1 h).1
  apply Array.ext'
  apply List.ext_getElem?
  intro m
  have hl : (encR.flat l).length = l.length * 5 := encR.flat_len l
  rw [show ((encR.flat (l.set i ⟨v, x.on⟩)).toArray.toList) = encR.flat (l.set i ⟨v, x.on⟩) from rfl, flat_set encR l i _ m hi]
  simp only [Array.toList_setIfInBounds, List.getElem?_set]
  show _ = if i * 5 ≤ m ∧ m < i * 5 + 5 then _ else _
  by_cases hm : i * 5 ≤ m ∧ m < i * 5 + 5
  · rw [if_pos hm]
    by_cases h0 : m = i * 5
    · subst h0; simp [hl]; omega
    · rw [if_neg (by omega)]
      have hx := encR.flat_at h (show m - i * 5 < 5 by omega)
      rw [show i * encR.size + (m - i * 5) = m by show i * 5 + (m - i * 5) = m; omega] at hx
      rw [hx]
      have hc : m - i * 5 = 1 ∨ m - i * 5 = 2 ∨ m - i * 5 = 3 ∨ m - i * 5 = 4 := by omega
      show _ = (encR.enc ⟨v, x.on⟩)[m - i * 5]?
      rcases hc with hc | hc | hc | hc <;> rw [hc] <;> rfl
  · rw [if_neg hm, if_neg (by omega)]
theorem RunAt.has {w : World} {B g : Nat} {S : RunS} {r : Rn} {V : RunV} (h : RunAt w B g S r V) {i q : Nat} {x : Rg} (hi : r.regs[i]? = some x) (hq : V.rg = .slice (some ⟨q, 0, none⟩) r.regs.length r.regs.length) (v : Hold) :
    RunAt (w.setCell ⟨q, i * 5, none⟩ (holdV v)) B g S { r with regs := r.regs.set i ⟨v, x.on⟩ } V := by
  obtain ⟨q', e, hb, hB⟩ := h.regs
  rw [hq] at e
  simp only [Value.slice.injEq, Option.some.injEq, Addr.mk.injEq, and_true] at e
  subst e
  have hgq : g ≠ q := (blk_ne hb h.blk (by decide)).symm
  have k1 := hb.set_ (i * 5) (holdV v)
  rw [flatR_has r.regs i x hi v] at k1
  have ho : ∀ {t : TypeId} {z n : Nat} {u : Value} {cs : List Value}, w.ownsRow B t z u n cs → t ≠ 217 → (w.setCell ⟨q, i * 5, none⟩ (holdV v)).ownsRow B t z u n cs := fun h1 hne => own_setO h1 hb hne _ _
  exact ⟨h.blk.far hgq _, h.hg, ⟨q, by rw [hq, List.length_set], k1, hB⟩, ho h.evs (by decide), ho h.bars (by decide), ho h.addr (by decide), ho h.data (by decide), ho h.hang (by decide), h.a1, h.a2, h.a3⟩
end Go.Proofs.YtjhafgnmahhacaaGreatDoor
namespace Go.Proofs.YtjhafgnmahhacaaGreatDoor
open Go.RowKit
open Go.Sort
open Go.Sort (sorted_unique_holds flatK size_flatK get_flatK HoldsK Holds putRow mapBlock putCells grow onCells)
def okP (p : Int × Int) : Prop := (0 ≤ p.1 ∧ p.1 ≤ 4096) ∧ 0 ≤ p.2 ∧ p.2 ≤ 4096
abbrev VP := { p : Int × Int // okP p }
instance instVP : Inhabited VP := ⟨⟨(0, 0), by unfold okP; omega⟩⟩
def encVP (x : VP) : List Value := [.int .i64 x.1.1, .int .i64 x.1.2]
def cfP (x y : VP) : Int := if x.1.1 = y.1.1 then x.1.2 - y.1.2 else x.1.1 - y.1.1
theorem ltP_iff (x y : VP) : ltOf cfP x y = true ↔ ordA x.1 y.1 := by
  unfold ltOf cfP ordA
  by_cases h : x.1.1 = y.1.1
  · simp [h]; omega
  · simp [h]; omega
theorem cfP_swo : SWO (ltOf cfP) where
  irrefl x := by
    rw [Bool.eq_false_iff]
    intro h
    rw [ltP_iff] at h
    unfold ordA at h
    omega
  trans x y z h k := by
    rw [ltP_iff] at h k ⊢
    unfold ordA at *
    omega
  ntrans x y z h k := by
    rw [Bool.eq_false_iff, ne_eq, ltP_iff] at h k ⊢
    unfold ordA at *
    omega
theorem wrap_i64 {x : Int} (h1 : -4096 ≤ x) (h2 : x ≤ 4096) : IntKind.i64.wrap x = x := by
  unfold IntKind.wrap
  simp [IntKind.bits, IntKind.signed]
  omega
section
set_option maxHeartbeats 4000000
set_option maxRecDepth 100000
theorem cmpMv (a b c d : Int) (h1 : 0 ≤ a ∧ a ≤ 4096) (h2 : 0 ≤ b ∧ b ≤ 4096) (h3 : 0 ≤ c ∧ c ≤ 4096) (h4 : 0 ≤ d ∧ d ≤ 4096) (w : World) :
    Calls Tryz.prog 142 #[.agg #[.int .i64 a, .int .i64 b], .agg #[.int .i64 c, .int .i64 d]] w fun e w' => e = .returned (.int .i64 (if a = c then b - d else a - c)) ∧ ∃ q os', w' = Sort.grow (w.drewN q) os' := by
  have HG := Lib.hid (grow_two w (.cells #[.int .i64 a, .int .i64 b] 106 (0, 0)) (.cells #[.int .i64 c, .int .i64 d] 106 (0, 0)))
  obtain ⟨h1a, h1b⟩ := h1
  obtain ⟨h2a, h2b⟩ := h2
  obtain ⟨h3a, h3b⟩ := h3
  obtain ⟨h4a, h4b⟩ := h4
  by_cases he : a = c
  · rw [if_pos he]
    subst he
    have hw : IntKind.i64.wrap (b - d) = b - d := wrap_i64 (by omega) (by omega)
    go_enter Tryz.func142, Tryz.ntmps142
    go_wp2_with fail
    go_ret
    exact ⟨rfl, HG.out⟩
  · rw [if_neg he]
    have hw : IntKind.i64.wrap (a - c) = a - c := wrap_i64 (by omega) (by omega)
    go_enter Tryz.func142, Tryz.ntmps142
    go_wp2_with fail
    go_ret
    exact ⟨rfl, HG.out⟩
end
theorem cmpLaysP (blk off size : Nat) (w : World) : CmpLays Tryz.prog 142 #[] encVP 2 cfP blk off size w := fun m os dk _ x y => by
  obtain ⟨⟨a, b⟩, h1, h2⟩ := x
  obtain ⟨⟨c, d⟩, h3, h4⟩ := y
  exact cmpMv a b c d h1 h2 h3 h4 _
def toVP : (L : List (Int × Int)) → (∀ x ∈ L, okP x) → List VP
  | [], _ => []
  | x :: r, h => ⟨x, h x (by simp)⟩ :: toVP r (fun y hy => h y (by simp [hy]))
theorem toVP_map : ∀ (L : List (Int × Int)) (h : ∀ x ∈ L, okP x), (toVP L h).map Subtype.val = L
  | [], _ => rfl
  | x :: r, h => by
    show x :: (toVP r _).map Subtype.val = x :: r
    rw [toVP_map r]
theorem toVP_len (L : List (Int × Int)) (h : ∀ x ∈ L, okP x) : (toVP L h).length = L.length := by
  have := congrArg List.length (toVP_map L h)
  simpa using this
theorem flatP_at {l : List (Int × Int)} {t : Nat} (ht : t < l.length * 2) : (encP.flat l)[t]? = (encP.enc (l.getD (t / 2) (0, 0)))[t % 2]? := by
  have h1 : t / 2 < l.length := by omega
  have h2 := encP.flat_at (List.getElem?_eq_getElem h1) (show t % 2 < encP.size by show t % 2 < 2; omega)
  rw [show t / 2 * encP.size + t % 2 = t by show t / 2 * 2 + t % 2 = t; omega] at h2
  rw [h2]
  simp [List.getD, h1]
theorem flatK_P (d : Array VP) : (flatK encVP 2 d).toList = encP.flat (d.toList.map Subtype.val) := by
  apply List.ext_getElem?
  intro t
  have hl : (encP.flat (d.toList.map Subtype.val)).length = d.size * 2 := by rw [encP.flat_len]; simp
  have hs := size_flatK encVP 2 d
  by_cases ht : t < d.size * 2
  · rw [flatP_at (by simpa using ht), Array.getElem?_toList, Array.getElem?_eq_getElem (by rw [hs]; exact ht)]
    have h1 := get_flatK encVP 2 d t ht
    rw [getElem!_pos (flatK encVP 2 d) t (by rw [hs]; exact ht)] at h1
    rw [h1]
    have h2 : t / 2 < d.size := by omega
    rw [getElem!_pos d (t / 2) h2]
    have h3 : (d.toList.map Subtype.val).getD (t / 2) (0, 0) = d[t / 2].1 := by simp [List.getD, h2]
    rw [h3]
    have h4 : t % 2 = 0 ∨ t % 2 = 1 := by omega
    rcases h4 with h4 | h4 <;> rw [h4] <;> rfl
  · rw [List.getElem?_eq_none (by rw [Array.length_toList, hs]; omega), List.getElem?_eq_none (by rw [hl]; omega)]
theorem putI_take (d : List Value) (cur : Array Value) (h : d.length ≤ cur.size) : (putCells id 0 d.toArray cur).toList.take d.length = d := by
  apply List.ext_getElem?
  intro i
  rw [List.getElem?_take]
  by_cases hi : i < d.length
  · rw [if_pos hi, List.getElem?_eq_getElem hi]
    unfold putCells
    rw [Array.getElem?_toList, Array.getElem?_mapIdx]
    rw [Array.getElem?_eq_getElem (show i < cur.size by omega)]
    simp [hi]
  · rw [if_neg hi, List.getElem?_eq_none (by omega)]
theorem sortK_heap {w : World} {g n : Nat} {t : TypeId} {cur : Array Value} {os : Array Obj} {d : Array VP} (h : w.heap[g]? = some (.cells cur t (0, 0))) : (sortWorldK encVP 2 w g 0 n d os).heap[g]? = some (.cells (putCells id 0 (flatK encVP 2 d) cur) t (0, 0)) := by
  have hlt := (Array.getElem?_eq_some_iff.1 h).1
  have h2 : (mapBlock (Sort.ahead w n) g (putCells id 0 (flatK encVP 2 d))).heap[g]? = some (.cells (putCells id 0 (flatK encVP 2 d) cur) t (0, 0)) := by
    simp only [mapBlock, Array.getElem?_modify]
    rw [if_pos trivial]
    show (w.heap[g]?).map _ = _
    rw [h]; rfl
  exact (Sort.heap_grow_old _ _ (by simp [putRowK, putRow, mapBlock, Sort.ahead]; exact hlt)).trans h2
theorem sortK_below {w : World} {g n B : Nat} {d : Array VP} {os : Array Obj} (hB : B ≤ g) (hg : g < w.heap.size) : Below B w (sortWorldK encVP 2 w g 0 n d os) :=
  ⟨rfl, rfl, rfl, by show w.heap.size ≤ ((w.heap.modify g _) ++ os).size; simp, fun i hi => by
    have hlt : i < w.heap.size := by omega
    have h2 : (mapBlock (Sort.ahead w n) g (putCells id 0 (flatK encVP 2 d))).heap[i]? = w.heap[i]? := by
      simp only [mapBlock, Array.getElem?_modify]
      rw [if_neg (by omega)]
      rfl
    exact (Sort.heap_grow_old _ _ (by simp [putRowK, putRow, mapBlock, Sort.ahead]; exact hlt)).trans h2⟩
theorem holdsP {w : World} {B g cap : Nat} {l : List (Int × Int)} (hv : ∀ p ∈ l, okP p) (ho : encP.Own 106 B w (.slice (some ⟨g, 0, none⟩) l.length cap) l) : HoldsK encVP 2 w g 0 (toVP l hv).toArray := by
  intro j hj
  have hsz : (toVP l hv).toArray.size = l.length := by simp [toVP_len]
  rw [size_flatK, hsz] at hj
  refine ⟨?_, by rw [Nat.zero_add]; exact ho.frozenAt j⟩
  have h2 : (flatK encVP 2 (toVP l hv).toArray).toList = encP.flat l := by
    rw [flatK_P]
    show encP.flat ((toVP l hv).map Subtype.val) = _
    rw [toVP_map]
  rw [Nat.zero_add, ho.cellAt j hj, ← h2, Array.getElem?_toList, Array.getElem?_eq_getElem (by rw [size_flatK, hsz]; exact hj), getElem!_pos _ j (by rw [size_flatK, hsz]; exact hj)]
  rfl
theorem sortPr (v : Value) (l l2 : List (Int × Int)) (B : Nat) (w : World) (h : encP.Own 106 B w v l) (hl : l.length ≤ 1000000) (hv : ∀ p ∈ l, okP p) (hnd : l.Nodup) (h2 : l2.Pairwise ordA) (hm : ∀ x, x ∈ l2 ↔ x ∈ l) :
    Calls Tryz.prog 141 #[v, .func (.func 142) #[] #[]] w fun e w' => e = .returned (.tuple #[]) ∧ encP.Own 106 B w' v l2 ∧ Below B w w' := by
  obtain ⟨A, cap, rfl⟩ := h.shp
  have eg : ∀ args w, (callFunc 142 args).run Tryz.prog w = .ok (.enter 142 args) w := enters_of Tryz.func142 (by kernel_rfl) rfl
  rcases h.2 with ⟨e, h0⟩ | ⟨g, cap', cur, e, h1, h3, h4, h5, h6, h7⟩
  · have hl0 : l = [] := List.length_eq_zero_iff.1 h0
    subst hl0
    have hl2 : l2 = [] := List.eq_nil_iff_forall_not_mem.2 fun x hx => by have := (hm x).1 hx; cases this
    subst hl2
    refine (AnyF.slices_SortFunc_none Tryz.sortPr A cap _ w).mono fun e w' ⟨h1, h2⟩ => ⟨h1, ?_, ?_⟩
    · subst h2; exact h
    · rw [h2]; exact Below.refl _ _
  · simp only [Value.slice.injEq, true_and] at e
    obtain ⟨rfl, rfl⟩ := e
    have hH := holdsP hv h
    have hlt := (Array.getElem?_eq_some_iff.1 h3).1
    have hsz : (toVP l hv).toArray.size = l.length := by simp [toVP_len]
    have hs := AnyQ.slices_SortFunc Tryz.sortPr 2 Tryz.isAgg106 Tryz.sizeOf106 encVP (fun _ => rfl) (fun x v hv => by simp [encVP] at hv; rcases hv with rfl | rfl <;> rfl) cfP cfP_swo 142 #[] g 0 cap (toVP l hv).toArray w eg (cmpLaysP g 0 _ w) hH hlt (by omega)
    rw [hsz] at hs
    refine hs.mono ?_
    rintro e w' ⟨rfl, d', n, os, hP, hSo, rfl⟩
    have hd : d'.size = l.length := hP.1.trans hsz
    have hperm : (d'.toList.map Subtype.val).Perm l := by
      obtain ⟨_, _, hp⟩ := hP
      have e1 : d'.extract 0 l.length = d' := by rw [← hd]; exact Array.extract_size
      have e2 : (toVP l hv).toArray.extract 0 l.length = (toVP l hv).toArray := by rw [← hsz]; exact Array.extract_size
      rw [e1, e2] at hp
      have := hp.map Subtype.val
      rwa [show ((toVP l hv).toArray.toList).map Subtype.val = l from toVP_map l hv] at this
    have heq : d'.toList.map Subtype.val = l2 := by
      refine ordA_unique ?_ h2 (fun x => by rw [hperm.mem_iff, hm])
      rw [List.pairwise_iff_getElem]
      intro i j hi hj hij
      have hi' : i < d'.size := by simpa using hi
      have hj' : j < d'.size := by simpa using hj
      have h8 := hSo i j (Nat.zero_le _) hij (by omega)
      rw [getElem!_pos d' i hi', getElem!_pos d' j hj', Bool.eq_false_iff, ne_eq, ltP_iff] at h8
      simp only [List.getElem_map, Array.getElem_toList]
      have hne : d'[i].1 ≠ d'[j].1 := fun e => by
        have hn2 := hperm.nodup_iff.2 hnd
        have := (List.getElem_inj (h₀ := hi) (h₁ := hj) hn2).1 (by simpa using e)
        omega
      unfold ordA at *
      have : ¬ (d'[i].1.1 = d'[j].1.1 ∧ d'[i].1.2 = d'[j].1.2) := fun e => hne (Prod.ext e.1 e.2)
      omega
    have hl2 : l2.length = l.length := by rw [← heq, List.length_map, Array.length_toList, hd]
    refine ⟨rfl, ?_, sortK_below h1 hlt⟩
    show World.ownsRow _ B 106 2 _ l2.length (encP.flat l2)
    have hf : (flatK encVP 2 d').toList = encP.flat l2 := by rw [flatK_P, heq]
    have hfl : (encP.flat l2).length = l.length * 2 := by rw [encP.flat_len, hl2]
    refine ⟨by rw [encP.flat_len], Or.inr ⟨g, cap, _, by rw [hl2], h1, sortK_heap h3, by rw [hl2]; exact h4, h5, by simp [putCells]; exact h6, ?_⟩⟩
    have hp := putI_take (encP.flat l2) cur (by rw [hfl, h6]; exact Nat.mul_le_mul_right 2 h4)
    rw [← hf] at hp ⊢
    rw [show (flatK encVP 2 d').toList.toArray = flatK encVP 2 d' from by simp] at hp
    rw [show l2.length * 2 = (flatK encVP 2 d').toList.length from by rw [hf, hfl, hl2]]
    exact hp
end Go.Proofs.YtjhafgnmahhacaaGreatDoor
namespace Go.Proofs.YtjhafgnmahhacaaGreatDoor
open Go.RowKit
section
theorem at_below_P {w : World} {A : Option Addr} {l : List (Int × Int)} (h : encP.At w A l) {i : Nat} {x : Int × Int} (hx : l[i]? = some x) : ∃ b o, A = some ⟨b, o, none⟩ ∧ w.cell? ⟨b, o + i * 2, none⟩ = some (.int .i64 x.1) ∧ w.cell? ⟨b, o + i * 2 + 1, none⟩ = some (.int .i64 x.2) := by
  obtain ⟨b, o, e, hc⟩ := h i x hx
  exact ⟨b, o, e, hc 0 _ rfl, hc 1 _ rfl⟩
theorem PrsOK.moved {evs : List Evt} {n f : Nat} {l : List (Int × Int)} (h : PrsOK evs n l) (hf : f + n ≤ 64) :
    (∀ p ∈ l.map (shP f), okP p) ∧ (l.map (shP f)).Nodup ∧ (buck (l.map (shP f))).Pairwise ordA ∧ (∀ x, x ∈ buck (l.map (shP f)) ↔ x ∈ l.map (shP f)) ∧ (∀ p ∈ l.map (shP f), (f : Int) ≤ p.1 ∧ p.1 < ((f + n : Nat) : Int)) := by
  have hin : ∀ p ∈ l.map (shP f), ∃ i j : Nat, p = (((f + i : Nat) : Int), ((f + j : Nat) : Int)) ∧ i < j ∧ j < n := fun p hp => by
    obtain ⟨q, hq, rfl⟩ := List.mem_map.1 hp
    obtain ⟨i, j, rfl, h1, _, h3⟩ := h.at_ q hq
    exact ⟨i, j, by simp [shP], h1, h3⟩
  have hord : (l.map (shP f)).Pairwise ordB := by
    rw [List.pairwise_map]
    exact h.ord.imp fun hpq => by
      unfold ordB shP at *
      simp only
      omega
  refine ⟨fun p hp => ?_, ?_, buckK_pw hord 64, fun x => ?_, fun p hp => ?_⟩
  · obtain ⟨i, j, rfl, h1, h2⟩ := hin p hp
    unfold okP
    simp only
    omega
  · refine hord.imp fun {p q} hpq e => ?_
    subst e
    unfold ordB at hpq
    omega
  · rw [buckK_mem]
    refine ⟨fun h => h.1, fun h => ⟨h, ?_⟩⟩
    obtain ⟨i, j, rfl, h1, h2⟩ := hin x h
    exact ⟨f + i, by omega, rfl⟩
  · obtain ⟨i, j, rfl, h1, h2⟩ := hin p hp
    simp only
    omega
section
set_option maxHeartbeats 4000000
set_option maxRecDepth 100000
theorem movedP (A : Option Addr) (cap n f : Nat) (evs : List Evt) (l : List (Int × Int)) (w : World) (h : encP.At w A l) (hok : PrsOK evs n l) (hf : f + n ≤ 64) (_hcap : l.length ≤ cap) :
    Calls Tryz.prog 65 #[.slice A l.length cap, .int .i64 (f : Int)] w fun e w' => ∃ v, e = .returned v ∧ encP.Own 106 w.heap.size w' v (buck (l.map (shP f))) ∧ Below w.heap.size w w' := by
  have HA := Lib.hid h
  have hlen := hok.len
  have hm := hok.moved hf
  have HM := Lib.hid hm
  have hin : ∀ p ∈ l, (0 ≤ p.1 ∧ p.1 ≤ 64) ∧ 0 ≤ p.2 ∧ p.2 ≤ 64 := fun p hp => by
    obtain ⟨i, j, rfl, h1, _, h3⟩ := hok.at_ p hp
    simp only
    omega
  have HIN := Lib.hid hin
  have hll : l.length ≤ 4096 := by omega
  clear h hok hm hin hlen
  go_enter Tryz.func65, Tryz.ntmps65
  go_wp2_with fail
  go_loopw [10, 5] (fun ii vv wr => ∃ k : Nat, k ≤ l.length ∧ ii = .int .i64 k ∧ encP.Own 106 w.heap.size wr vv ((l.take k).map (shP f)) ∧ Below w.heap.size w wr) (fun ii _ _ => l.length - (intOf ii).toNat)
  case atStart => exact ⟨0, Nat.zero_le _, rfl, Enc.Own.nil _ _ _, Below.refl _ _⟩
  case round =>
    obtain ⟨k, hk, rfl, hv, hb⟩ := hrel
    obtain ⟨q, hq⟩ : ∃ q, (l.take k).map (shP f) = q := ⟨_, rfl⟩
    have HQ := Lib.hid hq
    rw [hq] at hv
    have hql : q.length ≤ 4096 := by rw [← hq]; simp; omega
    clear hq
    obtain ⟨A3, n3, c3, rfl⟩ := own_shp3 hv
    have HV := Lib.hid hv
    have HB := Lib.hid hb
    have hzr := hb.size
    clear hv hb
    by_cases hlt : k < l.length
    · have ex := List.getElem?_eq_getElem hlt
      obtain ⟨x, hx⟩ : ∃ x, l[k] = x := ⟨_, rfl⟩
      rw [hx] at ex
      obtain ⟨b, o, rfl, c0, c1⟩ := at_below_P (HA.out.below HB.out) ex
      have hxi := HIN.out x (List.mem_of_getElem? ex)
      obtain ⟨⟨x1, x2⟩, x3, x4⟩ := hxi
      have hfi : (0 : Int) ≤ (f : Int) := by omega
      have hfj : (f : Int) ≤ 64 := by omega
      have hki : (k : Int) < (l.length : Int) := by omega
      have HS := Lib.hid (show q ++ [((f : Int) + x.1, (f : Int) + x.2)] = (l.take (k + 1)).map (shP f) by
        obtain ⟨h1, h2⟩ := List.getElem?_eq_some_iff.1 ex
        rw [← HQ.out, List.take_succ_eq_append_getElem h1, h2]; simp [shP])
      have HP1 := Lib.hid (alloc_b wr (.cells #[.int .i64 x.1, .int .i64 x.2] 106 (0, 0)))
      have HPA := Lib.hid (pair_at (wr.alloc (.cells #[.int .i64 x.1, .int .i64 x.2] 106 (0, 0))) ((f : Int) + x.1, (f : Int) + x.2))
      have HP2 := Lib.hid (below_2 wr (.cells #[.int .i64 x.1, .int .i64 x.2] 106 (0, 0)) (.cells #[.int .i64 ((f : Int) + x.1), .int .i64 ((f : Int) + x.2)] 106 (0, 0)))
      have hz2 : (wr.alloc (.cells #[.int .i64 x.1, .int .i64 x.2] 106 (0, 0))).heap.size = wr.heap.size + 1 := by simp
      rw [hz2] at HPA
      clear hx ex hz2
      go_wp2_with (at_builtin; refine Enc.appW elemP _ rfl (.tmp 14) (.tmp 24) rfl [((f : Int) + x.1, (f : Int) + x.2)] w.heap.size q _ (wr.heap.size + 1) 0 1 rfl rfl HPA.out (HV.out.below HP2.out) (by simp; omega) (by simp; omega) (by simp; omega) ?_; intro v' w3 hown3 hg3; have HO3 := Lib.hid hown3; have HG3 := Lib.hid hg3; clear hown3 hg3)
      go_roundw
      case rel => exact ⟨k + 1, by omega, by go_num, by rw [← HS.out]; exact HO3.out, HB.out.trans ((HP2.out.mono hzr).trans HG3.out.below)⟩
      case measure => simp [intOf]; omega
    · have hqe : q = l.map (shP f) := by rw [← HQ.out, List.take_of_length_le (by omega)]
      subst hqe
      have hki : ¬ (k : Int) < (l.length : Int) := by omega
      go_wp2_with (go_at_call 141; refine (sortPr _ (l.map (shP f)) (buck (l.map (shP f))) w.heap.size _ HV.out (by omega) HM.out.1 HM.out.2.1 HM.out.2.2.1 HM.out.2.2.2.1).mono ?_; rintro e w4 ⟨rfl, hown4, hb4⟩; have HO4 := Lib.hid hown4; have HB4 := Lib.hid hb4; clear hown4 hb4)
      go_ret
      exact ⟨_, rfl, HO4.out, HB.out.trans HB4.out⟩
end
end
/-- A row that lies alone in its block. -/
def RowB {α : Type} (E : Enc α) (t : TypeId) (B : Nat) (w : World) (v : Value) (l : List α) : Prop := ∃ q, v = .slice (some ⟨q, 0, none⟩) l.length l.length ∧ Blk w q t (E.flat l).toArray ∧ B ≤ q
theorem RowB.keep {α : Type} {E : Enc α} {t : TypeId} {w w1 : World} {B : Nat} {v : Value} {l : List α} (h : RowB E t B w v l) (hk : ∀ q, Blk w q t (E.flat l).toArray → w1.heap[q]? = w.heap[q]?) : RowB E t B w1 v l := by
  obtain ⟨q, h1, h2, h3⟩ := h
  exact ⟨q, h1, (hk q h2).trans h2, h3⟩
structure OutV where
  lo : Value
  ini : Value
  ev : Value
  br : Value
  ad : Value
  da : Value
  ct : Value
  th : Value
  en : Value
structure OutL where
  lo : List Nm
  ini : List Int
  th : List Th
  a : Tr
/-- The trace in block O, its rows in blocks from B on. -/
structure OutAt (w : World) (B O : Nat) (L : OutL) (V : OutV) : Prop where
  blk : Blk w O 41 #[V.lo, V.ini, V.ev, V.br, V.ad, V.da, V.ct, V.th, V.en]
  hO : B ≤ O
  lo : encS.Own 9 B w V.lo L.lo
  ini : RowB encI 3 B w V.ini L.ini
  ev : encE.Own 54 B w V.ev L.a.evs
  br : encB.Own 72 B w V.br L.a.bars
  ad : encP.Own 106 B w V.ad L.a.addr
  da : encP.Own 106 B w V.da L.a.data
  ct : encP.Own 106 B w V.ct L.a.hang
  th : w.ownsRow B 25 3 V.th L.th.length (thCells L.th)
  en : RowB encP 75 B w V.en L.a.ends
  a1 : Apart V.ad V.da
  a2 : Apart V.ad V.ct
  a3 : Apart V.da V.ct
namespace OutAt
variable {w w' w1 : World} {B O : Nat} {L : OutL} {V : OutV} {v' : Value}
theorem drew (h : OutAt w B O L V) : OutAt w.drew B O L V := ⟨h.blk, h.hO, h.lo, h.ini, h.ev, h.br, h.ad, h.da, h.ct, h.th, h.en, h.a1, h.a2, h.a3⟩
theorem below (h : OutAt w B O L V) (hb : Below w.heap.size w w') : OutAt w' B O L V :=
  ⟨h.blk.go hb, h.hO, own_below h.lo hb, h.ini.keep (fun _ hq => hb.block _ hq.lt), own_below h.ev hb, own_below h.br hb, own_below h.ad hb, own_below h.da hb, own_below h.ct hb, own_below h.th hb, h.en.keep (fun _ hq => hb.block _ hq.lt), h.a1, h.a2, h.a3⟩
theorem ev_ (h : OutAt w B O L V) {l : List Evt} (hg : GrewS w w1 B V.ev v') (ho : encE.Own 54 B w1 v' l) : OutAt (w1.setCell ⟨O, 2, none⟩ v') B O { L with a := { L.a with evs := l } } { V with ev := v' } := by
  have hb1 := blk_grew h.blk h.ev (by decide) hg
  exact ⟨hb1.set_ 2 _, h.hO, own_setO (own_apartS h.lo h.ev (by decide) hg) hb1 (by decide) _ _, h.ini.keep (fun _ hq => (Below.heap_setCell w1 _ _ _ (blk_ne hq h.blk (by decide))).trans (hg.keep _ hq.lt (own_ne h.ev hq (by decide)))), own_setO ho hb1 (by decide) _ _, own_setO (own_apartS h.br h.ev (by decide) hg) hb1 (by decide) _ _, own_setO (own_apartS h.ad h.ev (by decide) hg) hb1 (by decide) _ _, own_setO (own_apartS h.da h.ev (by decide) hg) hb1 (by decide) _ _, own_setO (own_apartS h.ct h.ev (by decide) hg) hb1 (by decide) _ _, own_setO (own_apartS h.th h.ev (by decide) hg) hb1 (by decide) _ _, h.en.keep (fun _ hq => (Below.heap_setCell w1 _ _ _ (blk_ne hq h.blk (by decide))).trans (hg.keep _ hq.lt (own_ne h.ev hq (by decide)))), h.a1, h.a2, h.a3⟩
theorem br_ (h : OutAt w B O L V) {l : List Br} (hg : GrewS w w1 B V.br v') (ho : encB.Own 72 B w1 v' l) : OutAt (w1.setCell ⟨O, 3, none⟩ v') B O { L with a := { L.a with bars := l } } { V with br := v' } := by
  have hb1 := blk_grew h.blk h.br (by decide) hg
  exact ⟨hb1.set_ 3 _, h.hO, own_setO (own_apartS h.lo h.br (by decide) hg) hb1 (by decide) _ _, h.ini.keep (fun _ hq => (Below.heap_setCell w1 _ _ _ (blk_ne hq h.blk (by decide))).trans (hg.keep _ hq.lt (own_ne h.br hq (by decide)))), own_setO (own_apartS h.ev h.br (by decide) hg) hb1 (by decide) _ _, own_setO ho hb1 (by decide) _ _, own_setO (own_apartS h.ad h.br (by decide) hg) hb1 (by decide) _ _, own_setO (own_apartS h.da h.br (by decide) hg) hb1 (by decide) _ _, own_setO (own_apartS h.ct h.br (by decide) hg) hb1 (by decide) _ _, own_setO (own_apartS h.th h.br (by decide) hg) hb1 (by decide) _ _, h.en.keep (fun _ hq => (Below.heap_setCell w1 _ _ _ (blk_ne hq h.blk (by decide))).trans (hg.keep _ hq.lt (own_ne h.br hq (by decide)))), h.a1, h.a2, h.a3⟩
theorem ad_ (h : OutAt w B O L V) {l : List (Int × Int)} (hg : GrewS w w1 B V.ad v') (ho : encP.Own 106 B w1 v' l) : OutAt (w1.setCell ⟨O, 4, none⟩ v') B O { L with a := { L.a with addr := l } } { V with ad := v' } := by
  have hb1 := blk_grew h.blk h.ad (by decide) hg
  exact ⟨hb1.set_ 4 _, h.hO, own_setO (own_apartS h.lo h.ad (by decide) hg) hb1 (by decide) _ _, h.ini.keep (fun _ hq => (Below.heap_setCell w1 _ _ _ (blk_ne hq h.blk (by decide))).trans (hg.keep _ hq.lt (own_ne h.ad hq (by decide)))), own_setO (own_apartS h.ev h.ad (by decide) hg) hb1 (by decide) _ _, own_setO (own_apartS h.br h.ad (by decide) hg) hb1 (by decide) _ _, own_setO ho hb1 (by decide) _ _, own_setO (own_apartV h.da h.a1.symm hg) hb1 (by decide) _ _, own_setO (own_apartV h.ct h.a2.symm hg) hb1 (by decide) _ _, own_setO (own_apartS h.th h.ad (by decide) hg) hb1 (by decide) _ _, h.en.keep (fun _ hq => (Below.heap_setCell w1 _ _ _ (blk_ne hq h.blk (by decide))).trans (hg.keep _ hq.lt (own_ne h.ad hq (by decide)))), (h.a1.symm.grew h.da hg).symm, (h.a2.symm.grew h.ct hg).symm, h.a3⟩
theorem da_ (h : OutAt w B O L V) {l : List (Int × Int)} (hg : GrewS w w1 B V.da v') (ho : encP.Own 106 B w1 v' l) : OutAt (w1.setCell ⟨O, 5, none⟩ v') B O { L with a := { L.a with data := l } } { V with da := v' } := by
  have hb1 := blk_grew h.blk h.da (by decide) hg
  exact ⟨hb1.set_ 5 _, h.hO, own_setO (own_apartS h.lo h.da (by decide) hg) hb1 (by decide) _ _, h.ini.keep (fun _ hq => (Below.heap_setCell w1 _ _ _ (blk_ne hq h.blk (by decide))).trans (hg.keep _ hq.lt (own_ne h.da hq (by decide)))), own_setO (own_apartS h.ev h.da (by decide) hg) hb1 (by decide) _ _, own_setO (own_apartS h.br h.da (by decide) hg) hb1 (by decide) _ _, own_setO (own_apartV h.ad h.a1 hg) hb1 (by decide) _ _, own_setO ho hb1 (by decide) _ _, own_setO (own_apartV h.ct h.a3.symm hg) hb1 (by decide) _ _, own_setO (own_apartS h.th h.da (by decide) hg) hb1 (by decide) _ _, h.en.keep (fun _ hq => (Below.heap_setCell w1 _ _ _ (blk_ne hq h.blk (by decide))).trans (hg.keep _ hq.lt (own_ne h.da hq (by decide)))), h.a1.grew h.ad hg, h.a2, (h.a3.symm.grew h.ct hg).symm⟩
theorem ct_ (h : OutAt w B O L V) {l : List (Int × Int)} (hg : GrewS w w1 B V.ct v') (ho : encP.Own 106 B w1 v' l) : OutAt (w1.setCell ⟨O, 6, none⟩ v') B O { L with a := { L.a with hang := l } } { V with ct := v' } := by
  have hb1 := blk_grew h.blk h.ct (by decide) hg
  exact ⟨hb1.set_ 6 _, h.hO, own_setO (own_apartS h.lo h.ct (by decide) hg) hb1 (by decide) _ _, h.ini.keep (fun _ hq => (Below.heap_setCell w1 _ _ _ (blk_ne hq h.blk (by decide))).trans (hg.keep _ hq.lt (own_ne h.ct hq (by decide)))), own_setO (own_apartS h.ev h.ct (by decide) hg) hb1 (by decide) _ _, own_setO (own_apartS h.br h.ct (by decide) hg) hb1 (by decide) _ _, own_setO (own_apartV h.ad h.a2 hg) hb1 (by decide) _ _, own_setO (own_apartV h.da h.a3 hg) hb1 (by decide) _ _, own_setO ho hb1 (by decide) _ _, own_setO (own_apartS h.th h.ct (by decide) hg) hb1 (by decide) _ _, h.en.keep (fun _ hq => (Below.heap_setCell w1 _ _ _ (blk_ne hq h.blk (by decide))).trans (hg.keep _ hq.lt (own_ne h.ct hq (by decide)))), h.a1, h.a2.grew h.ad hg, h.a3.grew h.da hg⟩
end OutAt
theorem flatI_set (l : List Int) (i : Nat) (n : Int) (h : i < l.length) : (encI.flat l).toArray.setIfInBounds i (.int .i64 n) = (encI.flat (l.set i n)).toArray := by
  apply Array.ext'
  apply List.ext_getElem?
  intro m
  have hl : (encI.flat l).length = l.length * 1 := encI.flat_len l
  rw [show ((encI.flat (l.set i n)).toArray.toList) = encI.flat (l.set i n) from rfl, flat_set encI l i n m h]
  simp only [Array.toList_setIfInBounds, List.getElem?_set]
  show _ = if i * 1 ≤ m ∧ m < i * 1 + 1 then _ else _
  by_cases hm : m = i
  · subst hm
    rw [if_pos rfl, if_pos (by omega), if_pos (by omega)]
    show _ = (encI.enc n)[m - m * 1]?
    rw [show m - m * 1 = 0 by omega]; rfl
  · rw [if_neg (Ne.symm hm), if_neg (by omega)]
theorem flatP_set (l : List (Int × Int)) (i : Nat) (x : Int × Int) (h : i < l.length) : (((encP.flat l).toArray.setIfInBounds (i * 2) (.int .i64 x.1)).setIfInBounds (i * 2 + 1) (.int .i64 x.2)) = (encP.flat (l.set i x)).toArray := by
  apply Array.ext'
  apply List.ext_getElem?
  intro m
  have hl : (encP.flat l).length = l.length * 2 := encP.flat_len l
  rw [show ((encP.flat (l.set i x)).toArray.toList) = encP.flat (l.set i x) from rfl, flat_set encP l i x m h]
  simp only [Array.toList_setIfInBounds, List.getElem?_set, List.length_set]
  show _ = if i * 2 ≤ m ∧ m < i * 2 + 2 then _ else _
  by_cases h0 : m = i * 2
  · subst h0
    rw [if_neg (by omega), if_pos rfl, if_pos (by rw [hl]; omega), if_pos (by omega)]
    show _ = (encP.enc x)[i * 2 - i * 2]?
    rw [Nat.sub_self]; rfl
  · by_cases h1 : m = i * 2 + 1
    · subst h1
      rw [if_pos rfl, if_pos (by rw [hl]; omega), if_pos (by omega)]
      show _ = (encP.enc x)[i * 2 + 1 - i * 2]?
      rw [show i * 2 + 1 - i * 2 = 1 by omega]; rfl
    · rw [if_neg (fun e => h1 e.symm), if_neg (fun e => h0 e.symm), if_neg (by omega)]
namespace OutAt
variable {w w' w1 : World} {B O : Nat} {L : OutL} {V : OutV} {v' : Value}
/-- One end is set. -/
theorem en_ (h : OutAt w B O L V) {i q : Nat} {x : Int × Int} (hi : i < L.a.ends.length) (hq : V.en = .slice (some ⟨q, 0, none⟩) L.a.ends.length L.a.ends.length) : OutAt ((w.setCell ⟨q, i * 2, none⟩ (.int .i64 x.1)).setCell ⟨q, i * 2 + 1, none⟩ (.int .i64 x.2)) B O { L with a := { L.a with ends := L.a.ends.set i x } } V := by
  obtain ⟨q', e, hb, hB⟩ := h.en
  rw [hq] at e
  simp only [Value.slice.injEq, Option.some.injEq, Addr.mk.injEq, and_true] at e
  obtain ⟨rfl, _⟩ := e
  have k0 := hb.set_ (i * 2) (.int .i64 x.1)
  have k1 := k0.set_ (i * 2 + 1) (.int .i64 x.2)
  rw [flatP_set _ _ _ hi] at k1
  exact ⟨(h.blk.far (blk_ne h.blk hb (by decide)) _).far (blk_ne h.blk hb (by decide)) _, h.hO, own_setO (own_setO h.lo hb (by decide) _ _) k0 (by decide) _ _, (h.ini.keep (fun _ hq2 => Below.heap_setCell w _ _ _ (blk_ne hq2 hb (by decide)))).keep (fun _ hq2 => Below.heap_setCell _ _ _ _ (blk_ne hq2 k0 (by decide))), own_setO (own_setO h.ev hb (by decide) _ _) k0 (by decide) _ _, own_setO (own_setO h.br hb (by decide) _ _) k0 (by decide) _ _, own_setO (own_setO h.ad hb (by decide) _ _) k0 (by decide) _ _, own_setO (own_setO h.da hb (by decide) _ _) k0 (by decide) _ _, own_setO (own_setO h.ct hb (by decide) _ _) k0 (by decide) _ _, own_setO (own_setO h.th hb (by decide) _ _) k0 (by decide) _ _,
    ⟨q, by rw [hq, List.length_set], k1, hB⟩, h.a1, h.a2, h.a3⟩
end OutAt
/-- Nothing from block B1 on that was there has turned. -/
structure Above (B1 : Nat) (w w' : World) : Prop where
  size : w.heap.size ≤ w'.heap.size
  keep : ∀ b, B1 ≤ b → b < w.heap.size → w'.heap[b]? = w.heap[b]?
theorem Above.trans {B1 : Nat} {w w1 w2 : World} (h : Above B1 w w1) (k : Above B1 w1 w2) : Above B1 w w2 := ⟨Nat.le_trans h.size k.size, fun b h1 h2 => (k.keep b h1 (Nat.lt_of_lt_of_le h2 h.size)).trans (h.keep b h1 h2)⟩
theorem Above.grew {B1 B : Nat} {w w1 : World} {v v' : Value} (hg : GrewS w w1 B v v') (hv : ∀ b, v.ownBlock = some b → b < B1) : Above B1 w w1 := ⟨hg.below.size, fun b h1 h2 => hg.keep b h2 (fun e => by have := hv b e; omega)⟩
theorem Above.set {B1 q : Nat} (w : World) (i : Nat) (u : Value) (hq : q < B1) : Above B1 w (w.setCell ⟨q, i, none⟩ u) := ⟨by simp, fun b h1 _ => Below.heap_setCell w _ _ _ (fun e => by simp only at e; omega)⟩
theorem own_above {w w1 : World} {B : Nat} {t : TypeId} {z n : Nat} {v : Value} {cs : List Value} (h : w.ownsRow B t z v n cs) (ha : Above B w w1) : w1.ownsRow B t z v n cs :=
  own_hold h fun b hb => by
    obtain ⟨_, k, hB⟩ := own_ty h hb
    exact ha.keep b hB (own_lt h hb)
theorem RunAt.above {w w' : World} {B g : Nat} {S : RunS} {r : Rn} {V : RunV} (h : RunAt w B g S r V) (ha : Above B w w') : RunAt w' B g S r V :=
  ⟨(ha.keep g h.hg h.blk.lt).trans h.blk, h.hg, (by obtain ⟨q, h1, h2, h3⟩ := h.regs; exact ⟨q, h1, (ha.keep q h3 h2.lt).trans h2, h3⟩), own_above h.evs ha, own_above h.bars ha, own_above h.addr ha, own_above h.data ha, own_above h.hang ha, h.a1, h.a2, h.a3⟩
/-- Every row of the trace lies among the blocks that are there. -/
theorem OutAt.lt {w : World} {B O : Nat} {L : OutL} {V : OutV} (h : OutAt w B O L V) : (∀ b, V.ev.ownBlock = some b → b < w.heap.size) ∧ (∀ b, V.br.ownBlock = some b → b < w.heap.size) ∧ (∀ b, V.ad.ownBlock = some b → b < w.heap.size) ∧ (∀ b, V.da.ownBlock = some b → b < w.heap.size) ∧ (∀ b, V.ct.ownBlock = some b → b < w.heap.size) :=
  ⟨fun _ e => own_lt h.ev e, fun _ e => own_lt h.br e, fun _ e => own_lt h.ad e, fun _ e => own_lt h.da e, fun _ e => own_lt h.ct e⟩
theorem cellsI_flat (l : List Int) : cellsI l = (encI.flat l).toArray := by
  unfold cellsI Enc.flat
  induction l with
  | nil => rfl
  | cons x l ih => simp_all
theorem madeD (n : Nat) : madeCells #[.int .i64 0, .int .i64 0] (n * 2) = (encP.flat (List.replicate n ((0 : Int), (0 : Int)))).toArray := by
  apply Array.ext'
  apply List.ext_getElem?
  intro m
  have hl : (encP.flat (List.replicate n ((0 : Int), (0 : Int)))).length = n * 2 := by rw [encP.flat_len, List.length_replicate]
  by_cases hm : m < n * 2
  · have h1 : m / 2 < n := by omega
    have h2 : (List.replicate n ((0 : Int), (0 : Int)))[m / 2]? = some (0, 0) := by simp [h1]
    have h3 := encP.flat_at h2 (show m % 2 < 2 by omega)
    rw [show m / 2 * encP.size + m % 2 = m by show m / 2 * 2 + m % 2 = m; omega] at h3
    rw [show (encP.flat (List.replicate n ((0 : Int), (0 : Int)))).toArray.toList = encP.flat (List.replicate n ((0 : Int), (0 : Int))) from rfl, h3]
    unfold madeCells
    have hc : m % 2 = 0 ∨ m % 2 = 1 := by omega
    rcases hc with hc | hc <;> simp [hc, hm]
  · rw [List.getElem?_eq_none (by simp [madeCells]; omega), List.getElem?_eq_none (by simp [hl]; omega)]
theorem infoEn : (Tryz.prog.info? 75).map (fun i => (i.zero, i.size, i.bytes)) = some (some (.agg #[.int .i64 0, .int .i64 0]), 2, 16) := by kernel_rfl
theorem mk_ends (n : Nat) (hn : n ≤ 1024) (w : World) : (Instr.makeSlice 39 (.int .i64 (n : Int)) (.int .i64 (n : Int))).run Tryz.prog w = .ok (.slice (some ⟨w.heap.size, 0, none⟩) n n) (w.alloc (.cells (encP.flat (List.replicate n ((0 : Int), (0 : Int)))).toArray 75 (0, 0))) := by
  obtain ⟨i0, hi, hz0, hz1, hz2⟩ := info_partsM infoEn
  have h := run_make (P := Tryz.prog) w 39 75 i0 _ Tryz.underlying39 hi hz0 .i64 .i64 (n : Int) (n : Int) (by omega) (Int.le_refl _) (by rw [hz2]; omega) (by omega)
  rw [h, hz1]
  simp only [Int.toNat_natCast]
  rw [show (Value.agg #[.int .i64 0, .int .i64 0]).cells = #[.int .i64 0, .int .i64 0] from rfl, madeD]
end Go.Proofs.YtjhafgnmahhacaaGreatDoor
