/- Layer 10: the program's Links. -/
import Derived.Test.YtjhafgnmahhacaaGreatDoorTe18
import Derived.StringKeys
import Derived.Maps.OwnSet
namespace Go.Proofs.YtjhafgnmahhacaaGreatDoor
open Go.RowKit
open Go.Maps
def lnkI (k n : Nat) : List Int := List.replicate k (-1) ++ List.replicate (n - k) 0
theorem lnkI_set {k n : Nat} (h : k < n) : (lnkI k n).set k (-1) = lnkI (k + 1) n := by
  unfold lnkI
  rw [List.set_append_right _ _ (by simp)]
  simp only [List.length_replicate, Nat.sub_self]
  rw [show n - k = (n - (k + 1)) + 1 by omega, List.replicate_succ, List.set_cons_zero, List.replicate_succ', List.append_assoc]
  rfl
/-- The first label of a name from j on. -/
def lastF (c : List Ins) (j : Nat) (s : List UInt8) : Option Nat := ((c.drop j).findIdx? (labB s)).map (· + j)
theorem lastF_end (c : List Ins) (s : List UInt8) : lastF c c.length s = none := by simp [lastF]
theorem lastF_step {c : List Ins} {k : Nat} {x : Ins} (h : c[k]? = some x) (s : List UInt8) : lastF c k s = if labB s x then some k else lastF c (k + 1) s := by
  obtain ⟨h1, rfl⟩ := List.getElem?_eq_some_iff.1 h
  unfold lastF
  rw [List.drop_eq_getElem_cons h1, List.findIdx?_cons]
  split
  · simp
  · cases (c.drop (k + 1)).findIdx? (labB s) <;> simp; omega
theorem lastF_lab {c : List Ins} {k : Nat} {x : Ins} (h : c[k]? = some x) (hr : (x.op == 12) = true) (s : List UInt8) : lastF c k s = if s = x.label then some k else lastF c (k + 1) s := by
  rw [lastF_step h]
  by_cases e : s = x.label
  · subst e; simp [labB, hr]
  · have e2 : ¬ x.label = s := fun h => e h.symm
    simp [labB, e, e2]
theorem string_keyed : Keyed Tryz.prog 9 := Keyed.of_law (Go.WideMaps.string_law Tryz.underlying9)
/-- Block b is a map of texts that tells f. -/
def MapS (w : World) (b n : Nat) (f : List UInt8 → Option Nat) : Prop := ∃ D : DataW Unit, w.ownsMap Tryz.prog 9 (plainElem Tryz.prog 3) b n D ∧ IsMap D ∧ ∀ s, Maps.has D (.string s) = (f s).isSome ∧ D.atKey (.string s) (.lit (.int .i64 0)) = .lit (.int .i64 (((f s).getD 0 : Nat) : Int))
theorem MapS.of_obj {w : World} {b : Nat} (h : ObjAt w b (.map #[] 0)) : MapS w b 0 (fun _ => none) := by
  have hm := World.ownsMap_made (H := Unit) (P := Tryz.prog) (R := plainElem Tryz.prog 3) (k := 9) w
  obtain ⟨es, clock, hb, F⟩ := hm
  rw [heap_alloc_new] at hb
  simp only [Option.some.injEq, Obj.map.injEq] at hb
  obtain ⟨rfl, rfl⟩ := hb
  exact ⟨.map [], ⟨_, _, h, F⟩, isMap_empty, fun s => ⟨rfl, WideAt.atKey_none _ (fun p hp => by cases hp)⟩⟩
theorem MapS.put {D : DataW Unit} {f : List UInt8 → Option Nat} {k : Nat} {s : List UInt8} (hD : IsMap D) (h : ∀ s, Maps.has D (.string s) = (f s).isSome ∧ D.atKey (.string s) (.lit (.int .i64 0)) = .lit (.int .i64 (((f s).getD 0 : Nat) : Int))) {g : List UInt8 → Option Nat} (hg : ∀ r, g r = if r = s then some k else f r) :
    IsMap (D.put (.string s) (.lit (.int .i64 (k : Int)))) ∧ ∀ r, Maps.has (D.put (.string s) (.lit (.int .i64 (k : Int)))) (.string r) = (g r).isSome ∧ (D.put (.string s) (.lit (.int .i64 (k : Int)))).atKey (.string r) (.lit (.int .i64 0)) = .lit (.int .i64 (((g r).getD 0 : Nat) : Int)) := by
  refine ⟨hD.put _ _, fun r => ?_⟩
  by_cases e : r = s
  · subst e
    rw [has_put_same hD (show WideAt.IsKeyLit (.string r) from trivial), atKey_put_same hD (show WideAt.IsKeyLit (.string r) from trivial), hg]
    simp
  · rw [has_put_other (fun e2 => e (by injection e2)), atKey_put_other (fun e2 => e (by injection e2)), hg, if_neg e]
    exact h r
def lnkU (c : List Ins) (k : Nat) : Int := match c[k]? with
  | some x => if x.op == 11 then ((((lastF c 0 x.label).getD 0 : Nat)) : Int) else -1
  | none => -1
def lnkW (c : List Ins) (k n : Nat) : List Int := (List.range k).map (lnkU c) ++ List.replicate (n - k) (-1)
theorem lnkU_at {c : List Ins} {k : Nat} {x : Ins} (h : c[k]? = some x) : lnkU c k = if x.op == 11 then ((((lastF c 0 x.label).getD 0 : Nat)) : Int) else -1 := by simp [lnkU, h]
theorem lnkW_at {c : List Ins} {k n : Nat} (h : k < n) : (lnkW c k n)[k]? = some (-1) := by
  unfold lnkW
  rw [List.getElem?_append_right (by simp)]
  simp only [List.length_map, List.length_range, Nat.sub_self]
  rw [show n - k = (n - k - 1) + 1 by omega, List.replicate_succ]; rfl
theorem lnkW_set {c : List Ins} {k n : Nat} (h : k < n) : (lnkW c k n).set k (lnkU c k) = lnkW c (k + 1) n := by
  unfold lnkW
  rw [List.set_append_right _ _ (by simp)]
  simp only [List.length_map, List.length_range, Nat.sub_self]
  rw [show n - k = (n - (k + 1)) + 1 by omega, List.replicate_succ, List.set_cons_zero, List.range_succ, List.map_append, List.append_assoc]
  rfl
theorem lnkW_same {c : List Ins} {k n : Nat} (h : k < n) (hu : lnkU c k = -1) : lnkW c k n = lnkW c (k + 1) n := by
  rw [← lnkW_set h, hu]
  unfold lnkW
  rw [List.set_append_right _ _ (by simp)]
  simp only [List.length_map, List.length_range, Nat.sub_self]
  rw [show n - k = (n - k - 1) + 1 by omega, List.replicate_succ, List.set_cons_zero]
theorem ownsMap_alo {H : Type} {w : World} {P : Program} {k : TypeId} {R : Value → Option (DataW H × List MemPlace)} {b n : Nat} {D : DataW H} (h : w.ownsMap P k R b n D) (o : Obj) : (w.alloc o).ownsMap P k R b n D := by
  obtain ⟨es, clock, hb, F⟩ := h
  have hlt : b < w.heap.size := (Array.getElem?_eq_some_iff.1 hb).1
  exact ⟨es, clock, (Below.heap_alloc w o b hlt).trans hb, F⟩
theorem findIdx?_split {α : Type} {l : List α} {p : α → Bool} {m : Nat} (h : l.findIdx? p = some m) : m < l.length ∧ (∃ x, l[m]? = some x ∧ p x = true) ∧ ∀ j x, j < m → l[j]? = some x → p x = false := by
  rw [List.findIdx?_eq_some_iff_getElem] at h
  obtain ⟨h1, h2, h3⟩ := h
  refine ⟨h1, ⟨_, List.getElem?_eq_getElem h1, h2⟩, fun j x hj hx => ?_⟩
  obtain ⟨h4, rfl⟩ := List.getElem?_eq_some_iff.1 hx
  simpa using h3 j hj
theorem lastF_self {c : List Ins} {k : Nat} {x : Ins} (h : c[k]? = some x) (h12 : (x.op == 12) = true) : ∃ m, lastF c 0 x.label = some m ∧ m ≤ k ∧ (c.take k).any (labB x.label) = decide (m ≠ k) := by
  have hx : labB x.label x = true := by simp [labB, h12]
  cases hf : c.findIdx? (labB x.label) with
  | none =>
    rw [List.findIdx?_eq_none_iff] at hf
    have := hf x (List.mem_of_getElem? h)
    rw [hx] at this; cases this
  | some m =>
    obtain ⟨h1, ⟨y, hy, hyl⟩, h3⟩ := findIdx?_split hf
    have hmk : m ≤ k := by
      by_cases e : m ≤ k
      · exact e
      · have := h3 k x (by omega) h
        rw [hx] at this; cases this
    refine ⟨m, by simp [lastF, hf], hmk, ?_⟩
    by_cases e : m = k
    · subst e
      simp only [ne_eq, not_true_eq_false, decide_false]
      rw [List.any_eq_false]
      intro z hz
      obtain ⟨i, hi⟩ := List.getElem?_of_mem hz
      rw [List.getElem?_take] at hi
      split at hi
      · rename_i hlt; rw [h3 i z hlt hi]; simp
      · cases hi
    · rw [show decide (m ≠ k) = true by simpa using e, List.any_eq_true]
      refine ⟨y, ?_, hyl⟩
      apply List.mem_of_getElem? (i := m)
      rw [List.getElem?_take, if_pos (by omega)]
      exact hy
theorem lastF_none {c : List Ins} {s : List UInt8} (h : lastF c 0 s = none) (j : Nat) : (c.drop j).any (labB s) = false := by
  simp only [lastF, List.drop_zero, Option.map_eq_none_iff, List.findIdx?_eq_none_iff] at h
  rw [List.any_eq_false]
  intro x hx
  rw [h x (List.mem_of_mem_drop hx)]
  simp
theorem ownsMap_go {H : Type} {w w' : World} {P : Program} {k : TypeId} {R : Value → Option (DataW H × List MemPlace)} {b n : Nat} {D : DataW H} (h : w.ownsMap P k R b n D) (hb : Below w.heap.size w w') : w'.ownsMap P k R b n D := by
  obtain ⟨es, clock, ho, F⟩ := h
  exact ⟨es, clock, (hb.block b (Array.getElem?_eq_some_iff.1 ho).1).trans ho, F⟩
theorem ownsMap_far {H : Type} {w : World} {P : Program} {k : TypeId} {R : Value → Option (DataW H × List MemPlace)} {b n : Nat} {D : DataW H} (h : w.ownsMap P k R b n D) {p : Addr} (hp : b ≠ p.block) (u : Value) : (w.setCell p u).ownsMap P k R b n D := by
  obtain ⟨es, clock, ho, F⟩ := h
  exact ⟨es, clock, (Below.heap_setCell w p u b hp).trans ho, F⟩
theorem conLabN {l : List Ins} {n : Nat} (hn : l.length = n) (A : Option Addr) (cap : Nat) (s : List UInt8) (p : Nat) (w : World) (hlen : n ≤ 9223372036854775806) (hA : InsAt w A l) (hp : w.cell? ⟨p, 6, none⟩ = some (.string ⟨s.toArray⟩)) :
    Calls Tryz.prog 238 #[.slice A n cap, .func (.func 239) #[] #[.pointer (some ⟨p, 0, none⟩)]] w fun e w' => e = .returned (.bool (l.any (labB s))) ∧ Below w.heap.size w w' := by
  subst hn
  exact conLab l A cap s p w hlen hA hp
theorem InsAt.below' {w w' : World} {b o B : Nat} {c : List Ins} (h : InsAt w (some ⟨b, o, none⟩) c) (hb : Below B w w') (hB : B = w.heap.size := by rfl) : InsAt w' (some ⟨b, o, none⟩) c := by
  subst hB; exact h.below hb
theorem lnkU_eq {c : List Ins} (hl : ∀ j, j < c.length → lnkB c j = false) {k : Nat} (hk : k < c.length) : lnkU c k = lnkV c k := by
  have ex := List.getElem?_eq_getElem hk
  obtain ⟨x, hx⟩ : ∃ x, c[k] = x := ⟨_, rfl⟩
  rw [hx] at ex
  have hb := hl k hk
  rw [lnkB_at ex] at hb
  rw [lnkU_at ex]
  simp only [lnkV, ex]
  cases h11 : (x.op == 11)
  · simp
  · simp only [h11, Bool.true_and, Bool.or_eq_false_iff, Bool.not_eq_eq_eq_not, Bool.not_false] at hb
    simp only [if_true]
    congr 1
    have hany := hb.2
    cases hf : (c.drop (k + 1)).findIdx? (labB x.label) with
    | none =>
      rw [List.findIdx?_eq_none_iff] at hf
      rw [List.any_eq_true] at hany
      obtain ⟨y, hy, hyl⟩ := hany
      rw [hf y hy] at hyl; cases hyl
    | some i =>
      obtain ⟨h1, ⟨y, hy, hyl⟩, h3⟩ := findIdx?_split hf
      have hi : (c.drop (k + 1)).findIdx (labB x.label) = i := by
        rw [List.findIdx?_eq_some_iff_findIdx_eq] at hf; exact hf.2
      rw [hi]
      rw [List.getElem?_drop] at hy
      have hlab : y.label = x.label := by simp [labB] at hyl; exact hyl.2
      have hop : (y.op == 12) = true := by simp [labB] at hyl; simp [hyl.1]
      obtain ⟨m, hm, hmk, hbad⟩ := lastF_self hy hop
      have hb2 := hl (k + 1 + i) (by simp at h1; omega)
      rw [lnkB_at hy, hbad, hop] at hb2
      simp at hb2
      rw [hlab] at hm
      rw [hm]
      simp [hb2.1]
theorem lnkL_eq {c : List Ins} (he : (lnkE c).1 = 0) (hl : ∀ j, j < c.length → lnkB c j = false) : lnkL c = lnkW c c.length c.length := by
  unfold lnkL lnkW
  rw [if_pos he]
  simp only [Nat.sub_self, List.replicate_zero, List.append_nil]
  apply List.map_congr_left
  intro k hk
  exact (lnkU_eq hl (by simpa using hk)).symm
/-- What Links answers. -/
def LnkPost (c : List Ins) (w : World) (e : Ending) (w' : World) : Prop :=
  (((lnkE c).1 ≠ 0 ∧ e = .returned (.tuple #[.slice none 0 0, .int .i64 (lnkE c).1, .int .i64 ((lnkE c).2 : Int)])) ∨
    ((lnkE c).1 = 0 ∧ ∃ g, w.heap.size ≤ g ∧ e = .returned (.tuple #[.slice (some ⟨g, 0, none⟩) c.length c.length, .int .i64 0, .int .i64 0]) ∧ Blk w' g 3 (cellsI (lnkL c)))) ∧ Below w.heap.size w w'
theorem LnkPost.bad {c : List Ins} {w w' : World} {e : Ending} (h : (lnkE c).1 ≠ 0) (he : e = .returned (.tuple #[.slice none 0 0, .int .i64 (lnkE c).1, .int .i64 ((lnkE c).2 : Int)])) (hb : Below w.heap.size w w') : LnkPost c w e w' := ⟨Or.inl ⟨h, he⟩, hb⟩
theorem chkVPx (x : Ins) (w : World) (h : x.label.length ≤ 9223372036854775807) : Calls Tryz.prog 194 #[insL x] w fun e w' => e = .returned (.int .i64 (chkI (vinsL x))) ∧ Below w.heap.size w w' :=
  chkVP x.op x.d x.a x.b x.imm ⟨x.loc.toArray⟩ ⟨x.label.toArray⟩ x.fence w h
theorem lnkI_at {k n : Nat} (h : k < n) : (lnkI k n)[k]? = some 0 := by
  unfold lnkI
  rw [List.getElem?_append_right (by simp)]
  simp only [List.length_replicate, Nat.sub_self]
  rw [show n - k = (n - k - 1) + 1 by omega, List.replicate_succ]; rfl
section
set_option maxHeartbeats 4000000
set_option maxRecDepth 100000
theorem linksP (c : List Ins) (A : Option Addr) (cap : Nat) (w : World) (hlen : c.length ≤ 256) (hcap : c.length ≤ cap) (hA : InsAt w A c) :
    Calls Tryz.prog 167 #[.slice A c.length cap] w (LnkPost c w) := by
  have HA := Lib.hid hA
  have hmm := @run_makeMap Tryz.prog
  have hmk := mk_ints c.length (by omega)
  have h256 : ¬ (256 : Int) < (c.length : Int) := by omega
  clear hA
  go_enter Tryz.func167, Tryz.ntmps167
  go_wp2_with fail
  have HG := Lib.hid (Blk.new (w.alloc (.map #[] 0)) 3 (cellsI (List.replicate c.length 0)))
  have HM := Lib.hid ((ObjAt.new w (.map #[] 0)).alloc (.cells (cellsI (List.replicate c.length 0)) 3 (0, 0)))
  go_loopw [23] (fun i wr => ∃ k : Nat, k ≤ c.length ∧ i = .int .i64 k ∧ (∀ j, j < k → chkB c j = false) ∧ Blk wr (w.heap.size + 1) 3 (cellsI (lnkI k c.length)) ∧ ObjAt wr w.heap.size (.map #[] 0) ∧ Below w.heap.size w wr) (fun i _ => c.length - (intOf i).toNat)
  case atStart => exact ⟨0, Nat.zero_le _, rfl, fun j hj => absurd hj (Nat.not_lt_zero _), by simpa [lnkI] using HG.out, HM.out, below_2 _ _ _⟩
  case round =>
    obtain ⟨k, hk, rfl, hno, hg, hm, hb⟩ := hrel
    have HNO := Lib.hid hno
    have HGR := Lib.hid hg
    have HMR := Lib.hid hm
    have HBR := Lib.hid hb
    have hzr := hg.lt
    clear hno hg hm hb HG HM
    by_cases hlt : k < c.length
    · have ex := List.getElem?_eq_getElem hlt
      obtain ⟨x, hx⟩ : ∃ x, c[k] = x := ⟨_, rfl⟩
      rw [hx] at ex
      obtain ⟨b, o, rfl, hC⟩ := HA.out.at_ ex
      have hbl := hC.lt
      obtain ⟨c0, c1, c2, c3, c4, c5, c6, c7, l1, l2⟩ := hC.go HBR.out
      have HX := Lib.hid ex
      have HL2 := Lib.hid l2
      obtain ⟨r, hr⟩ : ∃ r, vinsL x = r := ⟨_, rfl⟩
      have HR := Lib.hid hr
      clear hx ex hC hr
      have HB1 := Lib.hid (alloc_b wr (.cells #[.int .i64 x.op, .int .i64 x.d, .int .i64 x.a, .int .i64 x.b, .int .i64 x.imm, .string ⟨x.loc.toArray⟩, .string ⟨x.label.toArray⟩, .int .i64 x.fence] 70 (0, 0)))
      have hkl : (k : Int) < (c.length : Int) := by omega
      cases r
      · go_wp2_with (go_at_call 194; refine (chkVPx x _ HL2.out).mono ?_; rw [HR.out]; rintro e w2 ⟨rfl, hb2⟩; have HB2 := Lib.hid (below_trans HB1.out hb2); clear hb2)
        refine bodyPost_ret (v := .tuple #[.slice none 0 0, .int .i64 91, .int .i64 (k : Int)]) (by simp [results, Tryz.results167, go_sem]) rfl ?_
        have e1 := lnkE_chk hlen hlt (by rw [chkB_at HX.out, HR.out]; rfl) HNO.out
        exact LnkPost.bad (by rw [e1]; simp) (by rw [e1]) (below_trans HBR.out HB2.out)
      · go_wp2_with (first | (go_at_call 194; refine (chkVPx x _ HL2.out).mono ?_; rw [HR.out]; rintro e w2 ⟨rfl, hb2⟩; have HB2 := Lib.hid (below_trans HB1.out hb2); have HG2 := Lib.hid (HGR.out.go HB2.out); have hc2 := (HG2.out.cell k).trans (cellsI_at (lnkI_at hlt)); have hf2 := HG2.out.frozen k; clear hb2))
        go_roundw
        case rel => exact ⟨k + 1, by omega, by go_num, fun j hj => by (rcases Nat.lt_succ_iff_lt_or_eq.1 hj with h | h); exact HNO.out j h; rw [h, chkB_at HX.out, HR.out]; rfl, by have := HG2.out.set_ k (.int .i64 (-1)); rwa [cellsI_set, lnkI_set hlt] at this, ((HMR.out.go HB2.out).far (by simp) _), (below_trans HBR.out HB2.out).setCell (by simp) _⟩
        case measure => simp [intOf]; omega
    · go_wp2_with fail
      have hkn : k = c.length := by omega
      subst hkn
      have HOK := Lib.hid HNO.out
      have HG0 := Lib.hid (by simpa [lnkI] using HGR.out : Blk wr (w.heap.size + 1) 3 (cellsI (List.replicate c.length (-1))))
      have HMS := Lib.hid (MapS.of_obj HMR.out)
      have HBW := Lib.hid HBR.out
      clear HNO HGR HMR HBR hk hlt
      obtain ⟨wa, hwa⟩ : ∃ wa : World, wa = wr := ⟨_, rfl⟩
      subst hwa
      go_loopw [9] (fun i wr => ∃ j cnt : Nat, j ≤ c.length ∧ i = .int .i64 ((j : Int) - 1) ∧ cnt ≤ c.length - j ∧ MapS wr w.heap.size cnt (lastF c j) ∧ Blk wr (w.heap.size + 1) 3 (cellsI (List.replicate c.length (-1))) ∧ Below w.heap.size w wr) (fun i _ => (intOf i + 1).toNat)
      case atStart => exact ⟨c.length, 0, Nat.le_refl _, rfl, Nat.zero_le _, by have := HMS.out; rwa [show (fun _ => none) = lastF c c.length from funext fun s => (lastF_end c s).symm] at this, HG0.out, HBW.out⟩
      case round =>
        obtain ⟨j, cnt, hj, rfl, hcnt, hms, hg, hb⟩ := hrel
        obtain ⟨D, hown, hD, hat⟩ := hms
        have HOWN := Lib.hid hown
        have HD := Lib.hid hD
        have HAT := Lib.hid hat
        have HGR := Lib.hid hg
        have HBR := Lib.hid hb
        have hzr := hg.lt
        clear hown hD hat hg hb HG0 HMS HBW
        by_cases h0 : 0 < j
        · obtain ⟨k, rfl⟩ : ∃ k, j = k + 1 := ⟨j - 1, by omega⟩
          have ex := List.getElem?_eq_getElem (show k < c.length by omega)
          obtain ⟨x, hx⟩ : ∃ x, c[k] = x := ⟨_, rfl⟩
          rw [hx] at ex
          obtain ⟨b, o, rfl, hC⟩ := HA.out.at_ ex
          have hbl := hC.lt
          obtain ⟨c0, c1, c2, c3, c4, c5, c6, c7, l1, l2⟩ := hC.go HBR.out
          have HX := Lib.hid ex
          have HKW := Lib.hid (Go.WideMaps.keyOf_string_mk (P := Tryz.prog) Tryz.underlying9 (s := ⟨x.label.toArray⟩) (by rw [str_size]; unfold maxLen; omega))
          clear hx ex hC
          have hk1 : (((k + 1 : Nat) : Int) - 1) = (k : Int) := by omega
          rw [hk1]
          clear hk1
          have hkl : (k : Int) < (c.length : Int) := by omega
          obtain ⟨r, hr⟩ : ∃ r, (x.op == 12) = r := ⟨_, rfl⟩
          cases r
          · have HF := Lib.hid (funext fun s => (by rw [lastF_step HX.out, show labB s x = false by simp [labB, hr], if_neg (by simp)] : lastF c k s = lastF c (k + 1) s))
            go_wp2_with fail
            go_roundw
            case rel => exact ⟨k, cnt, by omega, rfl, by omega, ⟨D, HOWN.out, HD.out, by rw [HF.out]; exact HAT.out⟩, HGR.out, HBR.out⟩
            case measure => simp [intOf]
          · have HF := Lib.hid (fun s => (lastF_lab HX.out hr s : lastF c k s = if s = x.label then some k else lastF c (k + 1) s))
            have HP := Lib.hid (MapS.put HD.out HAT.out HF.out)
            go_wp2_with (at_mapUpdate; refine wpList_mapUpdate_own _ rfl _ _ _ 310 rfl 9 3 string_keyed Tryz.underlying310 (plainElem Tryz.prog 3) w.heap.size cnt D rfl HOWN.out (by unfold maxLen; omega) _ _ (.string x.label) rfl rfl HKW.out (.lit (.int .i64 (k : Int))) [] (plainElem_int Tryz.underlying3 (WalkArith.wf_i64 (by omega))) ?_; intro w1 hown1 hgrow1; have HO1 := Lib.hid hown1; have HG1 := Lib.hid hgrow1; clear hown1 hgrow1)
            go_roundw
            case rel => exact ⟨k, cnt + 1, by omega, rfl, by omega, ⟨_, HO1.out, HP.out.1, HP.out.2⟩, HGR.out.only HG1.out (by omega), HBR.out.grown HG1.out (by omega) (fun j hj => by cases hj; exact Nat.le_refl _)⟩
            case measure => simp [intOf]
        · have hj0 : j = 0 := by omega
          subst hj0
          go_wp2_with fail
          have HMS := Lib.hid (⟨D, HOWN.out, HD.out, HAT.out⟩ : MapS wr w.heap.size cnt (lastF c 0))
          have HG0 := Lib.hid HGR.out
          have HBW := Lib.hid HBR.out
          clear HOWN HD HAT HGR HBR hj hzr
          obtain ⟨wb, hwb⟩ : ∃ wb : World, wb = wr := ⟨_, rfl⟩
          subst hwb
          go_loopw [58] (fun i wr => ∃ k : Nat, k ≤ c.length ∧ i = .int .i64 k ∧ (∀ j, j < k → lnkB c j = false) ∧ MapS wr w.heap.size cnt (lastF c 0) ∧ Blk wr (w.heap.size + 1) 3 (cellsI (lnkW c k c.length)) ∧ Below w.heap.size w wr) (fun i _ => c.length - (intOf i).toNat)
          case atStart => exact ⟨0, Nat.zero_le _, rfl, fun j hj => absurd hj (Nat.not_lt_zero _), HMS.out, by simpa [lnkW] using HG0.out, HBW.out⟩
          case round =>
            obtain ⟨k, hk, rfl, hno, hms, hg, hb⟩ := hrel
            obtain ⟨D, hown, hD, hat⟩ := hms
            have HNO := Lib.hid hno
            have HOWN := Lib.hid hown
            have HD := Lib.hid hD
            have HAT := Lib.hid hat
            have HGR := Lib.hid hg
            have HBR := Lib.hid hb
            have hzr := hg.lt
            clear hno hown hD hat hg hb HG0 HMS HBW
            by_cases hlt : k < c.length
            · have ex := List.getElem?_eq_getElem hlt
              obtain ⟨x, hx⟩ : ∃ x, c[k] = x := ⟨_, rfl⟩
              rw [hx] at ex
              obtain ⟨b, o, rfl, hC⟩ := HA.out.at_ ex
              have hbl := hC.lt
              obtain ⟨c0, c1, c2, c3, c4, c5, c6, c7, l1, l2⟩ := hC.go HBR.out
              have HX := Lib.hid ex
              have HKW := Lib.hid (Go.WideMaps.keyOf_string_mk (P := Tryz.prog) Tryz.underlying9 (s := ⟨x.label.toArray⟩) (by rw [str_size]; unfold maxLen; omega))
              have hkl : (k : Int) < (c.length : Int) := by omega
              clear hx ex hC
              have HOW2 := Lib.hid (ownsMap_alo HOWN.out (.cells #[.int .i64 x.op, .int .i64 x.d, .int .i64 x.a, .int .i64 x.b, .int .i64 x.imm, .string ⟨x.loc.toArray⟩, .string ⟨x.label.toArray⟩, .int .i64 x.fence] 70 (0, 0)))
              obtain ⟨q, hq⟩ : ∃ q, lastF c 0 x.label = q := ⟨_, rfl⟩
              have HQ := Lib.hid hq
              by_cases h12 : x.op = 12
              · have e12 : (x.op == 12) = true := by simp [h12]
                have e11 : (x.op == 11) = false := by simp [h12]
                obtain ⟨m, hm, hmk, hbad⟩ := lastF_self HX.out e12
                have hqm : q = some m := by rw [← hq, hm]
                subst hqm
                clear hq h12 hm
                by_cases hmk2 : m = k
                · have HLB : Hid (lnkB c k = false) := Lib.hid (by rw [lnkB_at HX.out, hbad]; simp [hmk2, e11])
                  have HLU : Hid (lnkU c k = -1) := Lib.hid (by rw [lnkU_at HX.out]; simp [e11])
                  have HM := Lib.hid hbad
                  subst hmk2
                  clear hbad hmk
                  go_wp2_with (at_lookup; refine wpList_lookup_own_ok_int _ rfl _ _ 310 rfl 9 3 .i64 string_keyed Tryz.underlying310 Tryz.underlying3 (zero_int _) w.heap.size cnt D rfl HOW2.out _ (.string x.label) rfl HKW.out ?_; intro cv hcv hwc; rw [(HAT.out x.label).2, HQ.out] at hcv; rw [(HAT.out x.label).1, HQ.out]; simp only [DataW.lit.injEq, Lit.int.injEq, true_and, Option.getD_some] at hcv; subst hcv; clear hwc)
                  go_roundw
                  case rel => exact ⟨_, _, _, _, _, _, _, _, ⟨m + 1, by omega, rfl, fun j hj => by (rcases Nat.lt_succ_iff_lt_or_eq.1 hj with h | h); exact HNO.out j h; rw [h]; exact HLB.out, ⟨D, HOW2.out, HD.out, HAT.out⟩, by rw [← lnkW_same hlt HLU.out]; exact HGR.out.alloc _, below_alloc HBR.out _⟩, rfl, rfl, rfl, rfl, rfl, rfl, rfl, by go_num⟩
                  case measure => simp [intOf]; omega
                · have HLB : Hid (lnkB c k = true) := Lib.hid (by rw [lnkB_at HX.out, hbad]; simp [hmk2, e12])
                  have em : ((m : Int) == (k : Int)) = false := by rw [beq_eq_false_iff_ne]; omega
                  have em2 : ((m : Int) != (k : Int)) = true := by rw [bne_iff_ne]; omega
                  clear hbad hmk hmk2
                  go_wp2_with (at_lookup; refine wpList_lookup_own_ok_int _ rfl _ _ 310 rfl 9 3 .i64 string_keyed Tryz.underlying310 Tryz.underlying3 (zero_int _) w.heap.size cnt D rfl HOW2.out _ (.string x.label) rfl HKW.out ?_; intro cv hcv hwc; rw [(HAT.out x.label).2, HQ.out] at hcv; rw [(HAT.out x.label).1, HQ.out]; simp only [DataW.lit.injEq, Lit.int.injEq, true_and, Option.getD_some] at hcv; subst hcv; clear hwc)
                  refine bodyPost_ret (v := .tuple #[.slice none 0 0, .int .i64 93, .int .i64 (k : Int)]) (by simp [results, Tryz.results167, go_sem]) rfl ?_
                  have e1 := lnkE_lnk hlen hlt HOK.out HLB.out HNO.out
                  exact LnkPost.bad (by rw [e1]; simp) (by rw [e1]) (below_alloc HBR.out _)
              · have e12 : (x.op == 12) = false := by simp [h12]
                clear h12
                by_cases h11 : x.op = 11
                · have e11 : (x.op == 11) = true := by simp [h11]
                  clear h11 hq
                  cases q with
                  | none =>
                    have HLB : Hid (lnkB c k = true) := Lib.hid (by rw [lnkB_at HX.out, lastF_none HQ.out (k + 1)]; simp [e11])
                    go_wp2_with (at_lookup; refine wpList_lookup_own_ok_int _ rfl _ _ 310 rfl 9 3 .i64 string_keyed Tryz.underlying310 Tryz.underlying3 (zero_int _) w.heap.size cnt D rfl HOW2.out _ (.string x.label) rfl HKW.out ?_; intro cv hcv hwc; rw [(HAT.out x.label).2, HQ.out] at hcv; rw [(HAT.out x.label).1, HQ.out]; simp only [DataW.lit.injEq, Lit.int.injEq, true_and, Option.getD_none] at hcv; subst hcv; clear hwc)
                    refine bodyPost_ret (v := .tuple #[.slice none 0 0, .int .i64 93, .int .i64 (k : Int)]) (by simp [results, Tryz.results167, go_sem]) rfl ?_
                    have e1 := lnkE_lnk hlen hlt HOK.out HLB.out HNO.out
                    exact LnkPost.bad (by rw [e1]; simp) (by rw [e1]) (below_alloc HBR.out _)
                  | some m =>
                    have HAL := Lib.hid (alloc_b wr (.cells #[.int .i64 x.op, .int .i64 x.d, .int .i64 x.a, .int .i64 x.b, .int .i64 x.imm, .string ⟨x.loc.toArray⟩, .string ⟨x.label.toArray⟩, .int .i64 x.fence] 70 (0, 0)))
                    have HDL := Lib.hid (List.length_drop (i := k + 1) (l := c))
                    have HDA := Lib.hid ((InsAt.drop (HA.out.below' HBR.out) (k + 1)).below HAL.out)
                    have HPL := Lib.hid (show (wr.alloc (.cells #[.int .i64 x.op, .int .i64 x.d, .int .i64 x.a, .int .i64 x.b, .int .i64 x.imm, .string ⟨x.loc.toArray⟩, .string ⟨x.label.toArray⟩, .int .i64 x.fence] 70 (0, 0))).cell? ⟨wr.heap.size, 6, none⟩ = some (.string ⟨x.label.toArray⟩) from (Blk.new wr 70 #[.int .i64 x.op, .int .i64 x.d, .int .i64 x.a, .int .i64 x.b, .int .i64 x.imm, .string ⟨x.loc.toArray⟩, .string ⟨x.label.toArray⟩, .int .i64 x.fence]).cell 6)
                    obtain ⟨r, hr⟩ : ∃ r, (c.drop (k + 1)).any (labB x.label) = r := ⟨_, rfl⟩
                    have HRR := Lib.hid hr
                    clear hr
                    cases r
                    · have HLB : Hid (lnkB c k = true) := Lib.hid (by rw [lnkB_at HX.out, HRR.out]; simp [e11])
                      by_cases hkc : cap = k + 1
                      · have HDN := Lib.hid (show ([] : List Ins).length = c.length - (k + 1) by simp; omega)
                        go_wp2_with (first | (at_lookup; refine wpList_lookup_own_ok_int _ rfl _ _ 310 rfl 9 3 .i64 string_keyed Tryz.underlying310 Tryz.underlying3 (zero_int _) w.heap.size cnt D rfl HOW2.out _ (.string x.label) rfl HKW.out ?_; intro cv hcv hwc; rw [(HAT.out x.label).2, HQ.out] at hcv; rw [(HAT.out x.label).1, HQ.out]; simp only [DataW.lit.injEq, Lit.int.injEq, true_and, Option.getD_some] at hcv; subst hcv; clear hwc) | (go_at_call 238; refine (conLabN HDN.out _ _ _ _ _ (by omega) (InsAt.nil _ _) HPL.out).mono ?_; rw [List.any_nil]; rintro e w2 ⟨rfl, hb2⟩; have HB2 := Lib.hid (below_trans HAL.out hb2); clear hb2))
                        refine bodyPost_ret (v := .tuple #[.slice none 0 0, .int .i64 93, .int .i64 (k : Int)]) (by simp [results, Tryz.results167, go_sem]) rfl ?_
                        have e1 := lnkE_lnk hlen hlt HOK.out HLB.out HNO.out
                        exact LnkPost.bad (by rw [e1]; simp) (by rw [e1]) (below_trans HBR.out HB2.out)
                      · skip
                        go_wp2_with (first | (at_lookup; refine wpList_lookup_own_ok_int _ rfl _ _ 310 rfl 9 3 .i64 string_keyed Tryz.underlying310 Tryz.underlying3 (zero_int _) w.heap.size cnt D rfl HOW2.out _ (.string x.label) rfl HKW.out ?_; intro cv hcv hwc; rw [(HAT.out x.label).2, HQ.out] at hcv; rw [(HAT.out x.label).1, HQ.out]; simp only [DataW.lit.injEq, Lit.int.injEq, true_and, Option.getD_some] at hcv; subst hcv; clear hwc) | (go_at_call 238; refine (conLabN HDL.out _ _ _ _ _ (by omega) HDA.out HPL.out).mono ?_; rw [HRR.out]; rintro e w2 ⟨rfl, hb2⟩; have HB2 := Lib.hid (below_trans HAL.out hb2); clear hb2))
                        refine bodyPost_ret (v := .tuple #[.slice none 0 0, .int .i64 93, .int .i64 (k : Int)]) (by simp [results, Tryz.results167, go_sem]) rfl ?_
                        have e1 := lnkE_lnk hlen hlt HOK.out HLB.out HNO.out
                        exact LnkPost.bad (by rw [e1]; simp) (by rw [e1]) (below_trans HBR.out HB2.out)
                    · have HLB : Hid (lnkB c k = false) := Lib.hid (by rw [lnkB_at HX.out, HRR.out]; simp [e12])
                      have hkc : ¬ cap = k + 1 := fun e => by have := HRR.out; rw [List.drop_of_length_le (by omega)] at this; cases this
                      have HLU : Hid (lnkU c k = (m : Int)) := Lib.hid (by rw [lnkU_at HX.out, HQ.out]; simp [e11])
                      go_wp2_with (first | (at_lookup; refine wpList_lookup_own_ok_int _ rfl _ _ 310 rfl 9 3 .i64 string_keyed Tryz.underlying310 Tryz.underlying3 (zero_int _) w.heap.size cnt D rfl HOW2.out _ (.string x.label) rfl HKW.out ?_; intro cv hcv hwc; rw [(HAT.out x.label).2, HQ.out] at hcv; rw [(HAT.out x.label).1, HQ.out]; simp only [DataW.lit.injEq, Lit.int.injEq, true_and, Option.getD_some] at hcv; subst hcv; clear hwc) | (go_at_call 238; refine (conLabN HDL.out _ _ _ _ _ (by omega) HDA.out HPL.out).mono ?_; rw [HRR.out]; rintro e w2 ⟨rfl, hb2⟩; have HB2 := Lib.hid (below_trans HAL.out hb2); have d0 : w2.cell? ⟨wr.heap.size, 0, none⟩ = some (.int .i64 x.op) := ((Blk.new wr 70 #[.int .i64 x.op, .int .i64 x.d, .int .i64 x.a, .int .i64 x.b, .int .i64 x.imm, .string ⟨x.loc.toArray⟩, .string ⟨x.label.toArray⟩, .int .i64 x.fence]).go hb2).cell 0; clear hb2; have HG2 := Lib.hid (HGR.out.go HB2.out); have hc2 := (HG2.out.cell k).trans (cellsI_at (lnkW_at hlt)); have hf2 := HG2.out.frozen k))
                      go_roundw
                      case rel => (repeat apply Exists.intro); refine ⟨?_, rfl⟩; exact ⟨k + 1, by omega, by go_num, fun j hj => by (rcases Nat.lt_succ_iff_lt_or_eq.1 hj with h | h); exact HNO.out j h; rw [h]; exact HLB.out, ⟨D, ownsMap_far (ownsMap_go HOWN.out HB2.out) (by simp) _, HD.out, HAT.out⟩, by have := HG2.out.set_ k (.int .i64 (m : Int)); rwa [cellsI_set, show (lnkW c k c.length).set k (m : Int) = lnkW c (k + 1) c.length by rw [← HLU.out, lnkW_set hlt]] at this, (below_trans HBR.out HB2.out).setCell (by simp) _⟩
                      case measure => simp [intOf]; omega
                · have e11 : (x.op == 11) = false := by simp [h11]
                  have HLB : Hid (lnkB c k = false) := Lib.hid (by rw [lnkB_at HX.out]; simp [e12, e11])
                  have HLU : Hid (lnkU c k = -1) := Lib.hid (by rw [lnkU_at HX.out]; simp [e11])
                  clear h11 hq
                  cases q
                  all_goals
                    go_wp2_with (at_lookup; refine wpList_lookup_own_ok_int _ rfl _ _ 310 rfl 9 3 .i64 string_keyed Tryz.underlying310 Tryz.underlying3 (zero_int _) w.heap.size cnt D rfl HOW2.out _ (.string x.label) rfl HKW.out ?_; intro cv hcv hwc; rw [(HAT.out x.label).2, HQ.out] at hcv; rw [(HAT.out x.label).1, HQ.out]; simp only [DataW.lit.injEq, Lit.int.injEq, true_and, Option.getD_some, Option.getD_none] at hcv; subst hcv; clear hwc)
                    go_roundw
                    case rel => exact ⟨_, _, _, _, _, _, _, _, ⟨k + 1, by omega, rfl, fun j hj => by (rcases Nat.lt_succ_iff_lt_or_eq.1 hj with h | h); exact HNO.out j h; rw [h]; exact HLB.out, ⟨D, HOW2.out, HD.out, HAT.out⟩, by rw [← lnkW_same hlt HLU.out]; exact HGR.out.alloc _, below_alloc HBR.out _⟩, rfl, rfl, rfl, rfl, rfl, rfl, rfl, by go_num⟩
                    case measure => simp [intOf]; omega
            · go_wp2_with fail
              have hkn : k = c.length := by omega
              subst hkn
              have e1 := lnkE_ok hlen HOK.out HNO.out
              refine bodyPost_ret (v := .tuple #[.slice (some ⟨w.heap.size + 1, 0, none⟩) c.length c.length, .int .i64 0, .int .i64 0]) (by simp [results, Tryz.results167, go_sem]) rfl ?_
              refine ⟨Or.inr ⟨by rw [e1], w.heap.size + 1, by omega, rfl, ?_⟩, HBR.out⟩
              rw [lnkL_eq (by rw [e1]) HNO.out]
              exact HGR.out
end
end Go.Proofs.YtjhafgnmahhacaaGreatDoor
