/- Layer 13: whether a test's initial state may be: plain, and the program's begun. -/
import Derived.Test.YtjhafgnmahhacaaGreatDoorTe26

namespace Go.Proofs.YtjhafgnmahhacaaGreatDoor
open Go.RowKit
open Go.Maps
abbrev iniK (x : Ini) : Th := (x.th, x.rg, x.loc)
def badI (a : Int) (n : Nat) (l : List Ini) (k : Nat) : Bool := match l[k]? with
  | some x => !firstB a n x || (l.take k).any (fun y => decide (iniK y = iniK x))
  | none => false
/-- Why an initial state may not be. -/
def iniE (a : Int) (n : Nat) (l : List Ini) : Int := if 1024 < l.length then 2 else match fst? (badI a n l) l.length with
  | some _ => 130
  | none => 0
theorem iniE_full {a : Int} {n : Nat} {l : List Ini} (h : 1024 < l.length) : iniE a n l = 2 := by simp [iniE, h]
theorem iniE_bad {a : Int} {n : Nat} {l : List Ini} {k : Nat} (h : l.length ≤ 1024) (hk : k < l.length) (h1 : badI a n l k = true) (hn : ∀ j, j < k → badI a n l j = false) : iniE a n l = 130 := by
  unfold iniE; rw [if_neg (by omega), fst_some hk h1 hn]
theorem iniE_ok {a : Int} {n : Nat} {l : List Ini} (h : l.length ≤ 1024) (hn : ∀ j, j < l.length → badI a n l j = false) : iniE a n l = 0 := by
  unfold iniE; rw [if_neg (by omega), fst_none hn]
theorem badI_at {a : Int} {n : Nat} {l : List Ini} {k : Nat} {x : Ini} (h : l[k]? = some x) : badI a n l k = (!firstB a n x || (l.take k).any (fun y => decide (iniK y = iniK x))) := by simp [badI, h]
theorem IniAt.at_ {w : World} {A : Option Addr} {l : List Ini} (h : IniAt w A l) {i : Nat} {x : Ini} (hx : l[i]? = some x) : ∃ b o, A = some ⟨b, o, none⟩ ∧ w.cell? ⟨b, o + i * 5, none⟩ = some (.int .i64 x.th) ∧ w.cell? ⟨b, o + i * 5 + 1, none⟩ = some (.int .i64 x.rg) ∧ w.cell? ⟨b, o + i * 5 + 2, none⟩ = some (.string ⟨x.loc.toArray⟩) ∧ w.cell? ⟨b, o + i * 5 + 3, none⟩ = some (.string ⟨x.vl.toArray⟩) ∧
    w.cell? ⟨b, o + i * 5 + 4, none⟩ = some (.int .i64 x.vn) ∧ x.loc.length ≤ 9223372036854775807 ∧ x.vl.length ≤ 9223372036854775807 ∧ (-9223372036854775808 ≤ x.th ∧ x.th ≤ 9223372036854775807) ∧ -9223372036854775808 ≤ x.rg ∧ x.rg ≤ 9223372036854775807 := h i x hx
def okI (x : Th) : Prop := (-9223372036854775808 ≤ x.1 ∧ x.1 ≤ 9223372036854775807) ∧ (-9223372036854775808 ≤ x.2.1 ∧ x.2.1 ≤ 9223372036854775807) ∧ x.2.2.length ≤ 9223372036854775807
theorem key_okI {x : Th} (h : okI x) : keyOf Tryz.prog 25 (thVal x.1 x.2.1 x.2.2) = some (klT x) :=
  key_thing _ _ _ (WalkArith.wf_i64 (by have := h.1; omega)) (WalkArith.wf_i64 (by have := h.2.1; omega)) h.2.2
theorem klT_injI {x y : Th} (hx : okI x) (hy : okI y) (h : klT x = klT y) : x = y := by
  have h1 := key_okI hx
  have h2 := key_okI hy
  rw [h] at h1
  have := law_thing.inj h1 h2
  obtain ⟨a, b, c⟩ := x
  obtain ⟨a', b', c'⟩ := y
  simp only [Value.agg.injEq, Array.mk.injEq, List.cons.injEq, Value.int.injEq, Value.string.injEq, true_and, and_true, ByteArray.mk.injEq] at this
  obtain ⟨rfl, rfl, h3⟩ := this
  first | subst h3 | (simp at h3; subst h3)
  rfl
/-- Block b is a map of things that tells which of the first ones were seen. -/
def MapSeen (w : World) (b n : Nat) (S : List Ini) : Prop := ∃ D : DataW Unit, w.ownsMap Tryz.prog 25 (plainElem Tryz.prog 3) b n D ∧ IsMap D ∧ ∀ x, okI x → ∃ v : Int, D.atKey (klT x) (.lit (.int .i64 0)) = .lit (.int .i64 v) ∧ decide (0 < v) = S.any (fun y => decide (iniK y = x))
theorem MapSeen.made (w : World) : MapSeen (w.alloc (.map #[] 0)) w.heap.size 0 [] :=
  ⟨.map [], World.ownsMap_made _ _ _ _, isMap_empty, fun x _ => ⟨0, WideAt.atKey_none _ (fun p hp => by cases hp), by simp⟩⟩
theorem MapSeen.put {D : DataW Unit} {S : List Ini} {y : Ini} {v : Int} (hy : okI (iniK y)) (hv : 0 < v) (hD : IsMap D) (h : ∀ x, okI x → ∃ v : Int, D.atKey (klT x) (.lit (.int .i64 0)) = .lit (.int .i64 v) ∧ decide (0 < v) = S.any (fun y => decide (iniK y = x))) :
    IsMap (D.put (klT (iniK y)) (.lit (.int .i64 v))) ∧ ∀ x, okI x → ∃ u : Int, (D.put (klT (iniK y)) (.lit (.int .i64 v))).atKey (klT x) (.lit (.int .i64 0)) = .lit (.int .i64 u) ∧ decide (0 < u) = (S ++ [y]).any (fun y => decide (iniK y = x)) := by
  refine ⟨hD.put _ _, fun x hx => ?_⟩
  by_cases e : x = iniK y
  · subst e
    refine ⟨v, atKey_put_same hD (show WideAt.IsKeyLit (klT (iniK y)) from trivial) _ _, ?_⟩
    simp [hv]
  · obtain ⟨u, h1, h2⟩ := h x hx
    refine ⟨u, by rw [atKey_put_other (fun e2 => e (klT_injI hx hy e2)), h1], ?_⟩
    have e' : ¬ iniK y = x := fun h => e h.symm
    rw [h2, List.any_append]
    simp [e']
theorem take_snocI {l : List Ini} {k : Nat} {x : Ini} (h : l[k]? = some x) : l.take (k + 1) = l.take k ++ [x] := by
  obtain ⟨h1, rfl⟩ := List.getElem?_eq_some_iff.1 h
  exact List.take_succ_eq_append_getElem h1
section
set_option maxHeartbeats 4000000
set_option maxRecDepth 100000
variable {w : World} {T : Tst} {Ai Ac : Option Addr} {kv : Value}
theorem begunP_1 (ci cc : Nat) (ha : T.arch = 1) (hT : TstAt w T Ai Ac kv) : Calls Tryz.prog 126 #[testV T (.slice Ai T.init.length ci) (.slice Ac T.code.length cc) kv] w fun e w' => e = .returned (.int .i64 (iniE 1 T.code.length T.init)) ∧ Below w.heap.size w w' := by
  obtain ⟨n, hn⟩ : ∃ n, T.init.length = n := ⟨_, rfl⟩
  have HI := Lib.hid hT.init
  have HFST := Lib.hid (fun (x : Ini) (h1 : x.loc.length ≤ 9223372036854775807) (h2 : x.vl.length ≤ 9223372036854775807) (w : World) => firstP_1 (w := w) (Ai := Ai) (Ac := Ac) (kv := kv) ci cc x ha h1 h2)
  have hil := hT.ilen
  simp only [testV, ha] at HFST ⊢
  have HN := Lib.hid hn
  rw [hn] at hil HFST ⊢
  have hmm := @run_makeMap Tryz.prog
  have HBX := Lib.hid ((Blk.new w 32 #[.int .i64 1, .string ⟨T.name.toArray⟩, .string ⟨T.cycle.toArray⟩, .slice Ai n ci, .slice Ac T.code.length cc, .int .i64 T.q, .int .i64 T.k, .int .i64 T.t, .int .i64 T.r, .string ⟨T.l.toArray⟩, .int .i64 T.v, kv]).alloc (.map #[] 0))
  have HB0 := Lib.hid (below_2 w (.cells #[.int .i64 1, .string ⟨T.name.toArray⟩, .string ⟨T.cycle.toArray⟩, .slice Ai n ci, .slice Ac T.code.length cc, .int .i64 T.q, .int .i64 T.k, .int .i64 T.t, .int .i64 T.r, .string ⟨T.l.toArray⟩, .int .i64 T.v, kv] 32 (0, 0)) (.map #[] 0))
  have HMS := Lib.hid (MapSeen.made (w.alloc (.cells #[.int .i64 1, .string ⟨T.name.toArray⟩, .string ⟨T.cycle.toArray⟩, .slice Ai n ci, .slice Ac T.code.length cc, .int .i64 T.q, .int .i64 T.k, .int .i64 T.t, .int .i64 T.r, .string ⟨T.l.toArray⟩, .int .i64 T.v, kv] 32 (0, 0))))
  have hsz0 : (w.alloc (.cells #[.int .i64 1, .string ⟨T.name.toArray⟩, .string ⟨T.cycle.toArray⟩, .slice Ai n ci, .slice Ac T.code.length cc, .int .i64 T.q, .int .i64 T.k, .int .i64 T.t, .int .i64 T.r, .string ⟨T.l.toArray⟩, .int .i64 T.v, kv] 32 (0, 0))).heap.size = w.heap.size + 1 := by simp
  rw [hsz0] at HMS
  clear hT ha hn hsz0
  by_cases hbig : 1024 < n
  · have HV := Lib.hid (iniE_full (a := 1) (n := T.code.length) (show 1024 < T.init.length by rw [HN.out]; exact hbig))
    go_enter Tryz.func126, Tryz.ntmps126
    go_wp2_with fail
    go_ret
    exact ⟨ret_int HV.out.symm, alloc_b _ _⟩
  · have HL := Lib.hid (show T.init.length ≤ 1024 by rw [HN.out]; omega)
    go_enter Tryz.func126, Tryz.ntmps126
    go_wp2_with fail
    generalize hw1 : (w.alloc (.cells #[.int .i64 1, .string ⟨T.name.toArray⟩, .string ⟨T.cycle.toArray⟩, .slice Ai n ci, .slice Ac T.code.length cc, .int .i64 T.q, .int .i64 T.k, .int .i64 T.t, .int .i64 T.r, .string ⟨T.l.toArray⟩, .int .i64 T.v, kv] 32 (0, 0))).alloc (.map #[] 0) = w1 at HBX HB0 HMS ⊢
    have hsz : w.heap.size + 1 < w1.heap.size := by rw [← hw1]; simp
    clear hw1
    go_loopw [15] (fun i wr => ∃ k cnt : Nat, k ≤ n ∧ i = .int .i64 k ∧ cnt ≤ k ∧ (∀ j, j < k → badI 1 T.code.length T.init j = false) ∧ MapSeen wr (w.heap.size + 1) cnt (T.init.take k) ∧ Below (w.heap.size + 1) w1 wr) (fun i _ => n - (intOf i).toNat)
    case atStart => exact ⟨0, 0, Nat.zero_le _, rfl, Nat.zero_le _, (fun j hj => absurd hj (Nat.not_lt_zero _)), HMS.out, Below.refl _ _⟩
    case round =>
      obtain ⟨k, cnt, hk, rfl, hcnt, hno, hms, hb⟩ := hrel
      obtain ⟨D, hown, hD, hat⟩ := hms
      have HNO := Lib.hid hno
      have HOWN := Lib.hid hown
      have HD := Lib.hid hD
      have HAT := Lib.hid hat
      have HBR := Lib.hid hb
      have hzr := hb.size
      have hzo : w.heap.size + 1 < wr.heap.size := by omega
      have hzo2 : w.heap.size < wr.heap.size := by omega
      clear hno hown hD hat hb HMS
      by_cases hlt : k < n
      · have hlk : k < T.init.length := by rw [HN.out]; exact hlt
        have ex := List.getElem?_eq_getElem hlk
        obtain ⟨x, hx⟩ : ∃ x, T.init[k] = x := ⟨_, rfl⟩
        rw [hx] at ex
        obtain ⟨b, o, rfl, c0, c1, c2, c3, c4, l1, l2, l3, l4⟩ := HI.out.at_ ex
        have hbl : b < w.heap.size := World.block_lt_of_cell? w _ c0
        have HBWR := Lib.hid (HB0.out.trans (HBR.out.mono (by omega)))
        have d0 := cell_go' c0 HBWR.out hbl
        have d1 := cell_go' c1 HBWR.out hbl
        have d2 := cell_go' c2 HBWR.out hbl
        have d3 := cell_go' c3 HBWR.out hbl
        have d4 := cell_go' c4 HBWR.out hbl
        have hblr : b < wr.heap.size := by omega
        have HX := Lib.hid ex
        have HOK := Lib.hid (show okI (iniK x) from ⟨l3, l4, l1⟩)
        have HKW := Lib.hid (key_okI HOK.out)
        have HF2 := Lib.hid (HFST.out x l1 l2)
        clear ex hx hlk c0 c1 c2 c3 c4 l1 l2 l3 l4 HFST
        have HFST := HF2
        clear HF2
        have hkn : (k : Int) < (n : Int) := by omega
        obtain ⟨v, hv1, hv2⟩ := HAT.out (iniK x) HOK.out
        have HAX := Lib.hid (And.intro hv1 hv2)
        have HB1 := Lib.hid (below_2 wr (.cells #[.int .i64 x.th, .int .i64 x.rg, .string ⟨x.loc.toArray⟩, .string ⟨x.vl.toArray⟩, .int .i64 x.vn] 131 (0, 0)) (.cells #[.int .i64 x.th, .int .i64 x.rg, .string ⟨x.loc.toArray⟩] 25 (0, 0)))
        have HOW2 := Lib.hid (ownsMap_alo (ownsMap_alo HOWN.out (.cells #[.int .i64 x.th, .int .i64 x.rg, .string ⟨x.loc.toArray⟩, .string ⟨x.vl.toArray⟩, .int .i64 x.vn] 131 (0, 0))) (.cells #[.int .i64 x.th, .int .i64 x.rg, .string ⟨x.loc.toArray⟩] 25 (0, 0)))
        have HBR1 := Lib.hid ((HBX.out.below HBR.out (by omega)))
        have k0 := HBR1.out.cell 0
        have k1 := HBR1.out.cell 1
        have k2 := HBR1.out.cell 2
        have k3 := HBR1.out.cell 3
        have k4 := HBR1.out.cell 4
        have k5 := HBR1.out.cell 5
        have k6 := HBR1.out.cell 6
        have k7 := HBR1.out.cell 7
        have k8 := HBR1.out.cell 8
        have k9 := HBR1.out.cell 9
        have k10 := HBR1.out.cell 10
        have k11 := HBR1.out.cell 11
        obtain ⟨f, hf⟩ : ∃ f, firstB 1 T.code.length x = f := ⟨_, rfl⟩
        have HFB := Lib.hid hf
        clear hf hv1
        by_cases hvp : 0 < v
        · have HBAD := Lib.hid (iniE_bad (a := 1) (n := T.code.length) HL.out (by rw [HN.out]; exact hlt) (by rw [badI_at HX.out, ← hv2]; simp [hvp]) HNO.out)
          clear hv2
          go_wp2_with (at_lookup; refine wpList_lookup_own_int _ rfl _ _ 278 rfl 25 3 .i64 law_thing Tryz.underlying278 Tryz.underlying3 (zero_int _) (w.heap.size + 1) cnt D rfl HOW2.out _ (klT (iniK x)) rfl HKW.out ?_; intro cv hcv hwc; rw [HAX.out.1] at hcv; simp only [DataW.lit.injEq, Lit.int.injEq, true_and] at hcv; subst hcv; clear hwc)
          go_ret
          exact ⟨ret_int HBAD.out.symm, below_trans HBWR.out HB1.out⟩
        · have hvp2 : v ≤ 0 := by omega
          cases f
          · have HBAD := Lib.hid (iniE_bad (a := 1) (n := T.code.length) HL.out (by rw [HN.out]; exact hlt) (by rw [badI_at HX.out, HFB.out]; rfl) HNO.out)
            clear hv2
            go_wp2_with (first | (at_lookup; refine wpList_lookup_own_int _ rfl _ _ 278 rfl 25 3 .i64 law_thing Tryz.underlying278 Tryz.underlying3 (zero_int _) (w.heap.size + 1) cnt D rfl HOW2.out _ (klT (iniK x)) rfl HKW.out ?_; intro cv hcv hwc; rw [HAX.out.1] at hcv; simp only [DataW.lit.injEq, Lit.int.injEq, true_and] at hcv; subst hcv; clear hwc) | (go_at_call 195; refine (HFST.out _).mono ?_; rw [HFB.out]; rintro e w2 ⟨rfl, hb2⟩; have HB2 := Lib.hid hb2; clear hb2))
            go_ret
            exact ⟨ret_int HBAD.out.symm, below_trans HBWR.out (below_trans HB1.out HB2.out)⟩
          · have HGOOD := Lib.hid (show badI 1 T.code.length T.init k = false by rw [badI_at HX.out, HFB.out, ← hv2]; simp [hvp])
            clear hv2
            have HTH := Lib.hid (blkN1 wr (.cells #[.int .i64 x.th, .int .i64 x.rg, .string ⟨x.loc.toArray⟩, .string ⟨x.vl.toArray⟩, .int .i64 x.vn] 131 (0, 0)) 25 #[.int .i64 x.th, .int .i64 x.rg, .string ⟨x.loc.toArray⟩])
            have HP := Lib.hid (MapSeen.put (S := T.init.take k) (v := (k : Int) + 1) HOK.out (by omega) HD.out HAT.out)
            go_wp2_with (first | (at_lookup; refine wpList_lookup_own_int _ rfl _ _ 278 rfl 25 3 .i64 law_thing Tryz.underlying278 Tryz.underlying3 (zero_int _) (w.heap.size + 1) cnt D rfl HOW2.out _ (klT (iniK x)) rfl HKW.out ?_; intro cv hcv hwc; rw [HAX.out.1] at hcv; simp only [DataW.lit.injEq, Lit.int.injEq, true_and] at hcv; subst hcv; clear hwc) | (go_at_call 195; refine (HFST.out _).mono ?_; rw [HFB.out]; rintro e w2 ⟨rfl, hb2⟩; have HB2 := Lib.hid hb2; clear hb2; have HOW3 := Lib.hid (ownsMap_go HOW2.out HB2.out); have hz2 := (below_trans HB1.out HB2.out).size; have g0 := (HTH.out.go HB2.out).cell 0; have g1 := (HTH.out.go HB2.out).cell 1; have g2 := (HTH.out.go HB2.out).cell 2) | (at_mapUpdate; refine wpList_mapUpdate_own _ rfl _ _ _ 278 rfl 25 3 law_thing Tryz.underlying278 (plainElem Tryz.prog 3) (w.heap.size + 1) cnt D rfl HOW3.out (by unfold maxLen; omega) _ _ (klT (iniK x)) rfl rfl HKW.out (.lit (.int .i64 ((k : Int) + 1))) [] (plainElem_int Tryz.underlying3 (WalkArith.wf_i64 (by omega))) ?_; intro w1 hown1 hgrow1; have HO1 := Lib.hid hown1; have HG1 := Lib.hid hgrow1; clear hown1 hgrow1))
            go_roundw
            case rel => exact ⟨k + 1, cnt + 1, by omega, by go_num, by omega, (fun j hj => by (rcases Nat.lt_succ_iff_lt_or_eq.1 hj with h | h); exact HNO.out j h; rw [h]; exact HGOOD.out), ⟨_, HO1.out, HP.out.1, by rw [take_snocI HX.out]; exact HP.out.2⟩, (HBR.out.trans ((below_trans HB1.out HB2.out).mono (by omega))).grown HG1.out (by have := hz2; omega) (fun j hj => by cases hj; exact Nat.le_refl _)⟩
            case measure => simp [intOf]; omega
      · have HV := Lib.hid (iniE_ok (a := 1) (n := T.code.length) HL.out (fun j hj => HNO.out j (by have := HN.out; omega)))
        go_wp2_with fail
        go_ret
        exact ⟨ret_int HV.out.symm, HB0.out.trans (HBR.out.mono (by omega))⟩
theorem begunP_2 (ci cc : Nat) (ha : T.arch = 2) (hT : TstAt w T Ai Ac kv) : Calls Tryz.prog 126 #[testV T (.slice Ai T.init.length ci) (.slice Ac T.code.length cc) kv] w fun e w' => e = .returned (.int .i64 (iniE 2 T.code.length T.init)) ∧ Below w.heap.size w w' := by
  obtain ⟨n, hn⟩ : ∃ n, T.init.length = n := ⟨_, rfl⟩
  have HI := Lib.hid hT.init
  have HFST := Lib.hid (fun (x : Ini) (h1 : x.loc.length ≤ 9223372036854775807) (h2 : x.vl.length ≤ 9223372036854775807) (w : World) => firstP_2 (w := w) (Ai := Ai) (Ac := Ac) (kv := kv) ci cc x ha h1 h2)
  have hil := hT.ilen
  simp only [testV, ha] at HFST ⊢
  have HN := Lib.hid hn
  rw [hn] at hil HFST ⊢
  have hmm := @run_makeMap Tryz.prog
  have HBX := Lib.hid ((Blk.new w 32 #[.int .i64 2, .string ⟨T.name.toArray⟩, .string ⟨T.cycle.toArray⟩, .slice Ai n ci, .slice Ac T.code.length cc, .int .i64 T.q, .int .i64 T.k, .int .i64 T.t, .int .i64 T.r, .string ⟨T.l.toArray⟩, .int .i64 T.v, kv]).alloc (.map #[] 0))
  have HB0 := Lib.hid (below_2 w (.cells #[.int .i64 2, .string ⟨T.name.toArray⟩, .string ⟨T.cycle.toArray⟩, .slice Ai n ci, .slice Ac T.code.length cc, .int .i64 T.q, .int .i64 T.k, .int .i64 T.t, .int .i64 T.r, .string ⟨T.l.toArray⟩, .int .i64 T.v, kv] 32 (0, 0)) (.map #[] 0))
  have HMS := Lib.hid (MapSeen.made (w.alloc (.cells #[.int .i64 2, .string ⟨T.name.toArray⟩, .string ⟨T.cycle.toArray⟩, .slice Ai n ci, .slice Ac T.code.length cc, .int .i64 T.q, .int .i64 T.k, .int .i64 T.t, .int .i64 T.r, .string ⟨T.l.toArray⟩, .int .i64 T.v, kv] 32 (0, 0))))
  have hsz0 : (w.alloc (.cells #[.int .i64 2, .string ⟨T.name.toArray⟩, .string ⟨T.cycle.toArray⟩, .slice Ai n ci, .slice Ac T.code.length cc, .int .i64 T.q, .int .i64 T.k, .int .i64 T.t, .int .i64 T.r, .string ⟨T.l.toArray⟩, .int .i64 T.v, kv] 32 (0, 0))).heap.size = w.heap.size + 1 := by simp
  rw [hsz0] at HMS
  clear hT ha hn hsz0
  by_cases hbig : 1024 < n
  · have HV := Lib.hid (iniE_full (a := 2) (n := T.code.length) (show 1024 < T.init.length by rw [HN.out]; exact hbig))
    go_enter Tryz.func126, Tryz.ntmps126
    go_wp2_with fail
    go_ret
    exact ⟨ret_int HV.out.symm, alloc_b _ _⟩
  · have HL := Lib.hid (show T.init.length ≤ 1024 by rw [HN.out]; omega)
    go_enter Tryz.func126, Tryz.ntmps126
    go_wp2_with fail
    generalize hw1 : (w.alloc (.cells #[.int .i64 2, .string ⟨T.name.toArray⟩, .string ⟨T.cycle.toArray⟩, .slice Ai n ci, .slice Ac T.code.length cc, .int .i64 T.q, .int .i64 T.k, .int .i64 T.t, .int .i64 T.r, .string ⟨T.l.toArray⟩, .int .i64 T.v, kv] 32 (0, 0))).alloc (.map #[] 0) = w1 at HBX HB0 HMS ⊢
    have hsz : w.heap.size + 1 < w1.heap.size := by rw [← hw1]; simp
    clear hw1
    go_loopw [15] (fun i wr => ∃ k cnt : Nat, k ≤ n ∧ i = .int .i64 k ∧ cnt ≤ k ∧ (∀ j, j < k → badI 2 T.code.length T.init j = false) ∧ MapSeen wr (w.heap.size + 1) cnt (T.init.take k) ∧ Below (w.heap.size + 1) w1 wr) (fun i _ => n - (intOf i).toNat)
    case atStart => exact ⟨0, 0, Nat.zero_le _, rfl, Nat.zero_le _, (fun j hj => absurd hj (Nat.not_lt_zero _)), HMS.out, Below.refl _ _⟩
    case round =>
      obtain ⟨k, cnt, hk, rfl, hcnt, hno, hms, hb⟩ := hrel
      obtain ⟨D, hown, hD, hat⟩ := hms
      have HNO := Lib.hid hno
      have HOWN := Lib.hid hown
      have HD := Lib.hid hD
      have HAT := Lib.hid hat
      have HBR := Lib.hid hb
      have hzr := hb.size
      have hzo : w.heap.size + 1 < wr.heap.size := by omega
      have hzo2 : w.heap.size < wr.heap.size := by omega
      clear hno hown hD hat hb HMS
      by_cases hlt : k < n
      · have hlk : k < T.init.length := by rw [HN.out]; exact hlt
        have ex := List.getElem?_eq_getElem hlk
        obtain ⟨x, hx⟩ : ∃ x, T.init[k] = x := ⟨_, rfl⟩
        rw [hx] at ex
        obtain ⟨b, o, rfl, c0, c1, c2, c3, c4, l1, l2, l3, l4⟩ := HI.out.at_ ex
        have hbl : b < w.heap.size := World.block_lt_of_cell? w _ c0
        have HBWR := Lib.hid (HB0.out.trans (HBR.out.mono (by omega)))
        have d0 := cell_go' c0 HBWR.out hbl
        have d1 := cell_go' c1 HBWR.out hbl
        have d2 := cell_go' c2 HBWR.out hbl
        have d3 := cell_go' c3 HBWR.out hbl
        have d4 := cell_go' c4 HBWR.out hbl
        have hblr : b < wr.heap.size := by omega
        have HX := Lib.hid ex
        have HOK := Lib.hid (show okI (iniK x) from ⟨l3, l4, l1⟩)
        have HKW := Lib.hid (key_okI HOK.out)
        have HF2 := Lib.hid (HFST.out x l1 l2)
        clear ex hx hlk c0 c1 c2 c3 c4 l1 l2 l3 l4 HFST
        have HFST := HF2
        clear HF2
        have hkn : (k : Int) < (n : Int) := by omega
        obtain ⟨v, hv1, hv2⟩ := HAT.out (iniK x) HOK.out
        have HAX := Lib.hid (And.intro hv1 hv2)
        have HB1 := Lib.hid (below_2 wr (.cells #[.int .i64 x.th, .int .i64 x.rg, .string ⟨x.loc.toArray⟩, .string ⟨x.vl.toArray⟩, .int .i64 x.vn] 131 (0, 0)) (.cells #[.int .i64 x.th, .int .i64 x.rg, .string ⟨x.loc.toArray⟩] 25 (0, 0)))
        have HOW2 := Lib.hid (ownsMap_alo (ownsMap_alo HOWN.out (.cells #[.int .i64 x.th, .int .i64 x.rg, .string ⟨x.loc.toArray⟩, .string ⟨x.vl.toArray⟩, .int .i64 x.vn] 131 (0, 0))) (.cells #[.int .i64 x.th, .int .i64 x.rg, .string ⟨x.loc.toArray⟩] 25 (0, 0)))
        have HBR1 := Lib.hid ((HBX.out.below HBR.out (by omega)))
        have k0 := HBR1.out.cell 0
        have k1 := HBR1.out.cell 1
        have k2 := HBR1.out.cell 2
        have k3 := HBR1.out.cell 3
        have k4 := HBR1.out.cell 4
        have k5 := HBR1.out.cell 5
        have k6 := HBR1.out.cell 6
        have k7 := HBR1.out.cell 7
        have k8 := HBR1.out.cell 8
        have k9 := HBR1.out.cell 9
        have k10 := HBR1.out.cell 10
        have k11 := HBR1.out.cell 11
        obtain ⟨f, hf⟩ : ∃ f, firstB 2 T.code.length x = f := ⟨_, rfl⟩
        have HFB := Lib.hid hf
        clear hf hv1
        by_cases hvp : 0 < v
        · have HBAD := Lib.hid (iniE_bad (a := 2) (n := T.code.length) HL.out (by rw [HN.out]; exact hlt) (by rw [badI_at HX.out, ← hv2]; simp [hvp]) HNO.out)
          clear hv2
          go_wp2_with (at_lookup; refine wpList_lookup_own_int _ rfl _ _ 278 rfl 25 3 .i64 law_thing Tryz.underlying278 Tryz.underlying3 (zero_int _) (w.heap.size + 1) cnt D rfl HOW2.out _ (klT (iniK x)) rfl HKW.out ?_; intro cv hcv hwc; rw [HAX.out.1] at hcv; simp only [DataW.lit.injEq, Lit.int.injEq, true_and] at hcv; subst hcv; clear hwc)
          go_ret
          exact ⟨ret_int HBAD.out.symm, below_trans HBWR.out HB1.out⟩
        · have hvp2 : v ≤ 0 := by omega
          cases f
          · have HBAD := Lib.hid (iniE_bad (a := 2) (n := T.code.length) HL.out (by rw [HN.out]; exact hlt) (by rw [badI_at HX.out, HFB.out]; rfl) HNO.out)
            clear hv2
            go_wp2_with (first | (at_lookup; refine wpList_lookup_own_int _ rfl _ _ 278 rfl 25 3 .i64 law_thing Tryz.underlying278 Tryz.underlying3 (zero_int _) (w.heap.size + 1) cnt D rfl HOW2.out _ (klT (iniK x)) rfl HKW.out ?_; intro cv hcv hwc; rw [HAX.out.1] at hcv; simp only [DataW.lit.injEq, Lit.int.injEq, true_and] at hcv; subst hcv; clear hwc) | (go_at_call 195; refine (HFST.out _).mono ?_; rw [HFB.out]; rintro e w2 ⟨rfl, hb2⟩; have HB2 := Lib.hid hb2; clear hb2))
            go_ret
            exact ⟨ret_int HBAD.out.symm, below_trans HBWR.out (below_trans HB1.out HB2.out)⟩
          · have HGOOD := Lib.hid (show badI 2 T.code.length T.init k = false by rw [badI_at HX.out, HFB.out, ← hv2]; simp [hvp])
            clear hv2
            have HTH := Lib.hid (blkN1 wr (.cells #[.int .i64 x.th, .int .i64 x.rg, .string ⟨x.loc.toArray⟩, .string ⟨x.vl.toArray⟩, .int .i64 x.vn] 131 (0, 0)) 25 #[.int .i64 x.th, .int .i64 x.rg, .string ⟨x.loc.toArray⟩])
            have HP := Lib.hid (MapSeen.put (S := T.init.take k) (v := (k : Int) + 1) HOK.out (by omega) HD.out HAT.out)
            go_wp2_with (first | (at_lookup; refine wpList_lookup_own_int _ rfl _ _ 278 rfl 25 3 .i64 law_thing Tryz.underlying278 Tryz.underlying3 (zero_int _) (w.heap.size + 1) cnt D rfl HOW2.out _ (klT (iniK x)) rfl HKW.out ?_; intro cv hcv hwc; rw [HAX.out.1] at hcv; simp only [DataW.lit.injEq, Lit.int.injEq, true_and] at hcv; subst hcv; clear hwc) | (go_at_call 195; refine (HFST.out _).mono ?_; rw [HFB.out]; rintro e w2 ⟨rfl, hb2⟩; have HB2 := Lib.hid hb2; clear hb2; have HOW3 := Lib.hid (ownsMap_go HOW2.out HB2.out); have hz2 := (below_trans HB1.out HB2.out).size; have g0 := (HTH.out.go HB2.out).cell 0; have g1 := (HTH.out.go HB2.out).cell 1; have g2 := (HTH.out.go HB2.out).cell 2) | (at_mapUpdate; refine wpList_mapUpdate_own _ rfl _ _ _ 278 rfl 25 3 law_thing Tryz.underlying278 (plainElem Tryz.prog 3) (w.heap.size + 1) cnt D rfl HOW3.out (by unfold maxLen; omega) _ _ (klT (iniK x)) rfl rfl HKW.out (.lit (.int .i64 ((k : Int) + 1))) [] (plainElem_int Tryz.underlying3 (WalkArith.wf_i64 (by omega))) ?_; intro w1 hown1 hgrow1; have HO1 := Lib.hid hown1; have HG1 := Lib.hid hgrow1; clear hown1 hgrow1))
            go_roundw
            case rel => exact ⟨k + 1, cnt + 1, by omega, by go_num, by omega, (fun j hj => by (rcases Nat.lt_succ_iff_lt_or_eq.1 hj with h | h); exact HNO.out j h; rw [h]; exact HGOOD.out), ⟨_, HO1.out, HP.out.1, by rw [take_snocI HX.out]; exact HP.out.2⟩, (HBR.out.trans ((below_trans HB1.out HB2.out).mono (by omega))).grown HG1.out (by have := hz2; omega) (fun j hj => by cases hj; exact Nat.le_refl _)⟩
            case measure => simp [intOf]; omega
      · have HV := Lib.hid (iniE_ok (a := 2) (n := T.code.length) HL.out (fun j hj => HNO.out j (by have := HN.out; omega)))
        go_wp2_with fail
        go_ret
        exact ⟨ret_int HV.out.symm, HB0.out.trans (HBR.out.mono (by omega))⟩
end
end Go.Proofs.YtjhafgnmahhacaaGreatDoor
