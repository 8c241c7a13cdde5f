/- Layer 13: the things that a test asks for, and its locations: the program. -/
import Derived.Test.YtjhafgnmahhacaaGreatDoorTe28

namespace Go.Proofs.YtjhafgnmahhacaaGreatDoor
open Go.RowKit
section
/-- The things that a test's condition asks for. -/
def thsT (T : Tst) : List Th := topT T.q T.k T.t T.r T.l T.v T.kids
def AskP (T : Tst) (w : World) (e : Ending) (w' : World) : Prop := ∃ u, e = .returned u ∧ OwnTh w w' u (thsT T) ∧ Below w.heap.size w w'
theorem thsT_len (T : Tst) : (thsT T).length ≤ 1024 := by
  unfold thsT topT
  split
  · rename_i h
    exact Nat.le_trans (thsU_len _) (cond_ok h).2.2.2.2
  · simp
theorem own_cons {B : Nat} {w : World} {v : Value} {x : Nm} {r : List Nm} (h : encS.Own 9 B w v (x :: r)) : ∃ g cap, v = .slice (some ⟨g, 0, none⟩) (r.length + 1) cap ∧ encS.At w (some ⟨g, 0, none⟩) (x :: r) ∧ B ≤ g ∧ r.length + 1 ≤ cap := by
  obtain ⟨A, cap, rfl, hat, hnew, hc⟩ := h.at_
  obtain ⟨b, o, e, _⟩ := hat 0 x rfl
  subst e
  rcases h.2 with ⟨e, _⟩ | ⟨g, cap2, cur, e, h1, _⟩
  · cases e
  · simp only [Value.slice.injEq, Option.some.injEq, Addr.mk.injEq, and_true, true_and] at e
    obtain ⟨⟨rfl, rfl⟩, rfl⟩ := e
    exact ⟨b, cap, rfl, hat, h1, hc⟩
theorem head_cell {w : World} {g : Nat} {x : Nm} {r : List Nm} (h : encS.At w (some ⟨g, 0, none⟩) (x :: r)) : w.cell? ⟨g, 0, none⟩ = some (.string ⟨x.toArray⟩) := by
  obtain ⟨b, o, e, hc⟩ := h 0 x rfl
  cases e
  exact hc 0 _ rfl
theorem own_lower {w : World} {B B2 : Nat} {t : TypeId} {z n : Nat} {v : Value} {cs : List Value} (h : w.ownsRow B t z v n cs) (hB : B2 ≤ B) : w.ownsRow B2 t z v n cs := by
  refine ⟨h.1, ?_⟩
  rcases h.2 with e | ⟨g, cap, cur, e, h1, h2⟩
  · exact Or.inl e
  · exact Or.inr ⟨g, cap, cur, e, Nat.le_trans hB h1, h2⟩
/-- Rows of unlike types lie apart. -/
theorem own_apart {w w1 : World} {B B2 B3 : Nat} {t t2 : TypeId} {z n z2 n2 : Nat} {v v2 : Value} {cs cs2 : List Value} (h : w.ownsRow B t z v n cs) (h2 : w.ownsRow B2 t2 z2 v2 n2 cs2) (hne : t ≠ t2) (hg : Grew w w1 B3 v2) : w1.ownsRow B t z v n cs := by
  refine own_hold h (fun b hb => ?_)
  rcases h.2 with ⟨e, _⟩ | ⟨g, cap, cur, e, _, hh, _⟩
  · subst e; cases hb
  · subst e
    have hgb : g = b := by simpa [Value.ownBlock] using hb
    subst hgb
    refine hg.keep g (Array.getElem?_eq_some_iff.1 hh).1 (fun e2 => ?_)
    rcases h2.2 with ⟨e3, _⟩ | ⟨g3, cap3, cur3, e3, _, hh3, _⟩
    · subst e3; cases e2
    · subst e3
      have hg3 : g3 = g := by simpa [Value.ownBlock] using e2
      subst hg3
      rw [hh] at hh3
      simp only [Option.some.injEq, Obj.cells.injEq] at hh3
      exact hne hh3.2.1
theorem th_at {w : World} {A : Option Addr} {L : List Th} (h : ThsB w A L) {i : Nat} {x : Th} (hx : L[i]? = some x) : ∃ b o, A = some ⟨b, o, none⟩ ∧ w.cell? ⟨b, o + i * 3, none⟩ = some (.int .i64 x.1) ∧ w.cell? ⟨b, o + i * 3 + 1, none⟩ = some (.int .i64 x.2.1) ∧ w.cell? ⟨b, o + i * 3 + 2, none⟩ = some (.string ⟨x.2.2.toArray⟩) := by
  obtain ⟨b, o, e, h0, h1, h2⟩ := h i x hx
  exact ⟨b, o, e, h0, h1, h2⟩
theorem one_at (w : World) (a : Nm) : encS.At (w.alloc (.cells #[.string ⟨a.toArray⟩] 9 (0, 0))) (some ⟨w.heap.size, 0, none⟩) [a] := by
  have hB := Blk.new w 9 #[.string ⟨a.toArray⟩]
  intro i x hx
  refine ⟨w.heap.size, 0, rfl, fun j u hj => ?_⟩
  have hj0 : j = 0 := by
    have := (List.getElem?_eq_some_iff.1 hj).1
    simp at this; omega
  subst hj0
  simp at hj
  subst hj
  rw [show 0 + i * encS.size + 0 = i from by show 0 + i * 1 + 0 = i; omega, hB.cell]
  match i, hx with
  | 0, hx => simp at hx; subst hx; rfl
theorem two_at (w : World) (a b : Nm) : encS.At (w.alloc (.cells #[.string ⟨a.toArray⟩, .string ⟨b.toArray⟩] 9 (0, 0))) (some ⟨w.heap.size, 0, none⟩) [a, b] := by
  have hB := Blk.new w 9 #[.string ⟨a.toArray⟩, .string ⟨b.toArray⟩]
  intro i x hx
  refine ⟨w.heap.size, 0, rfl, fun j u hj => ?_⟩
  have hj0 : j = 0 := by
    have := (List.getElem?_eq_some_iff.1 hj).1
    simp at this; omega
  subst hj0
  simp at hj
  subst hj
  rw [show 0 + i * encS.size + 0 = i from by show 0 + i * 1 + 0 = i; omega, hB.cell]
  match i, hx with
  | 0, hx => simp at hx; subst hx; rfl
  | 1, hx => simp at hx; subst hx; rfl
section
set_option maxHeartbeats 4000000
set_option maxRecDepth 100000
variable {w : World} {T : Tst} {Ai Ac : Option Addr} {kv : Value}
theorem askedP (ci cc : Nat) (hT : TstAt w T Ai Ac kv) : Calls Tryz.prog 128 #[testV T (.slice Ai T.init.length ci) (.slice Ac T.code.length cc) kv] w (AskP T w) := by
  have HB := Lib.hid (alloc_b w (.cells #[.int .i64 T.arch, .string ⟨T.name.toArray⟩, .string ⟨T.cycle.toArray⟩, .slice Ai T.init.length ci, .slice Ac T.code.length cc, .int .i64 T.q, .int .i64 T.k, .int .i64 T.t, .int .i64 T.r, .string ⟨T.l.toArray⟩, .int .i64 T.v, kv] 32 (0, 0)))
  have HK := Lib.hid (SlAt.below hT.kids (Nat.le_refl _) HB.out)
  have HL := Lib.hid hT.llen
  clear hT
  go_enter Tryz.func128, Tryz.ntmps128
  go_wp2_with (go_at_call 61; refine (topG w.heap.size kv (by simp) HK.out HL.out).mono ?_; rintro e w2 ⟨u, rfl, hown, hb2⟩; have HO := Lib.hid hown; have HB2 := Lib.hid hb2; clear hown hb2)
  go_ret
  exact ⟨u, rfl, HO.out.old (by simp), below_trans HB.out HB2.out⟩
def NamP (L : List Nm) (w : World) (e : Ending) (w' : World) : Prop := ∃ A cap, e = .returned (.slice A L.length cap) ∧ encS.At w' A L ∧ (∀ p, A = some p → w.heap.size ≤ p.block) ∧ Below w.heap.size w w'
theorem drop_cons {α : Type} {l : List α} {k : Nat} {x : α} (h : l[k]? = some x) : l.drop k = x :: l.drop (k + 1) := by
  obtain ⟨h1, rfl⟩ := List.getElem?_eq_some_iff.1 h
  exact List.drop_eq_getElem_cons h1
theorem namesP (ci cc : Nat) (hraw : (rawN T).length ≤ 1000000) (hT : TstAt w T Ai Ac kv) : Calls Tryz.prog 129 #[testV T (.slice Ai T.init.length ci) (.slice Ac T.code.length cc) kv] w (NamP (locsN (rawN T)) w) := by
  have HI := Lib.hid hT.init
  have HC := Lib.hid hT.code
  have HASK := Lib.hid (fun (w2 : World) (hb : Below w.heap.size w w2) => askedP (w := w2) (T := T) (Ai := Ai) (Ac := Ac) (kv := kv) ci cc (hT.below hb))
  have hil := hT.ilen
  have hcl := hT.clen
  have hrawl : ∀ n m, T.init.length = n → T.code.length = m → 2 * n ≤ (rawN T).length := fun n m h1 _ => by
    unfold rawN
    rw [List.length_append, ← h1]
    have : (T.init.flatMap fun x => [x.loc, x.vl]).length = 2 * T.init.length := by
      induction T.init with
      | nil => rfl
      | cons x r ih => rw [List.flatMap_cons, List.length_append, ih]; simp; omega
    omega
  simp only [testV] at HASK ⊢
  obtain ⟨n, hn⟩ : ∃ n, T.init.length = n := ⟨_, rfl⟩
  obtain ⟨m, hm⟩ : ∃ m, T.code.length = m := ⟨_, rfl⟩
  have HN := Lib.hid hn
  have HM := Lib.hid hm
  obtain ⟨R, hR⟩ : ∃ R, rawN T = R := ⟨_, rfl⟩
  have HR := Lib.hid hR
  have h2n := hrawl n m hn hm
  rw [hR] at hraw h2n ⊢
  have HRL := Lib.hid hraw
  rw [hn, hm] at HASK ⊢
  rw [hn] at hil
  rw [hm] at hcl
  clear hT hn hm hR hraw hrawl h2n
  have HBX := Lib.hid (Blk.new w 32 #[.int .i64 T.arch, .string ⟨T.name.toArray⟩, .string ⟨T.cycle.toArray⟩, .slice Ai n ci, .slice Ac m cc, .int .i64 T.q, .int .i64 T.k, .int .i64 T.t, .int .i64 T.r, .string ⟨T.l.toArray⟩, .int .i64 T.v, kv])
  have HB0 := Lib.hid (alloc_b w (.cells #[.int .i64 T.arch, .string ⟨T.name.toArray⟩, .string ⟨T.cycle.toArray⟩, .slice Ai n ci, .slice Ac m cc, .int .i64 T.q, .int .i64 T.k, .int .i64 T.t, .int .i64 T.r, .string ⟨T.l.toArray⟩, .int .i64 T.v, kv] 32 (0, 0)))
  go_enter Tryz.func129, Tryz.ntmps129
  go_wp2_with fail
  generalize hw1 : w.alloc (.cells #[.int .i64 T.arch, .string ⟨T.name.toArray⟩, .string ⟨T.cycle.toArray⟩, .slice Ai n ci, .slice Ac m cc, .int .i64 T.q, .int .i64 T.k, .int .i64 T.t, .int .i64 T.r, .string ⟨T.l.toArray⟩, .int .i64 T.v, kv] 32 (0, 0)) = w1 at HBX HB0 ⊢
  have hsz : w.heap.size < w1.heap.size := HBX.out.lt
  clear hw1
  go_loopw [15, 3] (fun i vv wr => ∃ (k : Nat) (l : List Nm), k ≤ n ∧ i = .int .i64 k ∧ encS.Own 9 w1.heap.size wr vv l ∧ l ++ ((T.init.drop k).flatMap (fun x => [x.loc, x.vl]) ++ ((T.code.flatMap fun c => c.map fun x => x.loc) ++ (thsT T).map fun x => x.2.2)) = R ∧ Below w1.heap.size w1 wr) (fun i _ _ => n - (intOf i).toNat)
  case atStart => exact ⟨0, [], Nat.zero_le _, rfl, Enc.Own.nil _ _ _, by rw [List.nil_append, List.drop_zero]; exact HR.out, Below.refl _ _⟩
  case round =>
    obtain ⟨k, l, hk, rfl, hv, hl, hb⟩ := hrel
    obtain ⟨Av, cv, rfl⟩ := hv.shp
    have HV := Lib.hid hv
    have HL := Lib.hid hl
    have HBR := Lib.hid hb
    have hzr := hb.size
    have hsw : w.heap.size < wr.heap.size := by omega
    clear hv hl hb
    have HBW := Lib.hid (below_trans HB0.out HBR.out)
    by_cases hlt : k < n
    · have hlk : k < T.init.length := by rw [HN.out]; exact hlt
      have ex := List.getElem?_eq_getElem hlk
      obtain ⟨x, hx⟩ : ∃ x, T.init[k] = x := ⟨_, rfl⟩
      rw [hx] at ex
      obtain ⟨b, o, rfl, c0, c1, c2, c3, c4, l1, l2, l3, l4⟩ := HI.out.at_ ex
      have hbl : b < w.heap.size := World.block_lt_of_cell? w _ c0
      have d0 := cell_go c0 HBW.out
      have d1 := cell_go c1 HBW.out
      have d2 := cell_go c2 HBW.out
      have d3 := cell_go c3 HBW.out
      have d4 := cell_go c4 HBW.out
      have hblr : b < wr.heap.size := by omega
      have hkn : (k : Int) < (n : Int) := by omega
      have HL2 := Lib.hid (show (l ++ [x.loc, x.vl]) ++ ((T.init.drop (k + 1)).flatMap (fun x => [x.loc, x.vl]) ++ ((T.code.flatMap fun c => c.map fun x => x.loc) ++ (thsT T).map fun x => x.2.2)) = R by rw [← HL.out, drop_cons ex]; simp)
      have HLEN := Lib.hid (show l.length + 2 ≤ 1000000 by have := congrArg List.length HL2.out; have := HRL.out; simp only [List.length_append, List.length_cons, List.length_nil] at *; omega)
      clear ex hx hlk c0 c1 c2 c3 c4 l1 l2 l3 l4
      have HYS := Lib.hid (two_at (wr.alloc (.cells #[.int .i64 x.th, .int .i64 x.rg, .string ⟨x.loc.toArray⟩, .string ⟨x.vl.toArray⟩, .int .i64 x.vn] 131 (0, 0))) x.loc x.vl)
      have HB1 := Lib.hid (below_2 wr (.cells #[.int .i64 x.th, .int .i64 x.rg, .string ⟨x.loc.toArray⟩, .string ⟨x.vl.toArray⟩, .int .i64 x.vn] 131 (0, 0)) (.cells #[.string ⟨x.loc.toArray⟩, .string ⟨x.vl.toArray⟩] 9 (0, 0)))
      go_wp2_with (at_builtin; refine Enc.appL elemS _ rfl (.tmp 19) (.tmp 25) rfl [x.loc, x.vl] w1.heap.size l _ (wr.heap.size + 1) 0 2 rfl rfl (by have := HYS.out; simpa using this) (HV.out.below HB1.out) (by have := HLEN.out; simp; omega) (by have := HLEN.out; simp; omega) (by simp; omega) ?_; intro v' w3 hown3 hg3; have HO3 := Lib.hid hown3; have HB3 := Lib.hid hg3.below; clear hown3 hg3)
      go_roundw
      case rel => exact ⟨k + 1, _, by omega, by go_num, HO3.out, HL2.out, (HBR.out.trans (HB1.out.mono (by omega))).trans HB3.out⟩
      case measure => simp [intOf]; omega
    · have hkn : k = n := by omega
      subst hkn
      have HL1 := Lib.hid (show l ++ ((T.code.flatMap fun c => c.map fun x => x.loc) ++ (thsT T).map fun x => x.2.2) = R by have := HL.out; rw [List.drop_of_length_le (by have := HN.out; omega)] at this; simpa using this)
      have HV0 := Lib.hid HV.out
      have HBA := Lib.hid HBR.out
      have k4 := (HBX.out.go HBR.out).cell 4
      go_wp2_with fail
      clear HL HV HBR HBW k4
      obtain ⟨wa, hwa⟩ : ∃ wa : World, wa = wr := ⟨_, rfl⟩
      subst hwa
      go_loopw [31, 3] (fun i vv wr => ∃ (k : Nat) (l : List Nm), k ≤ m ∧ i = .int .i64 k ∧ encS.Own 9 w1.heap.size wr vv l ∧ l ++ (((T.code.drop k).flatMap fun c => c.map fun x => x.loc) ++ (thsT T).map fun x => x.2.2) = R ∧ Below w1.heap.size w1 wr) (fun i _ _ => m - (intOf i).toNat)
      case atStart => exact ⟨0, l, Nat.zero_le _, rfl, HV0.out, by rw [List.drop_zero]; exact HL1.out, HBA.out⟩
      case round =>
        obtain ⟨k2, l2, hk2, rfl, hv, hl, hb⟩ := hrel
        obtain ⟨Av2, cv2, rfl⟩ := hv.shp
        have HV := Lib.hid hv
        have HL := Lib.hid hl
        have HBR := Lib.hid hb
        have hzr := hb.size
        have hsw : w.heap.size < wr.heap.size := by omega
        clear hv hl hb
        have HBW := Lib.hid (below_trans HB0.out HBR.out)
        by_cases hlt : k2 < m
        · have hlk : k2 < T.code.length := by rw [HM.out]; exact hlt
          have ex := List.getElem?_eq_getElem hlk
          obtain ⟨c, hx⟩ : ∃ c, T.code[k2] = c := ⟨_, rfl⟩
          rw [hx] at ex
          obtain ⟨b, o, A2, c2, rfl, hc0, hA2, hl1, hl2⟩ := HC.out.at_ ex
          have HCL := Lib.hid (show l2 ++ ((c.map fun x => x.loc) ++ (((T.code.drop (k2 + 1)).flatMap fun c => c.map fun x => x.loc) ++ (thsT T).map fun x => x.2.2)) = R by rw [← HL.out, drop_cons ex]; simp)
          have HA2 := Lib.hid hA2
          have hkn : (k2 : Int) < (m : Int) := by omega
          have hc0r := cell_go hc0 HBW.out
          clear ex hx hlk hA2 hc0 HL
          go_wp2_with fail
          clear hc0r
          obtain ⟨wi, hwi⟩ : ∃ wi : World, wi = wr := ⟨_, rfl⟩
          subst hwi
          go_loopw [37, 3] (fun i vv wr => ∃ (i' : Nat) (l : List Nm), i' ≤ c.length ∧ i = .int .i64 i' ∧ encS.Own 9 w1.heap.size wr vv l ∧ l ++ (((c.drop i').map fun x => x.loc) ++ (((T.code.drop (k2 + 1)).flatMap fun c => c.map fun x => x.loc) ++ (thsT T).map fun x => x.2.2)) = R ∧ Below w1.heap.size w1 wr) (fun i _ _ => c.length - (intOf i).toNat)
          case atStart => exact ⟨0, l2, Nat.zero_le _, rfl, HV.out, by rw [List.drop_zero]; exact HCL.out, HBR.out⟩
          case round =>
            obtain ⟨i, l3, hi, rfl, hv3, hl3, hb3⟩ := hrel
            obtain ⟨Av3, cv3, rfl⟩ := hv3.shp
            clear HV HCL HBR HBW hzr hsw
            have HV := Lib.hid hv3
            have HCL := Lib.hid hl3
            have HBR := Lib.hid hb3
            have hzr := hb3.size
            have hsw : w.heap.size < wr.heap.size := by omega
            clear hv3 hl3 hb3
            have HBW := Lib.hid (below_trans HB0.out HBR.out)
            by_cases hli : i < c.length
            · have ey := List.getElem?_eq_getElem hli
              obtain ⟨x, hx⟩ : ∃ x, c[i] = x := ⟨_, rfl⟩
              rw [hx] at ey
              obtain ⟨b2, o2, rfl, hCi⟩ := HA2.out.at_ ey
              have hbl := hCi.lt
              have hblr : b2 < wr.heap.size := by omega
              obtain ⟨c0, c1, c2', c3, c4, c5, c6, c7, _, _⟩ := hCi.go HBW.out
              have hkl : (i : Int) < (c.length : Int) := by omega
              have HL2 := Lib.hid (show (l3 ++ [x.loc]) ++ (((c.drop (i + 1)).map fun x => x.loc) ++ (((T.code.drop (k2 + 1)).flatMap fun c => c.map fun x => x.loc) ++ (thsT T).map fun x => x.2.2)) = R by rw [← HCL.out, drop_cons ey]; simp)
              have HLEN := Lib.hid (show l3.length + 1 ≤ 1000000 by have := congrArg List.length HL2.out; have := HRL.out; simp only [List.length_append, List.length_cons, List.length_nil] at *; omega)
              have HYS := Lib.hid (one_at (wr.alloc (.cells #[.int .i64 x.op, .int .i64 x.d, .int .i64 x.a, .int .i64 x.b, .int .i64 x.imm, .string ⟨x.loc.toArray⟩, .string ⟨x.label.toArray⟩, .int .i64 x.fence] 70 (0, 0))) x.loc)
              have HB1 := Lib.hid (below_2 wr (.cells #[.int .i64 x.op, .int .i64 x.d, .int .i64 x.a, .int .i64 x.b, .int .i64 x.imm, .string ⟨x.loc.toArray⟩, .string ⟨x.label.toArray⟩, .int .i64 x.fence] 70 (0, 0)) (.cells #[.string ⟨x.loc.toArray⟩] 9 (0, 0)))
              clear ey hx hCi
              go_wp2_with (at_builtin; refine Enc.appL elemS _ rfl (.tmp 41) (.tmp 44) rfl [x.loc] w1.heap.size l3 _ (wr.heap.size + 1) 0 1 rfl rfl (by have := HYS.out; simpa using this) (HV.out.below HB1.out) (by have := HLEN.out; simp; omega) (by have := HLEN.out; simp; omega) (by simp; omega) ?_; intro v' w3 hown3 hg3; have HO3 := Lib.hid hown3; have HB3 := Lib.hid hg3.below; clear hown3 hg3)
              go_roundw
              case rel => exact ⟨i + 1, _, by omega, by go_num, HO3.out, HL2.out, (HBR.out.trans (HB1.out.mono (by omega))).trans HB3.out⟩
              case measure => simp [intOf]; omega
            · have HL3 := Lib.hid (show l3 ++ (((T.code.drop (k2 + 1)).flatMap fun c => c.map fun x => x.loc) ++ (thsT T).map fun x => x.2.2) = R by have := HCL.out; rw [List.drop_of_length_le (by omega)] at this; simpa using this)
              go_wp2_with fail
              go_roundw
              case rel => exact ⟨k2 + 1, l3, by omega, by go_num, HV.out, HL3.out, HBR.out⟩
              case measure => simp [intOf]; omega
        · have hkm : k2 = m := by omega
          subst hkm
          have HL1 := Lib.hid (show l2 ++ ((thsT T).map fun x => x.2.2) = R by have := HL.out; rw [List.drop_of_length_le (by have := HM.out; omega)] at this; simpa using this)
          have HV0 := Lib.hid HV.out
          have HBA := Lib.hid HBR.out
          have HBRX := Lib.hid (HBX.out.go HBR.out)
          have k0 := HBRX.out.cell 0
          have k1 := HBRX.out.cell 1
          have k2 := HBRX.out.cell 2
          have k3 := HBRX.out.cell 3
          have k4 := HBRX.out.cell 4
          have k5 := HBRX.out.cell 5
          have k6 := HBRX.out.cell 6
          have k7 := HBRX.out.cell 7
          have k8 := HBRX.out.cell 8
          have k9 := HBRX.out.cell 9
          have k10 := HBRX.out.cell 10
          have k11 := HBRX.out.cell 11
          go_wp2_with (go_at_call 128; refine (HASK.out _ HBW.out).mono ?_; rintro e w2 ⟨u, rfl, hown, hb2⟩; obtain ⟨Au, cu, rfl⟩ := own_shp hown; have HOU := Lib.hid hown; have HB2 := Lib.hid hb2; clear hown hb2)
          clear k0 k1 k2 k3 k4 k5 k6 k7 k8 k9 k10 k11
          have HV2 := Lib.hid (HV0.out.below HB2.out)
          have HB4 := Lib.hid (below_trans HBR.out HB2.out)
          clear HL HV HBR
          have hq1024 := thsT_len T
          obtain ⟨wc, hwc⟩ : ∃ wc : World, wc = w2 := ⟨_, rfl⟩
          subst hwc
          go_loopw [51, 3] (fun i vv wr => ∃ (k : Nat) (l : List Nm), k ≤ (thsT T).length ∧ i = .int .i64 k ∧ encS.Own 9 w1.heap.size wr vv l ∧ l ++ ((thsT T).drop k).map (fun x => x.2.2) = R ∧ wr.ownsRow w1.heap.size 25 3 (.slice Au (thsT T).length cu) (thsT T).length (thCells (thsT T)) ∧ Below w1.heap.size w1 wr) (fun i _ _ => (thsT T).length - (intOf i).toNat)
          case atStart => exact ⟨0, l2, Nat.zero_le _, rfl, HV2.out, by rw [List.drop_zero]; exact HL1.out, own_lower HOU.out (by omega), HB4.out⟩
          case round =>
            obtain ⟨j, l4, hj, rfl, hv, hl, hou, hb⟩ := hrel
            obtain ⟨Av4, cv4, rfl⟩ := hv.shp
            clear HOU HV2 HL1 HB4 HV0 HBW HBRX HBA
            have HV := Lib.hid hv
            have HL := Lib.hid hl
            have HOU := Lib.hid hou
            have HBR := Lib.hid hb
            have hzr := hb.size
            have hsw : w.heap.size < wr.heap.size := by omega
            obtain ⟨A5, c5, e5, hth⟩ := own_thsB hou
            simp only [Value.slice.injEq, true_and] at e5
            obtain ⟨rfl, rfl⟩ := e5
            have HTH := Lib.hid hth
            clear hv hl hou hb hth
            by_cases hlj : j < (thsT T).length
            · have ey := List.getElem?_eq_getElem hlj
              obtain ⟨x, hx⟩ : ∃ x, (thsT T)[j] = x := ⟨_, rfl⟩
              rw [hx] at ey
              obtain ⟨b2, o2, rfl, g0, g1, g2⟩ := th_at HTH.out ey
              have hbl : b2 < wr.heap.size := World.block_lt_of_cell? wr _ g0
              have hjl : (j : Int) < ((thsT T).length : Int) := by omega
              have HL2 := Lib.hid (show (l4 ++ [x.2.2]) ++ ((thsT T).drop (j + 1)).map (fun x => x.2.2) = R by rw [← HL.out, drop_cons ey]; simp)
              have HLEN := Lib.hid (show l4.length + 1 ≤ 1000000 by have := congrArg List.length HL2.out; have := HRL.out; simp only [List.length_append, List.length_cons, List.length_nil] at *; omega)
              have HYS := Lib.hid (one_at (wr.alloc (.cells #[.int .i64 x.1, .int .i64 x.2.1, .string ⟨x.2.2.toArray⟩] 25 (0, 0))) x.2.2)
              have HB1 := Lib.hid (below_2 wr (.cells #[.int .i64 x.1, .int .i64 x.2.1, .string ⟨x.2.2.toArray⟩] 25 (0, 0)) (.cells #[.string ⟨x.2.2.toArray⟩] 9 (0, 0)))
              clear ey hx
              go_wp2_with (at_builtin; refine Enc.appL elemS _ rfl (.tmp 55) (.tmp 58) rfl [x.2.2] w1.heap.size l4 _ (wr.heap.size + 1) 0 1 rfl rfl (by have := HYS.out; simpa using this) (HV.out.below HB1.out) (by have := HLEN.out; simp; omega) (by have := HLEN.out; simp; omega) (by simp; omega) ?_; intro v' w3 hown3 hg3; have HO3 := Lib.hid hown3; have HG3 := Lib.hid hg3; clear hown3 hg3)
              go_roundw
              case rel => exact ⟨j + 1, _, by omega, by go_num, HO3.out, HL2.out, own_apart (own_below HOU.out HB1.out) (HV.out.below HB1.out) (by decide) HG3.out, (HBR.out.trans (HB1.out.mono (by omega))).trans HG3.out.below⟩
              case measure => simp [intOf]; omega
            · have HLR := Lib.hid (show l4 = R by have := HL.out; rw [List.drop_of_length_le (by omega)] at this; simpa using this)
              have HLEN := Lib.hid (show l4.length ≤ 1000000 by rw [HLR.out]; exact HRL.out)
              have HU0 := Lib.hid (show Lib.compact (sortN l4) = uniqN R by rw [HLR.out]; rfl)
              have HLO := Lib.hid (show locsN R = chopN (uniqN R) from rfl)
              obtain ⟨U, hU⟩ : ∃ U, uniqN R = U := ⟨_, rfl⟩
              have HU : Hid (Lib.compact (sortN l4) = U) := Lib.hid (HU0.out.trans hU)
              have HUL := Lib.hid (show U.length ≤ 1000000 by rw [← hU]; exact Nat.le_trans (uniqN_len R) HRL.out)
              rw [hU] at HLO
              clear hU HU0
              rcases U with _ | ⟨s, r⟩
              · go_wp2_with (first | (go_at_call 198; refine (sortS _ l4 w1.heap.size _ HV.out HLEN.out).mono ?_; rintro e w3 ⟨rfl, hown3, hb3⟩; have HO3 := Lib.hid hown3; have HB3 := Lib.hid hb3; clear hown3 hb3) | (go_at_call 199; refine (compS _ (sortN l4) w1.heap.size _ HO3.out (by rw [(sortN_perm l4).length_eq]; exact HLEN.out)).mono ?_; rintro e w5 ⟨v5, rfl, hown5, hb5⟩; rw [HU.out] at hown5; obtain ⟨A6, c6, rfl, hat6, hnew6, _⟩ := hown5.at_; have HAT6 := Lib.hid hat6; have HNEW6 := Lib.hid hnew6; clear hat6 hnew6; have HB5 := Lib.hid hb5; clear hown5 hb5))
                go_ret
                rw [HLO.out]
                exact ⟨A6, c6, rfl, HAT6.out, fun p hp => Nat.le_trans (by omega) (HNEW6.out p hp), below_trans HB0.out ((HBR.out.trans HB3.out).trans HB5.out)⟩
              · have hul := HUL.out
                simp only [List.length_cons] at hul
                by_cases hs : s = []
                · subst hs
                  go_wp2_with (first | (go_at_call 198; refine (sortS _ l4 w1.heap.size _ HV.out HLEN.out).mono ?_; rintro e w3 ⟨rfl, hown3, hb3⟩; have HO3 := Lib.hid hown3; have HB3 := Lib.hid hb3; clear hown3 hb3) | (go_at_call 199; refine (compS _ (sortN l4) w1.heap.size _ HO3.out (by rw [(sortN_perm l4).length_eq]; exact HLEN.out)).mono ?_; rintro e w5 ⟨v5, rfl, hown5, hb5⟩; rw [HU.out] at hown5; obtain ⟨g6, c6, rfl, hat6, hg6, hcap6⟩ := own_cons hown5; have HAT6 := Lib.hid hat6; have d6 := head_cell hat6; clear hat6; have HB5 := Lib.hid hb5; clear hown5 hb5))
                  all_goals
                    go_ret
                    rw [HLO.out]
                  · rename_i hcap1
                    have hr0 : r = [] := by cases r with | nil => rfl | cons _ _ => simp at hcap6; omega
                    subst hr0
                    exact ⟨_, _, rfl, Enc.At.nil _ _, (fun p hp => by cases hp; show w.heap.size ≤ g6; omega), below_trans HB0.out ((HBR.out.trans HB3.out).trans HB5.out)⟩
                  · exact ⟨_, _, rfl, HAT6.out.drop 1, (fun p hp => by cases hp; show w.heap.size ≤ g6; omega), below_trans HB0.out ((HBR.out.trans HB3.out).trans HB5.out)⟩
                · have hs2 : (s == []) = false := by simpa using hs
                  have hs3 : s.isEmpty = false := by simpa using hs
                  have HCH := Lib.hid (show chopN (s :: r) = s :: r by cases s with | nil => exact absurd rfl hs | cons _ _ => rfl)
                  go_wp2_with (first | (go_at_call 198; refine (sortS _ l4 w1.heap.size _ HV.out HLEN.out).mono ?_; rintro e w3 ⟨rfl, hown3, hb3⟩; have HO3 := Lib.hid hown3; have HB3 := Lib.hid hb3; clear hown3 hb3) | (go_at_call 199; refine (compS _ (sortN l4) w1.heap.size _ HO3.out (by rw [(sortN_perm l4).length_eq]; exact HLEN.out)).mono ?_; rintro e w5 ⟨v5, rfl, hown5, hb5⟩; rw [HU.out] at hown5; obtain ⟨g6, c6, rfl, hat6, hg6, hcap6⟩ := own_cons hown5; have HAT6 := Lib.hid hat6; have d6 := head_cell hat6; clear hat6; have HB5 := Lib.hid hb5; clear hown5 hb5))
                  go_ret
                  rw [HLO.out, HCH.out]
                  exact ⟨some ⟨g6, 0, none⟩, c6, rfl, HAT6.out, (fun p hp => by cases hp; show w.heap.size ≤ g6; omega), below_trans HB0.out ((HBR.out.trans HB3.out).trans HB5.out)⟩
end
end
def shC (f : Int) (c : UInt8) : Bool := decide (f ≤ (c.toNat : Int)) && decide ((c.toNat : Int) ≤ 126) && !decide ((c.toNat : Int) = 34)
theorem allS_no {f : Int} {s : ByteArray} {k : Nat} (hk : k < s.size) (h : shC f s[k] = false) : s.data.toList.all (shC f) = false := by
  have hl : s.data.toList.length = s.size := rfl
  rw [List.all_eq_false]
  exact ⟨s.data.toList[k]'(by omega), List.getElem_mem _, by rw [show s.data.toList[k]'(by omega) = s[k] from rfl, h]; simp⟩
theorem allS_yes {f : Int} {s : ByteArray} (h : ∀ i (hi : i < s.size), shC f s[i] = true) : s.data.toList.all (shC f) = true := by
  have hl : s.data.toList.length = s.size := rfl
  rw [List.all_eq_true]
  intro x hx
  obtain ⟨j, hj, rfl⟩ := List.getElem_of_mem hx
  exact h j (by omega)
set_option maxHeartbeats 400000 in
theorem shownP (f : Int) (s : ByteArray) (w : World) (hs : s.size ≤ 9223372036854775807) : Calls Tryz.prog 123 #[.string s, .int .u8 f] w fun e w' => e = .returned (.bool (s.data.toList.all (shC f))) ∧ w = w' := by
  obtain ⟨r, hr⟩ : ∃ r, s.data.toList.all (shC f) = r := ⟨_, rfl⟩
  rw [hr]
  have HR := Lib.hid hr
  clear hr
  go_enter Tryz.func123, Tryz.ntmps123
  go_wp2
  go_loop [5] (fun i => ∃ k : Nat, k ≤ s.size ∧ i = .int .i64 k ∧ ∀ j (hj : j < s.size), j < k → shC f s[j] = true) (fun i => s.size - (intOf i).toNat)
  case atStart => exact ⟨0, Nat.zero_le _, rfl, fun j _ h => absurd h (Nat.not_lt_zero _)⟩
  case round =>
    obtain ⟨k, hk, rfl, hall⟩ := hrel
    have H := Lib.hid hall
    clear hall
    by_cases hlt : k < s.size
    · by_cases b1 : (s[k].toNat : Int) < f
      · have a1 : decide ((s[k].toNat : Int) < f) = true := decide_eq_true b1
        have HF := Lib.hid (allS_no (f := f) hlt (by simp [shC]; omega))
        clear b1
        go_wp2_with fail
        go_ret
        exact ⟨ret_bool (by rw [← HR.out, HF.out]), rfl⟩
      have a1 : decide ((s[k].toNat : Int) < f) = false := decide_eq_false b1
      by_cases b2 : (126 : Int) < (s[k].toNat : Int)
      · have a2 : decide ((126 : Int) < (s[k].toNat : Int)) = true := decide_eq_true b2
        have HF := Lib.hid (allS_no (f := f) hlt (by simp [shC]; omega))
        clear b1 b2
        go_wp2_with fail
        go_ret
        exact ⟨ret_bool (by rw [← HR.out, HF.out]), rfl⟩
      have a2 : decide ((126 : Int) < (s[k].toNat : Int)) = false := decide_eq_false b2
      by_cases b3 : (s[k].toNat : Int) = 34
      · have a3 : ((s[k].toNat : Int) == 34) = true := by simpa using b3
        have HF := Lib.hid (allS_no (f := f) hlt (by simp [shC]; omega))
        clear b1 b2 b3
        go_wp2_with fail
        go_ret
        exact ⟨ret_bool (by rw [← HR.out, HF.out]), rfl⟩
      have a3 : ((s[k].toNat : Int) == 34) = false := by simpa using b3
      have HK := Lib.hid (show shC f s[k] = true by simp [shC]; omega)
      clear b1 b2 b3
      go_wp2_with fail
      go_round
      case rel => exact ⟨k + 1, by omega, by go_num, fun j hj h => by
        by_cases e : j < k
        · exact H.out j hj e
        · obtain rfl : j = k := by omega
          exact HK.out⟩
      case measure => simp [intOf]; omega
    · have HF := Lib.hid (allS_yes (f := f) (s := s) (fun i hi => H.out i hi (by omega)))
      go_wp2_with fail
      go_ret
      exact ⟨ret_bool (by rw [← HR.out, HF.out]), rfl⟩
def titleB (l : List UInt8) : Bool := decide (1 ≤ l.length) && decide (l.length ≤ 1024) && l.all (shC 33)
theorem titleB_yes {s : ByteArray} (h1 : 1 ≤ s.size) (h2 : s.size ≤ 1024) : titleB s.data.toList = s.data.toList.all (shC 33) := by
  have hl : s.data.toList.length = s.size := rfl
  simp only [titleB, hl]
  rw [decide_eq_true h1, decide_eq_true h2]
  simp
theorem titleB_no {s : ByteArray} (h : s.size < 1 ∨ 1024 < s.size) : titleB s.data.toList = false := by
  have hl : s.data.toList.length = s.size := rfl
  simp only [titleB, hl]
  rcases h with h | h
  · rw [decide_eq_false (p := 1 ≤ s.size) (by omega)]; rfl
  · rw [decide_eq_false (p := s.size ≤ 1024) (by omega), Bool.and_false]; rfl
def edgeB (l : List UInt8) : Bool := l.isEmpty || (decide (((l.headD 0).toNat : Int) ≠ 32) && decide (((l.getLastD 0).toNat : Int) ≠ 32))
def cycleB (l : List UInt8) : Bool := decide (l.length ≤ 262144) && l.all (shC 32) && edgeB l
theorem dw_le (p : UInt8 → Bool) : ∀ l : List UInt8, (l.dropWhile p).length ≤ l.length
  | [] => by simp
  | c :: r => by
    rw [List.dropWhile_cons]
    split
    · have := dw_le p r; simp; omega
    · simp
theorem dw_same (p : UInt8 → Bool) (l : List UInt8) (h : (l.dropWhile p).length = l.length) : l.dropWhile p = l := by
  cases l with
  | nil => rfl
  | cons c r =>
    rw [List.dropWhile_cons] at h ⊢
    split
    · rename_i hc
      rw [if_pos hc] at h
      have := dw_le p r
      simp at h; omega
    · rfl
theorem dw_head (p : UInt8 → Bool) (c : UInt8) (r : List UInt8) : (c :: r).dropWhile p = c :: r ↔ p c = false := by
  rw [List.dropWhile_cons]
  cases h : p c with
  | false => simp
  | true =>
    simp only [if_true]
    refine ⟨fun e => ?_, fun e => by cases e⟩
    have := congrArg List.length e
    have := dw_le p r
    simp at *; omega
theorem trim_edge (l : List UInt8) : decide (Lib.trimB l 32 = l) = edgeB l := by
  cases hl : l with
  | nil => rfl
  | cons c r =>
    rw [← hl]
    have hne : l ≠ [] := by rw [hl]; simp
    have hh : l.headD 0 = c := by rw [hl]; rfl
    have hlast : l.reverse = l.getLastD 0 :: (l.reverse.tail) := by
      cases hr : l.reverse with
      | nil => exact absurd (List.reverse_eq_nil_iff.1 hr) hne
      | cons d q =>
        have : l = (d :: q).reverse := by rw [← hr, List.reverse_reverse]
        rw [this]
        simp
    have key : Lib.trimB l 32 = l ↔ ((c == 32) = false ∧ (l.getLastD 0 == 32) = false) := by
      unfold Lib.trimB Lib.trimLeftB Lib.trimRightB
      constructor
      · intro h
        have h1 := dw_le (· == 32) (l.reverse.dropWhile (· == 32)).reverse
        have h2 := dw_le (· == 32) l.reverse
        have h3 := congrArg List.length h
        simp only [List.length_reverse] at h1 h2
        have h4 : l.reverse.dropWhile (· == 32) = l.reverse := dw_same _ _ (by rw [List.length_reverse]; omega)
        rw [h4, List.reverse_reverse] at h
        refine ⟨?_, ?_⟩
        · rw [hl] at h; exact (dw_head (· == 32) c r).1 h
        · rw [hlast] at h4; exact (dw_head (· == 32) (l.getLastD 0) l.reverse.tail).1 h4
      · rintro ⟨h1, h2⟩
        have h4 : l.reverse.dropWhile (· == 32) = l.reverse := by rw [hlast]; exact (dw_head (· == 32) (l.getLastD 0) l.reverse.tail).2 h2
        rw [h4, List.reverse_reverse, hl]
        exact (dw_head (· == 32) c r).2 h1
    have hb : ∀ d : UInt8, (d == 32) = false ↔ ((d.toNat : Int) ≠ 32) := fun d => by
      rw [beq_eq_false_iff_ne, ne_eq, ne_eq, ← UInt8.toNat_inj]
      show ¬ d.toNat = 32 ↔ _
      omega
    rw [Bool.eq_iff_iff, decide_eq_true_iff, key]
    unfold edgeB
    have he : l.isEmpty = false := by rw [hl]; rfl
    rw [he, hh, hb, hb]
    simp
/-- What Check tells of a test. -/
def fileE (T : Tst) : Int :=
  if archB T.arch = false then 5
  else if (titleB T.name && cycleB T.cycle) = false then 130
  else if codE T.arch T.code ≠ 0 then codE T.arch T.code
  else if iniE T.arch T.code.length T.init ≠ 0 then iniE T.arch T.code.length T.init
  else if checkC T.arch T.q T.k T.t T.r T.l T.v T.kids ≠ 0 then checkC T.arch T.q T.k T.t T.r T.l T.v T.kids
  else if (thsT T).any (fun x => decide ((T.code.length : Int) ≤ x.1)) then 80
  else if 64 < (locsN (rawN T)).length then 2 else 0
end Go.Proofs.YtjhafgnmahhacaaGreatDoor
