/- Layer 13: whether a test's code may be: plain, and the program's coded. -/
import Derived.Test.YtjhafgnmahhacaaGreatDoorTe21

namespace Go.Proofs.YtjhafgnmahhacaaGreatDoor
open Go.RowKit
section
def insLI (x : Ins) : Bool := insB x.op x.d x.a x.b x.imm ⟨x.loc.toArray⟩ ⟨x.label.toArray⟩ x.fence
def okX (arch : Int) (x : Ins) : Bool := if arch = 1 then insLI x else vinsL x
def thrE (arch : Int) (c : List Ins) : Int := if c.all (okX arch) then (if arch = 2 then (lnkE c).1 else 0) else 91
/-- Why a test's code may not be. -/
def codE (arch : Int) (cs : List (List Ins)) : Int :=
  if cs.length < 1 ∨ 16 < cs.length ∨ cs.any (fun c => decide (256 < c.length)) = true then 2
  else ((cs.map (thrE arch)).find? (fun e => decide (e ≠ 0))).getD 0
theorem codE_len {a : Int} {cs : List (List Ins)} (h : cs.length < 1 ∨ 16 < cs.length) : codE a cs = 2 := by
  unfold codE
  rw [if_pos]
  rcases h with h | h
  · exact Or.inl h
  · exact Or.inr (Or.inl h)
theorem codE_long {a : Int} {cs : List (List Ins)} {k : Nat} {c : List Ins} (h : cs[k]? = some c) (h2 : 256 < c.length) : codE a cs = 2 := by
  unfold codE
  rw [if_pos]
  exact Or.inr (Or.inr (List.any_eq_true.2 ⟨c, List.mem_of_getElem? h, by simpa using h2⟩))
theorem find_hit {l : List Int} {k : Nat} {e : Int} (h : l[k]? = some e) (he : e ≠ 0) (hn : ∀ (j : Nat) (x : Int), j < k → l[j]? = some x → x = 0) : (l.find? (fun e => decide (e ≠ 0))).getD 0 = e := by
  induction l generalizing k with
  | nil => simp at h
  | cons y l ih =>
    cases k with
    | zero => simp at h; subst h; simp [he]
    | succ k =>
      have hy : y = 0 := hn 0 y (by omega) (by simp)
      subst hy
      simp only [List.getElem?_cons_succ] at h
      rw [List.find?_cons]
      simp only [ne_eq, not_true_eq_false, decide_false]
      exact ih h (fun j x hj hx => hn (j + 1) x (by omega) (by simpa using hx))
theorem codE_mid {a : Int} {cs : List (List Ins)} (h1 : 1 ≤ cs.length) (h2 : cs.length ≤ 16) (h3 : ∀ (j : Nat) (c : List Ins), cs[j]? = some c → c.length ≤ 256) : codE a cs = ((cs.map (thrE a)).find? (fun e => decide (e ≠ 0))).getD 0 := by
  unfold codE
  rw [if_neg]
  rintro (h | h | h)
  · omega
  · omega
  · rw [List.any_eq_true] at h
    obtain ⟨c, hc, hl⟩ := h
    obtain ⟨j, hj⟩ := List.getElem?_of_mem hc
    have := h3 j c hj
    simp at hl; omega
theorem codE_hit {a : Int} {cs : List (List Ins)} (h1 : 1 ≤ cs.length) (h2 : cs.length ≤ 16) (h3 : ∀ (j : Nat) (c : List Ins), cs[j]? = some c → c.length ≤ 256) {k : Nat} {c : List Ins} (h : cs[k]? = some c) {e : Int} (ht : thrE a c = e) (he : e ≠ 0)
    (hn : ∀ (j : Nat) (c : List Ins), j < k → cs[j]? = some c → thrE a c = 0) : codE a cs = e := by
  rw [codE_mid h1 h2 h3]
  refine find_hit (k := k) (by rw [List.getElem?_map, h]; simp [ht]) he (fun j x hj hx => ?_)
  rw [List.getElem?_map] at hx
  obtain ⟨c', hc', rfl⟩ := Option.map_eq_some_iff.1 hx
  exact hn j c' hj hc'
theorem codE_ok {a : Int} {cs : List (List Ins)} (h1 : 1 ≤ cs.length) (h2 : cs.length ≤ 16) (h3 : ∀ (j : Nat) (c : List Ins), cs[j]? = some c → c.length ≤ 256) (hn : ∀ (j : Nat) (c : List Ins), cs[j]? = some c → thrE a c = 0) : codE a cs = 0 := by
  rw [codE_mid h1 h2 h3, List.find?_eq_none.2]
  · rfl
  · intro x hx
    rw [List.mem_map] at hx
    obtain ⟨c, hc, rfl⟩ := hx
    obtain ⟨j, hj⟩ := List.getElem?_of_mem hc
    simp [hn j c hj]
theorem all_step {c : List Ins} {j : Nat} {x : Ins} (h : c[j]? = some x) (p : Ins → Bool) : (c.take (j + 1)).all p = ((c.take j).all p && p x) := by
  obtain ⟨h1, rfl⟩ := List.getElem?_eq_some_iff.1 h
  rw [List.take_succ_eq_append_getElem h1, List.all_append]
  simp
theorem all_not {c : List Ins} {j : Nat} {x : Ins} (h : c[j]? = some x) {p : Ins → Bool} (hp : p x = false) : c.all p = false := by
  rw [List.all_eq_false]
  exact ⟨x, List.mem_of_getElem? h, by simp [hp]⟩
theorem chkIPx (x : Ins) (w : World) (h : x.loc.length ≤ 9223372036854775807) : Calls Tryz.prog 164 #[insL x] w fun e w' => e = .returned (.int .i64 (chkI (insLI x))) ∧ Below w.heap.size w w' :=
  chkIP x.d x.a x.b x.imm ⟨x.loc.toArray⟩ ⟨x.label.toArray⟩ x.fence w h x.op
theorem CodeAt.at_ {w : World} {A : Option Addr} {cs : List (List Ins)} (h : CodeAt w A cs) {i : Nat} {c : List Ins} (hc : cs[i]? = some c) : ∃ b o A2 c2, A = some ⟨b, o, none⟩ ∧ w.cell? ⟨b, o + i, none⟩ = some (.slice A2 c.length c2) ∧ InsAt w A2 c ∧ c.length ≤ 9223372036854775806 ∧ c.length ≤ c2 := h i c hc
section
set_option maxHeartbeats 4000000
set_option maxRecDepth 100000
variable {w : World} {T : Tst} {Ai Ac : Option Addr} {kv : Value}
theorem codedP_1 (ci cc : Nat) (ha : T.arch = 1) (hT : TstAt w T Ai Ac kv) : Calls Tryz.prog 125 #[testV T (.slice Ai T.init.length ci) (.slice Ac T.code.length cc) kv] w fun e w' => e = .returned (.int .i64 (codE 1 T.code)) ∧ Below w.heap.size w w' := by
  have HC := Lib.hid (hT.code.below (alloc_b w (.cells #[.int .i64 1, .string ⟨T.name.toArray⟩, .string ⟨T.cycle.toArray⟩, .slice Ai T.init.length ci, .slice Ac T.code.length cc, .int .i64 T.q, .int .i64 T.k, .int .i64 T.t, .int .i64 T.r, .string ⟨T.l.toArray⟩, .int .i64 T.v, kv] 32 (0, 0))))
  have HBX := Lib.hid (Blk.new w 32 #[.int .i64 1, .string ⟨T.name.toArray⟩, .string ⟨T.cycle.toArray⟩, .slice Ai T.init.length ci, .slice Ac T.code.length cc, .int .i64 T.q, .int .i64 T.k, .int .i64 T.t, .int .i64 T.r, .string ⟨T.l.toArray⟩, .int .i64 T.v, kv])
  have HB0 := Lib.hid (alloc_b w (.cells #[.int .i64 1, .string ⟨T.name.toArray⟩, .string ⟨T.cycle.toArray⟩, .slice Ai T.init.length ci, .slice Ac T.code.length cc, .int .i64 T.q, .int .i64 T.k, .int .i64 T.t, .int .i64 T.r, .string ⟨T.l.toArray⟩, .int .i64 T.v, kv] 32 (0, 0)))
  have hcl := hT.clen
  simp only [testV, ha]
  clear hT ha
  obtain ⟨n, hn⟩ : ∃ n, T.code.length = n := ⟨_, rfl⟩
  have HN := Lib.hid hn
  rw [hn] at HBX HB0 hcl ⊢
  rw [hn] at HC
  by_cases hb1 : n < 1 ∨ 16 < n
  · have HV := Lib.hid (codE_len (a := 1) (hn ▸ hb1))
    rcases hb1 with hb1 | hb1
    all_goals
      have f1 : decide ((n : Int) < 1) = decide (n < 1) := by simp; omega
      go_enter Tryz.func125, Tryz.ntmps125
      go_wp2_with fail
      go_ret
      exact ⟨ret_int HV.out.symm, HB0.out⟩
  · have g1 : 1 ≤ n := by omega
    have g2 : n ≤ 16 := by omega
    clear hb1
    go_enter Tryz.func125, Tryz.ntmps125
    go_wp2_with fail
    generalize hw1 : w.alloc (.cells #[.int .i64 1, .string ⟨T.name.toArray⟩, .string ⟨T.cycle.toArray⟩, .slice Ai T.init.length ci, .slice Ac n cc, .int .i64 T.q, .int .i64 T.k, .int .i64 T.t, .int .i64 T.r, .string ⟨T.l.toArray⟩, .int .i64 T.v, kv] 32 (0, 0)) = w1 at HC HBX HB0 ⊢
    have hsz : w.heap.size < w1.heap.size := HBX.out.lt
    have k0 := HBX.out.cell 0
    have k4 := HBX.out.cell 4
    clear hw1
    go_loop [25] (fun i => ∃ k : Nat, k ≤ n ∧ i = .int .i64 k ∧ ∀ (j : Nat) (c : List Ins), j < k → T.code[j]? = some c → c.length ≤ 256) (fun i => n - (intOf i).toNat)
    case atStart => exact ⟨0, Nat.zero_le _, rfl, fun j c hj => absurd hj (Nat.not_lt_zero _)⟩
    case round =>
      obtain ⟨k, hk, rfl, hno⟩ := hrel
      have HNO := Lib.hid hno
      clear hno
      by_cases hlt : k < n
      · have hlk : k < T.code.length := by rw [HN.out]; exact hlt
        have ex := List.getElem?_eq_getElem hlk
        obtain ⟨x, hx⟩ : ∃ x, T.code[k] = x := ⟨_, rfl⟩
        rw [hx] at ex
        obtain ⟨b, o, A2, c2, rfl, hc0, hA2, hl1, hl2⟩ := HC.out.at_ ex
        have HX := Lib.hid ex
        have hkn : (k : Int) < (n : Int) := by omega
        clear ex hx hlk hA2 hl2
        by_cases hl : 256 < x.length
        · have HV := Lib.hid (codE_long (a := 1) HX.out hl)
          go_wp2_with fail
          go_ret
          exact ⟨ret_int HV.out.symm, HB0.out⟩
        · go_wp2_with fail
          go_round
          case rel => exact ⟨k + 1, by omega, by go_num, fun j c hj hc => by (rcases Nat.lt_succ_iff_lt_or_eq.1 hj with h | h); exact HNO.out j c h hc; rw [h, HX.out] at hc; cases hc; omega⟩
          case measure => simp [intOf]; omega
      · have HL := Lib.hid (fun (j : Nat) (c : List Ins) (hc : T.code[j]? = some c) => HNO.out j c (by have := (List.getElem?_eq_some_iff.1 hc).1; have := HN.out; omega) hc)
        clear HNO hk
        go_wp2_with fail
        go_loopw [36] (fun i wr => ∃ k : Nat, k ≤ n ∧ i = .int .i64 k ∧ (∀ (j : Nat) (c : List Ins), j < k → T.code[j]? = some c → thrE 1 c = 0) ∧ Below w1.heap.size w1 wr) (fun i _ => n - (intOf i).toNat)
        case atStart => exact ⟨0, Nat.zero_le _, rfl, (fun j c hj => absurd hj (Nat.not_lt_zero _)), Below.refl _ _⟩
        case round =>
          obtain ⟨k, hk, rfl, hno, hb⟩ := hrel
          have HNO := Lib.hid hno
          have HB := Lib.hid hb
          have hzr := hb.size
          clear hno hb
          by_cases hlt : k < n
          · have hlk : k < T.code.length := by rw [HN.out]; exact hlt
            have ex := List.getElem?_eq_getElem hlk
            obtain ⟨c, hx⟩ : ∃ c, T.code[k] = c := ⟨_, rfl⟩
            rw [hx] at ex
            obtain ⟨b, o, A2, c2, rfl, hc0, hA2, hl1, hl2⟩ := HC.out.at_ ex
            have hc256 := HL.out k c ex
            have HX := Lib.hid ex
            have HA2 := Lib.hid hA2
            have hkn : (k : Int) < (n : Int) := by omega
            have hc0r := cell_go hc0 HB.out
            clear ex hx hlk hA2 hc0
            go_wp2_with fail
            obtain ⟨wi, hwi⟩ : ∃ wi : World, wi = wr := ⟨_, rfl⟩
            subst hwi
            go_loopw [42] (fun i wr => ∃ i' : Nat, i' ≤ c.length ∧ i = .int .i64 i' ∧ (c.take i').all (okX 1) = true ∧ Below wi.heap.size wi wr) (fun i _ => c.length - (intOf i).toNat)
            case atStart => exact ⟨0, Nat.zero_le _, rfl, by simp, Below.refl _ _⟩
            case round =>
              obtain ⟨i, hi, rfl, hall, hbi⟩ := hrel
              have HALL := Lib.hid hall
              have HBI := Lib.hid hbi
              have hzi := hbi.size
              clear hall hbi
              have HBW := Lib.hid (below_trans HB.out HBI.out)
              have k0i : wr.cell? ⟨w.heap.size, 0, none⟩ = some (.int .i64 1) := (HBX.out.go HBW.out).cell 0
              have hsw : w.heap.size < wr.heap.size := by omega
              by_cases hli : i < c.length
              · have ey := List.getElem?_eq_getElem hli
                obtain ⟨x, hx⟩ : ∃ x, c[i] = x := ⟨_, rfl⟩
                rw [hx] at ey
                obtain ⟨b2, o2, rfl, hC⟩ := HA2.out.at_ ey
                have hbl := hC.lt
                obtain ⟨c0, c1, c2', c3, c4, c5, c6, c7, l1, l2⟩ := hC.go HBW.out
                have HY := Lib.hid ey
                have HL1 := Lib.hid l1
                have HL2 := Lib.hid l2
                have hkl : (i : Int) < (c.length : Int) := by omega
                obtain ⟨r, hr⟩ : ∃ r, okX 1 x = r := ⟨_, rfl⟩
                have HR := Lib.hid hr
                have HR2 := Lib.hid (show insLI x = r by rw [← hr]; rfl)
                clear ey hx hC hr l1 l2
                have HB1 := Lib.hid (alloc_b wr (.cells #[.int .i64 x.op, .int .i64 x.d, .int .i64 x.a, .int .i64 x.b, .int .i64 x.imm, .string ⟨x.loc.toArray⟩, .string ⟨x.label.toArray⟩, .int .i64 x.fence] 70 (0, 0)))
                cases r
                · have HV := Lib.hid (codE_hit (a := 1) (e := 91) (by rw [HN.out]; exact g1) (by rw [HN.out]; exact g2) HL.out HX.out (by unfold thrE; rw [all_not HY.out HR.out]; rfl) (by decide) HNO.out)
                  go_wp2_with (go_at_call 164; refine (chkIPx x _ HL1.out).mono ?_; rw [HR2.out]; rintro e w2 ⟨rfl, hb2⟩; have HB2 := Lib.hid (below_trans HB1.out hb2); clear hb2; have k02 : w2.cell? ⟨w.heap.size, 0, none⟩ = some (.int .i64 1) := (HBX.out.go (below_trans HBW.out HB2.out)).cell 0)
                  go_ret
                  exact ⟨ret_int HV.out.symm, below_trans HB0.out (below_trans HBW.out HB2.out)⟩
                · go_wp2_with (go_at_call 164; refine (chkIPx x _ HL1.out).mono ?_; rw [HR2.out]; rintro e w2 ⟨rfl, hb2⟩; have HB2 := Lib.hid (below_trans HB1.out hb2); clear hb2; have k02 : w2.cell? ⟨w.heap.size, 0, none⟩ = some (.int .i64 1) := (HBX.out.go (below_trans HBW.out HB2.out)).cell 0)
                  go_roundw
                  case rel => exact ⟨i + 1, by omega, by go_num, by rw [all_step HY.out, HALL.out, HR.out]; rfl, below_trans HBI.out HB2.out⟩
                  case measure => simp [intOf]; omega
              · have HALC := Lib.hid (show c.all (okX 1) = true by have := HALL.out; rwa [List.take_of_length_le (by omega)] at this)
                clear HALL
                have HTH := Lib.hid (show thrE 1 c = 0 by unfold thrE; rw [HALC.out]; rfl)
                go_wp2_with fail
                go_roundw
                case rel => exact ⟨k + 1, by omega, by go_num, (fun j c' hj hc => by (rcases Nat.lt_succ_iff_lt_or_eq.1 hj with h | h); exact HNO.out j c' h hc; rw [h, HX.out] at hc; cases hc; exact HTH.out), HBW.out⟩
                case measure => simp [intOf]; omega
          · have HV := Lib.hid (codE_ok (a := 1) (by rw [HN.out]; exact g1) (by rw [HN.out]; exact g2) HL.out (fun j c hc => HNO.out j c (by have := (List.getElem?_eq_some_iff.1 hc).1; have := HN.out; omega) hc))
            go_wp2_with fail
            go_ret
            exact ⟨ret_int HV.out.symm, below_trans HB0.out HB.out⟩
theorem codedP_2 (ci cc : Nat) (ha : T.arch = 2) (hT : TstAt w T Ai Ac kv) : Calls Tryz.prog 125 #[testV T (.slice Ai T.init.length ci) (.slice Ac T.code.length cc) kv] w fun e w' => e = .returned (.int .i64 (codE 2 T.code)) ∧ Below w.heap.size w w' := by
  have HC := Lib.hid (hT.code.below (alloc_b w (.cells #[.int .i64 2, .string ⟨T.name.toArray⟩, .string ⟨T.cycle.toArray⟩, .slice Ai T.init.length ci, .slice Ac T.code.length cc, .int .i64 T.q, .int .i64 T.k, .int .i64 T.t, .int .i64 T.r, .string ⟨T.l.toArray⟩, .int .i64 T.v, kv] 32 (0, 0))))
  have HBX := Lib.hid (Blk.new w 32 #[.int .i64 2, .string ⟨T.name.toArray⟩, .string ⟨T.cycle.toArray⟩, .slice Ai T.init.length ci, .slice Ac T.code.length cc, .int .i64 T.q, .int .i64 T.k, .int .i64 T.t, .int .i64 T.r, .string ⟨T.l.toArray⟩, .int .i64 T.v, kv])
  have HB0 := Lib.hid (alloc_b w (.cells #[.int .i64 2, .string ⟨T.name.toArray⟩, .string ⟨T.cycle.toArray⟩, .slice Ai T.init.length ci, .slice Ac T.code.length cc, .int .i64 T.q, .int .i64 T.k, .int .i64 T.t, .int .i64 T.r, .string ⟨T.l.toArray⟩, .int .i64 T.v, kv] 32 (0, 0)))
  have hcl := hT.clen
  simp only [testV, ha]
  clear hT ha
  obtain ⟨n, hn⟩ : ∃ n, T.code.length = n := ⟨_, rfl⟩
  have HN := Lib.hid hn
  rw [hn] at HBX HB0 hcl ⊢
  rw [hn] at HC
  by_cases hb1 : n < 1 ∨ 16 < n
  · have HV := Lib.hid (codE_len (a := 2) (hn ▸ hb1))
    rcases hb1 with hb1 | hb1
    all_goals
      have f1 : decide ((n : Int) < 1) = decide (n < 1) := by simp; omega
      go_enter Tryz.func125, Tryz.ntmps125
      go_wp2_with fail
      go_ret
      exact ⟨ret_int HV.out.symm, HB0.out⟩
  · have g1 : 1 ≤ n := by omega
    have g2 : n ≤ 16 := by omega
    clear hb1
    go_enter Tryz.func125, Tryz.ntmps125
    go_wp2_with fail
    generalize hw1 : w.alloc (.cells #[.int .i64 2, .string ⟨T.name.toArray⟩, .string ⟨T.cycle.toArray⟩, .slice Ai T.init.length ci, .slice Ac n cc, .int .i64 T.q, .int .i64 T.k, .int .i64 T.t, .int .i64 T.r, .string ⟨T.l.toArray⟩, .int .i64 T.v, kv] 32 (0, 0)) = w1 at HC HBX HB0 ⊢
    have hsz : w.heap.size < w1.heap.size := HBX.out.lt
    have k0 := HBX.out.cell 0
    have k4 := HBX.out.cell 4
    clear hw1
    go_loop [25] (fun i => ∃ k : Nat, k ≤ n ∧ i = .int .i64 k ∧ ∀ (j : Nat) (c : List Ins), j < k → T.code[j]? = some c → c.length ≤ 256) (fun i => n - (intOf i).toNat)
    case atStart => exact ⟨0, Nat.zero_le _, rfl, fun j c hj => absurd hj (Nat.not_lt_zero _)⟩
    case round =>
      obtain ⟨k, hk, rfl, hno⟩ := hrel
      have HNO := Lib.hid hno
      clear hno
      by_cases hlt : k < n
      · have hlk : k < T.code.length := by rw [HN.out]; exact hlt
        have ex := List.getElem?_eq_getElem hlk
        obtain ⟨x, hx⟩ : ∃ x, T.code[k] = x := ⟨_, rfl⟩
        rw [hx] at ex
        obtain ⟨b, o, A2, c2, rfl, hc0, hA2, hl1, hl2⟩ := HC.out.at_ ex
        have HX := Lib.hid ex
        have hkn : (k : Int) < (n : Int) := by omega
        clear ex hx hlk hA2 hl2
        by_cases hl : 256 < x.length
        · have HV := Lib.hid (codE_long (a := 2) HX.out hl)
          go_wp2_with fail
          go_ret
          exact ⟨ret_int HV.out.symm, HB0.out⟩
        · go_wp2_with fail
          go_round
          case rel => exact ⟨k + 1, by omega, by go_num, fun j c hj hc => by (rcases Nat.lt_succ_iff_lt_or_eq.1 hj with h | h); exact HNO.out j c h hc; rw [h, HX.out] at hc; cases hc; omega⟩
          case measure => simp [intOf]; omega
      · have HL := Lib.hid (fun (j : Nat) (c : List Ins) (hc : T.code[j]? = some c) => HNO.out j c (by have := (List.getElem?_eq_some_iff.1 hc).1; have := HN.out; omega) hc)
        clear HNO hk
        go_wp2_with fail
        go_loopw [36] (fun i wr => ∃ k : Nat, k ≤ n ∧ i = .int .i64 k ∧ (∀ (j : Nat) (c : List Ins), j < k → T.code[j]? = some c → thrE 2 c = 0) ∧ Below w1.heap.size w1 wr) (fun i _ => n - (intOf i).toNat)
        case atStart => exact ⟨0, Nat.zero_le _, rfl, (fun j c hj => absurd hj (Nat.not_lt_zero _)), Below.refl _ _⟩
        case round =>
          obtain ⟨k, hk, rfl, hno, hb⟩ := hrel
          have HNO := Lib.hid hno
          have HB := Lib.hid hb
          have hzr := hb.size
          clear hno hb
          by_cases hlt : k < n
          · have hlk : k < T.code.length := by rw [HN.out]; exact hlt
            have ex := List.getElem?_eq_getElem hlk
            obtain ⟨c, hx⟩ : ∃ c, T.code[k] = c := ⟨_, rfl⟩
            rw [hx] at ex
            obtain ⟨b, o, A2, c2, rfl, hc0, hA2, hl1, hl2⟩ := HC.out.at_ ex
            have hc256 := HL.out k c ex
            have HX := Lib.hid ex
            have HA2 := Lib.hid hA2
            have hkn : (k : Int) < (n : Int) := by omega
            have hc0r := cell_go hc0 HB.out
            clear ex hx hlk hA2 hc0
            go_wp2_with fail
            obtain ⟨wi, hwi⟩ : ∃ wi : World, wi = wr := ⟨_, rfl⟩
            subst hwi
            go_loopw [42] (fun i wr => ∃ i' : Nat, i' ≤ c.length ∧ i = .int .i64 i' ∧ (c.take i').all (okX 2) = true ∧ Below wi.heap.size wi wr) (fun i _ => c.length - (intOf i).toNat)
            case atStart => exact ⟨0, Nat.zero_le _, rfl, by simp, Below.refl _ _⟩
            case round =>
              obtain ⟨i, hi, rfl, hall, hbi⟩ := hrel
              have HALL := Lib.hid hall
              have HBI := Lib.hid hbi
              have hzi := hbi.size
              clear hall hbi
              have HBW := Lib.hid (below_trans HB.out HBI.out)
              have k0i : wr.cell? ⟨w.heap.size, 0, none⟩ = some (.int .i64 2) := (HBX.out.go HBW.out).cell 0
              have hsw : w.heap.size < wr.heap.size := by omega
              by_cases hli : i < c.length
              · have ey := List.getElem?_eq_getElem hli
                obtain ⟨x, hx⟩ : ∃ x, c[i] = x := ⟨_, rfl⟩
                rw [hx] at ey
                obtain ⟨b2, o2, rfl, hC⟩ := HA2.out.at_ ey
                have hbl := hC.lt
                obtain ⟨c0, c1, c2', c3, c4, c5, c6, c7, l1, l2⟩ := hC.go HBW.out
                have HY := Lib.hid ey
                have HL1 := Lib.hid l1
                have HL2 := Lib.hid l2
                have hkl : (i : Int) < (c.length : Int) := by omega
                obtain ⟨r, hr⟩ : ∃ r, okX 2 x = r := ⟨_, rfl⟩
                have HR := Lib.hid hr
                have HR2 := Lib.hid (show vinsL x = r by rw [← hr]; rfl)
                clear ey hx hC hr l1 l2
                have HB1 := Lib.hid (alloc_b wr (.cells #[.int .i64 x.op, .int .i64 x.d, .int .i64 x.a, .int .i64 x.b, .int .i64 x.imm, .string ⟨x.loc.toArray⟩, .string ⟨x.label.toArray⟩, .int .i64 x.fence] 70 (0, 0)))
                cases r
                · have HV := Lib.hid (codE_hit (a := 2) (e := 91) (by rw [HN.out]; exact g1) (by rw [HN.out]; exact g2) HL.out HX.out (by unfold thrE; rw [all_not HY.out HR.out]; rfl) (by decide) HNO.out)
                  go_wp2_with (go_at_call 194; refine (chkVPx x _ HL2.out).mono ?_; rw [HR2.out]; rintro e w2 ⟨rfl, hb2⟩; have HB2 := Lib.hid (below_trans HB1.out hb2); clear hb2; have k02 : w2.cell? ⟨w.heap.size, 0, none⟩ = some (.int .i64 2) := (HBX.out.go (below_trans HBW.out HB2.out)).cell 0)
                  go_ret
                  exact ⟨ret_int HV.out.symm, below_trans HB0.out (below_trans HBW.out HB2.out)⟩
                · go_wp2_with (go_at_call 194; refine (chkVPx x _ HL2.out).mono ?_; rw [HR2.out]; rintro e w2 ⟨rfl, hb2⟩; have HB2 := Lib.hid (below_trans HB1.out hb2); clear hb2; have k02 : w2.cell? ⟨w.heap.size, 0, none⟩ = some (.int .i64 2) := (HBX.out.go (below_trans HBW.out HB2.out)).cell 0)
                  go_roundw
                  case rel => exact ⟨i + 1, by omega, by go_num, by rw [all_step HY.out, HALL.out, HR.out]; rfl, below_trans HBI.out HB2.out⟩
                  case measure => simp [intOf]; omega
              · have HALC := Lib.hid (show c.all (okX 2) = true by have := HALL.out; rwa [List.take_of_length_le (by omega)] at this)
                clear HALL
                have HTH := Lib.hid (show thrE 2 c = (lnkE c).1 by unfold thrE; rw [HALC.out]; rfl)
                by_cases hE : (lnkE c).1 = 0
                · go_wp2_with (go_at_call 167; refine (linksP c A2 c2 wr hc256 hl2 (HA2.out.below HBW.out)).mono ?_; rintro e w2 ⟨hres, hb2⟩; have HB2 := Lib.hid hb2; clear hb2; (rcases hres with ⟨hne, rfl⟩ | ⟨heq, g, hg, rfl, hblk⟩; exact absurd hE hne))
                  go_roundw
                  case rel => exact ⟨k + 1, by omega, by go_num, (fun j c' hj hc => by (rcases Nat.lt_succ_iff_lt_or_eq.1 hj with h | h); exact HNO.out j c' h hc; rw [h, HX.out] at hc; cases hc; rw [HTH.out]; exact hE), below_trans HBW.out HB2.out⟩
                  case measure => simp [intOf]; omega
                · have HV := Lib.hid (codE_hit (a := 2) (by rw [HN.out]; exact g1) (by rw [HN.out]; exact g2) HL.out HX.out HTH.out hE HNO.out)
                  have hE2 : ((lnkE c).1 != 0) = true := by simpa using hE
                  have hE3 : ((lnkE c).1 == 0) = false := by simpa using hE
                  go_wp2_with (go_at_call 167; refine (linksP c A2 c2 wr hc256 hl2 (HA2.out.below HBW.out)).mono ?_; rintro e w2 ⟨hres, hb2⟩; have HB2 := Lib.hid hb2; clear hb2; (rcases hres with ⟨hne, rfl⟩ | ⟨heq, g, hg, rfl, hblk⟩; rotate_left; exact absurd heq hE))
                  go_ret
                  exact ⟨ret_int HV.out.symm, below_trans HB0.out (below_trans HBW.out HB2.out)⟩
          · have HV := Lib.hid (codE_ok (a := 2) (by rw [HN.out]; exact g1) (by rw [HN.out]; exact g2) HL.out (fun j c hc => HNO.out j c (by have := (List.getElem?_eq_some_iff.1 hc).1; have := HN.out; omega) hc))
            go_wp2_with fail
            go_ret
            exact ⟨ret_int HV.out.symm, below_trans HB0.out HB.out⟩
end
end
end Go.Proofs.YtjhafgnmahhacaaGreatDoor
