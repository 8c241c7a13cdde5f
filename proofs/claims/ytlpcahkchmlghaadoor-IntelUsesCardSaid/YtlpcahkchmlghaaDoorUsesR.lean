/- IntelUses: the walk behind the first Do. -/
import Derived.Test.YtlpcahkchmlghaaDoorKo
namespace Go.Proofs.YtlpcahkchmlghaaDoor
open Go.RowKit

def tlC : Code → Code
  | .seq _ b => b
  | c => c
noncomputable def usesRestC : Code := tlC (tlC (tlC (tlC (Tryd.f9.body.getD .skip))))
set_option maxRecDepth 100000 in
set_option maxHeartbeats 8000000 in
theorem usesRest {op d a b imm : Int} {loc label : ByteArray} {fence : Int} {v : Value} {at_ : Int} {vs : List (List UInt8 × Int)} {reg : Int} {Lv : List UInt8} {nv : Int} (hLv : Lv.length ≤ 9223372036854775807)
    {ul : List Int} {uw ue er : Int} {vs' : List (List UInt8 × Int)} {at' k : Int} {L : List UInt8} {x y z : Int} (hue : ue = 0 ∨ ue = er)
    (hok : ue = 0 → er = 0 → vs.length = 15 ∧ vs'.length = 15 ∧ at' = at_ + 1 ∧ 0 ≤ at_ ∧ at_ < 256 ∧ (∀ j (h : j < vs.length) (h' : j < vs'.length), (j : Int) ≠ uw → vs'[j] = vs[j]) ∧ (∀ j (h : j < vs'.length), vs'[j].1.length ≤ 9223372036854775807) ∧
      ∀ r : Nat, r < vs.length → (r : Int) ≠ uw → (∀ q ∈ ul, q ≠ (r : Int)) → valB (Lv, nv) = true → ∀ v w, ValsAt w v (vs.set r (Lv, nv)) → Calls Tryd.prog 26 #[insV op d a b imm loc label fence, locV v at_] w (DoGen 0 (vs'.set r (Lv, nv)) at' k L x y z w))
    {w w1 wc : World} {A9 : Option Addr} {c9 V : Nat} (hE : Env w) (hv0 : ArgAt w v vs) (hB1 : Below w.heap.size w w1) (hv1 : ArgAt w1 v vs) (hI1 : BoxI w1 w.heap.size op d a b imm loc label fence)
    (t01 : w1.cell? ⟨w.heap.size + 1, 0, none⟩ = some v) (t11 : w1.cell? ⟨w.heap.size + 1, 1, none⟩ = some (.int .i64 at_)) (V0 : w1.cell? ⟨V, 0, none⟩ = some (.string ⟨Lv.toArray⟩)) (V1 : w1.cell? ⟨V, 1, none⟩ = some (.int .i64 nv))
    (hi9 : IntsAt w1 (.slice A9 ul.length c9) ul) (_hz1 : w.heap.size + 3 ≤ w1.heap.size) (hV1 : w.heap.size + 3 ≤ V) (hV2 : V < w1.heap.size)
    {u12 u13 u14 : Value} (hcut : UsB w1 er vs' at' k L x y z u12 u13 u14 wc) (u21 u22 u23 u24 u25 u26 u27 u28 u29 u30 u31 u32 u33 u34 u35 u36 u37 u38 u39 u40 u41 u42 u43 u44 u45 u46 u47 u48 u49 u50 u51 u52 u53 u54 u55 u56 u57 u58 u59 u60 u61 u62 u63 u64 u65 u66 u67 u68 u69 u70 u71 u72 u73 u74 u75 u76 u77 u78 u79 u80 u81 u82 u83 u84 u85 u86 u87 u88 u89 u90 u91 u92 u93 u94 u95 u96 u97 u98 u99 u100 u101 u102 u103 u104 u105 u106 u107 u108 u109 u110 u111 u112 u113 u114 u115 u116 u117 u118 u119 u120 u121 u122 u123 u124 u125 u126 u127 u128 u129 u130 u131 u132 u133 u134 u135 u136 u137 u138 u139 u140 u141 u142 u143 u144 u145 u146 u147 u148 u149 u150 u151 u152 u153 u154 u155 u156 u157 u158 u159 u160 u161 u162 u163 u164 u165 u166 u167 u168 u169 u170 u171 u172 u173 u174 u175 u176 u177 u178 u179 u180 u181 u182 u183 : Value) :
    Code.wp Tryd.prog usesRestC (bodyPost Tryd.prog Tryd.f9 fun e w' => e = .returned (.bool true) ∧ Below w.heap.size w w') ⟨#[insV op d a b imm loc label fence, locV v at_, .agg #[.int .i64 reg, .string ⟨Lv.toArray⟩, .int .i64 nv], .pointer (some ⟨w.heap.size, 0, none⟩), .pointer (some ⟨w.heap.size + 1, 0, none⟩), .pointer (some ⟨w.heap.size + 1 + 1, 0, none⟩), .bool false, .int .i64 reg, .pointer (some ⟨V, 0, none⟩), .slice A9 ul.length c9, .int .i64 uw, .int .i64 ue, u12, u13, u14, undef, undef, undef, undef, undef, undef, u21, u22, u23, u24, u25, u26, u27, u28, u29, u30, u31, u32, u33, u34, u35, u36, u37, u38, u39, u40, u41, u42, u43, u44, u45, u46, u47, u48, u49, u50, u51, u52, u53, u54, u55, u56, u57, u58, u59, u60, u61, u62, u63, u64, u65, u66, u67, u68, u69, u70, u71, u72, u73, u74, u75, u76, u77, u78, u79, u80, u81, u82, u83, u84, u85, u86, u87, u88, u89, u90, u91, u92, u93, u94, u95, u96, u97, u98, u99, u100, u101, u102, u103, u104, u105, u106, u107, u108, u109, u110, u111, u112, u113, u114, u115, u116, u117, u118, u119, u120, u121, u122, u123, u124, u125, u126, u127, u128, u129, u130, u131, u132, u133, u134, u135, u136, u137, u138, u139, u140, u141, u142, u143, u144, u145, u146, u147, u148, u149, u150, u151, u152, u153, u154, u155, u156, u157, u158, u159, u160, u161, u162, u163, u164, u165, u166, u167, u168, u169, u170, u171, u172, u173, u174, u175, u176, u177, u178, u179, u180, u181, u182, u183], []⟩ wc := by
  have HK := Lib.hid hok
  have HL := Lib.hid hv0.1
  have HV0 := Lib.hid hv0
  have HB1 := Lib.hid hB1
  have HV1 := Lib.hid hv1
  have HI1 := Lib.hid hI1
  have T01 := Lib.hid t01
  have T11 := Lib.hid t11
  have HI9 := Lib.hid hi9
  clear hok hv0 hB1 hv1 hI1 t01 t11 hi9
  conv => arg 2; whnf
  obtain ⟨P, Q, A, c, rfl, rfl, rfl, hP1, hQ1, hP2, hQ2, hPQ, P0, P1, Q0, Q1, Q2, Q3, Q4, hown, hA, hc1, hc2, hfP, hbx⟩ := hcut
  have HC := Lib.hid (UsC.mk (HI1.out.go hbx) (cell_go T01.out hbx) (cell_go T11.out hbx) (cell_go V0 hbx) (cell_go V1 hbx) P0 P1 Q0 Q1 Q2 Q3 Q4 hown (HV1.out.mono hbx) (HI9.out.mono hbx))
  have HB := Lib.hid (below_trans HB1.out hbx)
  have HFP := Lib.hid hfP
  have HA := Lib.hid hA
  have hzw : w1.heap.size ≤ wc.heap.size := hbx.size
  clear hown hbx P0 P1 Q0 Q1 Q2 Q3 Q4 HI1 T01 T11 V0 V1 HV1 HI9 hfP hA HB1
  by_cases hu : ue = 0
  · by_cases he : er = 0
    · subst hu he
      obtain ⟨l1, l2, rfl, t1, t2, hst, hLl, hot⟩ := HK.out rfl rfl
      obtain ⟨hL0, ⟨rfl, rfl⟩ | ⟨a0, c0, rfl, ha1, ha2, _⟩⟩ := HV0.out
      · simp at l1
      have HST := Lib.hid hst
      have HLL := Lib.hid hLl
      have HOT := Lib.hid hot
      have L1 := Lib.hid l1
      have L2 := Lib.hid l2
      have g1 : ((vs'.length : Int) != (vs.length : Int)) = false := by rw [l1, l2]; rfl
      have l1a : vs.length ≤ 15 := by omega
      have l1b : 15 ≤ vs.length := by omega
      have l2a : vs'.length ≤ 15 := by omega
      have l2b : 15 ≤ vs'.length := by omega
      clear hst hLl hot hL0 l1 l2
      obtain ⟨_, t0, t1', _, _, p0, p1, _, _, _, _, _, _, _, _⟩ := HC.out
      go_wp2_with fail
      refine (awake_c _ (hE.mono HB.out)).mono ?_
      rintro e w5 ⟨rfl, hb5⟩
      have HC5 := Lib.hid (HC.out.go hb5)
      have HB5 := Lib.hid (below_trans HB.out hb5)
      have HF5 := Lib.hid (fun o => (hb5.frozen (p := ⟨P, o, none⟩) hP2).trans (HFP.out o))
      have hz5 : wc.heap.size ≤ w5.heap.size := hb5.size
      clear hb5 t0 t1' p0 p1 HC HB HFP
      go_wp2_with fail
      have hA0 := HC5.out.own.form (by omega)
      obtain ⟨g, cap, hsl, hgb, hgs, _, hcap⟩ := hA0
      injection hsl with e1 _ e2
      subst e1 e2
      obtain ⟨hgP, hgQ⟩ := HA.out _ rfl
      obtain ⟨b0, o0, rfl, hb0, hcT⟩ : ∃ b0 o0, a0 = ⟨b0, o0, none⟩ ∧ b0 < w5.heap.size ∧ ∀ j (h : j < vs.length), w5.cell? ⟨b0, o0 + j * 2, none⟩ = some (.string ⟨vs[j].1.toArray⟩) ∧ w5.cell? ⟨b0, o0 + j * 2 + 1, none⟩ = some (.int .i64 vs[j].2) := by
        obtain ⟨_, ⟨h, _⟩ | ⟨a0', c0', h, _, _, h3⟩⟩ := HC5.out.arg
        · cases h
        · injection h with h1 _ _
          injection h1 with h1
          subst h1
          exact h3 (by omega)
      have HT := Lib.hid hcT
      clear hcT
      go_loopw [15] (fun i wr => ∃ kk : Nat, kk ≤ 15 ∧ i = .int .i64 kk ∧ ∃ n, wr = w5.drewN n) (fun i _ => 15 - (intOf i).toNat)
      case atStart => exact ⟨0, by omega, rfl, 0, rfl⟩
      case round =>
        obtain ⟨kk, hk, rfl, nn, rfl⟩ := hrel
        obtain ⟨_, t0, t1', _, _, p0, p1, _, _, _, _, _, own, _, _⟩ := HC5.out
        by_cases hlt : kk < 15
        · have hl1 : kk < vs.length := by omega
          have hl2 : kk < vs'.length := by omega
          obtain ⟨d1, d2⟩ := HT.out kk hl1
          obtain ⟨d3, d4, _, _⟩ := regs_cells own kk hl2
          by_cases hw : (kk : Int) = uw
          · have hw' : ((kk : Int) != uw) = false := by simpa using hw
            clear hw d1 d2 d3 d4 own
            go_wp2
            go_quiet (fail)
            go_wp2
            go_roundw
            case rel => exact ⟨kk + 1, by omega, by go_num, (by first | exact dn0 _ _ | exact dn1 _ _ _ | exact dn2 _ _ _ _)⟩
            case measure => simp [intOf]; omega
          · have hw' : ((kk : Int) != uw) = true := by simpa using hw
            have he := HST.out kk hl1 hl2 hw
            rw [he] at d3 d4
            obtain ⟨xx, hxx⟩ : ∃ xx, vs[kk]'hl1 = xx := ⟨_, rfl⟩
            rw [hxx] at d1 d2 d3 d4
            clear hw he hxx own
            go_wp2
            go_quiet (fail)
            go_wp2
            go_roundw
            case rel => exact ⟨kk + 1, by omega, by go_num, (by first | exact dn0 _ _ | exact dn1 _ _ _ | exact dn2 _ _ _ _)⟩
            case measure => simp [intOf]; omega
        · have hge : ¬ kk < vs'.length := by omega
          clear own
          have HBn := Lib.hid (below_drewN HB5.out nn)
          have l1v : (vs.length : Int) = 15 := by omega
          by_cases r1 : reg < 0
          · have r1' : decide (reg < 0) = true := by simpa using r1
            have R1 := Lib.hid r1
            clear r1 l1v
            go_wp2
            go_ret
            exact ⟨rfl, HBn.out⟩
          have r1' : decide (reg < 0) = false := by simpa using r1
          obtain ⟨r, rfl⟩ := Int.eq_ofNat_of_zero_le (show 0 ≤ reg by omega)
          clear r1
          by_cases r2 : 15 ≤ r
          · clear l1v
            go_wp2
            go_ret
            exact ⟨rfl, HBn.out⟩
          by_cases r3 : (r : Int) = uw
          · have r3' : ((r : Int) == uw) = true := by simpa using r3
            clear r3 l1v
            go_wp2
            go_ret
            exact ⟨rfl, HBn.out⟩
          have r3' : ((r : Int) == uw) = false := by simpa using r3
          have R3 := Lib.hid r3
          clear r3 l1v
          obtain ⟨_, _, _, v0, v1, _, _, _, _, _, _, _, _, _, _⟩ := HC5.out
          cases r4 : valB (Lv, nv) with
          | false =>
            have R4 := Lib.hid r4
            clear r4
            go_wp2_with (go_at_call 29; refine (mayR _ _ _ hLv).mono ?_; rw [R4.out]; rintro e w' ⟨rfl, hb'⟩)
            go_ret
            exact ⟨rfl, below_trans HBn.out hb'⟩
          | true =>
            have R4 := Lib.hid r4
            clear r4
            go_wp2_with (go_at_call 29; refine (mayR _ _ _ hLv).mono ?_; rw [R4.out]; rintro e w6 ⟨rfl, hb6⟩)
            have hb56 := below_trans (below_drewN (Below.refl w5.heap.size w5) nn) hb6
            have HC6 := Lib.hid (HC5.out.go hb56)
            have HB6 := Lib.hid (below_trans HB5.out hb56)
            have HF6 := Lib.hid (fun o => (hb56.frozen (p := ⟨P, o, none⟩) (show P < _ by omega)).trans (HF5.out o))
            have hz6 : w5.heap.size ≤ w6.heap.size := hb56.size
            clear hb56 hb6 t0 t1' p0 p1 v0 v1 HC5 HB5 HF5 HT HBn
            obtain ⟨A9', c9', h9, h9a, h9b, h9c⟩ := HC6.out.ints
            injection h9 with h9 _ h9'
            subst h9 h9'
            have H9 := Lib.hid h9c
            clear h9c
            go_loop [16] (fun i => ∃ j : Nat, j ≤ ul.length ∧ i = .int .i64 j ∧ ∀ q (h : q < ul.length), q < j → ul[q] ≠ (r : Int)) (fun i => ul.length - (intOf i).toNat)
            case atStart => exact ⟨0, Nat.zero_le _, rfl, fun q _ h => absurd h (Nat.not_lt_zero _)⟩
            case round =>
              obtain ⟨j, hj, rfl, hall⟩ := hrel
              have H := Lib.hid hall
              clear hall
              by_cases hlt : j < ul.length
              · obtain ⟨b9, o9, rfl, hb9, hc9⟩ := H9.out (by omega)
                have d9 := hc9 j hlt
                obtain ⟨yy, hyy⟩ : ∃ yy, ul[j] = yy := ⟨_, rfl⟩
                rw [hyy] at d9
                have HY := Lib.hid hyy
                clear hyy hc9
                by_cases hq : yy = (r : Int)
                · have hq' : (yy == (r : Int)) = true := by simpa using hq
                  clear hq
                  go_wp2
                  go_ret
                  exact ⟨rfl, HB6.out⟩
                · have hq' : (yy == (r : Int)) = false := by simpa using hq
                  have HQ := Lib.hid hq
                  clear hq
                  go_wp2
                  go_round
                  case rel => exact ⟨j + 1, by omega, by go_num, fun q h hqj => by
                    by_cases e : q < j
                    · exact H.out q h e
                    · obtain rfl : q = j := by omega
                      rw [HY.out]; exact HQ.out⟩
                  case measure => simp [intOf]; omega
              · have hno : ∀ q ∈ ul, q ≠ (r : Int) := fun q hq => by
                  obtain ⟨i, hi, rfl⟩ := List.getElem_of_mem hq
                  exact H.out i hi (by omega)
                have HD := Lib.hid (HOT.out r (by omega) R3.out hno R4.out)
                clear hno
                obtain ⟨_, t0, t1', _, _, _, _, _, _, _, _, _, _, _, _⟩ := HC6.out
                go_wp2_with fail
                refine (copied_c _ at_ vs _ HC6.out.arg).mono ?_
                rintro e w7 ⟨v7, rfl, hown7, hb7⟩
                obtain ⟨g7, cap7, rfl, hg7a, hg7b, hn7, hcap7⟩ := hown7.form (by omega)
                have hHC7 := HC6.out.go hb7
                have HC7 := Lib.hid hHC7
                have HB7 := Lib.hid (below_trans HB6.out hb7)
                have HF7 := Lib.hid (fun o => (hb7.frozen (p := ⟨P, o, none⟩) (show P < _ by omega)).trans (HF6.out o))
                have hz7 : w6.heap.size ≤ w7.heap.size := hb7.size
                have HO7 := Lib.hid hown7
                have Hb67 := Lib.hid hb7
                clear hb7 hown7 t0 t1' hHC7 H9
                have c1 := regs_cells HO7.out r (by omega)
                obtain ⟨k1, k2, k3, k4⟩ := c1
                have y1 : V < w7.heap.size := by omega
                have y2 : g7 ≠ V := by omega
                have y3 : V ≠ g7 := by omega
                have y4 : w.heap.size < w7.heap.size := by omega
                have y5 : w.heap.size ≠ g7 := by omega
                have y6 : g7 ≠ w.heap.size := by omega
                have y7 : r < vs.length := by omega
                have v0 := HC7.out.v0
                have v1 := HC7.out.v1
                obtain ⟨i0, i1, i2, i3, i4, i5, i6, i7⟩ := HC7.out.box
                obtain ⟨us, hus⟩ : ∃ us, us = vs'.set r (Lv, nv) := ⟨_, rfl⟩
                have HUS := Lib.hid hus
                have hul : us.length = vs'.length := by rw [hus, List.length_set]
                have hD := HD.out
                rw [← hus] at hD
                have HD' := Lib.hid hD
                have hula : us.length ≤ 15 := by omega
                have hulb : 15 ≤ us.length := by omega
                clear hus hul hD HD
                go_wp2_with fail
                have hset := (set_gen HO7.out r (Lv, nv)).al (.cells #[.slice (some ⟨g7, 0, none⟩) vs.length cap7, .int .i64 at_] 47 (0, 0))
                refine (HD'.out _ _ (hset.vals (fun q hq => ?_))).mono ?_
                · rw [List.getElem_set]
                  split
                  · exact hLv
                  · exact HL.out q (by simpa using hq)
                rintro e w8 ⟨v8, rfl, hown8, hb8⟩
                have hbW := below_alloc ((Hb67.out.setCell (p := ⟨g7, r * 2, none⟩) hg7a (.string ⟨Lv.toArray⟩)).setCell (p := ⟨g7, r * 2 + 1, none⟩) hg7a (.int .i64 nv)) (.cells #[.slice (some ⟨g7, 0, none⟩) vs.length cap7, .int .i64 at_] 47 (0, 0))
                have hb68 := below_trans hbW hb8
                have HC8 := Lib.hid (HC6.out.go hb68)
                have HB8 := Lib.hid (below_trans HB6.out hb68)
                have HF8 := Lib.hid (fun o => (hb68.frozen (p := ⟨P, o, none⟩) (show P < _ by omega)).trans (HF6.out o))
                have hz8 : w7.heap.size < w8.heap.size := by have := hb8.size; simp at this; omega
                obtain ⟨g8, cap8, rfl, hg8a, hg8b, hn8, hcap8⟩ := hown8.form (by omega)
                have hg8c : w7.heap.size < g8 := by simp at hg8a; omega
                have HO8 := Lib.hid hown8
                clear hown8 hb8 hbW hb68 i0 i1 i2 i3 i4 i5 i6 i7 HC6 HB6 HF6 HC7 HB7 HF7 HO7 Hb67 hset v0 v1 k1 k2 k3 k4 HD' hg8a
                obtain ⟨j0, hi, hzz0, hzz1, hzz2⟩ := info_parts valInfo
                have hcs := regs_cells HO8.out
                have HCS := Lib.hid (valsCells_cell (fun q hq => by have := hcs q hq; simpa using ⟨this.1, this.2.1⟩ : ∀ q (h : q < us.length), w8.cell? ⟨g8, 0 + q * 2, none⟩ = some (.string ⟨us[q].1.toArray⟩) ∧ w8.cell? ⟨g8, 0 + q * 2 + 1, none⟩ = some (.int .i64 us[q].2)))
                clear hcs
                go_upto_region 23 with fail
                go_wp2_with (at_builtin; refine wpList_append_own _ rfl _ _ 45 rfl (w8.heap.size + 2) 55 j0 (.agg #[.string ⟨#[]⟩, .int .i64 0]) 2 24 Tryd.underlying45 hi hzz0 hzz1 hzz2 rfl (by decide) _ 0 [] rfl ?own ⟨g8, 0, none⟩ us.length cap8 (valsCells us) rfl (valsCells_len us) ?c1 (valsCells_one us) ?c3 ?c4 ?c5 ?_)
                case own => exact empty_own2 w8 _ _
                case c1 =>
                  intro q u hq
                  have h0 := HCS.out q u hq
                  have e : ((⟨g8, 0, none⟩ : Addr).add q) = ⟨g8, q, none⟩ := by cases q <;> simp [Addr.add]
                  rw [e] at h0 ⊢
                  exact cell_al (cell_al (cell_al h0 _) _) _
                case c3 => unfold maxLen; omega
                case c4 => omega
                case c5 => simp
                intro v9 w9 hown9 hgr9 _
                have hown9' : RegsOwn w9 (w8.heap.size + 2) v9 us := by simpa using hown9
                have hb9 := below_grown (below_alloc (Below.refl ((w8.alloc (.cells #[.slice (some ⟨g8, 0, none⟩) us.length cap8, .int .i64 (at_ + 1)] 47 (0, 0))).alloc (.cells #[.int .i64 k, .string ⟨L.toArray⟩, .int .i64 x, .int .i64 y, .int .i64 z] 50 (0, 0))).heap.size _) (.cells #[] 55 (0, 0))) (empty_own2 w8 _ _) (by simp) hgr9
                obtain ⟨g9, cap9, rfl, hg9a, hg9b, hn9, hcap9⟩ := hown9'.form (by omega)
                have hb89 := below_trans (below_alloc (alloc_b w8 _) _) hb9
                have HC9 := Lib.hid (HC8.out.go hb89)
                have HB9 := Lib.hid (below_trans HB8.out hb89)
                have HF9 := Lib.hid (fun o => (hb89.frozen (p := ⟨P, o, none⟩) (show P < _ by omega)).trans (HF8.out o))
                have Y0 := cell_go (cell_al (cell_new w8 #[.slice (some ⟨g8, 0, none⟩) us.length cap8, .int .i64 (at_ + 1)] 47 (0, 0) 0) _) hb9
                have Y1 := cell_go (cell_al (cell_new w8 #[.slice (some ⟨g8, 0, none⟩) us.length cap8, .int .i64 (at_ + 1)] 47 (0, 0) 1) _) hb9
                have A0 := cell_go (cell_new (w8.alloc (.cells #[.slice (some ⟨g8, 0, none⟩) us.length cap8, .int .i64 (at_ + 1)] 47 (0, 0))) #[.int .i64 k, .string ⟨L.toArray⟩, .int .i64 x, .int .i64 y, .int .i64 z] 50 (0, 0) 0) hb9
                have A1 := cell_go (cell_new (w8.alloc (.cells #[.slice (some ⟨g8, 0, none⟩) us.length cap8, .int .i64 (at_ + 1)] 47 (0, 0))) #[.int .i64 k, .string ⟨L.toArray⟩, .int .i64 x, .int .i64 y, .int .i64 z] 50 (0, 0) 1) hb9
                have A2 := cell_go (cell_new (w8.alloc (.cells #[.slice (some ⟨g8, 0, none⟩) us.length cap8, .int .i64 (at_ + 1)] 47 (0, 0))) #[.int .i64 k, .string ⟨L.toArray⟩, .int .i64 x, .int .i64 y, .int .i64 z] 50 (0, 0) 2) hb9
                have A3 := cell_go (cell_new (w8.alloc (.cells #[.slice (some ⟨g8, 0, none⟩) us.length cap8, .int .i64 (at_ + 1)] 47 (0, 0))) #[.int .i64 k, .string ⟨L.toArray⟩, .int .i64 x, .int .i64 y, .int .i64 z] 50 (0, 0) 3) hb9
                have A4 := cell_go (cell_new (w8.alloc (.cells #[.slice (some ⟨g8, 0, none⟩) us.length cap8, .int .i64 (at_ + 1)] 47 (0, 0))) #[.int .i64 k, .string ⟨L.toArray⟩, .int .i64 x, .int .i64 y, .int .i64 z] 50 (0, 0) 4) hb9
                rw [World.size_alloc] at A0 A1 A2 A3 A4
                have fY : w9.frozen? ⟨w8.heap.size, 0, none⟩ = false := by
                  rw [hb9.frozen (p := ⟨w8.heap.size, 0, none⟩) (by simp; omega)]
                  exact fr_new1 _ _ _ _ _ _
                have hz9 : w8.heap.size + 2 ≤ w9.heap.size := by have := hb9.size; simp at this; omega
                have HO9 := Lib.hid hown9'
                have HB89 := Lib.hid hb89
                clear hown9 hown9' hgr9 hb9 hb89 HB8 HF8 HCS
                go_upto_region 24 with fail
                generalize hwE : w9.setCell ⟨w8.heap.size, 0, none⟩ (.slice (some ⟨g9, 0, none⟩) us.length cap9) = wE
                have hu0 : us.length = vs'.length := by rw [HUS.out, List.length_set]
                have hbE : Below w8.heap.size w9 wE := by rw [← hwE]; exact (Below.refl w8.heap.size w9).setCell (p := ⟨w8.heap.size, 0, none⟩) (Nat.le_refl _) _
                have HCE := Lib.hid (HC8.out.at_ HB89.out rfl hbE)
                have HOE : RegsOwn wE (w8.heap.size + 2) (.slice (some ⟨g9, 0, none⟩) us.length cap9) us := by rw [← hwE]; exact HO9.out.setOther (own_nb HO9.out (show w8.heap.size < w8.heap.size + 2 by omega)) _
                have HBE := Lib.hid (show Below w.heap.size w wE from hwE ▸ HB9.out.setCell (show w.heap.size ≤ w8.heap.size by omega) _)
                have y0 : wE.cell? ⟨w8.heap.size, 0, none⟩ = some (.slice (some ⟨g9, 0, none⟩) us.length cap9) := by rw [← hwE]; exact set_same (by rw [Y0]; rfl)
                have y1 : wE.cell? ⟨w8.heap.size, 1, none⟩ = some (.int .i64 (at_ + 1)) := by rw [← hwE]; exact set_off Y1 (by omega)
                have ne1 : w8.heap.size ≠ w8.heap.size + 1 := by omega
                have a0 : wE.cell? ⟨w8.heap.size + 1, 0, none⟩ = some (.int .i64 k) := by rw [← hwE]; exact cell_set A0 ne1 _
                have a1 : wE.cell? ⟨w8.heap.size + 1, 1, none⟩ = some (.string ⟨L.toArray⟩) := by rw [← hwE]; exact cell_set A1 ne1 _
                have a2 : wE.cell? ⟨w8.heap.size + 1, 2, none⟩ = some (.int .i64 x) := by rw [← hwE]; exact cell_set A2 ne1 _
                have a3 : wE.cell? ⟨w8.heap.size + 1, 3, none⟩ = some (.int .i64 y) := by rw [← hwE]; exact cell_set A3 ne1 _
                have a4 : wE.cell? ⟨w8.heap.size + 1, 4, none⟩ = some (.int .i64 z) := by rw [← hwE]; exact cell_set A4 ne1 _
                have gu : ((us.length : Int) != (vs'.length : Int)) = false := by rw [hu0]; simp
                obtain ⟨m1, m2, m3, m4⟩ := regs_cells HOE r (by omega)
                have hur : us[r]'(by omega) = (Lv, nv) := by
                  have := HUS.out
                  subst this
                  exact List.getElem_set_self _
                rw [hur] at m1 m2
                have HEE := Lib.hid HOE
                have HU0 := Lib.hid hu0
                obtain ⟨_, _, _, v0, v1, p0, p1, q0, q1, q2, q3, q4, _, _, _⟩ := HCE.out
                obtain ⟨x1, x2, x3, x4⟩ := regs_cells HCE.out.own r (by omega)
                obtain ⟨xr, hxr⟩ : ∃ xr, vs'[r]'(by omega) = xr := ⟨_, rfl⟩
                rw [hxr] at x1 x2
                have HXR := Lib.hid hxr
                have hrv : r < vs'.length := by omega
                have hru : r < us.length := by omega
                clear hwE hu0 hbE HOE Y0 Y1 A0 A1 A2 A3 A4 fY hur hxr HC8 HB89 HC9 HB9 HF9 HO9
                have HBq := Lib.hid (fun n => below_drewN (Below.refl wE.heap.size wE) n)
                have gg1 : w.heap.size ≤ g9 := by omega
                have gg2 : g9 ≠ w8.heap.size := by omega
                have gg3 : w8.heap.size ≠ g9 := by omega
                have gg4 : g9 ≠ P := by omega
                have gg5 : P ≠ g9 := by omega
                go_quiet (fail)
                go_wp2_with fail
                refine still_tail 9 (by kernel_rfl) (by kernel_rfl) ?_
                simp only [List.take_succ_cons, List.take_zero, List.drop_succ_cons, List.drop_zero]
                rw [show (wE.drewN nq).drew = wE.drewN (nq + 1) from rfl]
                repeat still_step
                refine wpStill_nil ?_
                go_wp2_with fail
                have hback : us.set r xr = vs' := by rw [HUS.out, ← HXR.out]; exact set_back r hrv _
                have ho1 : RegsOwn (wE.drewN (nq + 1)) w1.heap.size (.slice (some ⟨g, 0, none⟩) vs'.length c) vs' := HCE.out.own
                have ho2 : RegsOwn (wE.drewN (nq + 1)) (w8.heap.size + 2) (.slice (some ⟨g9, 0, none⟩) us.length cap9) us := HEE.out
                have hng : Value.ownBlock (.slice (some ⟨g, 0, none⟩) vs'.length c) ≠ some g9 := by simp only [Value.ownBlock, ne_eq, Option.some.injEq]; omega
                have ho3 := (ho1.setOther (p := ⟨g9, r * 2, none⟩) hng (.string ⟨xr.1.toArray⟩)).setOther (p := ⟨g9, r * 2 + 1, none⟩) hng (.int .i64 xr.2)
                have ho4 := set_gen ho2 r xr
                rw [hback] at ho4
                have hbF := ((below_drewN HBE.out (nq + 1)).setCell (p := ⟨g9, r * 2, none⟩) gg1 (.string ⟨xr.1.toArray⟩)).setCell (p := ⟨g9, r * 2 + 1, none⟩) gg1 (.int .i64 xr.2)
                refine (sameLocalR _ _ (at_ + 1) vs' _ (ho3.vals HLL.out) (ho4.vals HLL.out)).mono ?_
                rintro e w10 ⟨rfl, hb10⟩
                have hbG := Lib.hid (below_trans hbF hb10)
                clear hbF hb10 ho1 ho2 ho3 ho4 hback hng
                go_wp2_with fail
                go_ret
                exact ⟨rfl, hbG.out⟩
    · subst hu
      have e1 : (er != 0) = true := by simpa using he
      clear he hue
      go_wp2_with (go_at_call 12; refine (awake_c _ (hE.mono HB.out)).mono ?_; rintro e w7 ⟨rfl, hb7⟩)
      go_ret
      exact ⟨rfl, below_trans HB.out hb7⟩
  · rcases hue with h | rfl
    · exact absurd h hu
    · have e1 : (ue != 0) = true := by simpa using hu
      have e2 : (ue == 0) = false := by simpa using hu
      clear hu
      go_wp2_with (go_at_call 12; refine (awake_c _ (hE.mono HB.out)).mono ?_; rintro e w7 ⟨rfl, hb7⟩)
      go_ret
      exact ⟨rfl, below_trans HB.out hb7⟩
end Go.Proofs.YtlpcahkchmlghaaDoor
