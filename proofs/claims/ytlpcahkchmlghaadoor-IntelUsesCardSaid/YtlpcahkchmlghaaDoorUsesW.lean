/- IntelUses: up to behind the first Do. -/
import Derived.Test.YtlpcahkchmlghaaDoorUsesR
namespace Go.Proofs.YtlpcahkchmlghaaDoor
open Go.RowKit

abbrev usW (w : World) (op d a b imm : Int) (loc label : ByteArray) (fence : Int) (v : Value) (at_ : Int) (reg : Int) (Lv : List UInt8) (nv : Int) : World := ((w.alloc (.cells #[.int .i64 op, .int .i64 d, .int .i64 a, .int .i64 b, .int .i64 imm, .string loc, .string label, .int .i64 fence] 23 (0, 0))).alloc (.cells #[v, .int .i64 at_] 47 (0, 0))).alloc (.cells #[.int .i64 reg, .string ⟨Lv.toArray⟩, .int .i64 nv] 58 (0, 0))

set_option maxRecDepth 100000 in
set_option maxHeartbeats 8000000 in
theorem walkUses_c {op d a b imm : Int} {loc label : ByteArray} {fence : Int} (_hs : loc.size ≤ 9223372036854775807) (v : Value) (at_ : Int) (vs : List (List UInt8 × Int)) (reg : Int) (Lv : List UInt8) (nv : Int) (hLv : Lv.length ≤ 9223372036854775807)
    (ul : List Int) (uw ue er : Int) (vs' : List (List UInt8 × Int)) (at' k : Int) (L : List UInt8) (x y z : Int) (hue : ue = 0 ∨ ue = er)
    (hU : ∀ w, Calls Tryd.prog 22 #[insV op d a b imm loc label fence] w (UsesG ul uw ue w))
    (hP : ∀ v w, ValsAt w v vs → Calls Tryd.prog 26 #[insV op d a b imm loc label fence, locV v at_] w (DoGen er vs' at' k L x y z w))
    (hok : ue = 0 → er = 0 → vs.length = 15 ∧ vs'.length = 15 ∧ at' = at_ + 1 ∧ 0 ≤ at_ ∧ at_ < 256 ∧ (∀ j (h : j < vs.length) (h' : j < vs'.length), (j : Int) ≠ uw → vs'[j] = vs[j]) ∧ (∀ j (h : j < vs'.length), vs'[j].1.length ≤ 9223372036854775807) ∧
      ∀ r : Nat, r < vs.length → (r : Int) ≠ uw → (∀ q ∈ ul, q ≠ (r : Int)) → valB (Lv, nv) = true → ∀ v w, ValsAt w v (vs.set r (Lv, nv)) → Calls Tryd.prog 26 #[insV op d a b imm loc label fence, locV v at_] w (DoGen 0 (vs'.set r (Lv, nv)) at' k L x y z w))
    (w : World) (hv : ArgAt w v vs) (hE : Env w) :
    Calls Tryd.prog 9 #[insV op d a b imm loc label fence, locV v at_, .agg #[.int .i64 reg, .string ⟨Lv.toArray⟩, .int .i64 nv]] w fun e w' => e = .returned (.bool true) ∧ Below w.heap.size w w' := by
  have HP := Lib.hid hP
  have HU := Lib.hid hU
  have HL := Lib.hid hv.1
  have HK := Lib.hid hok
  clear hP hU hok
  have hv3 := ((hv.mono (alloc_b w (.cells #[.int .i64 op, .int .i64 d, .int .i64 a, .int .i64 b, .int .i64 imm, .string loc, .string label, .int .i64 fence] 23 (0, 0)))).mono (alloc_b _ (.cells #[v, .int .i64 at_] 47 (0, 0)))).mono (alloc_b _ (.cells #[.int .i64 reg, .string ⟨Lv.toArray⟩, .int .i64 nv] 58 (0, 0)))
  have hI3 := ((BoxI.new w op d a b imm loc label fence 23).go (alloc_b _ (.cells #[v, .int .i64 at_] 47 (0, 0)))).go (alloc_b _ (.cells #[.int .i64 reg, .string ⟨Lv.toArray⟩, .int .i64 nv] 58 (0, 0)))
  have t03 := cell_al (cell_new (w.alloc (.cells #[.int .i64 op, .int .i64 d, .int .i64 a, .int .i64 b, .int .i64 imm, .string loc, .string label, .int .i64 fence] 23 (0, 0))) #[v, .int .i64 at_] 47 (0, 0) 0) (.cells #[.int .i64 reg, .string ⟨Lv.toArray⟩, .int .i64 nv] 58 (0, 0))
  have t13 := cell_al (cell_new (w.alloc (.cells #[.int .i64 op, .int .i64 d, .int .i64 a, .int .i64 b, .int .i64 imm, .string loc, .string label, .int .i64 fence] 23 (0, 0))) #[v, .int .i64 at_] 47 (0, 0) 1) (.cells #[.int .i64 reg, .string ⟨Lv.toArray⟩, .int .i64 nv] 58 (0, 0))
  rw [World.size_alloc] at t03 t13
  have hB3 := below_alloc (below_alloc (alloc_b w (.cells #[.int .i64 op, .int .i64 d, .int .i64 a, .int .i64 b, .int .i64 imm, .string loc, .string label, .int .i64 fence] 23 (0, 0))) (.cells #[v, .int .i64 at_] 47 (0, 0))) (.cells #[.int .i64 reg, .string ⟨Lv.toArray⟩, .int .i64 nv] 58 (0, 0))
  have HV3 := Lib.hid hv3
  have HI3 := Lib.hid hI3
  have T03 := Lib.hid t03
  have T13 := Lib.hid t13
  have HB3 := Lib.hid hB3
  have HV0 := Lib.hid hv
  clear hv3 hI3 t03 t13 hB3 hv
  go_enter Tryd.func9, Tryd.ntmps9
  go_upto_region 1 with fail
  go_cut [7, 8] (fun s7 s8 wx => UsA (usW w op d a b imm loc label fence v at_ reg Lv nv) reg Lv nv s7 s8 wx)
  case first =>
    have hS : ∀ x, Below (usW w op d a b imm loc label fence v at_ reg Lv nv).heap.size (usW w op d a b imm loc label fence v at_ reg Lv nv) x → x.cell? ⟨w.heap.size + 1 + 1, 0, none⟩ = some (.int .i64 reg) ∧ x.cell? ⟨w.heap.size + 1 + 1, 1, none⟩ = some (.string ⟨Lv.toArray⟩) ∧ x.cell? ⟨w.heap.size + 1 + 1, 2, none⟩ = some (.int .i64 nv) := fun x hx => by
      refine ⟨cell_go ?_ hx, cell_go ?_ hx, cell_go ?_ hx⟩ <;> simp [go_sem]
    have HS := Lib.hid hS
    clear hS
    go_region_held3 (fun x => x.cell? ⟨w.heap.size + 1 + 1, 0, none⟩ = some (.int .i64 reg) ∧ x.cell? ⟨w.heap.size + 1 + 1, 1, none⟩ = some (.string ⟨Lv.toArray⟩) ∧ x.cell? ⟨w.heap.size + 1 + 1, 2, none⟩ = some (.int .i64 nv))
      ((refine HS.out _ ?_; repeat (first | exact Below.refl _ _ | refine Below.drew ?_ | refine below_alloc ?_ _)))
      (fail)
    all_goals
      go_wp2
      go_meet
      refine ⟨_, rfl, rfl, by simp, by simp, ?_, ?_, by first | exact below_alloc ((Below.refl _ _).drew) _ | exact (below_alloc (Below.refl _ _) _).drew⟩ <;> simp [go_sem]
  case rest =>
    obtain ⟨wa, hwa⟩ : ∃ wa, wc = wa := ⟨_, rfl⟩
    subst hwa
    obtain ⟨V, rfl, rfl, hV1, hV2, V0, V1, hba⟩ := hcut
    have hV1 : w.heap.size + 3 ≤ V := by simpa using hV1
    have HBa := Lib.hid (below_trans HB3.out hba)
    have HVa := Lib.hid (HV3.out.mono hba)
    have HIa := Lib.hid (HI3.out.go hba)
    have T0a := Lib.hid (cell_go T03.out hba)
    have T1a := Lib.hid (cell_go T13.out hba)
    have hza : w.heap.size + 3 ≤ wc.heap.size := by simpa using hba.size
    clear hba HV3 HI3 T03 T13 HB3
    obtain ⟨i0, i1, i2, i3, i4, i5, i6, i7⟩ := HIa.out
    go_wp2_with fail
    refine (HU.out _).mono ?_
    rintro e w1 ⟨A9, c9, rfl, hi9, hb1⟩
    have HB1 := Lib.hid (below_trans HBa.out hb1)
    have HV1 := Lib.hid (HVa.out.mono hb1)
    have HI1 := Lib.hid (HIa.out.go hb1)
    have T01 := Lib.hid (cell_go T0a.out hb1)
    have T11 := Lib.hid (cell_go T1a.out hb1)
    have V0 := cell_go V0 hb1
    have V1 := cell_go V1 hb1
    have HI9 := Lib.hid hi9
    have hz1 : w.heap.size + 3 ≤ w1.heap.size := Nat.le_trans hza hb1.size
    have hV2 : V < w1.heap.size := Nat.lt_of_lt_of_le hV2 hb1.size
    clear hi9 hb1 HBa HVa HIa T0a T1a i0 i1 i2 i3 i4 i5 i6 i7 hza
    have hS : ∀ x, Below w1.heap.size w1 x → x.cell? ⟨w.heap.size, 0, none⟩ = some (.int .i64 op) ∧ x.cell? ⟨w.heap.size, 1, none⟩ = some (.int .i64 d) ∧ x.cell? ⟨w.heap.size, 2, none⟩ = some (.int .i64 a) ∧ x.cell? ⟨w.heap.size, 3, none⟩ = some (.int .i64 b) ∧ x.cell? ⟨w.heap.size, 4, none⟩ = some (.int .i64 imm) ∧ x.cell? ⟨w.heap.size, 5, none⟩ = some (.string loc) ∧ x.cell? ⟨w.heap.size, 6, none⟩ = some (.string label) ∧ x.cell? ⟨w.heap.size, 7, none⟩ = some (.int .i64 fence) ∧
        x.cell? ⟨w.heap.size + 1, 0, none⟩ = some v ∧ x.cell? ⟨w.heap.size + 1, 1, none⟩ = some (.int .i64 at_) ∧ ArgAt x v vs := fun x hx => by
      obtain ⟨i0, i1, i2, i3, i4, i5, i6, i7⟩ := HI1.out.go hx
      exact ⟨i0, i1, i2, i3, i4, i5, i6, i7, cell_go T01.out hx, cell_go T11.out hx, HV1.out.mono hx⟩
    have HS := Lib.hid hS
    clear hS
    have la : w1.heap.size ≤ w1.heap.size := Nat.le_refl _
    have lb : w1.heap.size ≤ w1.heap.size + 1 := Nat.le_succ _
    go_upto_region 3 with fail
    go_cut [12, 13, 14] (fun s12 s13 s14 wx => UsB w1 er vs' at' k L x y z s12 s13 s14 wx)
    case first =>
      go_region_held3 (fun x => x.cell? ⟨w.heap.size, 0, none⟩ = some (.int .i64 op) ∧ x.cell? ⟨w.heap.size, 1, none⟩ = some (.int .i64 d) ∧ x.cell? ⟨w.heap.size, 2, none⟩ = some (.int .i64 a) ∧ x.cell? ⟨w.heap.size, 3, none⟩ = some (.int .i64 b) ∧ x.cell? ⟨w.heap.size, 4, none⟩ = some (.int .i64 imm) ∧ x.cell? ⟨w.heap.size, 5, none⟩ = some (.string loc) ∧ x.cell? ⟨w.heap.size, 6, none⟩ = some (.string label) ∧ x.cell? ⟨w.heap.size, 7, none⟩ = some (.int .i64 fence) ∧ x.cell? ⟨w.heap.size + 1, 0, none⟩ = some v ∧ x.cell? ⟨w.heap.size + 1, 1, none⟩ = some (.int .i64 at_) ∧ ArgAt x v vs)
        ((refine HS.out _ ?_; repeat (first | with_reducible exact Below.refl _ _ | with_reducible exact Bx1 | with_reducible exact Bx2 | with_reducible refine Below.drew ?_ | with_reducible refine below_alloc ?_ _ | with_reducible refine Below.setCell ?_ la _ | with_reducible refine Below.setCell ?_ lb _ | with_reducible refine Below.setCell ?_ lc _ | with_reducible refine Below.setCell ?_ ld _ | with_reducible refine Below.setCell ?_ le _ | with_reducible refine Below.setCell ?_ lf _ | with_reducible refine Below.setCell ?_ lg _ | with_reducible refine Below.setCell ?_ lh _)))
        (first
          | (go_at_call 25; refine (copied_c v at_ vs _ ?_).mono ?_; (refine (HS.out _ ?_).2.2.2.2.2.2.2.2.2.2; repeat (first | with_reducible exact Below.refl _ _ | with_reducible refine Below.drew ?_ | with_reducible refine below_alloc ?_ _)); rintro e x1 ⟨v1, rfl, hown1, hb1⟩; have Bx1 : Below w1.heap.size w1 x1 := (by refine below_trans ?_ hb1; repeat (first | with_reducible exact Below.refl _ _ | with_reducible refine Below.drew ?_ | with_reducible refine below_alloc ?_ _ | with_reducible refine Below.setCell ?_ la _ | with_reducible refine Below.setCell ?_ lb _)); have lc : w1.heap.size ≤ x1.heap.size := Bx1.size; have ld : w1.heap.size ≤ x1.heap.size + 1 := Nat.le_succ_of_le lc; obtain ⟨A1, c1, rfl, p1, q1⟩ := own_slice hown1; have hz11 := hb1.size; (try simp at hz11); (try have hzA : w1.heap.size < x1.heap.size := by omega); (try have hzB : w1.heap.size + 1 < x1.heap.size := by omega); (try (have kA : ∀ o, x1.cell? ⟨w1.heap.size, o, none⟩ = (#[.slice none 0 0, .int .i64 0] : Array Value)[o]? := by (intro o; refine (hb1.cell (p := ⟨w1.heap.size, o, none⟩) ?_).trans ?_; (first | (focus (simp; done)) | (focus (simp; omega))); (try simp only [World.cell?_drew]); (first | with_reducible exact cell_new w1 _ _ _ o | with_reducible exact (congrArg (fun n => World.cell? _ ⟨n, o, none⟩) (World.size_alloc w1 _).symm).trans (cell_new (w1.alloc _) _ _ _ o) | (with_reducible refine (World.cell?_alloc_lt _ _ _ ?_).trans (cell_new w1 _ _ _ o); simp))))); (try (have kA : ∀ o, x1.cell? ⟨w1.heap.size, o, none⟩ = (#[.int .i64 0, .string ⟨#[]⟩, .int .i64 0, .int .i64 0, .int .i64 0] : Array Value)[o]? := by (intro o; refine (hb1.cell (p := ⟨w1.heap.size, o, none⟩) ?_).trans ?_; (first | (focus (simp; done)) | (focus (simp; omega))); (try simp only [World.cell?_drew]); (first | with_reducible exact cell_new w1 _ _ _ o | with_reducible exact (congrArg (fun n => World.cell? _ ⟨n, o, none⟩) (World.size_alloc w1 _).symm).trans (cell_new (w1.alloc _) _ _ _ o) | (with_reducible refine (World.cell?_alloc_lt _ _ _ ?_).trans (cell_new w1 _ _ _ o); simp))))); (try (have fA : ∀ o, x1.frozen? ⟨w1.heap.size, o, none⟩ = false := by (intro o; refine (hb1.frozen (p := ⟨w1.heap.size, o, none⟩) ?_).trans ?_; (first | (focus (simp; done)) | (focus (simp; omega))); ((try simp only [World.frozen?_drew]); first | with_reducible exact fr_new w1 _ _ o | with_reducible exact fr_new1 w1 _ _ _ _ o | with_reducible exact fr_new2 w1 _ _ _ _ o)))); (try (have kB : ∀ o, x1.cell? ⟨w1.heap.size + 1, o, none⟩ = (#[.slice none 0 0, .int .i64 0] : Array Value)[o]? := by (intro o; refine (hb1.cell (p := ⟨w1.heap.size + 1, o, none⟩) ?_).trans ?_; (first | (focus (simp; done)) | (focus (simp; omega))); (try simp only [World.cell?_drew]); (first | with_reducible exact cell_new w1 _ _ _ o | with_reducible exact (congrArg (fun n => World.cell? _ ⟨n, o, none⟩) (World.size_alloc w1 _).symm).trans (cell_new (w1.alloc _) _ _ _ o) | (with_reducible refine (World.cell?_alloc_lt _ _ _ ?_).trans (cell_new w1 _ _ _ o); simp))))); (try (have kB : ∀ o, x1.cell? ⟨w1.heap.size + 1, o, none⟩ = (#[.int .i64 0, .string ⟨#[]⟩, .int .i64 0, .int .i64 0, .int .i64 0] : Array Value)[o]? := by (intro o; refine (hb1.cell (p := ⟨w1.heap.size + 1, o, none⟩) ?_).trans ?_; (first | (focus (simp; done)) | (focus (simp; omega))); (try simp only [World.cell?_drew]); (first | with_reducible exact cell_new w1 _ _ _ o | with_reducible exact (congrArg (fun n => World.cell? _ ⟨n, o, none⟩) (World.size_alloc w1 _).symm).trans (cell_new (w1.alloc _) _ _ _ o) | (with_reducible refine (World.cell?_alloc_lt _ _ _ ?_).trans (cell_new w1 _ _ _ o); simp))))); (try (have fB : ∀ o, x1.frozen? ⟨w1.heap.size + 1, o, none⟩ = false := by (intro o; refine (hb1.frozen (p := ⟨w1.heap.size + 1, o, none⟩) ?_).trans ?_; (first | (focus (simp; done)) | (focus (simp; omega))); ((try simp only [World.frozen?_drew]); first | with_reducible exact fr_new w1 _ _ o | with_reducible exact fr_new1 w1 _ _ _ _ o | with_reducible exact fr_new2 w1 _ _ _ _ o)))))
          | (go_at_call 26; refine (HP.out _ _ ?_).mono ?_; (first | with_reducible exact hown1.vals HL.out | with_reducible exact (hown1.mono (alloc_b _ _)).vals HL.out | with_reducible exact ((hown1.mono (alloc_b _ _)).mono (alloc_b _ _)).vals HL.out); rintro e x2 ⟨v2, rfl, hown2, hb2⟩; have Bx2 : Below w1.heap.size w1 x2 := (by refine below_trans ?_ hb2; repeat (first | with_reducible exact Below.refl _ _ | with_reducible exact Bx1 | with_reducible refine Below.drew ?_ | with_reducible refine below_alloc ?_ _ | with_reducible refine Below.setCell ?_ la _ | with_reducible refine Below.setCell ?_ lb _ | with_reducible refine Below.setCell ?_ lc _ | with_reducible refine Below.setCell ?_ ld _)); have le : w1.heap.size ≤ x2.heap.size := Bx2.size; have lf : w1.heap.size ≤ x2.heap.size + 1 := Nat.le_succ_of_le le; have lg : w1.heap.size ≤ x2.heap.size + 1 + 1 := Nat.le_succ_of_le lf; have lh : w1.heap.size ≤ x2.heap.size + 2 := Nat.le_succ_of_le lf; obtain ⟨A2, c2, rfl, p2, q2⟩ := own_slice hown2; have hz22 := hb2.size; (try simp at hz22); (try have hzC : w1.heap.size < x2.heap.size := by omega); (try have hzD : w1.heap.size + 1 < x2.heap.size := by omega); (try have hzE : x1.heap.size < x2.heap.size := by omega); (try have hzF : x1.heap.size + 1 < x2.heap.size := by omega); (try have n0 : w1.heap.size ≠ x1.heap.size := by omega); (try have n1 : x1.heap.size ≠ w1.heap.size := by omega); (try have n2 : w1.heap.size ≠ x2.heap.size := by omega); (try have n3 : x2.heap.size ≠ w1.heap.size := by omega); (try have n4 : x1.heap.size ≠ x2.heap.size := by omega); (try have n5 : x2.heap.size ≠ x1.heap.size := by omega); (try (have kA2 : ∀ o, x2.cell? ⟨w1.heap.size, o, none⟩ = (#[.slice none 0 0, .int .i64 0] : Array Value)[o]? := by (intro o; refine (hb2.cell (p := ⟨w1.heap.size, o, none⟩) ?_).trans ?_; (first | (focus (simp; done)) | (focus (simp; omega))); (try simp only [World.cell?_drew]); (first | with_reducible exact kA o | (with_reducible refine (World.cell?_alloc_lt _ _ _ ?_).trans (kA o); simp; omega) | (with_reducible refine (World.cell?_alloc_lt _ _ _ ?_).trans ((World.cell?_alloc_lt _ _ _ ?_).trans (kA o)) <;> (simp; omega)))))); (try (have kA2 : ∀ o, x2.cell? ⟨w1.heap.size, o, none⟩ = (#[.int .i64 0, .string ⟨#[]⟩, .int .i64 0, .int .i64 0, .int .i64 0] : Array Value)[o]? := by (intro o; refine (hb2.cell (p := ⟨w1.heap.size, o, none⟩) ?_).trans ?_; (first | (focus (simp; done)) | (focus (simp; omega))); (try simp only [World.cell?_drew]); (first | with_reducible exact kA o | (with_reducible refine (World.cell?_alloc_lt _ _ _ ?_).trans (kA o); simp; omega) | (with_reducible refine (World.cell?_alloc_lt _ _ _ ?_).trans ((World.cell?_alloc_lt _ _ _ ?_).trans (kA o)) <;> (simp; omega)))))); (try (have fA2 : ∀ o, x2.frozen? ⟨w1.heap.size, o, none⟩ = false := by (intro o; refine (hb2.frozen (p := ⟨w1.heap.size, o, none⟩) ?_).trans ?_; (first | (focus (simp; done)) | (focus (simp; omega))); (first | exact fA o | ((try simp only [World.frozen?_drew]); first | with_reducible exact fr_al (fA o) (by omega) _ | with_reducible exact fr_al (fr_al (fA o) (by omega) _) (by simp <;> omega) _))))); (try (have kB2 : ∀ o, x2.cell? ⟨w1.heap.size + 1, o, none⟩ = (#[.slice none 0 0, .int .i64 0] : Array Value)[o]? := by (intro o; refine (hb2.cell (p := ⟨w1.heap.size + 1, o, none⟩) ?_).trans ?_; (first | (focus (simp; done)) | (focus (simp; omega))); (try simp only [World.cell?_drew]); (first | with_reducible exact kB o | (with_reducible refine (World.cell?_alloc_lt _ _ _ ?_).trans (kB o); simp; omega) | (with_reducible refine (World.cell?_alloc_lt _ _ _ ?_).trans ((World.cell?_alloc_lt _ _ _ ?_).trans (kB o)) <;> (simp; omega)))))); (try (have kB2 : ∀ o, x2.cell? ⟨w1.heap.size + 1, o, none⟩ = (#[.int .i64 0, .string ⟨#[]⟩, .int .i64 0, .int .i64 0, .int .i64 0] : Array Value)[o]? := by (intro o; refine (hb2.cell (p := ⟨w1.heap.size + 1, o, none⟩) ?_).trans ?_; (first | (focus (simp; done)) | (focus (simp; omega))); (try simp only [World.cell?_drew]); (first | with_reducible exact kB o | (with_reducible refine (World.cell?_alloc_lt _ _ _ ?_).trans (kB o); simp; omega) | (with_reducible refine (World.cell?_alloc_lt _ _ _ ?_).trans ((World.cell?_alloc_lt _ _ _ ?_).trans (kB o)) <;> (simp; omega)))))); (try (have fB2 : ∀ o, x2.frozen? ⟨w1.heap.size + 1, o, none⟩ = false := by (intro o; refine (hb2.frozen (p := ⟨w1.heap.size + 1, o, none⟩) ?_).trans ?_; (first | (focus (simp; done)) | (focus (simp; omega))); (first | exact fB o | ((try simp only [World.frozen?_drew]); first | with_reducible exact fr_al (fB o) (by omega) _ | with_reducible exact fr_al (fr_al (fB o) (by omega) _) (by simp <;> omega) _))))); (try (have kC2 : ∀ o, x2.cell? ⟨x1.heap.size, o, none⟩ = (#[.slice none 0 0, .int .i64 0] : Array Value)[o]? := by (intro o; refine (hb2.cell (p := ⟨x1.heap.size, o, none⟩) ?_).trans ?_; (first | (focus (simp; done)) | (focus (simp; omega))); (try simp only [World.cell?_drew]); (first | with_reducible exact cell_new x1 _ _ _ o | with_reducible exact (congrArg (fun n => World.cell? _ ⟨n, o, none⟩) (World.size_alloc x1 _).symm).trans (cell_new (x1.alloc _) _ _ _ o) | (with_reducible refine (World.cell?_alloc_lt _ _ _ ?_).trans (cell_new x1 _ _ _ o); simp))))); (try (have kC2 : ∀ o, x2.cell? ⟨x1.heap.size, o, none⟩ = (#[.int .i64 0, .string ⟨#[]⟩, .int .i64 0, .int .i64 0, .int .i64 0] : Array Value)[o]? := by (intro o; refine (hb2.cell (p := ⟨x1.heap.size, o, none⟩) ?_).trans ?_; (first | (focus (simp; done)) | (focus (simp; omega))); (try simp only [World.cell?_drew]); (first | with_reducible exact cell_new x1 _ _ _ o | with_reducible exact (congrArg (fun n => World.cell? _ ⟨n, o, none⟩) (World.size_alloc x1 _).symm).trans (cell_new (x1.alloc _) _ _ _ o) | (with_reducible refine (World.cell?_alloc_lt _ _ _ ?_).trans (cell_new x1 _ _ _ o); simp))))); (try (have fC2 : ∀ o, x2.frozen? ⟨x1.heap.size, o, none⟩ = false := by (intro o; refine (hb2.frozen (p := ⟨x1.heap.size, o, none⟩) ?_).trans ?_; (first | (focus (simp; done)) | (focus (simp; omega))); ((try simp only [World.frozen?_drew]); first | with_reducible exact fr_new x1 _ _ o | with_reducible exact fr_new1 x1 _ _ _ _ o | with_reducible exact fr_new2 x1 _ _ _ _ o)))); (try (have kD2 : ∀ o, x2.cell? ⟨x1.heap.size + 1, o, none⟩ = (#[.slice none 0 0, .int .i64 0] : Array Value)[o]? := by (intro o; refine (hb2.cell (p := ⟨x1.heap.size + 1, o, none⟩) ?_).trans ?_; (first | (focus (simp; done)) | (focus (simp; omega))); (try simp only [World.cell?_drew]); (first | with_reducible exact cell_new x1 _ _ _ o | with_reducible exact (congrArg (fun n => World.cell? _ ⟨n, o, none⟩) (World.size_alloc x1 _).symm).trans (cell_new (x1.alloc _) _ _ _ o) | (with_reducible refine (World.cell?_alloc_lt _ _ _ ?_).trans (cell_new x1 _ _ _ o); simp))))); (try (have kD2 : ∀ o, x2.cell? ⟨x1.heap.size + 1, o, none⟩ = (#[.int .i64 0, .string ⟨#[]⟩, .int .i64 0, .int .i64 0, .int .i64 0] : Array Value)[o]? := by (intro o; refine (hb2.cell (p := ⟨x1.heap.size + 1, o, none⟩) ?_).trans ?_; (first | (focus (simp; done)) | (focus (simp; omega))); (try simp only [World.cell?_drew]); (first | with_reducible exact cell_new x1 _ _ _ o | with_reducible exact (congrArg (fun n => World.cell? _ ⟨n, o, none⟩) (World.size_alloc x1 _).symm).trans (cell_new (x1.alloc _) _ _ _ o) | (with_reducible refine (World.cell?_alloc_lt _ _ _ ?_).trans (cell_new x1 _ _ _ o); simp))))); (try (have fD2 : ∀ o, x2.frozen? ⟨x1.heap.size + 1, o, none⟩ = false := by (intro o; refine (hb2.frozen (p := ⟨x1.heap.size + 1, o, none⟩) ?_).trans ?_; (first | (focus (simp; done)) | (focus (simp; omega))); ((try simp only [World.frozen?_drew]); first | with_reducible exact fr_new x1 _ _ o | with_reducible exact fr_new1 x1 _ _ _ _ o | with_reducible exact fr_new2 x1 _ _ _ _ o))))))
      all_goals
        go_wp2
        go_meet
        first
          | (with_reducible refine usB_ll hown2 ?_ Bx2 q2 p2; (first | (focus omega) | (focus (simp; done)) | (focus (simp <;> omega))))
          | (with_reducible refine usB_ll' hown2 ?_ Bx2 q2 p2; (first | (focus omega) | (focus (simp; done)) | (focus (simp <;> omega))))
          | (with_reducible refine usB_ee hown2 ?_ Bx2 q2 p2 ?_ ?_ ?_ ?_ hb2.size ?_ ?_ ?_ ?_ <;> (first | (focus omega) | (focus (simp; done)) | (focus (simp <;> omega)) | exact cs_of kA2 (by decide) | exact cs_of kB2 (by decide) | exact cs_of kC2 (by decide) | exact cs_of kD2 (by decide) | exact fA2 | exact fB2 | exact fC2 | exact fD2))
          | (with_reducible refine usB_el hown2 ?_ Bx2 q2 p2 ?_ ?_ hb2.size ?_ ?_ <;> (first | (focus omega) | (focus (simp; done)) | (focus (simp <;> omega)) | exact cs_of kA2 (by decide) | exact cs_of kB2 (by decide) | exact cs_of kC2 (by decide) | exact cs_of kD2 (by decide) | exact fA2 | exact fB2 | exact fC2 | exact fD2))
          | (with_reducible refine usB_le hown2 ?_ Bx2 q2 p2 ?_ ?_ hb2.size ?_ <;> (first | (focus omega) | (focus (simp; done)) | (focus (simp <;> omega)) | exact cs_of kA2 (by decide) | exact cs_of kB2 (by decide) | exact cs_of kC2 (by decide) | exact cs_of kD2 (by decide)))
    case rest =>
      apply_assumption
      exact usesRest hLv hue HK.out hE HV0.out HB1.out HV1.out HI1.out T01.out T11.out V0 V1 HI9.out hz1 hV1 hV2 hcut _ _ _ _ _ _ _ _ _ _ _ _ _ _ _ _ _ _ _ _ _ _ _ _ _ _ _ _ _ _ _ _ _ _ _ _ _ _ _ _ _ _ _ _ _ _ _ _ _ _ _ _ _ _ _ _ _ _ _ _ _ _ _ _ _ _ _ _ _ _ _ _ _ _ _ _ _ _ _ _ _ _ _ _ _ _ _ _ _ _ _ _ _ _ _ _ _ _ _ _ _ _ _ _ _ _ _ _ _ _ _ _ _ _ _ _ _ _ _ _ _ _ _ _ _ _ _ _ _ _ _ _ _ _ _ _ _ _ _ _ _ _ _ _ _ _ _ _ _ _ _ _ _ _ _ _ _ _ _ _ _ _ _

theorem walkUses (op d a b imm : Int) (loc label : ByteArray) (fence : Int) (v : Value) (at_ : Int) (vs : List (List UInt8 × Int)) (reg : Int) (Lv : List UInt8) (nv : Int) (hs : loc.size ≤ 9223372036854775807) (hLv : Lv.length ≤ 9223372036854775807) (w : World) (hv : ArgAt w v vs) (hE : Env w) :
    Calls Tryd.prog 9 #[insV op d a b imm loc label fence, locV v at_, .agg #[.int .i64 reg, .string ⟨Lv.toArray⟩, .int .i64 nv]] w fun e w' => e = .returned (.bool true) ∧ Below w.heap.size w w' := by
  cases h : insB op d a b imm loc label fence with
  | false =>
    exact walkUses_c hs v at_ vs reg Lv nv hLv [] 0 91 91 [] 0 0 [] 0 0 0 (.inr rfl) (uses_n h hs) (fun v w _ => (doP_bad w v at_ h hs).mono fun _ _ hh => gen_err hh) (fun h0 => absurd h0 (by decide)) w hv hE
  | true =>
    have h' := h
    obtain ⟨rfl, rfl, rfl⟩ := insB_std h
    rw [← str_eta loc] at h h' ⊢
    cases ht : threadB 15 at_ vs with
    | false =>
      exact walkUses_c (by rw [str_eta]; exact hs) v at_ vs reg Lv nv hLv (usesL op a) (usesW op d) 0 1 [] 0 0 [] 0 0 0 (.inl rfl) (uses_y h) (fun v w hv => (doP_thread w h v at_ vs hv ht).mono fun _ _ hh => gen_err hh) (fun _ h0 => absurd h0 (by decide)) w hv hE
    | true =>
      cases hr : doR op d a imm loc.data.toList vs with
      | none =>
        refine walkUses_c (by rw [str_eta]; exact hs) v at_ vs reg Lv nv hLv (usesL op a) (usesW op d) 0 92 [] 0 0 [] 0 0 0 (.inl rfl) (uses_y h) (fun v w hv => ?_) (fun _ h0 => absurd h0 (by decide)) w hv hE
        have := doP_c h v at_ vs w hv ht
        rw [hr] at this
        exact this.mono fun _ _ hh => gen_err hh
      | some r =>
        obtain ⟨⟨k, L, x, y, z, ha⟩, hL'⟩ := doR_act hr hv.1
        obtain ⟨vs', act⟩ := r
        simp only at ha hL'
        subst ha
        have hlen := doR_len hr
        have ht' := ht
        unfold threadB at ht'
        simp only [Bool.and_eq_true, decide_eq_true_eq] at ht'
        obtain ⟨⟨⟨t1, t2⟩, t3⟩, t4⟩ := ht'
        refine walkUses_c (by rw [str_eta]; exact hs) v at_ vs reg Lv nv hLv (usesL op a) (usesW op d) 0 0 vs' (at_ + 1) k L x y z (.inl rfl) (uses_y h) (fun v w hv => ?_) (fun _ _ => ⟨t3, by omega, rfl, t1, t2, fun j hj hj' hw => uses_stay h hr j hj hj' hw, hL', fun q hq hw hno hx v w hv => ?_⟩) w hv hE
        · have := doP_c h v at_ vs w hv ht
          rw [hr] at this
          exact this
        · obtain ⟨o1, o2⟩ := uses_other h ht hr q (Lv, nv) hx hw hno
          have := doP_c h v at_ (vs.set q (Lv, nv)) w hv o1
          rw [o2] at this
          exact this
end Go.Proofs.YtlpcahkchmlghaaDoor
