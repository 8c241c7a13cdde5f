/- Layer 8: the reference's want and thing, walked. -/
import Derived.Test.YtmlnibjnacfanaaGreatDoorTd
import Derived.Test.YtmlnibjnacfanaaGreatDoorTc
import Derived.Test.YtmlnibjnacfanaaGreatDoorFb
import Derived.Test.YtmlnibjnacfanaaGreatDoorDn
import Derived.Test.YtmlnibjnacfanaaGreatDoorQc
namespace Go.Proofs.YtmlnibjnacfanaaGreatDoor
open Go.RowKit

theorem kind2_min {x : List UInt8} (h : kindT x = 2) : minB x = true := by
  cases x with
  | nil => simp [kindT] at h
  | cons c r =>
    cases hl : letterB c with
    | true => simp [kindT, hl] at h
    | false =>
      cases hd : digitB c with
      | true => simp [minB, hd]
      | false =>
        simp only [kindT, hl, hd, Bool.false_eq_true, if_false, Bool.false_or] at h
        split at h
        · rename_i hc
          simp only [Bool.and_eq_true, beq_iff_eq] at hc
          rw [hc.1]; rfl
        · cases h
theorem min_not2 {x : List UInt8} (h : minB x = true) (h2 : kindT x ≠ 2) : x = [45] := by
  cases x with
  | nil => simp [minB] at h
  | cons c r =>
    have hl : letterB c = false := by
      cases hl : letterB c with
      | false => rfl
      | true =>
        obtain ⟨_, h3, h4, _⟩ := letter_not hl
        simp only [minB, h3, Bool.false_or, decide_eq_true_eq] at h
        exact absurd (UInt8.toNat.inj (show c.toNat = 45 by exact_mod_cast h)) h4
    cases hd : digitB c with
    | true => exact absurd (by simp [kindT, hl, hd]) h2
    | false =>
      simp only [minB, hd, Bool.false_or, decide_eq_true_eq] at h
      have hc : c = 45 := UInt8.toNat.inj (show c.toNat = 45 by exact_mod_cast h)
      subst hc
      cases r with
      | nil => rfl
      | cons d r' => exact absurd (by simp [kindT, hl]) h2
theorem name_kind {x : List UInt8} (h : nameB x = true) : kindT x = 1 := by
  obtain ⟨c, r, rfl, hc, _⟩ := name_shape h
  simp [kindT, hc]
theorem name_min {x : List UInt8} (h : nameB x = true) : minB x = false := by
  obtain ⟨c, r, rfl, hc, _⟩ := name_shape h
  obtain ⟨_, h3, h4, _⟩ := letter_not hc
  simp only [minB, h3, Bool.false_or, decide_eq_false_iff_not]
  intro e
  exact h4 (UInt8.toNat.inj (show c.toNat = 45 by exact_mod_cast e))
theorem reg_kind {a : Int} (ha : archB a = true) {x : List UInt8} {k : Nat} (h : regOf a x = some k) : kindT x = 1 := by
  unfold regOf at h
  have h1 := List.find?_some h
  have h2 := List.mem_of_find?_eq_some h
  simp only [beq_iff_eq] at h1
  simp only [List.mem_range] at h2
  obtain ⟨_, c, r, hc, hl, _⟩ := reg_shape (a := a) (r := (k : Int)) ha (by omega) (by omega)
  rw [← h1, hc]
  simp [kindT, hl]
theorem thing_no {e : Nat} {a : Int} {L : List Tok} (h2 : kindT (hd L) ≠ 2) (h91 : hd L ≠ [91]) (hn : nameB (hd L) = false) : pThing e a L = .bad (ps e L) := by
  rw [pThing, if_neg h91]
  split
  · rename_i hm
    have hx := min_not2 hm h2
    have : numIn 0 15 (hd L) = none := by
      rw [hx, numIn_small, show numT [45] = none by simp [numT]]
      rfl
    rw [pInt, this]
    rfl
  · rw [pLoc, if_neg (by simp [hn])]; rfl
abbrev putQ3 (W : World) (b : Nat) (u0 u1 u2 : Value) : World := ((W.setCell ⟨b, 0, none⟩ u0).setCell ⟨b, 1, none⟩ u1).setCell ⟨b, 2, none⟩ u2
theorem blk_putQ3 {W : World} {b : Nat} {cs : Array Value} (h : Blk W b 23 cs) (hs : cs.size = 3) (u0 u1 u2 : Value) : Blk (putQ3 W b u0 u1 u2) b 23 #[u0, u1, u2] := by
  obtain ⟨l⟩ := cs
  match l, hs with
  | [a0, a1, a2], _ =>
    have := ((h.set_ 0 u0).set_ 1 u1).set_ 2 u2
    simpa using this
theorem only_putQ3 {w W : World} {g b : Nat} (h : Only g w W) (hb : w.heap.size ≤ b) (u0 u1 u2 : Value) : Only g w (putQ3 W b u0 u1 u2) :=
  only_setCell (only_setCell (only_setCell h (p := ⟨b, 0, none⟩) (.inr hb) u0) (p := ⟨b, 1, none⟩) (.inr hb) u1) (p := ⟨b, 2, none⟩) (.inr hb) u2
theorem RdR.putQ3 {W : World} {g b : Nat} {a : Int} {s : ByteArray} {L : List Tok} {bd : Int} (h : RdR W g a s L bd) (hb : g ≠ b) (u0 u1 u2 : Value) : RdR (putQ3 W b u0 u1 u2) g a s L bd :=
  ⟨((h.blk.far (p := ⟨b, 0, none⟩) hb u0).far (p := ⟨b, 1, none⟩) hb u1).far (p := ⟨b, 2, none⟩) hb u2, h.nle, h.nxt, h.txt, h.size⟩
theorem BadR.putQ3 {W : World} {g p b : Nat} (h : BadR W g p) (hb : g ≠ b) (u0 u1 u2 : Value) : BadR (putQ3 W b u0 u1 u2) g p :=
  cell_set (cell_set (cell_set h (p := ⟨b, 0, none⟩) (fun e => hb e.symm) u0) (p := ⟨b, 1, none⟩) (fun e => hb e.symm) u1) (p := ⟨b, 2, none⟩) (fun e => hb e.symm) u2
theorem ret_thE {fn : Func} (hfn : fn.results = #[.cell 2 23]) {a : Act} {W : World} {R : Ending → World → Prop} {b : Nat} {u0 u1 u2 : Value}
    (hB : Blk W b 23 #[u0, u1, u2]) (h2 : a.tmps[2]? = some (.pointer (some ⟨b, 0, none⟩))) (hd : a.defers = [])
    (hR : R (.returned (.agg #[u0, u1, u2])) W) : bodyPost Tryz.prog fn R .ret a W := by
  have a0 : W.cell? ⟨b, 0, none⟩ = some u0 := hB.cell 0
  have a1 : W.cell? ⟨b, 1, none⟩ = some u1 := hB.cell 1
  have a2 : W.cell? ⟨b, 2, none⟩ = some u2 := hB.cell 2
  exact bodyPost_ret (by simp [results, hfn, h2, go_sem, a0, a1, a2]) hd hR
section
variable {w : World} {g : Nat} {a : Int} {s : ByteArray} {L : List Tok}
set_option maxHeartbeats 1000000 in
set_option maxRecDepth 100000 in
theorem wantR_yes (h : RdR w g a s L (-1)) (t : List UInt8) (kd : Int) (hk : kindT t = kd) (he : hd L = t) :
    Calls Tryz.prog 49 #[.pointer (some ⟨g, 0, none⟩), .int .i64 kd, .string ⟨t.toArray⟩] w fun e w' => e = .returned (.tuple #[]) ∧ RdR w' g a s L.tail (-1) ∧ Only g w w' := by
  have HD := Lib.hid h
  have c6 := h.blk.cell 6
  have HIS := Lib.hid (decide_eq_true he)
  have HK := Lib.hid hk
  clear h he hk
  go_enter Tryz.func49, Tryz.ntmps49
  go_wp2_with fail
  refine (isR HD.out t kd HK.out).mono ?_
  rw [HIS.out]
  rintro e wn ⟨rfl, rfl⟩
  go_wp2_with fail
  refine (onR HD.out).mono ?_
  rintro e wn ⟨rfl, hrd, ho⟩
  go_wp2_with fail
  go_end0
  exact ⟨rfl, hrd, ho⟩
set_option maxHeartbeats 1000000 in
set_option maxRecDepth 100000 in
theorem wantR_no (h : RdR w g a s L (-1)) (t : List UInt8) (kd : Int) (hk : kindT t = kd) (he : ¬ hd L = t) :
    Calls Tryz.prog 49 #[.pointer (some ⟨g, 0, none⟩), .int .i64 kd, .string ⟨t.toArray⟩] w fun e w' => e = .returned (.tuple #[]) ∧ BadR w' g (ps s.size L) ∧ Only g w w' := by
  have HD := Lib.hid h
  have c6 := h.blk.cell 6
  have HIS := Lib.hid (decide_eq_false he)
  have HK := Lib.hid hk
  clear h he hk
  go_enter Tryz.func49, Tryz.ntmps49
  go_wp2_with fail
  refine (isR HD.out t kd HK.out).mono ?_
  rw [HIS.out]
  rintro e wn ⟨rfl, rfl⟩
  go_wp2_with fail
  refine (wrongR HD.out).mono ?_
  rintro e wn ⟨rfl, hbd, ho⟩
  go_wp2_with fail
  refine bodyPost_ret (v := .tuple #[]) (by first | rfl | (simp [results, go_sem]; done) | simp [results, Tryz.results49, go_sem]) rfl ?_
  exact ⟨rfl, hbd, ho⟩
set_option maxHeartbeats 1000000 in
set_option maxRecDepth 100000 in
theorem wantR_bad {p : Nat} (h : BadR w g p) (kd : Int) (t : List UInt8) :
    Calls Tryz.prog 49 #[.pointer (some ⟨g, 0, none⟩), .int .i64 kd, .string ⟨t.toArray⟩] w fun e w' => e = .returned (.tuple #[]) ∧ w = w' := by
  unfold BadR at h
  go_enter Tryz.func49, Tryz.ntmps49
  go_wp2_with fail
  refine bodyPost_ret (v := .tuple #[]) (by first | rfl | (simp [results, go_sem]; done) | simp [results, Tryz.results49, go_sem]) rfl ?_
  exact ⟨rfl, rfl⟩
/-- What thing answers: any thing where it went wrong. -/
def ThPost (w : World) (g : Nat) (a : Int) (s : ByteArray) (res : Rs (Int × Int × List UInt8)) (e : Ending) (w' : World) : Prop :=
  ∃ x : Int × Int × List UInt8, e = .returned (thV x) ∧ x.2.2.length ≤ 262144 ∧ Only g w w' ∧ match res with
    | .ok y L => x = y ∧ RdR w' g a s L (-1)
    | .bad p => BadR w' g p
set_option maxHeartbeats 8000000 in
set_option maxRecDepth 100000 in
theorem thingRR (h : RdR w g a s L (-1)) (hE : Env w) (hg : 6 ≤ g) (ha : archB a = true) :
    Calls Tryz.prog 112 #[.pointer (some ⟨g, 0, none⟩)] w (ThPost w g a s (pThing s.size a L)) := by
  have hglt := h.lt
  have hwA := below_alloc (alloc_b w (.cells #[.int .i64 0, .int .i64 0, .string ⟨#[]⟩] 23 (0, 0))) (.cells #[.int .i64 0, .int .i64 0, .string ⟨#[]⟩] 23 (0, 0))
  have HD := Lib.hid (h.below hwA)
  have HE := Lib.hid (hE.mono hwA)
  have HO := Lib.hid (Only.of_below (g := g) hwA)
  have B2 := Lib.hid ((Blk.new w 23 #[.int .i64 0, .int .i64 0, .string ⟨#[]⟩]).alloc (.cells #[.int .i64 0, .int .i64 0, .string ⟨#[]⟩] 23 (0, 0)))
  have B3 := Lib.hid (blk_new1 w (.cells #[.int .i64 0, .int .i64 0, .string ⟨#[]⟩] 23 (0, 0)) 23 #[.int .i64 0, .int .i64 0, .string ⟨#[]⟩])
  clear h hE hwA
  have c0 := HD.out.blk.cell 0
  have c2 := HD.out.blk.cell 2
  have c3 := HD.out.blk.cell 3
  have c6 := HD.out.blk.cell 6
  by_cases h2 : kindT (hd L) = 2
  · have hm := kind2_min h2
    have h91 : hd L ≠ [91] := fun e => by rw [e] at h2; revert h2; decide
    have k2 : (kindT (hd L) == 2) = true := by simpa using h2
    have hpt : pThing s.size a L = (pInt s.size 0 15 L).go fun n L => (pTake s.size [58] L).go fun _ L => (pReg s.size a L).go fun k L => .ok (n, (k : Int), []) L := by rw [pThing, if_neg h91, if_pos hm]
    have hpi : pInt s.size 0 15 L = match (numT (hd L)).bind (fun v => if 0 ≤ v ∧ v ≤ 15 then some v else none) with | some n => .ok n L.tail | none => .bad (ps s.size L) := by rw [pInt, numIn_small]; rfl
    cases hnt : numT (hd L) with
    | none =>
      have HNV := Lib.hid (show numV (hd L) = .tuple #[.int .i64 0, .bool false] by rw [numV, hnt]; rfl)
      have HR := Lib.hid (show pThing s.size a L = .bad (ps s.size L) by rw [hpt, hpi, hnt]; rfl)
      clear h2 hm h91 hpt hpi hnt
      go_enter Tryz.func112, Tryz.ntmps112
      go_wp2_with fail
      refine (numberR _ _).mono ?_
      rw [show numV (⟨(hd L).toArray⟩ : ByteArray).data.toList = .tuple #[.int .i64 0, .bool false] from HNV.out]
      rintro e wn ⟨rfl, rfl⟩
      go_wp2_with fail
      refine (wrongR HD.out).mono ?_
      rintro e wn ⟨rfl, hbd, ho⟩
      have HBD := Lib.hid hbd
      have B2 := Lib.hid (B2.out.only ho (by omega))
      have B3 := Lib.hid (B3.out.only ho (by omega))
      have HO := Lib.hid (HO.out.trans ho)
      clear hbd ho
      clear c0 c2 c3 c6
      have c6 := HBD.out
      unfold BadR at c6
      have z0 : _ = some (Value.int .i64 0) := B2.out.cell 0
      have y0 := B2.out.frozen 0
      have z1 : _ = some (Value.int .i64 0) := B2.out.cell 1
      have y1 := B2.out.frozen 1
      have z2 : _ = some (Value.string ⟨#[]⟩) := B2.out.cell 2
      have y2 := B2.out.frozen 2
      have m0 : _ = some (Value.int .i64 0) := B3.out.cell 0
      have m1 : _ = some (Value.int .i64 0) := B3.out.cell 1
      have m2 : _ = some (Value.string ⟨#[]⟩) := B3.out.cell 2
      go_wp2_with fail
      refine ret_thE rfl (blk_putQ3 B2.out rfl _ _ _) rfl rfl ?_
      rw [HR.out]
      exact ⟨(0, 0, []), rfl, by simp, only_putQ3 HO.out (Nat.le_refl _) _ _ _, HBD.out.putQ3 (by omega) _ _ _⟩
    | some v =>
      have hvb := numB_iff (numT_some hnt).1
      have HNV := Lib.hid (show numV (hd L) = .tuple #[.int .i64 v, .bool true] by rw [numV, hnt]; rfl)
      by_cases hv : v < 0
      · have v1 : decide (v < 0) = true := decide_eq_true hv
        have HR := Lib.hid (show pThing s.size a L = .bad (ps s.size L) by rw [hpt, hpi, hnt]; simp only [Option.bind_some]; rw [if_neg (by omega)]; rfl)
        clear h2 hm h91 hpt hpi hnt
        go_enter Tryz.func112, Tryz.ntmps112
        go_wp2_with fail
        refine (numberR _ _).mono ?_
        rw [show numV (⟨(hd L).toArray⟩ : ByteArray).data.toList = .tuple #[.int .i64 v, .bool true] from HNV.out]
        rintro e wn ⟨rfl, rfl⟩
        go_wp2_with fail
        refine (wrongR HD.out).mono ?_
        rintro e wn ⟨rfl, hbd, ho⟩
        have HBD := Lib.hid hbd
        have B2 := Lib.hid (B2.out.only ho (by omega))
        have B3 := Lib.hid (B3.out.only ho (by omega))
        have HO := Lib.hid (HO.out.trans ho)
        clear hbd ho
        clear c0 c2 c3 c6
        have c6 := HBD.out
        unfold BadR at c6
        have z0 : _ = some (Value.int .i64 0) := B2.out.cell 0
        have y0 := B2.out.frozen 0
        have z1 : _ = some (Value.int .i64 0) := B2.out.cell 1
        have y1 := B2.out.frozen 1
        have z2 : _ = some (Value.string ⟨#[]⟩) := B2.out.cell 2
        have y2 := B2.out.frozen 2
        have m0 : _ = some (Value.int .i64 0) := B3.out.cell 0
        have m1 : _ = some (Value.int .i64 0) := B3.out.cell 1
        have m2 : _ = some (Value.string ⟨#[]⟩) := B3.out.cell 2
        go_wp2_with fail
        refine ret_thE rfl (blk_putQ3 B2.out rfl _ _ _) rfl rfl ?_
        rw [HR.out]
        exact ⟨(0, 0, []), rfl, by simp, only_putQ3 HO.out (Nat.le_refl _) _ _ _, HBD.out.putQ3 (by omega) _ _ _⟩
      have hv0 := hv
      clear hv
      by_cases hv : 15 < v
      · have v1 : decide (v < 0) = false := decide_eq_false (by omega)
        have v2 : decide (16 ≤ v) = true := decide_eq_true (by omega)
        have HR := Lib.hid (show pThing s.size a L = .bad (ps s.size L) by rw [hpt, hpi, hnt]; simp only [Option.bind_some]; rw [if_neg (by omega)]; rfl)
        clear h2 hm h91 hpt hpi hnt
        go_enter Tryz.func112, Tryz.ntmps112
        go_wp2_with fail
        refine (numberR _ _).mono ?_
        rw [show numV (⟨(hd L).toArray⟩ : ByteArray).data.toList = .tuple #[.int .i64 v, .bool true] from HNV.out]
        rintro e wn ⟨rfl, rfl⟩
        go_wp2_with fail
        refine (wrongR HD.out).mono ?_
        rintro e wn ⟨rfl, hbd, ho⟩
        have HBD := Lib.hid hbd
        have B2 := Lib.hid (B2.out.only ho (by omega))
        have B3 := Lib.hid (B3.out.only ho (by omega))
        have HO := Lib.hid (HO.out.trans ho)
        clear hbd ho
        clear c0 c2 c3 c6
        have c6 := HBD.out
        unfold BadR at c6
        have z0 : _ = some (Value.int .i64 0) := B2.out.cell 0
        have y0 := B2.out.frozen 0
        have z1 : _ = some (Value.int .i64 0) := B2.out.cell 1
        have y1 := B2.out.frozen 1
        have z2 : _ = some (Value.string ⟨#[]⟩) := B2.out.cell 2
        have y2 := B2.out.frozen 2
        have m0 : _ = some (Value.int .i64 0) := B3.out.cell 0
        have m1 : _ = some (Value.int .i64 0) := B3.out.cell 1
        have m2 : _ = some (Value.string ⟨#[]⟩) := B3.out.cell 2
        go_wp2_with fail
        refine ret_thE rfl (blk_putQ3 B2.out rfl _ _ _) rfl rfl ?_
        rw [HR.out]
        exact ⟨(0, 0, []), rfl, by simp, only_putQ3 HO.out (Nat.le_refl _) _ _ _, HBD.out.putQ3 (by omega) _ _ _⟩
      have v1 : decide (v < 0) = false := decide_eq_false hv0
      have v2 : decide (16 ≤ v) = false := decide_eq_false (by omega)
      have hp1 : pThing s.size a L = (pTake s.size [58] L.tail).go fun _ L => (pReg s.size a L).go fun k L => .ok (v, (k : Int), []) L := by rw [hpt, hpi, hnt]; simp only [Option.bind_some]; rw [if_pos (by omega)]; rfl
      clear hpt hpi hnt h2 hm h91
      by_cases h58 : hd L.tail = [58]
      · have hp2 : pThing s.size a L = (pReg s.size a L.tail.tail).go fun k L => .ok (v, (k : Int), []) L := by rw [hp1, pTake, if_pos h58]; rfl
        clear hp1
        cases hrg : regOf a (hd L.tail.tail) with
        | none =>
          have HRG := Lib.hid (show regOfV a (hd L.tail.tail) = .tuple #[.int .i64 0, .bool false] by rw [regOfV, hrg])
          have HR := Lib.hid (show pThing s.size a L = .bad (ps s.size L.tail.tail) by rw [hp2, pReg, hrg]; rfl)
          clear hp2 hrg
          by_cases h1 : kindT (hd L.tail.tail) = 1
          · have H58 := Lib.hid h58
            have k1 : (kindT (hd L.tail.tail) != 1) = false := by simp [h1]
            clear h1 h58
            go_enter Tryz.func112, Tryz.ntmps112
            go_wp2_with fail
            refine (numberR _ _).mono ?_
            rw [show numV (⟨(hd L).toArray⟩ : ByteArray).data.toList = .tuple #[.int .i64 v, .bool true] from HNV.out]
            rintro e wn ⟨rfl, rfl⟩
            go_wp2_with fail
            refine (onR HD.out).mono ?_
            rintro e wn ⟨rfl, hrd, ho⟩
            have HD := Lib.hid hrd
            have HE := Lib.hid (HE.out.only ho hg)
            have B2 := Lib.hid (B2.out.only ho (by omega))
            have B3 := Lib.hid (B3.out.only ho (by omega))
            have HO := Lib.hid (HO.out.trans ho)
            clear hrd ho
            clear c0 c2 c3 c6
            have c0 := HD.out.blk.cell 0
            have c2 := HD.out.blk.cell 2
            have c3 := HD.out.blk.cell 3
            have c6 := HD.out.blk.cell 6
            go_wp2_with fail
            refine (wantR_yes HD.out [58] 3 rfl H58.out).mono ?_
            rintro e wn ⟨rfl, hrd, ho⟩
            have HD := Lib.hid hrd
            have HE := Lib.hid (HE.out.only ho hg)
            have B2 := Lib.hid (B2.out.only ho (by omega))
            have B3 := Lib.hid (B3.out.only ho (by omega))
            have HO := Lib.hid (HO.out.trans ho)
            clear hrd ho
            clear c0 c2 c3 c6
            have c0 := HD.out.blk.cell 0
            have c2 := HD.out.blk.cell 2
            have c3 := HD.out.blk.cell 3
            have c6 := HD.out.blk.cell 6
            go_wp2_with fail
            obtain ⟨wc, hwc⟩ : ∃ x, x = wn := ⟨_, rfl⟩
            subst hwc
            have SS : Hid (∀ y, Below wc.heap.size wc y → (fun y : World => y.cell? ⟨g, 0, none⟩ = some (.int .i64 a) ∧ y.cell? ⟨g, 3, none⟩ = some (.string ⟨(hd L.tail.tail).toArray⟩)) y) := Lib.hid (fun y hy => ⟨(HD.out.below hy).blk.cell 0, (HD.out.below hy).blk.cell 3⟩)
            refine wp_region_held_drew (S := (fun y : World => y.cell? ⟨g, 0, none⟩ = some (.int .i64 a) ∧ y.cell? ⟨g, 3, none⟩ = some (.string ⟨(hd L.tail.tail).toArray⟩))) (by kernel_rfl) (SS.out _ ((Below.refl _ _).drew)) (fun hHeld => ?_)
            refine wpAnyH_take (i := 0) (v := ?_) rfl (by kernel_rfl) (by kernel_rfl) (by kernel_rfl) (fun _ _ _ h => h) (Or.inl ⟨by kernel_rfl, ?_⟩) (by assumption) ?_
            rotate_left
            · intro x' hSx
              try dsimp only at hSx
              go_simp
              try with_reducible rfl
            try simp only [Act.put, List.setIfInBounds_toArray]
            refine wpAnyH_take (i := 1) (v := ?_) rfl (by kernel_rfl) (by kernel_rfl) (by kernel_rfl) (fun _ _ _ h => h) (Or.inl ⟨by kernel_rfl, ?_⟩) (by assumption) ?_
            rotate_left
            · intro x' hSx
              try dsimp only at hSx
              go_simp
              try with_reducible rfl
            try simp only [Act.put]
            refine wpAnyH_take (i := 2) (v := ?_) rfl (by kernel_rfl) (by kernel_rfl) (by kernel_rfl) (fun _ _ _ h => h) (Or.inl ⟨by kernel_rfl, ?_⟩) (by assumption) ?_
            rotate_left
            · intro x' hSx
              try dsimp only at hSx
              go_simp
              try with_reducible rfl
            try simp only [Act.put]
            refine wpAnyH_take (i := 3) (v := ?_) rfl (by kernel_rfl) (by kernel_rfl) (by kernel_rfl) (fun _ _ _ h => h) (Or.inl ⟨by kernel_rfl, ?_⟩) (by assumption) ?_
            rotate_left
            · intro x' hSx
              try dsimp only at hSx
              go_simp
              try with_reducible rfl
            try simp only [Act.put]
            refine wpAnyH_take (i := 4) (v := ?_) rfl (by kernel_rfl) (by kernel_rfl) (by kernel_rfl) (fun _ _ _ h => h) (Or.inl ⟨by kernel_rfl, ?_⟩) (by assumption) ?_
            rotate_left
            · intro x' hSx
              try dsimp only at hSx
              go_simp
              try with_reducible rfl
            try simp only [Act.put]
            refine wpAnyH_take (i := 5) (v := ?_) rfl (by kernel_rfl) (by kernel_rfl) (by kernel_rfl) (fun _ _ _ h => h) (Or.inl ⟨by kernel_rfl, ?_⟩) (by assumption) ?_
            rotate_left
            · intro x' hSx
              try dsimp only at hSx
              go_simp
              try with_reducible rfl
            try simp only [Act.put]
            refine wpAnyH_take (i := 6) (v := ?_) rfl (by kernel_rfl) (by kernel_rfl) (by kernel_rfl) (fun _ _ _ h => h) (Or.inl ⟨by kernel_rfl, ?_⟩) (by assumption) ?_
            rotate_left
            · intro x' hSx
              try dsimp only at hSx
              go_simp
              try with_reducible rfl
            try simp only [Act.put]
            refine wpAnyH_take (i := 7) (v := ?_) rfl (by kernel_rfl) (by kernel_rfl) (by kernel_rfl) (fun _ _ _ h => h) (Or.inl ⟨by kernel_rfl, ?_⟩) (by assumption) ?_
            rotate_left
            · intro x' hSx
              try dsimp only at hSx
              go_simp
              try with_reducible rfl
            try simp only [Act.put]
            refine wpAnyH_take (i := 8) (v := ?_) rfl (by kernel_rfl) (by kernel_rfl) (by kernel_rfl) (fun _ _ _ h => h) (Or.inl ⟨by kernel_rfl, ?_⟩) (by assumption) ?_
            rotate_left
            · intro x' hSx
              try dsimp only at hSx
              go_simp
              try with_reducible rfl
            try simp only [Act.put]
            refine wpAnyH_ready (rs := [9]) (by kernel_rfl) (by simp) ?_
            refine AllReadyH.cons rfl (fun K hK => ?_) AllReadyH.nil
            go_simp
            go_at_call 122
            refine (regOfR a _ _ (HE.out.mono ((Below.refl _ _).drew))).mono ?_
            rw [show regOfV a (⟨(hd L.tail.tail).toArray⟩ : ByteArray).data.toList = .tuple #[.int .i64 0, .bool false] from HRG.out]
            rintro e wr ⟨rfl, hb1⟩
            have hbw : Below wc.heap.size wc wr := below_of_drew hb1
            have HX1 := Lib.hid hbw
            have hrd := HD.out.below hbw
            have ho : Only g wc wr := Only.of_below hbw
            clear hb1 hbw
            refine hK.out _ _ (SS.out _ HX1.out) (fun _ => ?_)
            clear hK K
            try simp only [Act.put, List.setIfInBounds_toArray, List.set_cons_zero, List.set_cons_succ]
            refine wpAnyH_take (i := 10) (v := ?_) rfl (by kernel_rfl) (by kernel_rfl) (by kernel_rfl) (fun _ _ _ h => h) (Or.inl ⟨by kernel_rfl, ?_⟩) (by assumption) ?_
            rotate_left
            · intro x' hSx
              try dsimp only at hSx
              go_simp
              try with_reducible rfl
            try simp only [Act.put, List.setIfInBounds_toArray]
            refine wpAnyH_take (i := 11) (v := ?_) rfl (by kernel_rfl) (by kernel_rfl) (by kernel_rfl) (fun _ _ _ h => h) (Or.inl ⟨by kernel_rfl, ?_⟩) (by assumption) ?_
            rotate_left
            · intro x' hSx
              try dsimp only at hSx
              go_simp
              try with_reducible rfl
            try simp only [Act.put]
            refine wpAnyH_take (i := 12) (v := ?_) rfl (by kernel_rfl) (by kernel_rfl) (by kernel_rfl) (fun _ _ _ h => h) (Or.inl ⟨by kernel_rfl, ?_⟩) (by assumption) ?_
            rotate_left
            · intro x' hSx
              try dsimp only at hSx
              go_simp
              try with_reducible rfl
            try simp only [Act.put]
            refine wpAnyH_take (i := 13) (v := ?_) rfl (by kernel_rfl) (by kernel_rfl) (by kernel_rfl) (fun _ _ _ h => h) (Or.inl ⟨by kernel_rfl, ?_⟩) (by assumption) ?_
            rotate_left
            · intro x' hSx
              try dsimp only at hSx
              go_simp
              try with_reducible rfl
            try simp only [Act.put]
            refine wpAnyH_take (i := 14) (v := ?_) rfl (by kernel_rfl) (by kernel_rfl) (by kernel_rfl) (fun _ _ _ h => h) (Or.inl ⟨by kernel_rfl, ?_⟩) (by assumption) ?_
            rotate_left
            · intro x' hSx
              try dsimp only at hSx
              go_simp
              try with_reducible rfl
            try simp only [Act.put]
            refine wpAnyH_done (by kernel_rfl) ?_ _
            have HD := Lib.hid hrd
            have HE := Lib.hid (HE.out.only ho hg)
            have B2 := Lib.hid (B2.out.only ho (by omega))
            have B3 := Lib.hid (B3.out.only ho (by omega))
            have HO := Lib.hid (HO.out.trans ho)
            clear hrd ho
            clear c0 c2 c3 c6
            have c0 := HD.out.blk.cell 0
            have c2 := HD.out.blk.cell 2
            have c3 := HD.out.blk.cell 3
            have c6 := HD.out.blk.cell 6
            go_wp2_with fail
            refine (wrongR HD.out).mono ?_
            rintro e wn ⟨rfl, hbd, ho⟩
            have HBD := Lib.hid hbd
            have B2 := Lib.hid (B2.out.only ho (by omega))
            have B3 := Lib.hid (B3.out.only ho (by omega))
            have HO := Lib.hid (HO.out.trans ho)
            clear hbd ho
            clear c0 c2 c3 c6
            have c6 := HBD.out
            unfold BadR at c6
            have z0 : _ = some (Value.int .i64 0) := B2.out.cell 0
            have y0 := B2.out.frozen 0
            have z1 : _ = some (Value.int .i64 0) := B2.out.cell 1
            have y1 := B2.out.frozen 1
            have z2 : _ = some (Value.string ⟨#[]⟩) := B2.out.cell 2
            have y2 := B2.out.frozen 2
            have m0 : _ = some (Value.int .i64 0) := B3.out.cell 0
            have m1 : _ = some (Value.int .i64 0) := B3.out.cell 1
            have m2 : _ = some (Value.string ⟨#[]⟩) := B3.out.cell 2
            go_wp2_with fail
            refine ret_thE rfl (blk_putQ3 B2.out rfl _ _ _) rfl rfl ?_
            rw [HR.out]
            exact ⟨(0, 0, []), rfl, by simp, only_putQ3 HO.out (Nat.le_refl _) _ _ _, HBD.out.putQ3 (by omega) _ _ _⟩
          · have H58 := Lib.hid h58
            have k1 : (kindT (hd L.tail.tail) != 1) = true := by simpa using h1
            clear h1 h58
            go_enter Tryz.func112, Tryz.ntmps112
            go_wp2_with fail
            refine (numberR _ _).mono ?_
            rw [show numV (⟨(hd L).toArray⟩ : ByteArray).data.toList = .tuple #[.int .i64 v, .bool true] from HNV.out]
            rintro e wn ⟨rfl, rfl⟩
            go_wp2_with fail
            refine (onR HD.out).mono ?_
            rintro e wn ⟨rfl, hrd, ho⟩
            have HD := Lib.hid hrd
            have HE := Lib.hid (HE.out.only ho hg)
            have B2 := Lib.hid (B2.out.only ho (by omega))
            have B3 := Lib.hid (B3.out.only ho (by omega))
            have HO := Lib.hid (HO.out.trans ho)
            clear hrd ho
            clear c0 c2 c3 c6
            have c0 := HD.out.blk.cell 0
            have c2 := HD.out.blk.cell 2
            have c3 := HD.out.blk.cell 3
            have c6 := HD.out.blk.cell 6
            go_wp2_with fail
            refine (wantR_yes HD.out [58] 3 rfl H58.out).mono ?_
            rintro e wn ⟨rfl, hrd, ho⟩
            have HD := Lib.hid hrd
            have HE := Lib.hid (HE.out.only ho hg)
            have B2 := Lib.hid (B2.out.only ho (by omega))
            have B3 := Lib.hid (B3.out.only ho (by omega))
            have HO := Lib.hid (HO.out.trans ho)
            clear hrd ho
            clear c0 c2 c3 c6
            have c0 := HD.out.blk.cell 0
            have c2 := HD.out.blk.cell 2
            have c3 := HD.out.blk.cell 3
            have c6 := HD.out.blk.cell 6
            go_wp2_with fail
            obtain ⟨wc, hwc⟩ : ∃ x, x = wn := ⟨_, rfl⟩
            subst hwc
            have SS : Hid (∀ y, Below wc.heap.size wc y → (fun y : World => y.cell? ⟨g, 0, none⟩ = some (.int .i64 a) ∧ y.cell? ⟨g, 3, none⟩ = some (.string ⟨(hd L.tail.tail).toArray⟩)) y) := Lib.hid (fun y hy => ⟨(HD.out.below hy).blk.cell 0, (HD.out.below hy).blk.cell 3⟩)
            refine wp_region_held_drew (S := (fun y : World => y.cell? ⟨g, 0, none⟩ = some (.int .i64 a) ∧ y.cell? ⟨g, 3, none⟩ = some (.string ⟨(hd L.tail.tail).toArray⟩))) (by kernel_rfl) (SS.out _ ((Below.refl _ _).drew)) (fun hHeld => ?_)
            refine wpAnyH_take (i := 0) (v := ?_) rfl (by kernel_rfl) (by kernel_rfl) (by kernel_rfl) (fun _ _ _ h => h) (Or.inl ⟨by kernel_rfl, ?_⟩) (by assumption) ?_
            rotate_left
            · intro x' hSx
              try dsimp only at hSx
              go_simp
              try with_reducible rfl
            try simp only [Act.put, List.setIfInBounds_toArray]
            refine wpAnyH_take (i := 1) (v := ?_) rfl (by kernel_rfl) (by kernel_rfl) (by kernel_rfl) (fun _ _ _ h => h) (Or.inl ⟨by kernel_rfl, ?_⟩) (by assumption) ?_
            rotate_left
            · intro x' hSx
              try dsimp only at hSx
              go_simp
              try with_reducible rfl
            try simp only [Act.put]
            refine wpAnyH_take (i := 2) (v := ?_) rfl (by kernel_rfl) (by kernel_rfl) (by kernel_rfl) (fun _ _ _ h => h) (Or.inl ⟨by kernel_rfl, ?_⟩) (by assumption) ?_
            rotate_left
            · intro x' hSx
              try dsimp only at hSx
              go_simp
              try with_reducible rfl
            try simp only [Act.put]
            refine wpAnyH_take (i := 3) (v := ?_) rfl (by kernel_rfl) (by kernel_rfl) (by kernel_rfl) (fun _ _ _ h => h) (Or.inl ⟨by kernel_rfl, ?_⟩) (by assumption) ?_
            rotate_left
            · intro x' hSx
              try dsimp only at hSx
              go_simp
              try with_reducible rfl
            try simp only [Act.put]
            refine wpAnyH_take (i := 4) (v := ?_) rfl (by kernel_rfl) (by kernel_rfl) (by kernel_rfl) (fun _ _ _ h => h) (Or.inl ⟨by kernel_rfl, ?_⟩) (by assumption) ?_
            rotate_left
            · intro x' hSx
              try dsimp only at hSx
              go_simp
              try with_reducible rfl
            try simp only [Act.put]
            refine wpAnyH_take (i := 5) (v := ?_) rfl (by kernel_rfl) (by kernel_rfl) (by kernel_rfl) (fun _ _ _ h => h) (Or.inl ⟨by kernel_rfl, ?_⟩) (by assumption) ?_
            rotate_left
            · intro x' hSx
              try dsimp only at hSx
              go_simp
              try with_reducible rfl
            try simp only [Act.put]
            refine wpAnyH_take (i := 6) (v := ?_) rfl (by kernel_rfl) (by kernel_rfl) (by kernel_rfl) (fun _ _ _ h => h) (Or.inl ⟨by kernel_rfl, ?_⟩) (by assumption) ?_
            rotate_left
            · intro x' hSx
              try dsimp only at hSx
              go_simp
              try with_reducible rfl
            try simp only [Act.put]
            refine wpAnyH_take (i := 7) (v := ?_) rfl (by kernel_rfl) (by kernel_rfl) (by kernel_rfl) (fun _ _ _ h => h) (Or.inl ⟨by kernel_rfl, ?_⟩) (by assumption) ?_
            rotate_left
            · intro x' hSx
              try dsimp only at hSx
              go_simp
              try with_reducible rfl
            try simp only [Act.put]
            refine wpAnyH_take (i := 8) (v := ?_) rfl (by kernel_rfl) (by kernel_rfl) (by kernel_rfl) (fun _ _ _ h => h) (Or.inl ⟨by kernel_rfl, ?_⟩) (by assumption) ?_
            rotate_left
            · intro x' hSx
              try dsimp only at hSx
              go_simp
              try with_reducible rfl
            try simp only [Act.put]
            refine wpAnyH_ready (rs := [9]) (by kernel_rfl) (by simp) ?_
            refine AllReadyH.cons rfl (fun K hK => ?_) AllReadyH.nil
            go_simp
            go_at_call 122
            refine (regOfR a _ _ (HE.out.mono ((Below.refl _ _).drew))).mono ?_
            rw [show regOfV a (⟨(hd L.tail.tail).toArray⟩ : ByteArray).data.toList = .tuple #[.int .i64 0, .bool false] from HRG.out]
            rintro e wr ⟨rfl, hb1⟩
            have hbw : Below wc.heap.size wc wr := below_of_drew hb1
            have HX1 := Lib.hid hbw
            have hrd := HD.out.below hbw
            have ho : Only g wc wr := Only.of_below hbw
            clear hb1 hbw
            refine hK.out _ _ (SS.out _ HX1.out) (fun _ => ?_)
            clear hK K
            try simp only [Act.put, List.setIfInBounds_toArray, List.set_cons_zero, List.set_cons_succ]
            refine wpAnyH_take (i := 10) (v := ?_) rfl (by kernel_rfl) (by kernel_rfl) (by kernel_rfl) (fun _ _ _ h => h) (Or.inl ⟨by kernel_rfl, ?_⟩) (by assumption) ?_
            rotate_left
            · intro x' hSx
              try dsimp only at hSx
              go_simp
              try with_reducible rfl
            try simp only [Act.put, List.setIfInBounds_toArray]
            refine wpAnyH_take (i := 11) (v := ?_) rfl (by kernel_rfl) (by kernel_rfl) (by kernel_rfl) (fun _ _ _ h => h) (Or.inl ⟨by kernel_rfl, ?_⟩) (by assumption) ?_
            rotate_left
            · intro x' hSx
              try dsimp only at hSx
              go_simp
              try with_reducible rfl
            try simp only [Act.put]
            refine wpAnyH_take (i := 12) (v := ?_) rfl (by kernel_rfl) (by kernel_rfl) (by kernel_rfl) (fun _ _ _ h => h) (Or.inl ⟨by kernel_rfl, ?_⟩) (by assumption) ?_
            rotate_left
            · intro x' hSx
              try dsimp only at hSx
              go_simp
              try with_reducible rfl
            try simp only [Act.put]
            refine wpAnyH_take (i := 13) (v := ?_) rfl (by kernel_rfl) (by kernel_rfl) (by kernel_rfl) (fun _ _ _ h => h) (Or.inl ⟨by kernel_rfl, ?_⟩) (by assumption) ?_
            rotate_left
            · intro x' hSx
              try dsimp only at hSx
              go_simp
              try with_reducible rfl
            try simp only [Act.put]
            refine wpAnyH_take (i := 14) (v := ?_) rfl (by kernel_rfl) (by kernel_rfl) (by kernel_rfl) (fun _ _ _ h => h) (Or.inl ⟨by kernel_rfl, ?_⟩) (by assumption) ?_
            rotate_left
            · intro x' hSx
              try dsimp only at hSx
              go_simp
              try with_reducible rfl
            try simp only [Act.put]
            refine wpAnyH_done (by kernel_rfl) ?_ _
            have HD := Lib.hid hrd
            have HE := Lib.hid (HE.out.only ho hg)
            have B2 := Lib.hid (B2.out.only ho (by omega))
            have B3 := Lib.hid (B3.out.only ho (by omega))
            have HO := Lib.hid (HO.out.trans ho)
            clear hrd ho
            clear c0 c2 c3 c6
            have c0 := HD.out.blk.cell 0
            have c2 := HD.out.blk.cell 2
            have c3 := HD.out.blk.cell 3
            have c6 := HD.out.blk.cell 6
            go_wp2_with fail
            refine (wrongR HD.out).mono ?_
            rintro e wn ⟨rfl, hbd, ho⟩
            have HBD := Lib.hid hbd
            have B2 := Lib.hid (B2.out.only ho (by omega))
            have B3 := Lib.hid (B3.out.only ho (by omega))
            have HO := Lib.hid (HO.out.trans ho)
            clear hbd ho
            clear c0 c2 c3 c6
            have c6 := HBD.out
            unfold BadR at c6
            have z0 : _ = some (Value.int .i64 0) := B2.out.cell 0
            have y0 := B2.out.frozen 0
            have z1 : _ = some (Value.int .i64 0) := B2.out.cell 1
            have y1 := B2.out.frozen 1
            have z2 : _ = some (Value.string ⟨#[]⟩) := B2.out.cell 2
            have y2 := B2.out.frozen 2
            have m0 : _ = some (Value.int .i64 0) := B3.out.cell 0
            have m1 : _ = some (Value.int .i64 0) := B3.out.cell 1
            have m2 : _ = some (Value.string ⟨#[]⟩) := B3.out.cell 2
            go_wp2_with fail
            refine ret_thE rfl (blk_putQ3 B2.out rfl _ _ _) rfl rfl ?_
            rw [HR.out]
            exact ⟨(0, 0, []), rfl, by simp, only_putQ3 HO.out (Nat.le_refl _) _ _ _, HBD.out.putQ3 (by omega) _ _ _⟩
        | some k =>
          have k1 : (kindT (hd L.tail.tail) != 1) = false := by simp [reg_kind ha hrg]
          have HRG := Lib.hid (show regOfV a (hd L.tail.tail) = .tuple #[.int .i64 k, .bool true] by rw [regOfV, hrg])
          have HR := Lib.hid (show pThing s.size a L = .ok (v, (k : Int), []) L.tail.tail.tail by rw [hp2, pReg, hrg]; rfl)
          have H58 := Lib.hid h58
          clear hp2 hrg h58
          go_enter Tryz.func112, Tryz.ntmps112
          go_wp2_with fail
          refine (numberR _ _).mono ?_
          rw [show numV (⟨(hd L).toArray⟩ : ByteArray).data.toList = .tuple #[.int .i64 v, .bool true] from HNV.out]
          rintro e wn ⟨rfl, rfl⟩
          go_wp2_with fail
          refine (onR HD.out).mono ?_
          rintro e wn ⟨rfl, hrd, ho⟩
          have HD := Lib.hid hrd
          have HE := Lib.hid (HE.out.only ho hg)
          have B2 := Lib.hid (B2.out.only ho (by omega))
          have B3 := Lib.hid (B3.out.only ho (by omega))
          have HO := Lib.hid (HO.out.trans ho)
          clear hrd ho
          clear c0 c2 c3 c6
          have c0 := HD.out.blk.cell 0
          have c2 := HD.out.blk.cell 2
          have c3 := HD.out.blk.cell 3
          have c6 := HD.out.blk.cell 6
          go_wp2_with fail
          refine (wantR_yes HD.out [58] 3 rfl H58.out).mono ?_
          rintro e wn ⟨rfl, hrd, ho⟩
          have HD := Lib.hid hrd
          have HE := Lib.hid (HE.out.only ho hg)
          have B2 := Lib.hid (B2.out.only ho (by omega))
          have B3 := Lib.hid (B3.out.only ho (by omega))
          have HO := Lib.hid (HO.out.trans ho)
          clear hrd ho
          clear c0 c2 c3 c6
          have c0 := HD.out.blk.cell 0
          have c2 := HD.out.blk.cell 2
          have c3 := HD.out.blk.cell 3
          have c6 := HD.out.blk.cell 6
          go_wp2_with fail
          obtain ⟨wc, hwc⟩ : ∃ x, x = wn := ⟨_, rfl⟩
          subst hwc
          have SS : Hid (∀ y, Below wc.heap.size wc y → (fun y : World => y.cell? ⟨g, 0, none⟩ = some (.int .i64 a) ∧ y.cell? ⟨g, 3, none⟩ = some (.string ⟨(hd L.tail.tail).toArray⟩)) y) := Lib.hid (fun y hy => ⟨(HD.out.below hy).blk.cell 0, (HD.out.below hy).blk.cell 3⟩)
          refine wp_region_held_drew (S := (fun y : World => y.cell? ⟨g, 0, none⟩ = some (.int .i64 a) ∧ y.cell? ⟨g, 3, none⟩ = some (.string ⟨(hd L.tail.tail).toArray⟩))) (by kernel_rfl) (SS.out _ ((Below.refl _ _).drew)) (fun hHeld => ?_)
          refine wpAnyH_take (i := 0) (v := ?_) rfl (by kernel_rfl) (by kernel_rfl) (by kernel_rfl) (fun _ _ _ h => h) (Or.inl ⟨by kernel_rfl, ?_⟩) (by assumption) ?_
          rotate_left
          · intro x' hSx
            try dsimp only at hSx
            go_simp
            try with_reducible rfl
          try simp only [Act.put, List.setIfInBounds_toArray]
          refine wpAnyH_take (i := 1) (v := ?_) rfl (by kernel_rfl) (by kernel_rfl) (by kernel_rfl) (fun _ _ _ h => h) (Or.inl ⟨by kernel_rfl, ?_⟩) (by assumption) ?_
          rotate_left
          · intro x' hSx
            try dsimp only at hSx
            go_simp
            try with_reducible rfl
          try simp only [Act.put]
          refine wpAnyH_take (i := 2) (v := ?_) rfl (by kernel_rfl) (by kernel_rfl) (by kernel_rfl) (fun _ _ _ h => h) (Or.inl ⟨by kernel_rfl, ?_⟩) (by assumption) ?_
          rotate_left
          · intro x' hSx
            try dsimp only at hSx
            go_simp
            try with_reducible rfl
          try simp only [Act.put]
          refine wpAnyH_take (i := 3) (v := ?_) rfl (by kernel_rfl) (by kernel_rfl) (by kernel_rfl) (fun _ _ _ h => h) (Or.inl ⟨by kernel_rfl, ?_⟩) (by assumption) ?_
          rotate_left
          · intro x' hSx
            try dsimp only at hSx
            go_simp
            try with_reducible rfl
          try simp only [Act.put]
          refine wpAnyH_take (i := 4) (v := ?_) rfl (by kernel_rfl) (by kernel_rfl) (by kernel_rfl) (fun _ _ _ h => h) (Or.inl ⟨by kernel_rfl, ?_⟩) (by assumption) ?_
          rotate_left
          · intro x' hSx
            try dsimp only at hSx
            go_simp
            try with_reducible rfl
          try simp only [Act.put]
          refine wpAnyH_take (i := 5) (v := ?_) rfl (by kernel_rfl) (by kernel_rfl) (by kernel_rfl) (fun _ _ _ h => h) (Or.inl ⟨by kernel_rfl, ?_⟩) (by assumption) ?_
          rotate_left
          · intro x' hSx
            try dsimp only at hSx
            go_simp
            try with_reducible rfl
          try simp only [Act.put]
          refine wpAnyH_take (i := 6) (v := ?_) rfl (by kernel_rfl) (by kernel_rfl) (by kernel_rfl) (fun _ _ _ h => h) (Or.inl ⟨by kernel_rfl, ?_⟩) (by assumption) ?_
          rotate_left
          · intro x' hSx
            try dsimp only at hSx
            go_simp
            try with_reducible rfl
          try simp only [Act.put]
          refine wpAnyH_take (i := 7) (v := ?_) rfl (by kernel_rfl) (by kernel_rfl) (by kernel_rfl) (fun _ _ _ h => h) (Or.inl ⟨by kernel_rfl, ?_⟩) (by assumption) ?_
          rotate_left
          · intro x' hSx
            try dsimp only at hSx
            go_simp
            try with_reducible rfl
          try simp only [Act.put]
          refine wpAnyH_take (i := 8) (v := ?_) rfl (by kernel_rfl) (by kernel_rfl) (by kernel_rfl) (fun _ _ _ h => h) (Or.inl ⟨by kernel_rfl, ?_⟩) (by assumption) ?_
          rotate_left
          · intro x' hSx
            try dsimp only at hSx
            go_simp
            try with_reducible rfl
          try simp only [Act.put]
          refine wpAnyH_ready (rs := [9]) (by kernel_rfl) (by simp) ?_
          refine AllReadyH.cons rfl (fun K hK => ?_) AllReadyH.nil
          go_simp
          go_at_call 122
          refine (regOfR a _ _ (HE.out.mono ((Below.refl _ _).drew))).mono ?_
          rw [show regOfV a (⟨(hd L.tail.tail).toArray⟩ : ByteArray).data.toList = .tuple #[.int .i64 k, .bool true] from HRG.out]
          rintro e wr ⟨rfl, hb1⟩
          have hbw : Below wc.heap.size wc wr := below_of_drew hb1
          have HX1 := Lib.hid hbw
          have hrd := HD.out.below hbw
          have ho : Only g wc wr := Only.of_below hbw
          clear hb1 hbw
          refine hK.out _ _ (SS.out _ HX1.out) (fun _ => ?_)
          clear hK K
          try simp only [Act.put, List.setIfInBounds_toArray, List.set_cons_zero, List.set_cons_succ]
          refine wpAnyH_take (i := 10) (v := ?_) rfl (by kernel_rfl) (by kernel_rfl) (by kernel_rfl) (fun _ _ _ h => h) (Or.inl ⟨by kernel_rfl, ?_⟩) (by assumption) ?_
          rotate_left
          · intro x' hSx
            try dsimp only at hSx
            go_simp
            try with_reducible rfl
          try simp only [Act.put, List.setIfInBounds_toArray]
          refine wpAnyH_take (i := 11) (v := ?_) rfl (by kernel_rfl) (by kernel_rfl) (by kernel_rfl) (fun _ _ _ h => h) (Or.inl ⟨by kernel_rfl, ?_⟩) (by assumption) ?_
          rotate_left
          · intro x' hSx
            try dsimp only at hSx
            go_simp
            try with_reducible rfl
          try simp only [Act.put]
          refine wpAnyH_take (i := 12) (v := ?_) rfl (by kernel_rfl) (by kernel_rfl) (by kernel_rfl) (fun _ _ _ h => h) (Or.inl ⟨by kernel_rfl, ?_⟩) (by assumption) ?_
          rotate_left
          · intro x' hSx
            try dsimp only at hSx
            go_simp
            try with_reducible rfl
          try simp only [Act.put]
          refine wpAnyH_take (i := 13) (v := ?_) rfl (by kernel_rfl) (by kernel_rfl) (by kernel_rfl) (fun _ _ _ h => h) (Or.inl ⟨by kernel_rfl, ?_⟩) (by assumption) ?_
          rotate_left
          · intro x' hSx
            try dsimp only at hSx
            go_simp
            try with_reducible rfl
          try simp only [Act.put]
          refine wpAnyH_take (i := 14) (v := ?_) rfl (by kernel_rfl) (by kernel_rfl) (by kernel_rfl) (fun _ _ _ h => h) (Or.inl ⟨by kernel_rfl, ?_⟩) (by assumption) ?_
          rotate_left
          · intro x' hSx
            try dsimp only at hSx
            go_simp
            try with_reducible rfl
          try simp only [Act.put]
          refine wpAnyH_done (by kernel_rfl) ?_ _
          have HD := Lib.hid hrd
          have HE := Lib.hid (HE.out.only ho hg)
          have B2 := Lib.hid (B2.out.only ho (by omega))
          have B3 := Lib.hid (B3.out.only ho (by omega))
          have HO := Lib.hid (HO.out.trans ho)
          clear hrd ho
          clear c0 c2 c3 c6
          have c0 := HD.out.blk.cell 0
          have c2 := HD.out.blk.cell 2
          have c3 := HD.out.blk.cell 3
          have c6 := HD.out.blk.cell 6
          go_wp2_with fail
          refine (onR HD.out).mono ?_
          rintro e wn ⟨rfl, hrd, ho⟩
          have HD := Lib.hid hrd
          have HE := Lib.hid (HE.out.only ho hg)
          have B2 := Lib.hid (B2.out.only ho (by omega))
          have B3 := Lib.hid (B3.out.only ho (by omega))
          have HO := Lib.hid (HO.out.trans ho)
          clear hrd ho
          clear c0 c2 c3 c6
          have c0 := HD.out.blk.cell 0
          have c2 := HD.out.blk.cell 2
          have c3 := HD.out.blk.cell 3
          have c6 := HD.out.blk.cell 6
          have z0 : _ = some (Value.int .i64 0) := B2.out.cell 0
          have y0 := B2.out.frozen 0
          have z1 : _ = some (Value.int .i64 0) := B2.out.cell 1
          have y1 := B2.out.frozen 1
          have z2 : _ = some (Value.string ⟨#[]⟩) := B2.out.cell 2
          have y2 := B2.out.frozen 2
          go_wp2_with fail
          refine ret_thE rfl (blk_putQ3 B2.out rfl _ _ _) rfl rfl ?_
          rw [HR.out]
          exact ⟨(v, (k : Int), []), rfl, by simp, only_putQ3 HO.out (Nat.le_refl _) _ _ _, rfl, HD.out.putQ3 (by omega) _ _ _⟩
      · have HR := Lib.hid (show pThing s.size a L = .bad (ps s.size L.tail) by rw [hp1, pTake, if_neg h58]; rfl)
        have H58 := Lib.hid h58
        clear hp1 h58
        go_enter Tryz.func112, Tryz.ntmps112
        go_wp2_with fail
        refine (numberR _ _).mono ?_
        rw [show numV (⟨(hd L).toArray⟩ : ByteArray).data.toList = .tuple #[.int .i64 v, .bool true] from HNV.out]
        rintro e wn ⟨rfl, rfl⟩
        go_wp2_with fail
        refine (onR HD.out).mono ?_
        rintro e wn ⟨rfl, hrd, ho⟩
        have HD := Lib.hid hrd
        have HE := Lib.hid (HE.out.only ho hg)
        have B2 := Lib.hid (B2.out.only ho (by omega))
        have B3 := Lib.hid (B3.out.only ho (by omega))
        have HO := Lib.hid (HO.out.trans ho)
        clear hrd ho
        clear c0 c2 c3 c6
        have c0 := HD.out.blk.cell 0
        have c2 := HD.out.blk.cell 2
        have c3 := HD.out.blk.cell 3
        have c6 := HD.out.blk.cell 6
        go_wp2_with fail
        refine (wantR_no HD.out [58] 3 rfl H58.out).mono ?_
        rintro e wn ⟨rfl, hbd, ho⟩
        have HBD := Lib.hid hbd
        have B2 := Lib.hid (B2.out.only ho (by omega))
        have B3 := Lib.hid (B3.out.only ho (by omega))
        have HO := Lib.hid (HO.out.trans ho)
        clear hbd ho
        clear c0 c2 c3 c6
        have c6 := HBD.out
        unfold BadR at c6
        have z0 : _ = some (Value.int .i64 0) := B2.out.cell 0
        have y0 := B2.out.frozen 0
        have z1 : _ = some (Value.int .i64 0) := B2.out.cell 1
        have y1 := B2.out.frozen 1
        have z2 : _ = some (Value.string ⟨#[]⟩) := B2.out.cell 2
        have y2 := B2.out.frozen 2
        have m0 : _ = some (Value.int .i64 0) := B3.out.cell 0
        have m1 : _ = some (Value.int .i64 0) := B3.out.cell 1
        have m2 : _ = some (Value.string ⟨#[]⟩) := B3.out.cell 2
        go_wp2_with fail
        refine ret_thE rfl (blk_putQ3 B2.out rfl _ _ _) rfl rfl ?_
        rw [HR.out]
        exact ⟨(0, 0, []), rfl, by simp, only_putQ3 HO.out (Nat.le_refl _) _ _ _, HBD.out.putQ3 (by omega) _ _ _⟩
  · have k2 : (kindT (hd L) == 2) = false := by simpa using h2
    by_cases h91 : hd L = [91]
    · have hp1 : pThing s.size a L = (pLoc s.size L.tail).go fun x L => (pTake s.size [93] L).go fun _ L => .ok (-1, 0, x) L := by rw [pThing, if_pos h91]
      have H91 := Lib.hid (decide_eq_true h91)
      clear h2 h91
      cases hnm : nameB (hd L.tail) with
      | false =>
        have HNM := Lib.hid hnm
        have HR := Lib.hid (show pThing s.size a L = .bad (ps s.size L.tail) by rw [hp1, pLoc, if_neg (by simp [hnm])]; rfl)
        clear hnm
        by_cases h1 : kindT (hd L.tail) = 1
        · have k1 : (kindT (hd L.tail) != 1) = false := by simp [h1]
          clear h1
          go_enter Tryz.func112, Tryz.ntmps112
          have HIS := Lib.hid H91.out
          go_wp2_with fail
          refine (isR HD.out [91] 3 rfl).mono ?_
          rw [HIS.out]
          rintro e wn ⟨rfl, rfl⟩
          go_wp2_with fail
          refine (onR HD.out).mono ?_
          rintro e wn ⟨rfl, hrd, ho⟩
          have HD := Lib.hid hrd
          have HE := Lib.hid (HE.out.only ho hg)
          have B2 := Lib.hid (B2.out.only ho (by omega))
          have B3 := Lib.hid (B3.out.only ho (by omega))
          have HO := Lib.hid (HO.out.trans ho)
          clear hrd ho
          clear c0 c2 c3 c6
          have c0 := HD.out.blk.cell 0
          have c2 := HD.out.blk.cell 2
          have c3 := HD.out.blk.cell 3
          have c6 := HD.out.blk.cell 6
          go_wp2_with fail
          refine (namedR _ _ (by have := HD.out.hd_len; simp only [ByteArray.size, List.size_toArray]; omega)).mono ?_
          rw [show nameB (⟨(hd L.tail).toArray⟩ : ByteArray).data.toList = false from HNM.out]
          rintro e wn ⟨rfl, rfl⟩
          go_wp2_with fail
          refine (wrongR HD.out).mono ?_
          rintro e wn ⟨rfl, hbd, ho⟩
          have HBD := Lib.hid hbd
          have B2 := Lib.hid (B2.out.only ho (by omega))
          have B3 := Lib.hid (B3.out.only ho (by omega))
          have HO := Lib.hid (HO.out.trans ho)
          clear hbd ho
          clear c0 c2 c3 c6
          have c6 := HBD.out
          unfold BadR at c6
          have z0 : _ = some (Value.int .i64 0) := B2.out.cell 0
          have y0 := B2.out.frozen 0
          have z1 : _ = some (Value.int .i64 0) := B2.out.cell 1
          have y1 := B2.out.frozen 1
          have z2 : _ = some (Value.string ⟨#[]⟩) := B2.out.cell 2
          have y2 := B2.out.frozen 2
          have m0 : _ = some (Value.int .i64 0) := B3.out.cell 0
          have m1 : _ = some (Value.int .i64 0) := B3.out.cell 1
          have m2 : _ = some (Value.string ⟨#[]⟩) := B3.out.cell 2
          go_wp2_with fail
          refine ret_thE rfl (blk_putQ3 B2.out rfl _ _ _) rfl rfl ?_
          rw [HR.out]
          exact ⟨(0, 0, []), rfl, by simp, only_putQ3 HO.out (Nat.le_refl _) _ _ _, HBD.out.putQ3 (by omega) _ _ _⟩
        · have k1 : (kindT (hd L.tail) != 1) = true := by simpa using h1
          clear h1
          go_enter Tryz.func112, Tryz.ntmps112
          have HIS := Lib.hid H91.out
          go_wp2_with fail
          refine (isR HD.out [91] 3 rfl).mono ?_
          rw [HIS.out]
          rintro e wn ⟨rfl, rfl⟩
          go_wp2_with fail
          refine (onR HD.out).mono ?_
          rintro e wn ⟨rfl, hrd, ho⟩
          have HD := Lib.hid hrd
          have HE := Lib.hid (HE.out.only ho hg)
          have B2 := Lib.hid (B2.out.only ho (by omega))
          have B3 := Lib.hid (B3.out.only ho (by omega))
          have HO := Lib.hid (HO.out.trans ho)
          clear hrd ho
          clear c0 c2 c3 c6
          have c0 := HD.out.blk.cell 0
          have c2 := HD.out.blk.cell 2
          have c3 := HD.out.blk.cell 3
          have c6 := HD.out.blk.cell 6
          go_wp2_with fail
          refine (wrongR HD.out).mono ?_
          rintro e wn ⟨rfl, hbd, ho⟩
          have HBD := Lib.hid hbd
          have B2 := Lib.hid (B2.out.only ho (by omega))
          have B3 := Lib.hid (B3.out.only ho (by omega))
          have HO := Lib.hid (HO.out.trans ho)
          clear hbd ho
          clear c0 c2 c3 c6
          have c6 := HBD.out
          unfold BadR at c6
          have z0 : _ = some (Value.int .i64 0) := B2.out.cell 0
          have y0 := B2.out.frozen 0
          have z1 : _ = some (Value.int .i64 0) := B2.out.cell 1
          have y1 := B2.out.frozen 1
          have z2 : _ = some (Value.string ⟨#[]⟩) := B2.out.cell 2
          have y2 := B2.out.frozen 2
          have m0 : _ = some (Value.int .i64 0) := B3.out.cell 0
          have m1 : _ = some (Value.int .i64 0) := B3.out.cell 1
          have m2 : _ = some (Value.string ⟨#[]⟩) := B3.out.cell 2
          go_wp2_with fail
          refine ret_thE rfl (blk_putQ3 B2.out rfl _ _ _) rfl rfl ?_
          rw [HR.out]
          exact ⟨(0, 0, []), rfl, by simp, only_putQ3 HO.out (Nat.le_refl _) _ _ _, HBD.out.putQ3 (by omega) _ _ _⟩
      | true =>
        have k1 : (kindT (hd L.tail) != 1) = false := by simp [name_kind hnm]
        have hln := nameB_len hnm
        have HNM := Lib.hid hnm
        have hp2 : pThing s.size a L = (pTake s.size [93] L.tail.tail).go fun _ M => .ok (-1, 0, hd L.tail) M := by rw [hp1, pLoc, if_pos hnm]; rfl
        clear hp1 hnm
        by_cases h93 : hd L.tail.tail = [93]
        · have HR := Lib.hid (show pThing s.size a L = .ok (-1, 0, hd L.tail) L.tail.tail.tail by rw [hp2, pTake, if_pos h93]; rfl)
          have H93 := Lib.hid h93
          clear hp2 h93
          go_enter Tryz.func112, Tryz.ntmps112
          have HIS := Lib.hid H91.out
          go_wp2_with fail
          refine (isR HD.out [91] 3 rfl).mono ?_
          rw [HIS.out]
          rintro e wn ⟨rfl, rfl⟩
          go_wp2_with fail
          refine (onR HD.out).mono ?_
          rintro e wn ⟨rfl, hrd, ho⟩
          have HD := Lib.hid hrd
          have HE := Lib.hid (HE.out.only ho hg)
          have B2 := Lib.hid (B2.out.only ho (by omega))
          have B3 := Lib.hid (B3.out.only ho (by omega))
          have HO := Lib.hid (HO.out.trans ho)
          clear hrd ho
          clear c0 c2 c3 c6
          have c0 := HD.out.blk.cell 0
          have c2 := HD.out.blk.cell 2
          have c3 := HD.out.blk.cell 3
          have c6 := HD.out.blk.cell 6
          go_wp2_with fail
          refine (namedR _ _ (by have := HD.out.hd_len; simp only [ByteArray.size, List.size_toArray]; omega)).mono ?_
          rw [show nameB (⟨(hd L.tail).toArray⟩ : ByteArray).data.toList = true from HNM.out]
          rintro e wn ⟨rfl, rfl⟩
          go_wp2_with fail
          refine (onR HD.out).mono ?_
          rintro e wn ⟨rfl, hrd, ho⟩
          have HD := Lib.hid hrd
          have HE := Lib.hid (HE.out.only ho hg)
          have B2 := Lib.hid (B2.out.only ho (by omega))
          have B3 := Lib.hid (B3.out.only ho (by omega))
          have HO := Lib.hid (HO.out.trans ho)
          clear hrd ho
          clear c0 c2 c3 c6
          have c0 := HD.out.blk.cell 0
          have c2 := HD.out.blk.cell 2
          have c3 := HD.out.blk.cell 3
          have c6 := HD.out.blk.cell 6
          go_wp2_with fail
          refine (wantR_yes HD.out [93] 3 rfl H93.out).mono ?_
          rintro e wn ⟨rfl, hrd, ho⟩
          have HD := Lib.hid hrd
          have HE := Lib.hid (HE.out.only ho hg)
          have B2 := Lib.hid (B2.out.only ho (by omega))
          have B3 := Lib.hid (B3.out.only ho (by omega))
          have HO := Lib.hid (HO.out.trans ho)
          clear hrd ho
          clear c0 c2 c3 c6
          have c0 := HD.out.blk.cell 0
          have c2 := HD.out.blk.cell 2
          have c3 := HD.out.blk.cell 3
          have c6 := HD.out.blk.cell 6
          have z0 : _ = some (Value.int .i64 0) := B2.out.cell 0
          have y0 := B2.out.frozen 0
          have z1 : _ = some (Value.int .i64 0) := B2.out.cell 1
          have y1 := B2.out.frozen 1
          have z2 : _ = some (Value.string ⟨#[]⟩) := B2.out.cell 2
          have y2 := B2.out.frozen 2
          go_wp2_with fail
          refine ret_thE rfl (blk_putQ3 B2.out rfl _ _ _) rfl rfl ?_
          rw [HR.out]
          exact ⟨(-1, 0, hd L.tail), rfl, by dsimp only; omega, only_putQ3 HO.out (Nat.le_refl _) _ _ _, rfl, HD.out.putQ3 (by omega) _ _ _⟩
        · have HR := Lib.hid (show pThing s.size a L = .bad (ps s.size L.tail.tail) by rw [hp2, pTake, if_neg h93]; rfl)
          have H93 := Lib.hid h93
          clear hp2 h93
          go_enter Tryz.func112, Tryz.ntmps112
          have HIS := Lib.hid H91.out
          go_wp2_with fail
          refine (isR HD.out [91] 3 rfl).mono ?_
          rw [HIS.out]
          rintro e wn ⟨rfl, rfl⟩
          go_wp2_with fail
          refine (onR HD.out).mono ?_
          rintro e wn ⟨rfl, hrd, ho⟩
          have HD := Lib.hid hrd
          have HE := Lib.hid (HE.out.only ho hg)
          have B2 := Lib.hid (B2.out.only ho (by omega))
          have B3 := Lib.hid (B3.out.only ho (by omega))
          have HO := Lib.hid (HO.out.trans ho)
          clear hrd ho
          clear c0 c2 c3 c6
          have c0 := HD.out.blk.cell 0
          have c2 := HD.out.blk.cell 2
          have c3 := HD.out.blk.cell 3
          have c6 := HD.out.blk.cell 6
          go_wp2_with fail
          refine (namedR _ _ (by have := HD.out.hd_len; simp only [ByteArray.size, List.size_toArray]; omega)).mono ?_
          rw [show nameB (⟨(hd L.tail).toArray⟩ : ByteArray).data.toList = true from HNM.out]
          rintro e wn ⟨rfl, rfl⟩
          go_wp2_with fail
          refine (onR HD.out).mono ?_
          rintro e wn ⟨rfl, hrd, ho⟩
          have HD := Lib.hid hrd
          have HE := Lib.hid (HE.out.only ho hg)
          have B2 := Lib.hid (B2.out.only ho (by omega))
          have B3 := Lib.hid (B3.out.only ho (by omega))
          have HO := Lib.hid (HO.out.trans ho)
          clear hrd ho
          clear c0 c2 c3 c6
          have c0 := HD.out.blk.cell 0
          have c2 := HD.out.blk.cell 2
          have c3 := HD.out.blk.cell 3
          have c6 := HD.out.blk.cell 6
          go_wp2_with fail
          refine (wantR_no HD.out [93] 3 rfl H93.out).mono ?_
          rintro e wn ⟨rfl, hbd, ho⟩
          have HBD := Lib.hid hbd
          have B2 := Lib.hid (B2.out.only ho (by omega))
          have B3 := Lib.hid (B3.out.only ho (by omega))
          have HO := Lib.hid (HO.out.trans ho)
          clear hbd ho
          clear c0 c2 c3 c6
          have c6 := HBD.out
          unfold BadR at c6
          have z0 : _ = some (Value.int .i64 0) := B2.out.cell 0
          have y0 := B2.out.frozen 0
          have z1 : _ = some (Value.int .i64 0) := B2.out.cell 1
          have y1 := B2.out.frozen 1
          have z2 : _ = some (Value.string ⟨#[]⟩) := B2.out.cell 2
          have y2 := B2.out.frozen 2
          go_wp2_with fail
          refine ret_thE rfl (blk_putQ3 B2.out rfl _ _ _) rfl rfl ?_
          rw [HR.out]
          exact ⟨(-1, 0, hd L.tail), rfl, by dsimp only; omega, only_putQ3 HO.out (Nat.le_refl _) _ _ _, HBD.out.putQ3 (by omega) _ _ _⟩
    · have H91 := Lib.hid (decide_eq_false h91)
      cases hnm : nameB (hd L) with
      | false =>
        have hbd : pThing s.size a L = .bad (ps s.size L) := thing_no h2 h91 hnm
        clear h2 h91
        have HNM := Lib.hid hnm
        have HR := Lib.hid (show pThing s.size a L = .bad (ps s.size L) by exact hbd)
        clear hnm hbd
        by_cases h1 : kindT (hd L) = 1
        · have k1 : (kindT (hd L) != 1) = false := by simp [h1]
          clear h1
          go_enter Tryz.func112, Tryz.ntmps112
          have HIS := Lib.hid H91.out
          go_wp2_with fail
          refine (isR HD.out [91] 3 rfl).mono ?_
          rw [HIS.out]
          rintro e wn ⟨rfl, rfl⟩
          go_wp2_with fail
          refine (namedR _ _ (by have := HD.out.hd_len; simp only [ByteArray.size, List.size_toArray]; omega)).mono ?_
          rw [show nameB (⟨(hd L).toArray⟩ : ByteArray).data.toList = false from HNM.out]
          rintro e wn ⟨rfl, rfl⟩
          go_wp2_with fail
          refine (wrongR HD.out).mono ?_
          rintro e wn ⟨rfl, hbd, ho⟩
          have HBD := Lib.hid hbd
          have B2 := Lib.hid (B2.out.only ho (by omega))
          have B3 := Lib.hid (B3.out.only ho (by omega))
          have HO := Lib.hid (HO.out.trans ho)
          clear hbd ho
          clear c0 c2 c3 c6
          have c6 := HBD.out
          unfold BadR at c6
          have z0 : _ = some (Value.int .i64 0) := B2.out.cell 0
          have y0 := B2.out.frozen 0
          have z1 : _ = some (Value.int .i64 0) := B2.out.cell 1
          have y1 := B2.out.frozen 1
          have z2 : _ = some (Value.string ⟨#[]⟩) := B2.out.cell 2
          have y2 := B2.out.frozen 2
          have m0 : _ = some (Value.int .i64 0) := B3.out.cell 0
          have m1 : _ = some (Value.int .i64 0) := B3.out.cell 1
          have m2 : _ = some (Value.string ⟨#[]⟩) := B3.out.cell 2
          go_wp2_with fail
          refine ret_thE rfl (blk_putQ3 B2.out rfl _ _ _) rfl rfl ?_
          rw [HR.out]
          exact ⟨(0, 0, []), rfl, by simp, only_putQ3 HO.out (Nat.le_refl _) _ _ _, HBD.out.putQ3 (by omega) _ _ _⟩
        · have k1 : (kindT (hd L) != 1) = true := by simpa using h1
          clear h1
          go_enter Tryz.func112, Tryz.ntmps112
          have HIS := Lib.hid H91.out
          go_wp2_with fail
          refine (isR HD.out [91] 3 rfl).mono ?_
          rw [HIS.out]
          rintro e wn ⟨rfl, rfl⟩
          go_wp2_with fail
          refine (wrongR HD.out).mono ?_
          rintro e wn ⟨rfl, hbd, ho⟩
          have HBD := Lib.hid hbd
          have B2 := Lib.hid (B2.out.only ho (by omega))
          have B3 := Lib.hid (B3.out.only ho (by omega))
          have HO := Lib.hid (HO.out.trans ho)
          clear hbd ho
          clear c0 c2 c3 c6
          have c6 := HBD.out
          unfold BadR at c6
          have z0 : _ = some (Value.int .i64 0) := B2.out.cell 0
          have y0 := B2.out.frozen 0
          have z1 : _ = some (Value.int .i64 0) := B2.out.cell 1
          have y1 := B2.out.frozen 1
          have z2 : _ = some (Value.string ⟨#[]⟩) := B2.out.cell 2
          have y2 := B2.out.frozen 2
          have m0 : _ = some (Value.int .i64 0) := B3.out.cell 0
          have m1 : _ = some (Value.int .i64 0) := B3.out.cell 1
          have m2 : _ = some (Value.string ⟨#[]⟩) := B3.out.cell 2
          go_wp2_with fail
          refine ret_thE rfl (blk_putQ3 B2.out rfl _ _ _) rfl rfl ?_
          rw [HR.out]
          exact ⟨(0, 0, []), rfl, by simp, only_putQ3 HO.out (Nat.le_refl _) _ _ _, HBD.out.putQ3 (by omega) _ _ _⟩
      | true =>
        have k1 : (kindT (hd L) != 1) = false := by simp [name_kind hnm]
        have hln := nameB_len hnm
        have HNM := Lib.hid hnm
        have HR := Lib.hid (show pThing s.size a L = .ok (-1, 0, hd L) L.tail by rw [pThing, if_neg h91, if_neg (by simp [name_min hnm]), pLoc, if_pos hnm]; rfl)
        clear h2 h91 hnm
        go_enter Tryz.func112, Tryz.ntmps112
        have HIS := Lib.hid H91.out
        go_wp2_with fail
        refine (isR HD.out [91] 3 rfl).mono ?_
        rw [HIS.out]
        rintro e wn ⟨rfl, rfl⟩
        go_wp2_with fail
        refine (namedR _ _ (by have := HD.out.hd_len; simp only [ByteArray.size, List.size_toArray]; omega)).mono ?_
        rw [show nameB (⟨(hd L).toArray⟩ : ByteArray).data.toList = true from HNM.out]
        rintro e wn ⟨rfl, rfl⟩
        go_wp2_with fail
        refine (onR HD.out).mono ?_
        rintro e wn ⟨rfl, hrd, ho⟩
        have HD := Lib.hid hrd
        have HE := Lib.hid (HE.out.only ho hg)
        have B2 := Lib.hid (B2.out.only ho (by omega))
        have B3 := Lib.hid (B3.out.only ho (by omega))
        have HO := Lib.hid (HO.out.trans ho)
        clear hrd ho
        clear c0 c2 c3 c6
        have c0 := HD.out.blk.cell 0
        have c2 := HD.out.blk.cell 2
        have c3 := HD.out.blk.cell 3
        have c6 := HD.out.blk.cell 6
        have z0 : _ = some (Value.int .i64 0) := B2.out.cell 0
        have y0 := B2.out.frozen 0
        have z1 : _ = some (Value.int .i64 0) := B2.out.cell 1
        have y1 := B2.out.frozen 1
        have z2 : _ = some (Value.string ⟨#[]⟩) := B2.out.cell 2
        have y2 := B2.out.frozen 2
        go_wp2_with fail
        refine ret_thE rfl (blk_putQ3 B2.out rfl _ _ _) rfl rfl ?_
        rw [HR.out]
        exact ⟨(-1, 0, hd L), rfl, by dsimp only; omega, only_putQ3 HO.out (Nat.le_refl _) _ _ _, rfl, HD.out.putQ3 (by omega) _ _ _⟩
end
end Go.Proofs.YtmlnibjnacfanaaGreatDoor
