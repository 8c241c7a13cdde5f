/- Layer 22: a location's number; whether a thread waits: the program's. -/
import Derived.Test.YtjhafgnmahhacaaGreatDoorTe39

namespace Go.Proofs.YtjhafgnmahhacaaGreatDoor
open Go.RowKit
section
/-- Is a thread's next instruction a fence that waits? -/
def waitL (c : List Ins) (t : BTd) : Bool := match c[t.at_.toNat]? with
  | some x => !t.q.isEmpty && (if x.op = 5 then fordB 1 2 1 else if x.op = 13 then fordB x.fence 2 1 else false)
  | none => false
section
set_option maxHeartbeats 2000000
set_option maxRecDepth 100000
theorem indexP (A : Option Addr) (cap : Nat) (l : List Nm) (s : Nm) (w : World) (h : encS.At w A l) (hs : s ∈ l) (hl : l.length ≤ 1000000) :
    Calls Tryz.prog 175 #[.slice A l.length cap, .string ⟨s.toArray⟩] w fun e w' => e = .returned (.int .i64 ((l.idxOf s : Nat) : Int)) ∧ w' = w := by
  have H := Lib.hid h
  have hm := List.idxOf_lt_length_iff.2 hs
  obtain ⟨m, hme⟩ : ∃ m, l.idxOf s = m := ⟨_, rfl⟩
  have hms : l[m]? = some s := by rw [← hme, List.getElem?_eq_getElem hm, List.getElem_idxOf]
  have hno : ∀ j x, j < m → l[j]? = some x → x ≠ s := fun j x hj hx e => by
    rw [← hme] at hj
    have hn := List.not_of_lt_findIdx hj
    obtain ⟨h1, h2⟩ := List.getElem?_eq_some_iff.1 hx
    rw [h2, e] at hn
    simp at hn
  rw [hme] at hm ⊢
  have HM := Lib.hid hms
  have HN := Lib.hid hno
  clear h hme hms hno hs
  go_enter Tryz.func175, Tryz.ntmps175
  go_wp2
  go_loopw [8] (fun i wr => ∃ k : Nat, k ≤ m ∧ i = .int .i64 k ∧ wr = w) (fun i _ => l.length - (intOf i).toNat)
  case atStart => exact ⟨0, by omega, rfl, rfl⟩
  case round =>
    obtain ⟨k, hk, rfl, rfl⟩ := hrel
    have hkl : k < l.length := by omega
    have hx := List.getElem?_eq_getElem hkl
    obtain ⟨x, hxe⟩ : ∃ x, l[k] = x := ⟨_, rfl⟩
    rw [hxe] at hx
    obtain ⟨b, o, rfl, hc⟩ := H.out k x hx
    have c0 : wr.cell? ⟨b, o + k, none⟩ = some (.string ⟨x.toArray⟩) := by
      have := hc 0 _ rfl
      simpa using this
    have hi1 : (0 : Int) ≤ (k : Int) := by omega
    have hi2 : (k : Int) < (l.length : Int) := by omega
    clear hc hxe
    by_cases hkm : k = m
    · subst hkm
      have e : x = s := by have := HM.out; rw [hx] at this; cases this; rfl
      subst e
      have g1 : (x == x) = true := by simp
      clear hx
      go_wp2
      go_ret
      exact ⟨rfl, rfl⟩
    · have g1 : (s == x) = false := by
        have := HN.out k x (by omega) hx
        simpa using fun e => this e.symm
      clear hx
      go_wp2
      go_roundw
      case rel => exact ⟨k + 1, by omega, by go_num, trivial⟩
      case measure => simp [intOf]; omega
variable {w : World} {B g : Nat} {m : BMc} {V : BMv}
theorem isP (h : BufAt w B g m V) (hn : 0 < m.tds.length) : Calls Tryz.prog 93 #[.pointer (some ⟨g, 0, none⟩)] w fun e w' => e = .returned (.bool true) ∧ w' = w := by
  have k5 := h.blk.cl 5
  obtain ⟨A, cap, e⟩ := h.ptr.shp
  rw [e, h.tlen] at k5
  have hg := h.blk.lt
  have h0 : (0 : Int) < (m.tds.length : Int) := by omega
  clear h e
  go_enter Tryz.func93, Tryz.ntmps93
  go_wp2
  go_ret
  exact ⟨by simp, rfl⟩
theorem locP (h : BufAt w B g m V) (s : Nm) (hs : s ∈ m.locs) (hl : m.locs.length ≤ 1000000) : Calls Tryz.prog 100 #[.pointer (some ⟨g, 0, none⟩), .string ⟨s.toArray⟩] w fun e w' => e = .returned (.int .i64 ((m.locs.idxOf s : Nat) : Int)) ∧ w' = w := by
  obtain ⟨A, cap, e, hat, e2, e3⟩ := Enc.Own.at_ h.locs
  have k2 : w.cell? ⟨g, 2, none⟩ = some (.slice A m.locs.length cap) := by rw [← e]; exact h.blk.cl 2
  have HK := Lib.hid (indexP A cap m.locs s w hat hs hl)
  have hg := h.blk.lt
  clear h e hat hs e2 e3 hl
  go_enter Tryz.func100, Tryz.ntmps100
  go_wp2_with fail
  refine HK.out.mono ?_
  rintro e w1 ⟨rfl, rfl⟩
  go_wp2
  go_ret
  exact ⟨rfl, rfl⟩
theorem waitsP (h : BufAt w B g m V) {k : Nat} {t : BTd} {c : List Ins} {x : Ins} {j : Nat} (hk : m.tds[k]? = some t) (hc : m.code[k]? = some c) (ha : t.at_ = (j : Int)) (hx : c[j]? = some x) :
    Calls Tryz.prog 96 #[.pointer (some ⟨g, 0, none⟩), .int .i64 (k : Int)] w fun e w' => e = .returned (.bool (waitL c t)) ∧ Below w.heap.size w w' := by
  obtain ⟨b, pb, cp, qb, cc, A, cr, hb, ht, k5, p0, k1, q0, hrat, hkl⟩ := h.thr hk hc
  obtain ⟨ib, io, rfl, hi⟩ := hrat j x hx
  have b1 : w.cell? ⟨b, 1, none⟩ = some (.int .i64 (j : Int)) := by rw [← ha]; exact ht.blk.cl 1
  have i1 := hi 1 _ rfl
  have i2 := hi 2 _ rfl
  have i3 := hi 3 _ rfl
  have i4 := hi 4 _ rfl
  have i5 := hi 5 _ rfl
  have i6 := hi 6 _ rfl
  have i7 := hi 7 _ rfl
  have hjc : j < c.length := (List.getElem?_eq_some_iff.1 hx).1
  have z1 : (0 : Int) ≤ (k : Int) := by omega
  have z2 : (k : Int) < (m.tds.length : Int) := by omega
  have z3 : (k : Int) < (m.code.length : Int) := by have := (List.getElem?_eq_some_iff.1 hc).1; omega
  have z4 : (0 : Int) ≤ (j : Int) := by omega
  have z5 : (j : Int) < (c.length : Int) := by omega
  have HQ := Lib.hid (show waitL c t = (!t.q.isEmpty && (if x.op = 5 then fordB 1 2 1 else if x.op = 13 then fordB x.fence 2 1 else false)) by unfold waitL; rw [ha, Int.toNat_natCast, hx])
  have HT := Lib.hid ht
  obtain ⟨op, d, a, b', imm, loc, label, fence⟩ := x
  have c0 : w.cell? ⟨ib, io + j * 8, none⟩ = some (.int .i64 op) := hi 0 _ rfl
  clear h ht hk hc hb hx hrat hi ha
  have HS := Lib.hid (show ∀ y, Below w.heap.size w y → (y.cell? ⟨g, 1, none⟩ = some (.slice (some ⟨qb, 0, none⟩) m.code.length cc) ∧ y.cell? ⟨qb, k, none⟩ = some (.slice (some ⟨ib, io, none⟩) c.length cr) ∧ y.cell? ⟨b, 1, none⟩ = some (.int .i64 (j : Int)) ∧ y.cell? ⟨ib, io + j * 8, none⟩ = some (.int .i64 op) ∧ y.cell? ⟨ib, io + j * 8 + 1, none⟩ = some (.int .i64 d) ∧ y.cell? ⟨ib, io + j * 8 + 2, none⟩ = some (.int .i64 a) ∧ y.cell? ⟨ib, io + j * 8 + 3, none⟩ = some (.int .i64 b') ∧ y.cell? ⟨ib, io + j * 8 + 4, none⟩ = some (.int .i64 imm) ∧ y.cell? ⟨ib, io + j * 8 + 5, none⟩ = some (.string ⟨loc.toArray⟩) ∧ y.cell? ⟨ib, io + j * 8 + 6, none⟩ = some (.string ⟨label.toArray⟩) ∧ y.cell? ⟨ib, io + j * 8 + 7, none⟩ = some (.int .i64 fence)) from
    fun y hy => ⟨cell_go k1 hy, cell_go q0 hy, cell_go b1 hy, cell_go c0 hy, cell_go i1 hy, cell_go i2 hy, cell_go i3 hy, cell_go i4 hy, cell_go i5 hy, cell_go i6 hy, cell_go i7 hy⟩)
  clear c0 i1 i2 i3 i4 i5 i6 i7 k1 q0 b1
  go_enter Tryz.func96, Tryz.ntmps96
  go_wp2_with fail
  refine wz (fun y : World => y.cell? ⟨g, 1, none⟩ = some (.slice (some ⟨qb, 0, none⟩) m.code.length cc) ∧ y.cell? ⟨qb, k, none⟩ = some (.slice (some ⟨ib, io, none⟩) c.length cr) ∧ y.cell? ⟨b, 1, none⟩ = some (.int .i64 (j : Int)) ∧ y.cell? ⟨ib, io + j * 8, none⟩ = some (.int .i64 op) ∧ y.cell? ⟨ib, io + j * 8 + 1, none⟩ = some (.int .i64 d) ∧ y.cell? ⟨ib, io + j * 8 + 2, none⟩ = some (.int .i64 a) ∧ y.cell? ⟨ib, io + j * 8 + 3, none⟩ = some (.int .i64 b') ∧ y.cell? ⟨ib, io + j * 8 + 4, none⟩ = some (.int .i64 imm) ∧ y.cell? ⟨ib, io + j * 8 + 5, none⟩ = some (.string ⟨loc.toArray⟩) ∧ y.cell? ⟨ib, io + j * 8 + 6, none⟩ = some (.string ⟨label.toArray⟩) ∧ y.cell? ⟨ib, io + j * 8 + 7, none⟩ = some (.int .i64 fence)) [3, 6, 11, 13, 14] (HS.out _ (Below.refl _ _).drew) (fun hHeld => ?_)
  refine wq 0 ?_
  refine wq 1 ?_
  refine wq 2 ?_
  refine wq 4 ?_
  refine wq 7 ?_
  refine wq 8 ?_
  refine wq 9 ?_
  refine wq 10 ?_
  refine wt 3 (by assumption) ?_
  refine wq 5 ?_
  refine wt 6 (by assumption) ?_
  refine wt 11 (by assumption) ?_
  refine wq 12 ?_
  refine wt 13 (by assumption) ?_
  clear hHeld
  refine wpE_one (i := 14) (by kernel_rfl) rfl (fun K hK => ?_)
  go_simp
  refine hK.out _ _ (HS.out _ (below_alloc (Below.refl _ _).drew _)) ?_
  clear hK K
  refine pu ?_
  refine wl 15 ?_
  have HE := Lib.hid (fun (W : World) (hW : Below w.heap.size w W) => emptyP (HT.out.below hW))
  clear HS HT z1 z2 z3 z4 z5 k5 p0 hkl hjc
  by_cases h5 : op = 5
  · subst h5
    have HQ5 := Lib.hid (show waitL c t = (!t.q.isEmpty && fordB 1 2 1) from HQ.out)
    clear HQ
    cases hq : t.q.isEmpty with
    | true =>
      rw [hq] at HQ5 HE
      clear hq
      go_wp2_with (go_at_call 97; refine (HE.out _ (by repeat (first | exact Below.refl _ _ | exact HB2.out | refine Below.drew ?_ | refine below_alloc ?_ _))).mono ?_; rintro e w1 ⟨rfl, rfl⟩)
      go_ret
      rw [HQ5.out]
      exact ⟨rfl, by repeat (first | exact Below.refl _ _ | exact HB2.out | refine Below.drew ?_ | refine below_alloc ?_ _)⟩
    | false =>
      rw [hq] at HQ5 HE
      clear hq
      go_wp2_with (first | (go_at_call 97; refine (HE.out _ (by repeat (first | exact Below.refl _ _ | exact HB2.out | refine Below.drew ?_ | refine below_alloc ?_ _))).mono ?_; rintro e w1 ⟨rfl, rfl⟩) | (go_at_call 157; refine (ordersP _ _ _ _).mono ?_; rintro e w2 ⟨rfl, hb2⟩; have HB2 := Lib.hid (below_trans (W := w) (by repeat (first | exact Below.refl _ _ | exact HB2.out | refine Below.drew ?_ | refine below_alloc ?_ _)) hb2); clear hb2))
      go_ret
      rw [HQ5.out]
      exact ⟨rfl, by repeat (first | exact Below.refl _ _ | exact HB2.out | refine Below.drew ?_ | refine below_alloc ?_ _)⟩
  · by_cases h13 : op = 13
    · subst h13
      clear h5
      have HQ5 := Lib.hid (show waitL c t = (!t.q.isEmpty && fordB fence 2 1) from HQ.out)
      clear HQ
      cases hq : t.q.isEmpty with
      | true =>
        rw [hq] at HQ5 HE
        clear hq
        go_wp2_with (go_at_call 97; refine (HE.out _ (by repeat (first | exact Below.refl _ _ | exact HB2.out | refine Below.drew ?_ | refine below_alloc ?_ _))).mono ?_; rintro e w1 ⟨rfl, rfl⟩)
        go_ret
        rw [HQ5.out]
        exact ⟨rfl, by repeat (first | exact Below.refl _ _ | exact HB2.out | refine Below.drew ?_ | refine below_alloc ?_ _)⟩
      | false =>
        rw [hq] at HQ5 HE
        clear hq
        go_wp2_with (first | (go_at_call 97; refine (HE.out _ (by repeat (first | exact Below.refl _ _ | exact HB2.out | refine Below.drew ?_ | refine below_alloc ?_ _))).mono ?_; rintro e w1 ⟨rfl, rfl⟩) | (go_at_call 157; refine (ordersP _ _ _ _).mono ?_; rintro e w2 ⟨rfl, hb2⟩; have HB2 := Lib.hid (below_trans (W := w) (by repeat (first | exact Below.refl _ _ | exact HB2.out | refine Below.drew ?_ | refine below_alloc ?_ _)) hb2); clear hb2))
        go_ret
        rw [HQ5.out]
        exact ⟨rfl, by repeat (first | exact Below.refl _ _ | exact HB2.out | refine Below.drew ?_ | refine below_alloc ?_ _)⟩
    · have g1 : (op == 5) = false := by simpa using h5
      have g2 : (op == 13) = false := by simpa using h13
      have HQ5 := Lib.hid (show waitL c t = false by rw [HQ.out]; simp only [if_neg h5, if_neg h13, Bool.and_false])
      clear h5 h13 HQ HE
      go_wp2
      go_ret
      rw [HQ5.out]
      exact ⟨rfl, by repeat (first | exact Below.refl _ _ | exact HB2.out | refine Below.drew ?_ | refine below_alloc ?_ _)⟩
end
end
end Go.Proofs.YtjhafgnmahhacaaGreatDoor
