/- Layer 10: the closure of Links, and whether some instruction is a label of a name. Layer 13: titles and the texts of cycles: plain, the program and the reference. -/
import Derived.Test.YtoegmdnfbemppaaGreatDoorKb05
import Derived.Test.YtoegmdnfbemppaaGreatDoorKb07
import Derived.Test.YtoegmdnfbemppaaGreatDoorKb18

namespace Go.Proofs.YtoegmdnfbemppaaGreatDoor
open Go.RowKit

abbrev insL (x : Ins) : Value := insV x.op x.d x.a x.b x.imm ⟨x.loc.toArray⟩ ⟨x.label.toArray⟩ x.fence
/-- The cells of an instruction at o of a block. -/
structure InsC (w : World) (b o : Nat) (x : Ins) : Prop where
  c0 : w.cell? ⟨b, o, none⟩ = some (.int .i64 x.op)
  c1 : w.cell? ⟨b, o + 1, none⟩ = some (.int .i64 x.d)
  c2 : w.cell? ⟨b, o + 2, none⟩ = some (.int .i64 x.a)
  c3 : w.cell? ⟨b, o + 3, none⟩ = some (.int .i64 x.b)
  c4 : w.cell? ⟨b, o + 4, none⟩ = some (.int .i64 x.imm)
  c5 : w.cell? ⟨b, o + 5, none⟩ = some (.string ⟨x.loc.toArray⟩)
  c6 : w.cell? ⟨b, o + 6, none⟩ = some (.string ⟨x.label.toArray⟩)
  c7 : w.cell? ⟨b, o + 7, none⟩ = some (.int .i64 x.fence)
  l1 : x.loc.length ≤ 9223372036854775807
  l2 : x.label.length ≤ 9223372036854775807
theorem InsAt.at_ {w : World} {A : Option Addr} {c : List Ins} (h : InsAt w A c) {i : Nat} {x : Ins} (hx : c[i]? = some x) : ∃ b o, A = some ⟨b, o, none⟩ ∧ InsC w b (o + i * 8) x := by
  obtain ⟨b, o, e, h0, h1, h2, h3, h4, h5, h6, h7, h8, h9⟩ := h i x hx
  exact ⟨b, o, e, h0, h1, h2, h3, h4, h5, h6, h7, h8, h9⟩
theorem InsC.go {w w' : World} {b o : Nat} {x : Ins} (h : InsC w b o x) (hb : Below w.heap.size w w') : InsC w' b o x :=
  ⟨cell_go h.c0 hb, cell_go h.c1 hb, cell_go h.c2 hb, cell_go h.c3 hb, cell_go h.c4 hb, cell_go h.c5 hb, cell_go h.c6 hb, cell_go h.c7 hb, h.l1, h.l2⟩
theorem InsC.lt {w : World} {b o : Nat} {x : Ins} (h : InsC w b o x) : b < w.heap.size := World.block_lt_of_cell? w _ h.c0
theorem InsAt.lt {w : World} {b o : Nat} {c : List Ins} (h : InsAt w (some ⟨b, o, none⟩) c) (hc : 0 < c.length) : b < w.heap.size := by
  obtain ⟨b', o', e, hC⟩ := h.at_ (List.getElem?_eq_getElem hc)
  cases e; exact hC.lt
theorem InsAt.drop {w : World} {b o : Nat} {c : List Ins} (h : InsAt w (some ⟨b, o, none⟩) c) (j : Nat) : InsAt w (some ⟨b, o + j * 8, none⟩) (c.drop j) := by
  intro i x hx
  rw [List.getElem?_drop] at hx
  obtain ⟨b', o', e, hr⟩ := h (j + i) x hx
  simp only [Option.some.injEq, Addr.mk.injEq, and_true] at e
  obtain ⟨rfl, rfl⟩ := e
  refine ⟨b, o + j * 8, rfl, ?_⟩
  rw [show o + j * 8 + i * 8 = o + (j + i) * 8 by omega]
  exact hr
theorem InsAt.nil (w : World) (A : Option Addr) : InsAt w A [] := fun i x h => by simp at h

section
set_option maxHeartbeats 2000000
set_option maxRecDepth 100000
theorem labP (x : Ins) (s : List UInt8) (p : Nat) (w : World) (hp : w.cell? ⟨p, 6, none⟩ = some (.string ⟨s.toArray⟩)) :
    Calls Tryz.prog 189 #[insL x, .pointer (some ⟨p, 0, none⟩)] w fun e w' => e = .returned (.bool (labB s x)) ∧ Below w.heap.size w w' := by
  obtain ⟨op, d, a, b, imm, loc, label, fence⟩ := x
  simp only [insL]
  have hp' := cell_al hp (.cells #[.int .i64 op, .int .i64 d, .int .i64 a, .int .i64 b, .int .i64 imm, .string ⟨loc.toArray⟩, .string ⟨label.toArray⟩, .int .i64 fence] 77 (0, 0))
  have HB := Lib.hid (alloc_b w (.cells #[.int .i64 op, .int .i64 d, .int .i64 a, .int .i64 b, .int .i64 imm, .string ⟨loc.toArray⟩, .string ⟨label.toArray⟩, .int .i64 fence] 77 (0, 0)))
  clear hp
  by_cases h1 : op = 12
  · by_cases h2 : label = s
    · have e1 : labB s ⟨op, d, a, b, imm, loc, label, fence⟩ = true := by simp [labB, h1, h2]
      rw [e1]
      subst h2 h1
      go_enter Tryz.func189, Tryz.ntmps189
      go_wp2_with fail
      go_ret
      exact ⟨rfl, HB.out⟩
    · have e1 : labB s ⟨op, d, a, b, imm, loc, label, fence⟩ = false := by simp [labB, h2]
      have e2 : (label == s) = false := by simpa using h2
      rw [e1]
      subst h1
      clear h2 e1
      go_enter Tryz.func189, Tryz.ntmps189
      go_wp2_with fail
      go_ret
      exact ⟨rfl, HB.out⟩
  · have e1 : labB s ⟨op, d, a, b, imm, loc, label, fence⟩ = false := by simp [labB, h1]
    have e2 : (op == 12) = false := by simpa using h1
    rw [e1]
    clear h1 e1
    go_enter Tryz.func189, Tryz.ntmps189
    go_wp2_with fail
    go_ret
    exact ⟨rfl, HB.out⟩
def LabIdx (b : Bool) (w : World) (e : Ending) (w' : World) : Prop := ∃ i : Int, e = .returned (.int .i64 i) ∧ decide (0 ≤ i) = b ∧ Below w.heap.size w w'
theorem anyI_step {c : List Ins} {j : Nat} {x : Ins} (h : c[j]? = some x) (p : Ins → Bool) : (c.take (j + 1)).any p = ((c.take j).any p || p x) := by
  obtain ⟨h1, rfl⟩ := List.getElem?_eq_some_iff.1 h
  rw [List.take_succ_eq_append_getElem h1, List.any_append]
  simp
theorem anyI_at {c : List Ins} {j : Nat} {x : Ins} (h : c[j]? = some x) (p : Ins → Bool) (hp : p x = true) : c.any p = true := by
  obtain ⟨h1, rfl⟩ := List.getElem?_eq_some_iff.1 h
  exact List.any_eq_true.2 ⟨_, List.getElem_mem h1, hp⟩
theorem idxLab (c : List Ins) (A : Option Addr) (cap : Nat) (s : List UInt8) (p : Nat) (w : World) (hlen : c.length ≤ 9223372036854775806) (hA : InsAt w A c) (hp : w.cell? ⟨p, 6, none⟩ = some (.string ⟨s.toArray⟩)) :
    Calls Tryz.prog 249 #[.slice A c.length cap, .func (.func 189) #[] #[.pointer (some ⟨p, 0, none⟩)]] w (LabIdx (c.any (labB s)) w) := by
  have HA := Lib.hid hA
  have HP := Lib.hid hp
  obtain ⟨q, hq⟩ : ∃ q, c.any (labB s) = q := ⟨_, rfl⟩
  have HQ := Lib.hid hq
  rw [hq]
  clear hA hp hq
  go_enter Tryz.func249, Tryz.ntmps249
  go_wp2_with fail
  go_loopw [8] (fun i wr => ∃ j : Nat, j ≤ c.length ∧ i = .int .i64 j ∧ (c.take j).any (labB s) = false ∧ Below w.heap.size w wr) (fun i _ => c.length - (intOf i).toNat)
  case atStart => exact ⟨0, Nat.zero_le _, rfl, by simp, Below.refl _ _⟩
  case round =>
    obtain ⟨j, hj, rfl, hno, hbr⟩ := hrel
    have HNO := Lib.hid hno
    have HBR := Lib.hid hbr
    have hzr := hbr.size
    clear hno hbr
    by_cases hlt : j < c.length
    · have ex := List.getElem?_eq_getElem hlt
      obtain ⟨x, hx⟩ : ∃ x, c[j] = x := ⟨_, rfl⟩
      rw [hx] at ex
      obtain ⟨b, o, rfl, hC⟩ := HA.out.at_ ex
      obtain ⟨c0, c1, c2, c3, c4, c5, c6, c7, l1, l2⟩ := hC.go HBR.out
      have HX := Lib.hid ex
      have hpr := cell_go HP.out HBR.out
      have HPR := Lib.hid hpr
      obtain ⟨r, hr⟩ : ∃ r, labB s x = r := ⟨_, rfl⟩
      have HR := Lib.hid hr
      clear hx ex hC hpr hr
      cases r
      all_goals
        go_wp2_with (go_at_call 189; refine (labP x s p wr HPR.out).mono ?_; rw [HR.out]; rintro e w2 ⟨rfl, hb2⟩)
        first
          | (go_roundw
             case rel => exact ⟨j + 1, by omega, by go_num, by rw [anyI_step HX.out, HNO.out, HR.out]; rfl, below_trans HBR.out hb2⟩
             case measure => simp [intOf]; omega)
          | (go_ret; exact ⟨j, rfl, by rw [← HQ.out, anyI_at HX.out (labB s) HR.out]; simp, below_trans HBR.out hb2⟩)
    · have HFIN := Lib.hid (show c.any (labB s) = false by have := HNO.out; rwa [List.take_of_length_le (by omega)] at this)
      go_wp2_with fail
      go_ret
      exact ⟨-1, rfl, by rw [← HQ.out, HFIN.out]; rfl, HBR.out⟩
theorem conLab (c : List Ins) (A : Option Addr) (cap : Nat) (s : List UInt8) (p : Nat) (w : World) (hlen : c.length ≤ 9223372036854775806) (hA : InsAt w A c) (hp : w.cell? ⟨p, 6, none⟩ = some (.string ⟨s.toArray⟩)) :
    Calls Tryz.prog 188 #[.slice A c.length cap, .func (.func 189) #[] #[.pointer (some ⟨p, 0, none⟩)]] w fun e w' => e = .returned (.bool (c.any (labB s))) ∧ Below w.heap.size w w' := by
  have HC := Lib.hid (idxLab c A cap s p w hlen hA hp)
  obtain ⟨q, hq⟩ : ∃ q, c.any (labB s) = q := ⟨_, rfl⟩
  rw [hq] at HC ⊢
  clear hA hp hq
  go_enter Tryz.func188, Tryz.ntmps188
  go_wp2_with (go_at_call 249; refine HC.out.mono ?_; rintro e w2 ⟨i, rfl, hci, hb2⟩; have HCI := Lib.hid hci; clear hci)
  go_ret
  exact ⟨ret_bool HCI.out, hb2⟩
end
end Go.Proofs.YtoegmdnfbemppaaGreatDoor
namespace Go.Proofs.YtoegmdnfbemppaaGreatDoor
open Go.RowKit

def shC (f : Int) (c : UInt8) : Bool := decide (f ≤ (c.toNat : Int)) && decide ((c.toNat : Int) ≤ 126) && !decide ((c.toNat : Int) = 34)
theorem allS_no {f : Int} {s : ByteArray} {k : Nat} (hk : k < s.size) (h : shC f s[k] = false) : s.data.toList.all (shC f) = false := by
  have hl : s.data.toList.length = s.size := rfl
  rw [List.all_eq_false]
  exact ⟨s.data.toList[k]'(by omega), List.getElem_mem _, by rw [show s.data.toList[k]'(by omega) = s[k] from rfl, h]; simp⟩
theorem allS_yes {f : Int} {s : ByteArray} (h : ∀ i (hi : i < s.size), shC f s[i] = true) : s.data.toList.all (shC f) = true := by
  have hl : s.data.toList.length = s.size := rfl
  rw [List.all_eq_true]
  intro x hx
  obtain ⟨j, hj, rfl⟩ := List.getElem_of_mem hx
  exact h j (by omega)
set_option maxHeartbeats 400000 in
theorem shownP (f : Int) (s : ByteArray) (w : World) (hs : s.size ≤ 9223372036854775807) : Calls Tryz.prog 79 #[.string s, .int .u8 f] w fun e w' => e = .returned (.bool (s.data.toList.all (shC f))) ∧ w = w' := by
  obtain ⟨r, hr⟩ : ∃ r, s.data.toList.all (shC f) = r := ⟨_, rfl⟩
  rw [hr]
  have HR := Lib.hid hr
  clear hr
  go_enter Tryz.func79, Tryz.ntmps79
  go_wp2
  go_loop [5] (fun i => ∃ k : Nat, k ≤ s.size ∧ i = .int .i64 k ∧ ∀ j (hj : j < s.size), j < k → shC f s[j] = true) (fun i => s.size - (intOf i).toNat)
  case atStart => exact ⟨0, Nat.zero_le _, rfl, fun j _ h => absurd h (Nat.not_lt_zero _)⟩
  case round =>
    obtain ⟨k, hk, rfl, hall⟩ := hrel
    have H := Lib.hid hall
    clear hall
    by_cases hlt : k < s.size
    · by_cases b1 : (s[k].toNat : Int) < f
      · have a1 : decide ((s[k].toNat : Int) < f) = true := decide_eq_true b1
        have HF := Lib.hid (allS_no (f := f) hlt (by simp [shC]; omega))
        clear b1
        go_wp2_with fail
        go_ret
        exact ⟨ret_bool (by rw [← HR.out, HF.out]), rfl⟩
      have a1 : decide ((s[k].toNat : Int) < f) = false := decide_eq_false b1
      by_cases b2 : (126 : Int) < (s[k].toNat : Int)
      · have a2 : decide ((126 : Int) < (s[k].toNat : Int)) = true := decide_eq_true b2
        have HF := Lib.hid (allS_no (f := f) hlt (by simp [shC]; omega))
        clear b1 b2
        go_wp2_with fail
        go_ret
        exact ⟨ret_bool (by rw [← HR.out, HF.out]), rfl⟩
      have a2 : decide ((126 : Int) < (s[k].toNat : Int)) = false := decide_eq_false b2
      by_cases b3 : (s[k].toNat : Int) = 34
      · have a3 : ((s[k].toNat : Int) == 34) = true := by simpa using b3
        have HF := Lib.hid (allS_no (f := f) hlt (by simp [shC]; omega))
        clear b1 b2 b3
        go_wp2_with fail
        go_ret
        exact ⟨ret_bool (by rw [← HR.out, HF.out]), rfl⟩
      have a3 : ((s[k].toNat : Int) == 34) = false := by simpa using b3
      have HK := Lib.hid (show shC f s[k] = true by simp [shC]; omega)
      clear b1 b2 b3
      go_wp2_with fail
      go_round
      case rel => exact ⟨k + 1, by omega, by go_num, fun j hj h => by
        by_cases e : j < k
        · exact H.out j hj e
        · obtain rfl : j = k := by omega
          exact HK.out⟩
      case measure => simp [intOf]; omega
    · have HF := Lib.hid (allS_yes (f := f) (s := s) (fun i hi => H.out i hi (by omega)))
      go_wp2_with fail
      go_ret
      exact ⟨ret_bool (by rw [← HR.out, HF.out]), rfl⟩
def titleB (l : List UInt8) : Bool := decide (1 ≤ l.length) && decide (l.length ≤ 1024) && l.all (shC 33)
theorem titleB_yes {s : ByteArray} (h1 : 1 ≤ s.size) (h2 : s.size ≤ 1024) : titleB s.data.toList = s.data.toList.all (shC 33) := by
  have hl : s.data.toList.length = s.size := rfl
  simp only [titleB, hl]
  rw [decide_eq_true h1, decide_eq_true h2]
  simp
theorem titleB_no {s : ByteArray} (h : s.size < 1 ∨ 1024 < s.size) : titleB s.data.toList = false := by
  have hl : s.data.toList.length = s.size := rfl
  simp only [titleB, hl]
  rcases h with h | h
  · rw [decide_eq_false (p := 1 ≤ s.size) (by omega)]; rfl
  · rw [decide_eq_false (p := s.size ≤ 1024) (by omega), Bool.and_false]; rfl
def edgeB (l : List UInt8) : Bool := l.isEmpty || (decide (((l.headD 0).toNat : Int) ≠ 32) && decide (((l.getLastD 0).toNat : Int) ≠ 32))
def cycleB (l : List UInt8) : Bool := decide (l.length ≤ 262144) && l.all (shC 32) && edgeB l
end Go.Proofs.YtoegmdnfbemppaaGreatDoor
