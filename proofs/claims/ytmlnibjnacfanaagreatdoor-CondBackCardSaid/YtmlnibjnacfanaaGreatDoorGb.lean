/- Layer 8: the walk of CondBack. -/
import Derived.Test.YtmlnibjnacfanaaGreatDoorGa
import Derived.Test.YtmlnibjnacfanaaGreatDoorFc
import Derived.Test.YtmlnibjnacfanaaGreatDoorCp
import Derived.Test.YtmlnibjnacfanaaGreatDoorEp
namespace Go.Proofs.YtmlnibjnacfanaaGreatDoor
open Go.RowKit

theorem parseC_chk {a : Int} {s : List UInt8} {q : Int} {n : Nd} {p : Nat} (h : parseC a s = ((q, n), 0, p)) : checkC a q n.k n.t n.r n.l n.v n.kids = 0 := by
  unfold parseC at h
  split at h
  · simp at h
  split at h
  · simp at h
  split at h
  · simp at h
  · rename_i q' n' L' he
    split at h
    · rename_i hc
      injection h with h1 _
      injection h1 with h1 h2
      subst h1; subst h2
      exact hc
    · rename_i hc
      injection h with h1 h2
      injection h2 with h2 _
      exact absurd h2 hc
def PG (q k t r : Int) (l : List UInt8) (v : Int) (f : Fr) (er : Int) (p : Nat) (w : World) (e : Ending) (w' : World) : Prop :=
  ∃ A cap, e = .returned (.tuple #[condV q k t r l v (.slice A f.len cap), .int .i64 er, .int .i64 p]) ∧ l.length ≤ 262144 ∧ SlAt w' w'.heap.size (.slice A f.len cap) f ∧ Below w.heap.size w w'
theorem parseG {a : Int} {s : ByteArray} {q k t r : Int} {l : List UInt8} {v : Int} {f : Fr} {er : Int} {p : Nat} (hr : parseC a s.data.toList = ((q, ⟨k, t, r, l, v, f⟩), er, p)) {w : World} (hs : s.size ≤ 9223372036854775807) (hE : Env w) :
    Calls Tryz.prog 17 #[.int .i64 a, .string s] w (PG q k t r l v f er p w) := by
  refine (parseP (a := a) (s := s) hs hE).mono ?_
  rintro e w' h
  unfold PPost at h
  rw [hr] at h
  obtain ⟨kv, rfl, hl, hk, hb⟩ := h
  obtain ⟨A, cap, rfl⟩ := hk.shape
  exact ⟨A, cap, rfl, hl, hk.sl (fun b hb => hb.2), hb⟩
/-- What is printed is read as what it was. -/
theorem back_c {a q k t r : Int} {l : List UInt8} {v : Int} {kids : Fr} (h : checkC a q k t r l v kids = 0) (hl : l.length ≤ 9223372036854775807) :
    ∃ X : ByteArray, (∀ (x : World) (kv : Value), Env x → SlAt x x.heap.size kv kids → Calls Tryz.prog 13 #[.int .i64 a, condV q k t r l v kv] x fun e w' => e = .returned (.tuple #[.string X, .int .i64 0]) ∧ Below x.heap.size x w') ∧
      ∀ x, Env x → Calls Tryz.prog 17 #[.int .i64 a, .string X] x (PG q k t r l v kids 0 0 x) := by
  have hlen := condT_len h
  refine ⟨⟨(condT a q k t r l v kids).toArray⟩, fun x kv hE hs => ?_, fun x hE => ?_⟩
  · have := printP a q k t r l v kv kids x hE hl hs
    unfold printC at this
    rw [if_pos h, h] at this
    exact this
  · exact parseG (parse_print h) (by rw [str_size]; omega) hE
theorem print_bad {a q k t r : Int} {l : List UInt8} {v : Int} {kids : Fr} {E : Int} (h : checkC a q k t r l v kids = E) (hE0 : E ≠ 0) (hl : l.length ≤ 9223372036854775807) (x : World) (kv : Value) (hE : Env x) (hs : SlAt x x.heap.size kv kids) :
    Calls Tryz.prog 13 #[.int .i64 a, condV q k t r l v kv] x fun e w' => e = .returned (.tuple #[.string ⟨#[]⟩, .int .i64 E]) ∧ Below x.heap.size x w' := by
  have := printP a q k t r l v kv kids x hE hl hs
  unfold printC at this
  rw [if_neg (by rw [h]; exact hE0), h] at this
  exact this
section
variable {a q k t r v : Int} {l : List UInt8} {kids : Fr} {s : ByteArray} {w : World} {A : Option Addr} {cap : Nat}
set_option maxHeartbeats 2000000 in
set_option maxRecDepth 100000 in
theorem backW_11 (hE : Env w) (hl : l.length ≤ 9223372036854775807) (hs : SlAt w w.heap.size (.slice A kids.len cap) kids) (hsl : s.size ≤ 9223372036854775807)
    (hc : checkC a q k t r l v kids = 0) {q2 k2 t2 r2 v2 : Int} {l2 : List UInt8} {f2 : Fr} {p2 : Nat} (hr : parseC a s.data.toList = ((q2, ⟨k2, t2, r2, l2, v2, f2⟩), 0, p2)) :
    Calls Tryz.prog 6 #[.int .i64 a, condV q k t r l v (.slice A kids.len cap), .string s] w fun e w' => e = .returned (.bool true) ∧ Below w.heap.size w w' := by
  obtain ⟨X, hP, hQ⟩ := back_c hc hl
  have HP := Lib.hid hP
  have HQ := Lib.hid hQ
  clear hP hQ
  have HP2 := Lib.hid (fun hl2 => back_c (parseC_chk hr) hl2)
  have hbx := alloc_b w (.cells #[.int .i64 q, .int .i64 k, .int .i64 t, .int .i64 r, .string ⟨(l).toArray⟩, .int .i64 v, .slice A (kids).len cap] 28 (0, 0))
  have BC := Lib.hid (Blk.new w 28 #[.int .i64 q, .int .i64 k, .int .i64 t, .int .i64 r, .string ⟨l.toArray⟩, .int .i64 v, .slice A kids.len cap])
  have SC := Lib.hid ((hs.below (Nat.le_refl _) hbx).up hbx.size)
  have HE := Lib.hid (hE.mono hbx)
  have HT := Lib.hid hbx
  have HG := Lib.hid (fun x hx => parseG (w := x) hr hsl hx)
  clear hE hs hbx hr hc
  go_enter Tryz.func6, Tryz.ntmps6
  go_wp2_with (first
    | (go_at_call 16; refine (awakeP HE.out).mono ?_; rintro e w7 ⟨rfl, hbx⟩; have BC := Lib.hid (BC.out.go hbx); have c0 := BC.out.cell 0; have c1 := BC.out.cell 1; have c2' := BC.out.cell 2; have c3 := BC.out.cell 3; have c4 := BC.out.cell 4; have c5 := BC.out.cell 5; have c6 := BC.out.cell 6; have SC := Lib.hid ((SC.out.below (Nat.le_refl _) hbx).up hbx.size); have HE := Lib.hid (HE.out.mono hbx); have HT := Lib.hid (below_trans HT.out hbx))
    | (go_at_call 19; (with_reducible refine (alikeR q2 k2 t2 r2 l2 v2 f2 _ _ _ SX.out SY.out).mono ?_); rintro e w6 ⟨rfl, hbx⟩; have BC := Lib.hid (BC.out.go hbx); have c0 := BC.out.cell 0; have c1 := BC.out.cell 1; have c2' := BC.out.cell 2; have c3 := BC.out.cell 3; have c4 := BC.out.cell 4; have c5 := BC.out.cell 5; have c6 := BC.out.cell 6; have SC := Lib.hid ((SC.out.below (Nat.le_refl _) hbx).up hbx.size); have HE := Lib.hid (HE.out.mono hbx); have HT := Lib.hid (below_trans HT.out hbx))
    | (go_at_call 17; (with_reducible refine (HQ2.out _ HE.out).mono ?_); rintro e w5 ⟨A5, cap5, rfl, hl5, h5, hbx⟩; have BC := Lib.hid (BC.out.go hbx); have c0 := BC.out.cell 0; have c1 := BC.out.cell 1; have c2' := BC.out.cell 2; have c3 := BC.out.cell 3; have c4 := BC.out.cell 4; have c5 := BC.out.cell 5; have c6 := BC.out.cell 6; have SC := Lib.hid ((SC.out.below (Nat.le_refl _) hbx).up hbx.size); have HE := Lib.hid (HE.out.mono hbx); have HT := Lib.hid (below_trans HT.out hbx); have BX := Lib.hid (BX.out.go hbx); have x0 := BX.out.cell 0; have x1 := BX.out.cell 1; have x2' := BX.out.cell 2; have x3 := BX.out.cell 3; have x4 := BX.out.cell 4; have x5 := BX.out.cell 5; have x6 := BX.out.cell 6; have SX := Lib.hid ((SX.out.below (Nat.le_refl _) hbx).up hbx.size); have hbx := alloc_b w5 (.cells #[.int .i64 q2, .int .i64 k2, .int .i64 t2, .int .i64 r2, .string ⟨(l2).toArray⟩, .int .i64 v2, .slice A5 (f2).len cap5] 28 (0, 0)); have SY := Lib.hid ((h5.below (Nat.le_refl _) hbx).up hbx.size); have BC := Lib.hid (BC.out.go hbx); have c0 := BC.out.cell 0; have c1 := BC.out.cell 1; have c2' := BC.out.cell 2; have c3 := BC.out.cell 3; have c4 := BC.out.cell 4; have c5 := BC.out.cell 5; have c6 := BC.out.cell 6; have SC := Lib.hid ((SC.out.below (Nat.le_refl _) hbx).up hbx.size); have HE := Lib.hid (HE.out.mono hbx); have HT := Lib.hid (below_trans HT.out hbx); have BX := Lib.hid (BX.out.go hbx); have x0 := BX.out.cell 0; have x1 := BX.out.cell 1; have x2' := BX.out.cell 2; have x3 := BX.out.cell 3; have x4 := BX.out.cell 4; have x5 := BX.out.cell 5; have x6 := BX.out.cell 6; have SX := Lib.hid ((SX.out.below (Nat.le_refl _) hbx).up hbx.size))
    | (go_at_call 13; obtain ⟨X2, hp2, hq2⟩ := HP2.out (Nat.le_trans hl4 (by decide)); have HQ2 := Lib.hid hq2; (with_reducible refine (hp2 _ _ HE.out SX.out).mono ?_); rintro e w4 ⟨rfl, hbx⟩; clear hp2 hq2; have BC := Lib.hid (BC.out.go hbx); have c0 := BC.out.cell 0; have c1 := BC.out.cell 1; have c2' := BC.out.cell 2; have c3 := BC.out.cell 3; have c4 := BC.out.cell 4; have c5 := BC.out.cell 5; have c6 := BC.out.cell 6; have SC := Lib.hid ((SC.out.below (Nat.le_refl _) hbx).up hbx.size); have HE := Lib.hid (HE.out.mono hbx); have HT := Lib.hid (below_trans HT.out hbx); have BX := Lib.hid (BX.out.go hbx); have x0 := BX.out.cell 0; have x1 := BX.out.cell 1; have x2' := BX.out.cell 2; have x3 := BX.out.cell 3; have x4 := BX.out.cell 4; have x5 := BX.out.cell 5; have x6 := BX.out.cell 6; have SX := Lib.hid ((SX.out.below (Nat.le_refl _) hbx).up hbx.size))
    | (go_at_call 17; (with_reducible refine (HG.out _ HE.out).mono ?_); rintro e w3 ⟨A4, cap4, rfl, hl4, h4, hbx⟩; have BC := Lib.hid (BC.out.go hbx); have c0 := BC.out.cell 0; have c1 := BC.out.cell 1; have c2' := BC.out.cell 2; have c3 := BC.out.cell 3; have c4 := BC.out.cell 4; have c5 := BC.out.cell 5; have c6 := BC.out.cell 6; have SC := Lib.hid ((SC.out.below (Nat.le_refl _) hbx).up hbx.size); have HE := Lib.hid (HE.out.mono hbx); have HT := Lib.hid (below_trans HT.out hbx); have hbx := alloc_b w3 (.cells #[.int .i64 q2, .int .i64 k2, .int .i64 t2, .int .i64 r2, .string ⟨(l2).toArray⟩, .int .i64 v2, .slice A4 (f2).len cap4] 28 (0, 0)); have BX := Lib.hid (Blk.new w3 28 #[.int .i64 q2, .int .i64 k2, .int .i64 t2, .int .i64 r2, .string ⟨l2.toArray⟩, .int .i64 v2, .slice A4 f2.len cap4]); have SX := Lib.hid ((h4.below (Nat.le_refl _) hbx).up hbx.size); have BC := Lib.hid (BC.out.go hbx); have c0 := BC.out.cell 0; have c1 := BC.out.cell 1; have c2' := BC.out.cell 2; have c3 := BC.out.cell 3; have c4 := BC.out.cell 4; have c5 := BC.out.cell 5; have c6 := BC.out.cell 6; have SC := Lib.hid ((SC.out.below (Nat.le_refl _) hbx).up hbx.size); have HE := Lib.hid (HE.out.mono hbx); have HT := Lib.hid (below_trans HT.out hbx))
    | (go_at_call 19; (with_reducible refine (alikeR q k t r l v kids _ _ _ SC.out SD.out).mono ?_); rintro e w2 ⟨rfl, hbx⟩; have BC := Lib.hid (BC.out.go hbx); have c0 := BC.out.cell 0; have c1 := BC.out.cell 1; have c2' := BC.out.cell 2; have c3 := BC.out.cell 3; have c4 := BC.out.cell 4; have c5 := BC.out.cell 5; have c6 := BC.out.cell 6; have SC := Lib.hid ((SC.out.below (Nat.le_refl _) hbx).up hbx.size); have HE := Lib.hid (HE.out.mono hbx); have HT := Lib.hid (below_trans HT.out hbx))
    | (go_at_call 17; (with_reducible refine (HQ.out _ HE.out).mono ?_); rintro e w1 ⟨A1, cap1, rfl, hl1, h1, hbx⟩; have BC := Lib.hid (BC.out.go hbx); have c0 := BC.out.cell 0; have c1 := BC.out.cell 1; have c2' := BC.out.cell 2; have c3 := BC.out.cell 3; have c4 := BC.out.cell 4; have c5 := BC.out.cell 5; have c6 := BC.out.cell 6; have SC := Lib.hid ((SC.out.below (Nat.le_refl _) hbx).up hbx.size); have HE := Lib.hid (HE.out.mono hbx); have HT := Lib.hid (below_trans HT.out hbx); have hbx := alloc_b w1 (.cells #[.int .i64 q, .int .i64 k, .int .i64 t, .int .i64 r, .string ⟨(l).toArray⟩, .int .i64 v, .slice A1 (kids).len cap1] 28 (0, 0)); have SD := Lib.hid ((h1.below (Nat.le_refl _) hbx).up hbx.size); have BC := Lib.hid (BC.out.go hbx); have c0 := BC.out.cell 0; have c1 := BC.out.cell 1; have c2' := BC.out.cell 2; have c3 := BC.out.cell 3; have c4 := BC.out.cell 4; have c5 := BC.out.cell 5; have c6 := BC.out.cell 6; have SC := Lib.hid ((SC.out.below (Nat.le_refl _) hbx).up hbx.size); have HE := Lib.hid (HE.out.mono hbx); have HT := Lib.hid (below_trans HT.out hbx))
    | (go_at_call 13; (with_reducible refine (HP.out _ _ HE.out SC.out).mono ?_); rintro e w0 ⟨rfl, hbx⟩; have BC := Lib.hid (BC.out.go hbx); have c0 := BC.out.cell 0; have c1 := BC.out.cell 1; have c2' := BC.out.cell 2; have c3 := BC.out.cell 3; have c4 := BC.out.cell 4; have c5 := BC.out.cell 5; have c6 := BC.out.cell 6; have SC := Lib.hid ((SC.out.below (Nat.le_refl _) hbx).up hbx.size); have HE := Lib.hid (HE.out.mono hbx); have HT := Lib.hid (below_trans HT.out hbx)))
  go_ret
  exact ⟨rfl, HT.out⟩
set_option maxHeartbeats 2000000 in
set_option maxRecDepth 100000 in
theorem backW_10 (hE : Env w) (hl : l.length ≤ 9223372036854775807) (hs : SlAt w w.heap.size (.slice A kids.len cap) kids) (hsl : s.size ≤ 9223372036854775807)
    (hc : checkC a q k t r l v kids = 0) {q2 k2 t2 r2 v2 : Int} {l2 : List UInt8} {f2 : Fr} {p2 : Nat} {E2 : Int} (h2 : E2 ≠ 0) (hr : parseC a s.data.toList = ((q2, ⟨k2, t2, r2, l2, v2, f2⟩), E2, p2)) :
    Calls Tryz.prog 6 #[.int .i64 a, condV q k t r l v (.slice A kids.len cap), .string s] w fun e w' => e = .returned (.bool true) ∧ Below w.heap.size w w' := by
  obtain ⟨X, hP, hQ⟩ := back_c hc hl
  have HP := Lib.hid hP
  have HQ := Lib.hid hQ
  clear hP hQ
  have e3 : (E2 == 0) = false := by simpa using h2
  have e4 : (E2 != 0) = true := by simpa using h2
  clear h2
  have hbx := alloc_b w (.cells #[.int .i64 q, .int .i64 k, .int .i64 t, .int .i64 r, .string ⟨(l).toArray⟩, .int .i64 v, .slice A (kids).len cap] 28 (0, 0))
  have BC := Lib.hid (Blk.new w 28 #[.int .i64 q, .int .i64 k, .int .i64 t, .int .i64 r, .string ⟨l.toArray⟩, .int .i64 v, .slice A kids.len cap])
  have SC := Lib.hid ((hs.below (Nat.le_refl _) hbx).up hbx.size)
  have HE := Lib.hid (hE.mono hbx)
  have HT := Lib.hid hbx
  have HG := Lib.hid (fun x hx => parseG (w := x) hr hsl hx)
  clear hE hs hbx hr hc
  go_enter Tryz.func6, Tryz.ntmps6
  go_wp2_with (first
    | (go_at_call 16; refine (awakeP HE.out).mono ?_; rintro e w7 ⟨rfl, hbx⟩; have BC := Lib.hid (BC.out.go hbx); have c0 := BC.out.cell 0; have c1 := BC.out.cell 1; have c2' := BC.out.cell 2; have c3 := BC.out.cell 3; have c4 := BC.out.cell 4; have c5 := BC.out.cell 5; have c6 := BC.out.cell 6; have SC := Lib.hid ((SC.out.below (Nat.le_refl _) hbx).up hbx.size); have HE := Lib.hid (HE.out.mono hbx); have HT := Lib.hid (below_trans HT.out hbx))
    | (go_at_call 17; (with_reducible refine (HG.out _ HE.out).mono ?_); rintro e w3 ⟨A4, cap4, rfl, hl4, h4, hbx⟩; have BC := Lib.hid (BC.out.go hbx); have c0 := BC.out.cell 0; have c1 := BC.out.cell 1; have c2' := BC.out.cell 2; have c3 := BC.out.cell 3; have c4 := BC.out.cell 4; have c5 := BC.out.cell 5; have c6 := BC.out.cell 6; have SC := Lib.hid ((SC.out.below (Nat.le_refl _) hbx).up hbx.size); have HE := Lib.hid (HE.out.mono hbx); have HT := Lib.hid (below_trans HT.out hbx); have hbx := alloc_b w3 (.cells #[.int .i64 q2, .int .i64 k2, .int .i64 t2, .int .i64 r2, .string ⟨(l2).toArray⟩, .int .i64 v2, .slice A4 (f2).len cap4] 28 (0, 0)); have BX := Lib.hid (Blk.new w3 28 #[.int .i64 q2, .int .i64 k2, .int .i64 t2, .int .i64 r2, .string ⟨l2.toArray⟩, .int .i64 v2, .slice A4 f2.len cap4]); have SX := Lib.hid ((h4.below (Nat.le_refl _) hbx).up hbx.size); have BC := Lib.hid (BC.out.go hbx); have c0 := BC.out.cell 0; have c1 := BC.out.cell 1; have c2' := BC.out.cell 2; have c3 := BC.out.cell 3; have c4 := BC.out.cell 4; have c5 := BC.out.cell 5; have c6 := BC.out.cell 6; have SC := Lib.hid ((SC.out.below (Nat.le_refl _) hbx).up hbx.size); have HE := Lib.hid (HE.out.mono hbx); have HT := Lib.hid (below_trans HT.out hbx))
    | (go_at_call 19; (with_reducible refine (alikeR q k t r l v kids _ _ _ SC.out SD.out).mono ?_); rintro e w2 ⟨rfl, hbx⟩; have BC := Lib.hid (BC.out.go hbx); have c0 := BC.out.cell 0; have c1 := BC.out.cell 1; have c2' := BC.out.cell 2; have c3 := BC.out.cell 3; have c4 := BC.out.cell 4; have c5 := BC.out.cell 5; have c6 := BC.out.cell 6; have SC := Lib.hid ((SC.out.below (Nat.le_refl _) hbx).up hbx.size); have HE := Lib.hid (HE.out.mono hbx); have HT := Lib.hid (below_trans HT.out hbx))
    | (go_at_call 17; (with_reducible refine (HQ.out _ HE.out).mono ?_); rintro e w1 ⟨A1, cap1, rfl, hl1, h1, hbx⟩; have BC := Lib.hid (BC.out.go hbx); have c0 := BC.out.cell 0; have c1 := BC.out.cell 1; have c2' := BC.out.cell 2; have c3 := BC.out.cell 3; have c4 := BC.out.cell 4; have c5 := BC.out.cell 5; have c6 := BC.out.cell 6; have SC := Lib.hid ((SC.out.below (Nat.le_refl _) hbx).up hbx.size); have HE := Lib.hid (HE.out.mono hbx); have HT := Lib.hid (below_trans HT.out hbx); have hbx := alloc_b w1 (.cells #[.int .i64 q, .int .i64 k, .int .i64 t, .int .i64 r, .string ⟨(l).toArray⟩, .int .i64 v, .slice A1 (kids).len cap1] 28 (0, 0)); have SD := Lib.hid ((h1.below (Nat.le_refl _) hbx).up hbx.size); have BC := Lib.hid (BC.out.go hbx); have c0 := BC.out.cell 0; have c1 := BC.out.cell 1; have c2' := BC.out.cell 2; have c3 := BC.out.cell 3; have c4 := BC.out.cell 4; have c5 := BC.out.cell 5; have c6 := BC.out.cell 6; have SC := Lib.hid ((SC.out.below (Nat.le_refl _) hbx).up hbx.size); have HE := Lib.hid (HE.out.mono hbx); have HT := Lib.hid (below_trans HT.out hbx))
    | (go_at_call 13; (with_reducible refine (HP.out _ _ HE.out SC.out).mono ?_); rintro e w0 ⟨rfl, hbx⟩; have BC := Lib.hid (BC.out.go hbx); have c0 := BC.out.cell 0; have c1 := BC.out.cell 1; have c2' := BC.out.cell 2; have c3 := BC.out.cell 3; have c4 := BC.out.cell 4; have c5 := BC.out.cell 5; have c6 := BC.out.cell 6; have SC := Lib.hid ((SC.out.below (Nat.le_refl _) hbx).up hbx.size); have HE := Lib.hid (HE.out.mono hbx); have HT := Lib.hid (below_trans HT.out hbx)))
  go_ret
  exact ⟨rfl, HT.out⟩
set_option maxHeartbeats 2000000 in
set_option maxRecDepth 100000 in
theorem backW_01 (hE : Env w) (hl : l.length ≤ 9223372036854775807) (hs : SlAt w w.heap.size (.slice A kids.len cap) kids) (hsl : s.size ≤ 9223372036854775807)
    {E : Int} (hc : checkC a q k t r l v kids = E) (h0 : E ≠ 0) {q2 k2 t2 r2 v2 : Int} {l2 : List UInt8} {f2 : Fr} {p2 : Nat} (hr : parseC a s.data.toList = ((q2, ⟨k2, t2, r2, l2, v2, f2⟩), 0, p2)) :
    Calls Tryz.prog 6 #[.int .i64 a, condV q k t r l v (.slice A kids.len cap), .string s] w fun e w' => e = .returned (.bool true) ∧ Below w.heap.size w w' := by
  have HP := Lib.hid (fun (x : World) (kv : Value) (hE : Env x) (hs : SlAt x x.heap.size kv kids) => print_bad hc h0 hl x kv hE hs)
  have HC := Lib.hid hc
  have e1 : (E == 0) = false := by simpa using h0
  have e2 : (E != 0) = true := by simpa using h0
  clear h0
  have HP2 := Lib.hid (fun hl2 => back_c (parseC_chk hr) hl2)
  have hbx := alloc_b w (.cells #[.int .i64 q, .int .i64 k, .int .i64 t, .int .i64 r, .string ⟨(l).toArray⟩, .int .i64 v, .slice A (kids).len cap] 28 (0, 0))
  have BC := Lib.hid (Blk.new w 28 #[.int .i64 q, .int .i64 k, .int .i64 t, .int .i64 r, .string ⟨l.toArray⟩, .int .i64 v, .slice A kids.len cap])
  have SC := Lib.hid ((hs.below (Nat.le_refl _) hbx).up hbx.size)
  have HE := Lib.hid (hE.mono hbx)
  have HT := Lib.hid hbx
  have HG := Lib.hid (fun x hx => parseG (w := x) hr hsl hx)
  clear hE hs hbx hr hc
  go_enter Tryz.func6, Tryz.ntmps6
  go_wp2_with (first
    | (go_at_call 16; refine (awakeP HE.out).mono ?_; rintro e w7 ⟨rfl, hbx⟩; have BC := Lib.hid (BC.out.go hbx); have c0 := BC.out.cell 0; have c1 := BC.out.cell 1; have c2' := BC.out.cell 2; have c3 := BC.out.cell 3; have c4 := BC.out.cell 4; have c5 := BC.out.cell 5; have c6 := BC.out.cell 6; have SC := Lib.hid ((SC.out.below (Nat.le_refl _) hbx).up hbx.size); have HE := Lib.hid (HE.out.mono hbx); have HT := Lib.hid (below_trans HT.out hbx))
    | (go_at_call 19; (with_reducible refine (alikeR q2 k2 t2 r2 l2 v2 f2 _ _ _ SX.out SY.out).mono ?_); rintro e w6 ⟨rfl, hbx⟩; have BC := Lib.hid (BC.out.go hbx); have c0 := BC.out.cell 0; have c1 := BC.out.cell 1; have c2' := BC.out.cell 2; have c3 := BC.out.cell 3; have c4 := BC.out.cell 4; have c5 := BC.out.cell 5; have c6 := BC.out.cell 6; have SC := Lib.hid ((SC.out.below (Nat.le_refl _) hbx).up hbx.size); have HE := Lib.hid (HE.out.mono hbx); have HT := Lib.hid (below_trans HT.out hbx))
    | (go_at_call 17; (with_reducible refine (HQ2.out _ HE.out).mono ?_); rintro e w5 ⟨A5, cap5, rfl, hl5, h5, hbx⟩; have BC := Lib.hid (BC.out.go hbx); have c0 := BC.out.cell 0; have c1 := BC.out.cell 1; have c2' := BC.out.cell 2; have c3 := BC.out.cell 3; have c4 := BC.out.cell 4; have c5 := BC.out.cell 5; have c6 := BC.out.cell 6; have SC := Lib.hid ((SC.out.below (Nat.le_refl _) hbx).up hbx.size); have HE := Lib.hid (HE.out.mono hbx); have HT := Lib.hid (below_trans HT.out hbx); have BX := Lib.hid (BX.out.go hbx); have x0 := BX.out.cell 0; have x1 := BX.out.cell 1; have x2' := BX.out.cell 2; have x3 := BX.out.cell 3; have x4 := BX.out.cell 4; have x5 := BX.out.cell 5; have x6 := BX.out.cell 6; have SX := Lib.hid ((SX.out.below (Nat.le_refl _) hbx).up hbx.size); have hbx := alloc_b w5 (.cells #[.int .i64 q2, .int .i64 k2, .int .i64 t2, .int .i64 r2, .string ⟨(l2).toArray⟩, .int .i64 v2, .slice A5 (f2).len cap5] 28 (0, 0)); have SY := Lib.hid ((h5.below (Nat.le_refl _) hbx).up hbx.size); have BC := Lib.hid (BC.out.go hbx); have c0 := BC.out.cell 0; have c1 := BC.out.cell 1; have c2' := BC.out.cell 2; have c3 := BC.out.cell 3; have c4 := BC.out.cell 4; have c5 := BC.out.cell 5; have c6 := BC.out.cell 6; have SC := Lib.hid ((SC.out.below (Nat.le_refl _) hbx).up hbx.size); have HE := Lib.hid (HE.out.mono hbx); have HT := Lib.hid (below_trans HT.out hbx); have BX := Lib.hid (BX.out.go hbx); have x0 := BX.out.cell 0; have x1 := BX.out.cell 1; have x2' := BX.out.cell 2; have x3 := BX.out.cell 3; have x4 := BX.out.cell 4; have x5 := BX.out.cell 5; have x6 := BX.out.cell 6; have SX := Lib.hid ((SX.out.below (Nat.le_refl _) hbx).up hbx.size))
    | (go_at_call 13; obtain ⟨X2, hp2, hq2⟩ := HP2.out (Nat.le_trans hl4 (by decide)); have HQ2 := Lib.hid hq2; (with_reducible refine (hp2 _ _ HE.out SX.out).mono ?_); rintro e w4 ⟨rfl, hbx⟩; clear hp2 hq2; have BC := Lib.hid (BC.out.go hbx); have c0 := BC.out.cell 0; have c1 := BC.out.cell 1; have c2' := BC.out.cell 2; have c3 := BC.out.cell 3; have c4 := BC.out.cell 4; have c5 := BC.out.cell 5; have c6 := BC.out.cell 6; have SC := Lib.hid ((SC.out.below (Nat.le_refl _) hbx).up hbx.size); have HE := Lib.hid (HE.out.mono hbx); have HT := Lib.hid (below_trans HT.out hbx); have BX := Lib.hid (BX.out.go hbx); have x0 := BX.out.cell 0; have x1 := BX.out.cell 1; have x2' := BX.out.cell 2; have x3 := BX.out.cell 3; have x4 := BX.out.cell 4; have x5 := BX.out.cell 5; have x6 := BX.out.cell 6; have SX := Lib.hid ((SX.out.below (Nat.le_refl _) hbx).up hbx.size))
    | (go_at_call 17; (with_reducible refine (HG.out _ HE.out).mono ?_); rintro e w3 ⟨A4, cap4, rfl, hl4, h4, hbx⟩; have BC := Lib.hid (BC.out.go hbx); have c0 := BC.out.cell 0; have c1 := BC.out.cell 1; have c2' := BC.out.cell 2; have c3 := BC.out.cell 3; have c4 := BC.out.cell 4; have c5 := BC.out.cell 5; have c6 := BC.out.cell 6; have SC := Lib.hid ((SC.out.below (Nat.le_refl _) hbx).up hbx.size); have HE := Lib.hid (HE.out.mono hbx); have HT := Lib.hid (below_trans HT.out hbx); have hbx := alloc_b w3 (.cells #[.int .i64 q2, .int .i64 k2, .int .i64 t2, .int .i64 r2, .string ⟨(l2).toArray⟩, .int .i64 v2, .slice A4 (f2).len cap4] 28 (0, 0)); have BX := Lib.hid (Blk.new w3 28 #[.int .i64 q2, .int .i64 k2, .int .i64 t2, .int .i64 r2, .string ⟨l2.toArray⟩, .int .i64 v2, .slice A4 f2.len cap4]); have SX := Lib.hid ((h4.below (Nat.le_refl _) hbx).up hbx.size); have BC := Lib.hid (BC.out.go hbx); have c0 := BC.out.cell 0; have c1 := BC.out.cell 1; have c2' := BC.out.cell 2; have c3 := BC.out.cell 3; have c4 := BC.out.cell 4; have c5 := BC.out.cell 5; have c6 := BC.out.cell 6; have SC := Lib.hid ((SC.out.below (Nat.le_refl _) hbx).up hbx.size); have HE := Lib.hid (HE.out.mono hbx); have HT := Lib.hid (below_trans HT.out hbx))
    | (go_at_call 15; refine (checkR a q k t r l v _ kids _ hl SC.out).mono ?_; rw [HC.out]; rintro e w1 ⟨rfl, hbx⟩; have BC := Lib.hid (BC.out.go hbx); have c0 := BC.out.cell 0; have c1 := BC.out.cell 1; have c2' := BC.out.cell 2; have c3 := BC.out.cell 3; have c4 := BC.out.cell 4; have c5 := BC.out.cell 5; have c6 := BC.out.cell 6; have SC := Lib.hid ((SC.out.below (Nat.le_refl _) hbx).up hbx.size); have HE := Lib.hid (HE.out.mono hbx); have HT := Lib.hid (below_trans HT.out hbx))
    | (go_at_call 13; (with_reducible refine (HP.out _ _ HE.out SC.out).mono ?_); rintro e w0 ⟨rfl, hbx⟩; have BC := Lib.hid (BC.out.go hbx); have c0 := BC.out.cell 0; have c1 := BC.out.cell 1; have c2' := BC.out.cell 2; have c3 := BC.out.cell 3; have c4 := BC.out.cell 4; have c5 := BC.out.cell 5; have c6 := BC.out.cell 6; have SC := Lib.hid ((SC.out.below (Nat.le_refl _) hbx).up hbx.size); have HE := Lib.hid (HE.out.mono hbx); have HT := Lib.hid (below_trans HT.out hbx)))
  go_ret
  exact ⟨rfl, HT.out⟩
set_option maxHeartbeats 2000000 in
set_option maxRecDepth 100000 in
theorem backW_00 (hE : Env w) (hl : l.length ≤ 9223372036854775807) (hs : SlAt w w.heap.size (.slice A kids.len cap) kids) (hsl : s.size ≤ 9223372036854775807)
    {E : Int} (hc : checkC a q k t r l v kids = E) (h0 : E ≠ 0) {q2 k2 t2 r2 v2 : Int} {l2 : List UInt8} {f2 : Fr} {p2 : Nat} {E2 : Int} (h2 : E2 ≠ 0) (hr : parseC a s.data.toList = ((q2, ⟨k2, t2, r2, l2, v2, f2⟩), E2, p2)) :
    Calls Tryz.prog 6 #[.int .i64 a, condV q k t r l v (.slice A kids.len cap), .string s] w fun e w' => e = .returned (.bool true) ∧ Below w.heap.size w w' := by
  have HP := Lib.hid (fun (x : World) (kv : Value) (hE : Env x) (hs : SlAt x x.heap.size kv kids) => print_bad hc h0 hl x kv hE hs)
  have HC := Lib.hid hc
  have e1 : (E == 0) = false := by simpa using h0
  have e2 : (E != 0) = true := by simpa using h0
  clear h0
  have e3 : (E2 == 0) = false := by simpa using h2
  have e4 : (E2 != 0) = true := by simpa using h2
  clear h2
  have hbx := alloc_b w (.cells #[.int .i64 q, .int .i64 k, .int .i64 t, .int .i64 r, .string ⟨(l).toArray⟩, .int .i64 v, .slice A (kids).len cap] 28 (0, 0))
  have BC := Lib.hid (Blk.new w 28 #[.int .i64 q, .int .i64 k, .int .i64 t, .int .i64 r, .string ⟨l.toArray⟩, .int .i64 v, .slice A kids.len cap])
  have SC := Lib.hid ((hs.below (Nat.le_refl _) hbx).up hbx.size)
  have HE := Lib.hid (hE.mono hbx)
  have HT := Lib.hid hbx
  have HG := Lib.hid (fun x hx => parseG (w := x) hr hsl hx)
  clear hE hs hbx hr hc
  go_enter Tryz.func6, Tryz.ntmps6
  go_wp2_with (first
    | (go_at_call 16; refine (awakeP HE.out).mono ?_; rintro e w7 ⟨rfl, hbx⟩; have BC := Lib.hid (BC.out.go hbx); have c0 := BC.out.cell 0; have c1 := BC.out.cell 1; have c2' := BC.out.cell 2; have c3 := BC.out.cell 3; have c4 := BC.out.cell 4; have c5 := BC.out.cell 5; have c6 := BC.out.cell 6; have SC := Lib.hid ((SC.out.below (Nat.le_refl _) hbx).up hbx.size); have HE := Lib.hid (HE.out.mono hbx); have HT := Lib.hid (below_trans HT.out hbx))
    | (go_at_call 17; (with_reducible refine (HG.out _ HE.out).mono ?_); rintro e w3 ⟨A4, cap4, rfl, hl4, h4, hbx⟩; have BC := Lib.hid (BC.out.go hbx); have c0 := BC.out.cell 0; have c1 := BC.out.cell 1; have c2' := BC.out.cell 2; have c3 := BC.out.cell 3; have c4 := BC.out.cell 4; have c5 := BC.out.cell 5; have c6 := BC.out.cell 6; have SC := Lib.hid ((SC.out.below (Nat.le_refl _) hbx).up hbx.size); have HE := Lib.hid (HE.out.mono hbx); have HT := Lib.hid (below_trans HT.out hbx); have hbx := alloc_b w3 (.cells #[.int .i64 q2, .int .i64 k2, .int .i64 t2, .int .i64 r2, .string ⟨(l2).toArray⟩, .int .i64 v2, .slice A4 (f2).len cap4] 28 (0, 0)); have BX := Lib.hid (Blk.new w3 28 #[.int .i64 q2, .int .i64 k2, .int .i64 t2, .int .i64 r2, .string ⟨l2.toArray⟩, .int .i64 v2, .slice A4 f2.len cap4]); have SX := Lib.hid ((h4.below (Nat.le_refl _) hbx).up hbx.size); have BC := Lib.hid (BC.out.go hbx); have c0 := BC.out.cell 0; have c1 := BC.out.cell 1; have c2' := BC.out.cell 2; have c3 := BC.out.cell 3; have c4 := BC.out.cell 4; have c5 := BC.out.cell 5; have c6 := BC.out.cell 6; have SC := Lib.hid ((SC.out.below (Nat.le_refl _) hbx).up hbx.size); have HE := Lib.hid (HE.out.mono hbx); have HT := Lib.hid (below_trans HT.out hbx))
    | (go_at_call 15; refine (checkR a q k t r l v _ kids _ hl SC.out).mono ?_; rw [HC.out]; rintro e w1 ⟨rfl, hbx⟩; have BC := Lib.hid (BC.out.go hbx); have c0 := BC.out.cell 0; have c1 := BC.out.cell 1; have c2' := BC.out.cell 2; have c3 := BC.out.cell 3; have c4 := BC.out.cell 4; have c5 := BC.out.cell 5; have c6 := BC.out.cell 6; have SC := Lib.hid ((SC.out.below (Nat.le_refl _) hbx).up hbx.size); have HE := Lib.hid (HE.out.mono hbx); have HT := Lib.hid (below_trans HT.out hbx))
    | (go_at_call 13; (with_reducible refine (HP.out _ _ HE.out SC.out).mono ?_); rintro e w0 ⟨rfl, hbx⟩; have BC := Lib.hid (BC.out.go hbx); have c0 := BC.out.cell 0; have c1 := BC.out.cell 1; have c2' := BC.out.cell 2; have c3 := BC.out.cell 3; have c4 := BC.out.cell 4; have c5 := BC.out.cell 5; have c6 := BC.out.cell 6; have SC := Lib.hid ((SC.out.below (Nat.le_refl _) hbx).up hbx.size); have HE := Lib.hid (HE.out.mono hbx); have HT := Lib.hid (below_trans HT.out hbx)))
  go_ret
  exact ⟨rfl, HT.out⟩
end
theorem backW (a q k t r : Int) (l : List UInt8) (v : Int) (kv : Value) (kids : Fr) (s : ByteArray) (w : World) (hl : l.length ≤ 9223372036854775807) (hsl : s.size ≤ 9223372036854775807) (hs : SlAt w w.heap.size kv kids) (hE : Env w) :
    Calls Tryz.prog 6 #[.int .i64 a, condV q k t r l v kv, .string s] w fun e w' => e = .returned (.bool true) ∧ Below w.heap.size w w' := by
  obtain ⟨A, cap, rfl, s'⟩ := hs
  have hs : SlAt w w.heap.size (.slice A kids.len cap) kids := ⟨A, cap, rfl, s'⟩
  obtain ⟨⟨⟨q2, ⟨k2, t2, r2, l2, v2, f2⟩⟩, E2, p2⟩, hr⟩ : ∃ x, parseC a s.data.toList = x := ⟨_, rfl⟩
  by_cases hc : checkC a q k t r l v kids = 0
  · by_cases h2 : E2 = 0
    · subst h2
      exact backW_11 hE hl hs hsl hc hr
    · exact backW_10 hE hl hs hsl hc h2 hr
  · by_cases h2 : E2 = 0
    · subst h2
      exact backW_01 hE hl hs hsl rfl hc hr
    · exact backW_00 hE hl hs hsl rfl hc h2 hr
end Go.Proofs.YtmlnibjnacfanaaGreatDoor
