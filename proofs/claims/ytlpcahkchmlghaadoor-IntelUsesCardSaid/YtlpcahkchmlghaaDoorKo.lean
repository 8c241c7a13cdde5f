/- IntelUses: what the walk knows behind the first Do (UsB), and how each order of that statement comes to it. -/
import Derived.Test.YtlpcahkchmlghaaDoorKn
import Derived.Test.YtlpcahkchmlghaaDoorDoesW
namespace Go.Proofs.YtlpcahkchmlghaaDoor
open Go.RowKit

/-- Behind the first statement: what the third argument holds has a box of its own. -/
def UsA (w0 : World) (reg : Int) (Lv : List UInt8) (nv : Int) (s7 s8 : Value) (x : World) : Prop :=
  ∃ V, s7 = .int .i64 reg ∧ s8 = .pointer (some ⟨V, 0, none⟩) ∧ w0.heap.size ≤ V ∧ V < x.heap.size ∧ x.cell? ⟨V, 0, none⟩ = some (.string ⟨Lv.toArray⟩) ∧ x.cell? ⟨V, 1, none⟩ = some (.int .i64 nv) ∧ Below w0.heap.size w0 x
/-- Behind a Do: its registers and its act have boxes of their own. -/
def UsB (w0 : World) (er : Int) (vs : List (List UInt8 × Int)) (at_ k : Int) (L : List UInt8) (x y z : Int) (s12 s13 s14 : Value) (X : World) : Prop :=
  ∃ P Q A c, s12 = .pointer (some ⟨P, 0, none⟩) ∧ s13 = .pointer (some ⟨Q, 0, none⟩) ∧ s14 = .int .i64 er ∧ w0.heap.size ≤ P ∧ w0.heap.size ≤ Q ∧ P < X.heap.size ∧ Q < X.heap.size ∧ P ≠ Q ∧
    X.cell? ⟨P, 0, none⟩ = some (.slice A vs.length c) ∧ X.cell? ⟨P, 1, none⟩ = some (.int .i64 at_) ∧
    X.cell? ⟨Q, 0, none⟩ = some (.int .i64 k) ∧ X.cell? ⟨Q, 1, none⟩ = some (.string ⟨L.toArray⟩) ∧ X.cell? ⟨Q, 2, none⟩ = some (.int .i64 x) ∧ X.cell? ⟨Q, 3, none⟩ = some (.int .i64 y) ∧ X.cell? ⟨Q, 4, none⟩ = some (.int .i64 z) ∧
    RegsOwn X w0.heap.size (.slice A vs.length c) vs ∧ (∀ p, A = some p → p.block ≠ P ∧ p.block ≠ Q) ∧ vs.length ≤ c ∧ c ≤ 9223372036854775807 ∧ (∀ o, X.frozen? ⟨P, o, none⟩ = false) ∧ Below w0.heap.size w0 X
theorem fr_new (x : World) (cs : Array Value) (ty : TypeId) (o : Nat) : (x.alloc (.cells cs ty (0, 0))).frozen? ⟨x.heap.size, o, none⟩ = false := by simp [go_sem]
theorem fr_new2 (x : World) (cs cs' : Array Value) (ty ty' : TypeId) (o : Nat) : ((x.alloc (.cells cs ty (0, 0))).alloc (.cells cs' ty' (0, 0))).frozen? ⟨x.heap.size + 1, o, none⟩ = false := by simp [go_sem]
theorem fr_new1 (x : World) (cs cs' : Array Value) (ty ty' : TypeId) (o : Nat) : ((x.alloc (.cells cs ty (0, 0))).alloc (.cells cs' ty' (0, 0))).frozen? ⟨x.heap.size, o, none⟩ = false := by simp [go_sem]
def UsesG (ul : List Int) (uw ue : Int) (w : World) (e : Ending) (w' : World) : Prop := ∃ A c, e = .returned (.tuple #[.slice A ul.length c, .int .i64 uw, .int .i64 ue]) ∧ IntsAt w' (.slice A ul.length c) ul ∧ Below w.heap.size w w'
theorem uses_y {op d a imm : Int} {loc : List UInt8} (h : insB op d a 0 imm ⟨loc.toArray⟩ ⟨#[]⟩ 0 = true) (w : World) : Calls Tryd.prog 22 #[insV op d a 0 imm ⟨loc.toArray⟩ ⟨#[]⟩ 0] w (UsesG (usesL op a) (usesW op d) 0 w) :=
  (usesP_l h w).mono fun _ _ ⟨v, he, hi, hb⟩ => by
    obtain ⟨A, c, rfl, h'⟩ := hi
    exact ⟨A, c, he, ⟨A, c, rfl, h'⟩, hb⟩
theorem uses_n {op d a b imm : Int} {loc label : ByteArray} {fence : Int} (h : insB op d a b imm loc label fence = false) (hs : loc.size ≤ 9223372036854775807) (w : World) : Calls Tryd.prog 22 #[insV op d a b imm loc label fence] w (UsesG [] 0 91 w) :=
  (usesP_n h w hs).mono fun _ _ ⟨he, hb⟩ => ⟨none, 0, he, IntsAt.nil _ _ _ (Nat.zero_le _), hb⟩

/-! ### The three ways a box is laid: behind the call (new), or ahead of it (written then) -/
section
variable {w1 x2 : World} {er : Int} {vs : List (List UInt8 × Int)} {at_ k : Int} {L : List UInt8} {x y z : Int} {A : Option Addr} {c B : Nat} {tl ta : TypeId}
theorem own_lt (h : RegsOwn x2 B (.slice A vs.length c) vs) : (∀ p, A = some p → B ≤ p.block ∧ p.block < x2.heap.size) := own_block h
theorem own_nb {P : Nat} (h : RegsOwn x2 B (.slice A vs.length c) vs) (hP : P < B) : Value.ownBlock (.slice A vs.length c) ≠ some P := by
  cases A with
  | none => simp [Value.ownBlock]
  | some p =>
    have := (own_block h p rfl).1
    simp only [Value.ownBlock, ne_eq, Option.some.injEq]; omega
/-- Both behind the call. -/
theorem usB_ll (hown : RegsOwn x2 B (.slice A vs.length c) vs) (hB : w1.heap.size ≤ B) (hb : Below w1.heap.size w1 x2) (h1 : vs.length ≤ c) (h2 : c ≤ 9223372036854775807) :
    UsB w1 er vs at_ k L x y z (.pointer (some ⟨x2.heap.size, 0, none⟩)) (.pointer (some ⟨x2.heap.size + 1, 0, none⟩)) (.int .i64 er)
      ((x2.alloc (.cells #[.slice A vs.length c, .int .i64 at_] tl (0, 0))).alloc (.cells #[.int .i64 k, .string ⟨L.toArray⟩, .int .i64 x, .int .i64 y, .int .i64 z] ta (0, 0))) := by
  have hs := hb.size
  refine ⟨_, _, A, c, rfl, rfl, rfl, hs, by omega, by simp; omega, by simp, by omega, ?_, ?_, ?_, ?_, ?_, ?_, ?_, ?_, fun p hp => ?_, h1, h2, fun o => fr_new1 _ _ _ _ _ _, below_alloc (below_alloc hb _) _⟩
  · simp [go_sem]
  · simp [go_sem]
  · simp [go_sem]
  · simp [go_sem]
  · simp [go_sem]
  · simp [go_sem]
  · simp [go_sem]
  · exact ((hown.lower hB).al _).al _
  · have := own_lt hown p hp; omega
theorem usB_ll' (hown : RegsOwn x2 B (.slice A vs.length c) vs) (hB : w1.heap.size ≤ B) (hb : Below w1.heap.size w1 x2) (h1 : vs.length ≤ c) (h2 : c ≤ 9223372036854775807) :
    UsB w1 er vs at_ k L x y z (.pointer (some ⟨x2.heap.size + 1, 0, none⟩)) (.pointer (some ⟨x2.heap.size, 0, none⟩)) (.int .i64 er)
      ((x2.alloc (.cells #[.int .i64 k, .string ⟨L.toArray⟩, .int .i64 x, .int .i64 y, .int .i64 z] ta (0, 0))).alloc (.cells #[.slice A vs.length c, .int .i64 at_] tl (0, 0))) := by
  have hs := hb.size
  refine ⟨_, _, A, c, rfl, rfl, rfl, by omega, hs, by simp, by simp; omega, by omega, ?_, ?_, ?_, ?_, ?_, ?_, ?_, ?_, fun p hp => ?_, h1, h2, fun o => fr_new2 _ _ _ _ _ _, below_alloc (below_alloc hb _) _⟩
  · simp [go_sem]
  · simp [go_sem]
  · simp [go_sem]
  · simp [go_sem]
  · simp [go_sem]
  · simp [go_sem]
  · simp [go_sem]
  · exact ((hown.lower hB).al _).al _
  · have := own_lt hown p hp; omega
abbrev putL (X : World) (P : Nat) (A : Option Addr) (n c : Nat) (at_ : Int) : World := (X.setCell ⟨P, 0, none⟩ (.slice A n c)).setCell ⟨P, 1, none⟩ (.int .i64 at_)
abbrev putA (X : World) (Q : Nat) (k : Int) (L : List UInt8) (x y z : Int) : World :=
  ((((X.setCell ⟨Q, 0, none⟩ (.int .i64 k)).setCell ⟨Q, 1, none⟩ (.string ⟨L.toArray⟩)).setCell ⟨Q, 2, none⟩ (.int .i64 x)).setCell ⟨Q, 3, none⟩ (.int .i64 y)).setCell ⟨Q, 4, none⟩ (.int .i64 z)
theorem isSome_set {X : World} {a p : Addr} {u : Value} (h : (X.cell? a).isSome = true) : ((X.setCell p u).cell? a).isSome = true := by
  obtain ⟨v, hv⟩ := Option.isSome_iff_exists.1 h
  obtain ⟨v', hv'⟩ := cell?_setCell_some (p := p) (x := u) hv
  rw [hv']; rfl
theorem set_same {X : World} {a : Addr} {u : Value} (h : (X.cell? a).isSome = true) : (X.setCell a u).cell? a = some u := World.cell?_setCell_same' X a u h
theorem set_off {X : World} {b o o' : Nat} {u v : Value} (h : X.cell? ⟨b, o, none⟩ = some v) (hne : o' ≠ o) : (X.setCell ⟨b, o', none⟩ u).cell? ⟨b, o, none⟩ = some v := by
  exact (World.cell?_setCell_other X ⟨b, o', none⟩ ⟨b, o, none⟩ u (fun e => hne (by injection e))).trans h
theorem putL_cells {X : World} {P : Nat} {n : Nat} (h0 : (X.cell? ⟨P, 0, none⟩).isSome = true) (h1 : (X.cell? ⟨P, 1, none⟩).isSome = true) :
    (putL X P A n c at_).cell? ⟨P, 0, none⟩ = some (.slice A n c) ∧ (putL X P A n c at_).cell? ⟨P, 1, none⟩ = some (.int .i64 at_) :=
  ⟨set_off (set_same h0) (by omega), set_same (isSome_set h1)⟩
theorem putA_cells {X : World} {Q : Nat} (h : ∀ o, o < 5 → (X.cell? ⟨Q, o, none⟩).isSome = true) :
    (putA X Q k L x y z).cell? ⟨Q, 0, none⟩ = some (.int .i64 k) ∧ (putA X Q k L x y z).cell? ⟨Q, 1, none⟩ = some (.string ⟨L.toArray⟩) ∧ (putA X Q k L x y z).cell? ⟨Q, 2, none⟩ = some (.int .i64 x) ∧
      (putA X Q k L x y z).cell? ⟨Q, 3, none⟩ = some (.int .i64 y) ∧ (putA X Q k L x y z).cell? ⟨Q, 4, none⟩ = some (.int .i64 z) := by
  have i0 := h 0 (by omega)
  have i1 := h 1 (by omega)
  have i2 := h 2 (by omega)
  have i3 := h 3 (by omega)
  have i4 := h 4 (by omega)
  refine ⟨?_, ?_, ?_, ?_, ?_⟩
  · exact set_off (set_off (set_off (set_off (set_same i0) (by omega)) (by omega)) (by omega)) (by omega)
  · exact set_off (set_off (set_off (set_same (isSome_set i1)) (by omega)) (by omega)) (by omega)
  · exact set_off (set_off (set_same (isSome_set (isSome_set i2))) (by omega)) (by omega)
  · exact set_off (set_same (isSome_set (isSome_set (isSome_set i3)))) (by omega)
  · exact set_same (isSome_set (isSome_set (isSome_set (isSome_set i4))))
theorem putA_far {X : World} {Q b o : Nat} (hne : Q ≠ b) : (putA X Q k L x y z).cell? ⟨b, o, none⟩ = X.cell? ⟨b, o, none⟩ := by
  simp only [putA]
  rw [World.cell?_setCell_far _ _ _ _ hne, World.cell?_setCell_far _ _ _ _ hne, World.cell?_setCell_far _ _ _ _ hne, World.cell?_setCell_far _ _ _ _ hne, World.cell?_setCell_far _ _ _ _ hne]
theorem putL_far {X : World} {P b o n : Nat} (hne : P ≠ b) : (putL X P A n c at_).cell? ⟨b, o, none⟩ = X.cell? ⟨b, o, none⟩ := by
  simp only [putL]
  rw [World.cell?_setCell_far _ _ _ _ hne, World.cell?_setCell_far _ _ _ _ hne]
theorem putL_below {X : World} {W : World} {N P n : Nat} (h : Below N W X) (hP : N ≤ P) : Below N W (putL X P A n c at_) := (h.setCell hP _).setCell hP _
theorem putA_below {X : World} {W : World} {N Q : Nat} (h : Below N W X) (hQ : N ≤ Q) : Below N W (putA X Q k L x y z) := ((((h.setCell hQ _).setCell hQ _).setCell hQ _).setCell hQ _).setCell hQ _
theorem putL_own {X : World} {P n m c' : Nat} {A' : Option Addr} (h : RegsOwn X B (.slice A n c) vs) (hP : Value.ownBlock (.slice A n c) ≠ some P) : RegsOwn (putL X P A' m c' at_) B (.slice A n c) vs := (h.setOther hP _).setOther hP _
theorem putA_own {X : World} {Q n : Nat} (h : RegsOwn X B (.slice A n c) vs) (hQ : Value.ownBlock (.slice A n c) ≠ some Q) : RegsOwn (putA X Q k L x y z) B (.slice A n c) vs := ((((h.setOther hQ _).setOther hQ _).setOther hQ _).setOther hQ _).setOther hQ _
theorem putL_size {X : World} {P n : Nat} : (putL X P A n c at_).heap.size = X.heap.size := by simp [putL]
theorem putA_size {X : World} {Q : Nat} : (putA X Q k L x y z).heap.size = X.heap.size := by simp [putA]
theorem putL_fr {X : World} {P n : Nat} (a : Addr) : (putL X P A n c at_).frozen? a = X.frozen? a := by simp [putL, World.frozen?_setCell]
theorem putA_fr {X : World} {Q : Nat} (a : Addr) : (putA X Q k L x y z).frozen? a = X.frozen? a := by simp [putA, World.frozen?_setCell]
theorem cs_of {X : World} {P : Nat} {cs : Array Value} (h : ∀ o, X.cell? ⟨P, o, none⟩ = cs[o]?) {n : Nat} (hn : n ≤ cs.size) : ∀ o, o < n → (X.cell? ⟨P, o, none⟩).isSome = true := fun o ho => by
  rw [h o, Array.getElem?_eq_getElem (by omega)]; rfl
/-- Both ahead of the call. -/
theorem usB_ee {P Q : Nat} (hown : RegsOwn x2 B (.slice A vs.length c) vs) (hB : w1.heap.size ≤ B) (hb : Below w1.heap.size w1 x2) (h1 : vs.length ≤ c) (h2 : c ≤ 9223372036854775807)
    (hP : w1.heap.size ≤ P) (hQ : w1.heap.size ≤ Q) (hPB : P < B) (hQB : Q < B) (hs : B ≤ x2.heap.size) (hne : P ≠ Q) (cP : ∀ o, o < 2 → (x2.cell? ⟨P, o, none⟩).isSome = true) (cQ : ∀ o, o < 5 → (x2.cell? ⟨Q, o, none⟩).isSome = true) (fP : ∀ o, x2.frozen? ⟨P, o, none⟩ = false) :
    UsB w1 er vs at_ k L x y z (.pointer (some ⟨P, 0, none⟩)) (.pointer (some ⟨Q, 0, none⟩)) (.int .i64 er) (putA (putL x2 P A vs.length c at_) Q k L x y z) := by
  have hl := putL_cells (A := A) (c := c) (at_ := at_) (n := vs.length) (cP 0 (by omega)) (cP 1 (by omega))
  have ha := putA_cells (X := putL x2 P A vs.length c at_) (Q := Q) (k := k) (L := L) (x := x) (y := y) (z := z) (fun o ho => by rw [putL_far hne]; exact cQ o ho)
  refine ⟨P, Q, A, c, rfl, rfl, rfl, hP, hQ, by rw [putA_size, putL_size]; omega, by rw [putA_size, putL_size]; omega, hne, ?_, ?_, ha.1, ha.2.1, ha.2.2.1, ha.2.2.2.1, ha.2.2.2.2, ?_, fun p hp => ?_, h1, h2, fun o => ?_, putA_below (putL_below hb hP) hQ⟩
  · rw [putA_far (Ne.symm hne)]; exact hl.1
  · rw [putA_far (Ne.symm hne)]; exact hl.2
  · exact putA_own (putL_own (hown.lower hB) (own_nb hown hPB)) (own_nb hown hQB)
  · have := own_lt hown p hp; omega
  · rw [putA_fr, putL_fr]; exact fP o
/-- The registers' box ahead, the act's behind. -/
theorem usB_el {P : Nat} (hown : RegsOwn x2 B (.slice A vs.length c) vs) (hB : w1.heap.size ≤ B) (hb : Below w1.heap.size w1 x2) (h1 : vs.length ≤ c) (h2 : c ≤ 9223372036854775807)
    (hP : w1.heap.size ≤ P) (hPB : P < B) (hs : B ≤ x2.heap.size) (cP : ∀ o, o < 2 → (x2.cell? ⟨P, o, none⟩).isSome = true) (fP : ∀ o, x2.frozen? ⟨P, o, none⟩ = false) :
    UsB w1 er vs at_ k L x y z (.pointer (some ⟨P, 0, none⟩)) (.pointer (some ⟨x2.heap.size, 0, none⟩)) (.int .i64 er) ((putL x2 P A vs.length c at_).alloc (.cells #[.int .i64 k, .string ⟨L.toArray⟩, .int .i64 x, .int .i64 y, .int .i64 z] ta (0, 0))) := by
  have hl := putL_cells (A := A) (c := c) (at_ := at_) (n := vs.length) (cP 0 (by omega)) (cP 1 (by omega))
  have hz : (putL x2 P A vs.length c at_).heap.size = x2.heap.size := putL_size
  have hn := fun o => cell_new (putL x2 P A vs.length c at_) #[.int .i64 k, .string ⟨L.toArray⟩, .int .i64 x, .int .i64 y, .int .i64 z] ta (0, 0) o
  rw [hz] at hn
  refine ⟨P, _, A, c, rfl, rfl, rfl, hP, hb.size, by rw [World.size_alloc, hz]; omega, by rw [World.size_alloc, hz]; omega, by omega, cell_al hl.1 _, cell_al hl.2 _, hn 0, hn 1, hn 2, hn 3, hn 4, ?_, fun p hp => ?_, h1, h2, fun o => ?_, below_alloc (putL_below hb hP) _⟩
  · exact (putL_own (hown.lower hB) (own_nb hown hPB)).al _
  · have := own_lt hown p hp; omega
  · exact fr_al (by rw [putL_fr]; exact fP o) (by rw [hz]; omega) _
/-- The act's box ahead, the registers' behind. -/
theorem usB_le {Q : Nat} (hown : RegsOwn x2 B (.slice A vs.length c) vs) (hB : w1.heap.size ≤ B) (hb : Below w1.heap.size w1 x2) (h1 : vs.length ≤ c) (h2 : c ≤ 9223372036854775807)
    (hQ : w1.heap.size ≤ Q) (hQB : Q < B) (hs : B ≤ x2.heap.size) (cQ : ∀ o, o < 5 → (x2.cell? ⟨Q, o, none⟩).isSome = true) :
    UsB w1 er vs at_ k L x y z (.pointer (some ⟨x2.heap.size, 0, none⟩)) (.pointer (some ⟨Q, 0, none⟩)) (.int .i64 er) ((putA x2 Q k L x y z).alloc (.cells #[.slice A vs.length c, .int .i64 at_] tl (0, 0))) := by
  have ha := putA_cells (X := x2) (Q := Q) (k := k) (L := L) (x := x) (y := y) (z := z) cQ
  have hz : (putA x2 Q k L x y z).heap.size = x2.heap.size := putA_size
  have hn := fun o => cell_new (putA x2 Q k L x y z) #[.slice A vs.length c, .int .i64 at_] tl (0, 0) o
  have hf := fun o => fr_new (putA x2 Q k L x y z) #[.slice A vs.length c, .int .i64 at_] tl o
  rw [hz] at hn hf
  refine ⟨_, Q, A, c, rfl, rfl, rfl, hb.size, hQ, by rw [World.size_alloc, hz]; omega, by rw [World.size_alloc, hz]; omega, by omega, hn 0, hn 1, cell_al ha.1 _, cell_al ha.2.1 _, cell_al ha.2.2.1 _, cell_al ha.2.2.2.1 _, cell_al ha.2.2.2.2 _, ?_, fun p hp => ?_, h1, h2, hf, below_alloc (putA_below hb hQ) _⟩
  · exact (putA_own (hown.lower hB) (own_nb hown hQB)).al _
  · have := own_lt hown p hp; omega
end
/-- What stays, from behind the first Do on. -/
structure UsC (N V P Q : Nat) (op d a b imm : Int) (loc label : ByteArray) (fence : Int) (v : Value) (at_ : Int) (vs : List (List UInt8 × Int)) (Lv : List UInt8) (nv : Int) (vA : Value) (ul : List Int) (A : Option Addr) (c base : Nat)
    (vs' : List (List UInt8 × Int)) (at' k : Int) (L : List UInt8) (x y z : Int) (X : World) : Prop where
  box : BoxI X N op d a b imm loc label fence
  t0 : X.cell? ⟨N + 1, 0, none⟩ = some v
  t1 : X.cell? ⟨N + 1, 1, none⟩ = some (.int .i64 at_)
  v0 : X.cell? ⟨V, 0, none⟩ = some (.string ⟨Lv.toArray⟩)
  v1 : X.cell? ⟨V, 1, none⟩ = some (.int .i64 nv)
  p0 : X.cell? ⟨P, 0, none⟩ = some (.slice A vs'.length c)
  p1 : X.cell? ⟨P, 1, none⟩ = some (.int .i64 at')
  q0 : X.cell? ⟨Q, 0, none⟩ = some (.int .i64 k)
  q1 : X.cell? ⟨Q, 1, none⟩ = some (.string ⟨L.toArray⟩)
  q2 : X.cell? ⟨Q, 2, none⟩ = some (.int .i64 x)
  q3 : X.cell? ⟨Q, 3, none⟩ = some (.int .i64 y)
  q4 : X.cell? ⟨Q, 4, none⟩ = some (.int .i64 z)
  own : RegsOwn X base (.slice A vs'.length c) vs'
  arg : ArgAt X v vs
  ints : IntsAt X vA ul
theorem UsC.go {N V P Q : Nat} {op d a b imm : Int} {loc label : ByteArray} {fence : Int} {v : Value} {at_ : Int} {vs : List (List UInt8 × Int)} {Lv : List UInt8} {nv : Int} {vA : Value} {ul : List Int} {A : Option Addr} {c base : Nat}
    {vs' : List (List UInt8 × Int)} {at' k : Int} {L : List UInt8} {x y z : Int} {X X' : World} (h : UsC N V P Q op d a b imm loc label fence v at_ vs Lv nv vA ul A c base vs' at' k L x y z X) (hb : Below X.heap.size X X') :
    UsC N V P Q op d a b imm loc label fence v at_ vs Lv nv vA ul A c base vs' at' k L x y z X' :=
  ⟨h.box.go hb, cell_go h.t0 hb, cell_go h.t1 hb, cell_go h.v0 hb, cell_go h.v1 hb, cell_go h.p0 hb, cell_go h.p1 hb, cell_go h.q0 hb, cell_go h.q1 hb, cell_go h.q2 hb, cell_go h.q3 hb, cell_go h.q4 hb, h.own.mono hb, h.arg.mono hb, h.ints.mono hb⟩
/-- The same where blocks from some number on may be written, all these lying below it. -/
theorem UsC.at_ {N V P Q : Nat} {op d a b imm : Int} {loc label : ByteArray} {fence : Int} {v : Value} {at_ : Int} {vs : List (List UInt8 × Int)} {Lv : List UInt8} {nv : Int} {vA : Value} {ul : List Int} {A : Option Addr} {c base : Nat}
    {vs' : List (List UInt8 × Int)} {at' k : Int} {L : List UInt8} {x y z : Int} {X X' Y : World} {M : Nat} (h : UsC N V P Q op d a b imm loc label fence v at_ vs Lv nv vA ul A c base vs' at' k L x y z Y) (hY : Below Y.heap.size Y X) (hM : M = Y.heap.size) (hb : Below M X X') :
    UsC N V P Q op d a b imm loc label fence v at_ vs Lv nv vA ul A c base vs' at' k L x y z X' :=
  h.go (hY.trans (hM ▸ hb))
theorem set_gen {x : World} {base g cap n : Nat} {vs : List (List UInt8 × Int)} (h : RegsOwn x base (.slice (some ⟨g, 0, none⟩) n cap) vs) (k : Nat) (y : List UInt8 × Int) :
    RegsOwn ((x.setCell ⟨g, k * 2, none⟩ (.string ⟨y.1.toArray⟩)).setCell ⟨g, k * 2 + 1, none⟩ (.int .i64 y.2)) base (.slice (some ⟨g, 0, none⟩) n cap) (vs.set k y) := by
  have hl : vs.length = n := by
    obtain ⟨_, ⟨h1, _⟩ | ⟨_, _, _, h1, _⟩⟩ := h
    · cases h1
    · injection h1 with _ h2; exact h2.symm
  subst hl
  have h1 : x.ownsRow base 55 2 (.slice (some ⟨g, 0, none⟩) vs.length cap) vs.length (valsCells vs) := h
  have h2 := (World.ownsRow.stored ((World.ownsRow.stored h1 (k * 2) (.string ⟨y.1.toArray⟩)).1) (k * 2 + 1) (.int .i64 y.2)).1
  have h3 := valsCells_set vs k y
  unfold RegsOwn
  rw [List.length_set, ← h3]
  exact h2
theorem empty_own2 (x : World) (o1 o2 : Obj) : (((x.alloc o1).alloc o2).alloc (.cells #[] 55 (0, 0))).ownsRow (x.heap.size + 2) 55 2 (.slice (some ⟨x.heap.size + 1 + 1, 0, none⟩) 0 0) 0 [] :=
  ⟨rfl, .inr ⟨_, 0, #[], rfl, Nat.le_refl _, by have := heap_alloc_new ((x.alloc o1).alloc o2) (.cells #[] 55 (0, 0)); simpa using this, Nat.le_refl _, Nat.zero_le _, rfl, rfl⟩⟩
end Go.Proofs.YtlpcahkchmlghaaDoor
