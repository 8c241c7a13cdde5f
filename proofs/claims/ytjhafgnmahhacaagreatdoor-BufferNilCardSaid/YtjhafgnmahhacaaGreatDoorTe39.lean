/- Layer 22: what a thread sees of its own buffer: the program's youngest. -/
import Derived.Test.YtjhafgnmahhacaaGreatDoorTe03
import Derived.Test.YtjhafgnmahhacaaGreatDoorTe36
import Derived.Test.YtjhafgnmahhacaaGreatDoorTe38

namespace Go.Proofs.YtjhafgnmahhacaaGreatDoor
open Go.RowKit
section
/-- The last write that waits for location a. -/
def youngL (q : List (Int × Int)) (a : Int) : Option (Int × Int) := q.reverse.find? (fun p => decide (p.1 = a))
theorem young_none {q : List (Int × Int)} {a : Int} (h : ∀ (j : Nat) (x : Int × Int), q[j]? = some x → x.1 ≠ a) : youngL q a = none := by
  unfold youngL
  rw [List.find?_eq_none]
  intro x hx
  obtain ⟨j, hj⟩ := List.getElem?_of_mem (List.mem_reverse.1 hx)
  simpa using h j x hj
theorem young_some {q : List (Int × Int)} {a : Int} {k : Nat} {x : Int × Int} (hx : q[k]? = some x) (ha : x.1 = a) (h : ∀ (j : Nat) (y : Int × Int), q[j]? = some y → k + 1 ≤ j → y.1 ≠ a) : youngL q a = some x := by
  unfold youngL
  obtain ⟨hk, hxe⟩ := List.getElem?_eq_some_iff.1 hx
  have hs : q = q.take k ++ x :: q.drop (k + 1) := by
    rw [← hxe, ← List.drop_eq_getElem_cons hk, List.take_append_drop]
  rw [hs, List.reverse_append, List.reverse_cons, List.append_assoc, List.find?_append]
  have h1 : (q.drop (k + 1)).reverse.find? (fun p => decide (p.1 = a)) = none := by
    rw [List.find?_eq_none]
    intro y hy
    obtain ⟨j, hj⟩ := List.getElem?_of_mem (List.mem_reverse.1 hy)
    rw [List.getElem?_drop] at hj
    simpa using h _ y hj (by omega)
  rw [h1]
  simp [ha]
def youngV (o : Option (Int × Int)) : Value := match o with
  | some p => .tuple #[.agg #[.int .i64 p.1, .int .i64 p.2], .bool true]
  | none => .tuple #[.agg #[.int .i64 0, .int .i64 0], .bool false]
section
set_option maxHeartbeats 2000000
set_option maxRecDepth 100000
variable {w : World} {B b : Nat} {rv qv : Value} {t : BTd}
theorem sameP (x y a : Int) (la : Nat) (h : w.cell? ⟨la, 0, none⟩ = some (.int .i64 a)) : Calls Tryz.prog 173 #[.agg #[.int .i64 x, .int .i64 y], .pointer (some ⟨la, 0, none⟩)] w fun e w' => e = .returned (.bool (decide (x = a))) ∧ Below w.heap.size w w' := by
  have hlw := World.block_lt_of_cell? w _ h
  have hd : (x == a) = decide (x = a) := by rw [Bool.eq_iff_iff]; simp
  go_enter Tryz.func173, Tryz.ntmps173
  go_wp2
  go_ret
  exact ⟨rfl, alloc_b _ _⟩
theorem youngP (a : Int) (la : Nat) (h : TdAt w B b rv qv t) (hl : t.q.length ≤ 1000000) (_hB : B ≤ w.heap.size) (ha : w.cell? ⟨la, 0, none⟩ = some (.int .i64 a)) :
    Calls Tryz.prog 172 #[.pointer (some ⟨b, 2, none⟩), .func (.func 173) #[] #[.pointer (some ⟨la, 0, none⟩)]] w fun e w' => e = .returned (youngV (youngL t.q a)) ∧ Below w.heap.size w w' := by
  obtain ⟨A, cap, hqv, hat, _, hcap⟩ := Enc.Own.at_ h.q
  subst hqv
  have c2 := h.blk.cl 2
  have HAt := Lib.hid hat
  have hb0 := h.blk.lt
  have hlaw := World.block_lt_of_cell? w _ ha
  obtain ⟨q, hqe⟩ : ∃ q, t.q = q := ⟨_, rfl⟩
  rw [hqe] at HAt c2 hl hcap ⊢
  clear h hat hqe
  have HB0 := Lib.hid (alloc_b w (.cells #[.int .i64 0, .int .i64 0] 106 (0, 0)))
  have HR0 := Lib.hid (Blk.new w 106 #[.int .i64 0, .int .i64 0])
  go_enter Tryz.func172, Tryz.ntmps172
  go_wp2
  go_loopw [6] (fun i wr => ∃ k : Nat, k ≤ q.length ∧ i = .int .i64 ((k : Int) - 1) ∧ (∀ (j : Nat) (x : Int × Int), q[j]? = some x → k ≤ j → x.1 ≠ a) ∧ Below (w.alloc (.cells #[.int .i64 0, .int .i64 0] 106 (0, 0))).heap.size (w.alloc (.cells #[.int .i64 0, .int .i64 0] 106 (0, 0))) wr) (fun i _ => (intOf i + 1).toNat)
  case atStart => exact ⟨q.length, Nat.le_refl _, rfl, fun j x hx hj => absurd (List.getElem?_eq_some_iff.1 hx).1 (by omega), Below.refl _ _⟩
  case round =>
    obtain ⟨k, hk, rfl, hall, hbw⟩ := hrel
    have HALL := Lib.hid hall
    have HBW := Lib.hid hbw
    have hbw0 := below_trans HB0.out hbw
    have e2 := cell_go c2 hbw0
    have ea := cell_go ha hbw0
    have hz := hbw0.size
    have HRr := Lib.hid (HR0.out.go hbw)
    have r0 := HRr.out.cl 0
    have r1 := HRr.out.cl 1
    have rf := HRr.out.frozen
    have z0 := HRr.out.lt
    have z1 : b < wr.heap.size := by omega
    have HT := Lib.hid hbw0
    clear hall hbw hbw0
    cases k with
    | zero =>
      have HY := Lib.hid (young_none (fun j x hx => HALL.out j x hx (Nat.zero_le _)))
      have g1 : decide ((0 : Int) ≤ ((0 : Nat) : Int) - 1) = false := by decide
      go_wp2
      rw [HY.out]
      refine bodyPost_ret (v := youngV none) (by simp [results, Tryz.results172, go_sem, r0, r1, youngV]) rfl ⟨rfl, ?_⟩
      repeat (first | with_reducible exact HT.out | with_reducible refine Below.setCell ?_ (by simp) _)
    | succ k =>
      obtain ⟨x, hx⟩ : ∃ x, q[k]? = some x := ⟨_, List.getElem?_eq_getElem (by omega)⟩
      obtain ⟨qb, o, rfl, hc⟩ := HAt.out k x hx
      have HX := Lib.hid hx
      obtain ⟨x1, x2⟩ := x
      have d0 : wr.cell? ⟨qb, o + k * 2, none⟩ = some (.int .i64 x1) := cell_go (hc 0 _ rfl) HT.out
      have d1 : wr.cell? ⟨qb, o + k * 2 + 1, none⟩ = some (.int .i64 x2) := cell_go (hc 1 _ rfl) HT.out
      rw [show ((k + 1 : Nat) : Int) - 1 = (k : Int) by omega]
      have g1 : (0 : Int) ≤ (k : Int) := by omega
      have g2 : (k : Int) < (q.length : Int) := by omega
      have hqb := World.block_lt_of_cell? wr _ d0
      clear hx hc
      by_cases hxa : x1 = a
      · have HY := Lib.hid (young_some HX.out hxa (fun j y hj hk => HALL.out j y hj hk))
        have HS := Lib.hid (fun (W : World) (hW : W.cell? ⟨la, 0, none⟩ = some (.int .i64 a)) => show Calls Tryz.prog 173 #[.agg #[.int .i64 x1, .int .i64 x2], .pointer (some ⟨la, 0, none⟩)] W fun e w' => e = .returned (.bool true) ∧ Below W.heap.size W w' from by rw [← show decide (x1 = a) = true by simpa using hxa]; exact sameP x1 x2 a la hW)
        clear hxa
        go_wp2_with (go_at_call 173; refine (HS.out _ ea).mono ?_; rintro e w3 ⟨rfl, hb3⟩; have d0 := cell_go d0 hb3; have d1 := cell_go d1 hb3; have e2 := cell_go e2 hb3; have HR3 := Lib.hid (HRr.out.go hb3); have r0 := HR3.out.cl 0; have r1 := HR3.out.cl 1; have rf := HR3.out.frozen; have z0 := HR3.out.lt; have HT3 := Lib.hid (below_trans HT.out hb3); have hz3 := hb3.size; clear hb3)
        rw [HY.out]
        refine bodyPost_ret (v := youngV (some (x1, x2))) (by simp [results, Tryz.results172, go_sem, r0, r1, youngV]) rfl ⟨rfl, ?_⟩
        repeat (first | with_reducible exact HT3.out | with_reducible refine Below.setCell ?_ (by simp) _)
      · have HS := Lib.hid (fun (W : World) (hW : W.cell? ⟨la, 0, none⟩ = some (.int .i64 a)) => show Calls Tryz.prog 173 #[.agg #[.int .i64 x1, .int .i64 x2], .pointer (some ⟨la, 0, none⟩)] W fun e w' => e = .returned (.bool false) ∧ Below W.heap.size W w' from by rw [← show decide (x1 = a) = false by simpa using hxa]; exact sameP x1 x2 a la hW)
        have HN := Lib.hid (show ∀ (j : Nat) (y : Int × Int), q[j]? = some y → k ≤ j → y.1 ≠ a from fun j y hj hk => by
          by_cases e : j = k
          · subst e
            rw [HX.out] at hj
            cases hj
            exact hxa
          · exact HALL.out j y hj (by omega))
        clear hxa
        go_wp2_with (go_at_call 173; refine (HS.out _ ea).mono ?_; rintro e w3 ⟨rfl, hb3⟩; have HB3 := Lib.hid (below_trans HBW.out hb3); clear hb3)
        go_roundw
        case rel => exact ⟨k, by omega, by go_num, HN.out, HB3.out⟩
        case measure => simp [intOf]
end
end
/-- A machine: what stays, the memory, the threads. -/
structure BMc where
  arch : Int
  code : List (List Ins)
  locs : List Nm
  ths : List Th
  mem : List Int
  tds : List BTd
abbrev encN : Enc Ins := ⟨8, fun x => [.int .i64 x.op, .int .i64 x.d, .int .i64 x.a, .int .i64 x.b, .int .i64 x.imm, .string ⟨x.loc.toArray⟩, .string ⟨x.label.toArray⟩, .int .i64 x.fence], fun _ => rfl, by omega, fun _ u h => by simp at h; rcases h with rfl | rfl | rfl | rfl | rfl | rfl | rfl | rfl <;> rfl⟩
abbrev encA : Enc (Option Addr × Nat × Nat) := ⟨1, fun x => [.slice x.1 x.2.1 x.2.2], fun _ => rfl, by omega, fun _ u h => by simp at h; subst h; rfl⟩
abbrev encQ : Enc Nat := ⟨1, fun b => [.pointer (some ⟨b, 0, none⟩)], fun _ => rfl, by omega, fun _ u h => by simp at h; subst h; rfl⟩
abbrev encTh : Enc Th := ⟨3, fun x => [.int .i64 x.1, .int .i64 x.2.1, .string ⟨x.2.2.toArray⟩], fun _ => rfl, by omega, fun _ u h => by simp at h; rcases h with rfl | rfl | rfl <;> rfl⟩
abbrev encM : Enc (Int × Int) := encP
theorem elemM : encM.Elem 79 85 16 := ⟨Tryz.underlying85, .agg #[.int .i64 0, .int .i64 0], by kernel_rfl, rfl⟩
theorem elemQ : encQ.Elem 167 82 8 := ⟨Tryz.underlying82, .pointer none, by kernel_rfl, rfl⟩
theorem elemA : encA.Elem 62 23 24 := ⟨Tryz.underlying23, .slice none 0 0, by kernel_rfl, rfl⟩
theorem elemN : encN.Elem 70 62 80 := ⟨Tryz.underlying62, .agg #[.int .i64 0, .int .i64 0, .int .i64 0, .int .i64 0, .int .i64 0, .string ⟨#[]⟩, .string ⟨#[]⟩, .int .i64 0], by kernel_rfl, rfl⟩
/-- The rows' values of a machine; its threads' blocks and rows. -/
structure BMv where
  cv : Value
  lv : Value
  tv : Value
  mv : Value
  pv : Value
  cr : List (Option Addr × Nat × Nat)
  tb : List Nat
  rv : Nat → Value
  qv : Nat → Value
structure BufAt (w : World) (B g : Nat) (m : BMc) (V : BMv) : Prop where
  blk : Blk w g 84 #[.int .i64 m.arch, V.cv, V.lv, V.tv, V.mv, V.pv]
  hg : B ≤ g
  code : encA.Own 62 B w V.cv V.cr
  rows : ∀ (k : Nat) (c : List Ins), m.code[k]? = some c → ∃ A cap, V.cr[k]? = some (A, c.length, cap) ∧ encN.Own 70 B w (.slice A c.length cap) c
  locs : encS.Own 9 B w V.lv m.locs
  ths : encTh.Own 25 B w V.tv m.ths
  mem : encI.Own 3 B w V.mv m.mem
  ptr : encQ.Own 167 B w V.pv V.tb
  tlen : V.tb.length = m.tds.length
  crl : V.cr.length = m.code.length
  td : ∀ (k : Nat) (t : BTd), m.tds[k]? = some t → ∃ b, V.tb[k]? = some b ∧ TdAt w B b (V.rv k) (V.qv k) t
  apart : ∀ i j bi bj : Nat, i ≠ j → V.tb[i]? = some bi → V.tb[j]? = some bj → ∀ x, Foot bi (V.rv i) (V.qv i) x → ¬ Foot bj (V.rv j) (V.qv j) x
theorem TdAt.ty {w : World} {B b : Nat} {rv qv : Value} {t : BTd} (h : TdAt w B b rv qv t) {x : Nat} (hx : Foot b rv qv x) : ∃ u cs, Blk w x u cs ∧ (u = 172 ∨ u = 68 ∨ u = 106) := by
  rcases hx with rfl | hx | hx
  · exact ⟨_, _, h.blk, .inl rfl⟩
  · obtain ⟨cur, hc, _⟩ := own_ty h.regs hx
    exact ⟨_, cur, hc, .inr (.inl rfl)⟩
  · obtain ⟨cur, hc, _⟩ := own_ty h.q hx
    exact ⟨_, cur, hc, .inr (.inr rfl)⟩
theorem own_first {α : Type} {E : Enc α} {T : TypeId} {B : Nat} {w : World} {v : Value} {l : List α} (h : E.Own T B w v l) {i : Nat} {x : α} (hx : l[i]? = some x) :
    ∃ b cap, v = .slice (some ⟨b, 0, none⟩) l.length cap ∧ ∀ j u, (E.enc x)[j]? = some u → w.cell? ⟨b, i * E.size + j, none⟩ = some u := by
  obtain ⟨A, cap, e, hat, _⟩ := Enc.Own.at_ h
  subst e
  rcases h.2 with ⟨e, h0⟩ | ⟨b, cap', cur, e, _⟩
  · have := (List.getElem?_eq_some_iff.1 hx).1
    omega
  · simp only [Value.slice.injEq, true_and] at e
    obtain ⟨rfl, rfl⟩ := e
    refine ⟨b, cap, rfl, fun j u hj => ?_⟩
    obtain ⟨b', o, e2, hc⟩ := hat i x hx
    simp only [Option.some.injEq, Addr.mk.injEq, and_true] at e2
    obtain ⟨rfl, rfl⟩ := e2
    have := hc j u hj
    rwa [Nat.zero_add] at this
/-- Blocks of other types stand. -/
def TyF (w : World) (F : Nat → Prop) (l : List TypeId) : Prop := ∀ x, F x → ∃ u cs, Blk w x u cs ∧ u ∈ l
theorem blk_ty {w w' : World} {F : Nat → Prop} {l : List TypeId} (hF : TyF w F l) (hc : Chg F w w') {b : Nat} {t : TypeId} {cs : Array Value} (h : Blk w b t cs) (ht : t ∉ l) : Blk w' b t cs :=
  hc.far h fun hf => by
    obtain ⟨u, ds, hb, hu⟩ := hF b hf
    by_cases e : t = u
    · exact ht (e ▸ hu)
    · exact blk_ne h hb e rfl
theorem own_tyF {w w' : World} {F : Nat → Prop} {l : List TypeId} (hF : TyF w F l) (hc : Chg F w w') {B : Nat} {t : TypeId} {z n : Nat} {v : Value} {cs : List Value} (h : w.ownsRow B t z v n cs) (ht : t ∉ l) : w'.ownsRow B t z v n cs :=
  own_hold h fun b hb => hc.keep b (own_lt h hb) fun hf => by
    obtain ⟨u, ds, hb2, hu⟩ := hF b hf
    by_cases e : t = u
    · exact ht (e ▸ hu)
    · exact own_ne h hb2 e hb
namespace BufAt
variable {w w' : World} {B g : Nat} {m : BMc} {V : BMv}
theorem below (h : BufAt w B g m V) (hb : Below w.heap.size w w') : BufAt w' B g m V :=
  ⟨h.blk.go hb, h.hg, own_below h.code hb, fun k c hc => by
    obtain ⟨A, cap, h1, h2⟩ := h.rows k c hc
    exact ⟨A, cap, h1, own_below h2 hb⟩, own_below h.locs hb, own_below h.ths hb, own_below h.mem hb, own_below h.ptr hb, h.tlen, h.crl, fun k t ht => by
    obtain ⟨b, h1, h2⟩ := h.td k t ht
    exact ⟨b, h1, h2.below hb⟩, h.apart⟩
theorem thread (h : BufAt w B g m V) {k b : Nat} {t t' : BTd} {rv' qv' : Value} (hk : m.tds[k]? = some t) (hb : V.tb[k]? = some b) (ht : TdAt w' B b rv' qv' t') (hc : Chg (Foot b (V.rv k) (V.qv k)) w w')
    (hn : ∀ x, Foot b rv' qv' x → Foot b (V.rv k) (V.qv k) x ∨ w.heap.size ≤ x) :
    BufAt w' B g { m with tds := m.tds.set k t' } { V with rv := fun i => if i = k then rv' else V.rv i, qv := fun i => if i = k then qv' else V.qv i } := by
  obtain ⟨b', hb', htd⟩ := h.td k t hk
  rw [hb] at hb'
  cases hb'
  have hF : TyF w (Foot b (V.rv k) (V.qv k)) [172, 68, 106] := fun x hx => by
    obtain ⟨u, cs, h1, h2⟩ := htd.ty hx
    exact ⟨u, cs, h1, by simpa using h2⟩
  refine ⟨blk_ty hF hc h.blk (by decide), h.hg, own_tyF hF hc h.code (by decide), fun j c hj => ?_, own_tyF hF hc h.locs (by decide), own_tyF hF hc h.ths (by decide), own_tyF hF hc h.mem (by decide), own_tyF hF hc h.ptr (by decide), by rw [List.length_set]; exact h.tlen, h.crl, fun j s hj => ?_, fun i j bi bj hij hi hj x hx hy => ?_⟩
  · obtain ⟨A, cap, h1, h2⟩ := h.rows j c hj
    exact ⟨A, cap, h1, own_tyF hF hc h2 (by decide)⟩
  · by_cases e : j = k
    · subst e
      rw [List.getElem?_set_self (List.getElem?_eq_some_iff.1 hk).1] at hj
      cases hj
      exact ⟨b, hb, by simp only [if_true]; exact ht⟩
    · rw [List.getElem?_set_ne (Ne.symm e)] at hj
      obtain ⟨bj, h1, h2⟩ := h.td j s hj
      refine ⟨bj, h1, ?_⟩
      simp only [if_neg e]
      exact h2.far hc (fun x hx hy => h.apart j k bj b e h1 hb x hx hy)
  · have hlt : ∀ i bi, V.tb[i]? = some bi → ∀ x, Foot bi (V.rv i) (V.qv i) x → x < w.heap.size := fun i bi hi x hx => by
      have hil := (List.getElem?_eq_some_iff.1 hi).1
      rw [h.tlen] at hil
      obtain ⟨b2, h1, h2⟩ := h.td i _ (List.getElem?_eq_getElem hil)
      rw [hi] at h1
      cases h1
      exact (h2.foot hx).2
    by_cases ei : i = k
    · subst ei
      rw [hb] at hi
      cases hi
      have ej : ¬ j = i := fun e => hij e.symm
      simp only [if_true, if_neg ej] at hx hy
      rcases hn x hx with e | e
      · exact h.apart i j _ _ hij hb hj x e hy
      · have := hlt j bj hj x hy
        omega
    · simp only [if_neg ei] at hx
      by_cases ej : j = k
      · subst ej
        rw [hb] at hj
        cases hj
        simp only [if_true] at hy
        rcases hn x hy with e | e
        · exact h.apart i j _ _ hij hi hb x hx e
        · have := hlt i bi hi x hx
          omega
      · simp only [if_neg ej] at hy
        exact h.apart i j _ _ hij hi hj x hx hy
theorem thr (h : BufAt w B g m V) {k : Nat} {t : BTd} {c : List Ins} (hk : m.tds[k]? = some t) (hc : m.code[k]? = some c) :
    ∃ b pb cp qb cc A cr, V.tb[k]? = some b ∧ TdAt w B b (V.rv k) (V.qv k) t ∧ w.cell? ⟨g, 5, none⟩ = some (.slice (some ⟨pb, 0, none⟩) m.tds.length cp) ∧ w.cell? ⟨pb, k, none⟩ = some (.pointer (some ⟨b, 0, none⟩)) ∧
      w.cell? ⟨g, 1, none⟩ = some (.slice (some ⟨qb, 0, none⟩) m.code.length cc) ∧ w.cell? ⟨qb, k, none⟩ = some (.slice A c.length cr) ∧ encN.At w A c ∧ k < m.tds.length := by
  obtain ⟨b, hb, ht⟩ := h.td k t hk
  obtain ⟨Ar, cr, hcr, hrow⟩ := h.rows k c hc
  have hkl : k < m.tds.length := (List.getElem?_eq_some_iff.1 hk).1
  obtain ⟨A', c', er, hrat, _, _⟩ := Enc.Own.at_ hrow
  simp only [Value.slice.injEq, true_and] at er
  obtain ⟨rfl, rfl⟩ := er
  have k5 := h.blk.cl 5
  have k1 := h.blk.cl 1
  obtain ⟨pb, cp, ep, hp0⟩ := own_first h.ptr hb
  obtain ⟨qb, cc, eq, hq0⟩ := own_first h.code hcr
  refine ⟨b, pb, cp, qb, cc, Ar, cr, hb, ht, ?_, ?_, ?_, ?_, hrat, hkl⟩
  · rw [← h.tlen, ← ep]; exact h.blk.cl 5
  · have := hp0 0 _ rfl
    simpa using this
  · rw [← h.crl, ← eq]; exact h.blk.cl 1
  · have := hq0 0 _ rfl
    simpa using this
end BufAt
theorem brL_le {r r' : Rn} {c : List Ins} {k n : Nat} {x : Ins} (hk : k < c.length) (hl : labQ c k x < c.length) (h : brL r c k x = some (r', n)) : n ≤ c.length := by
  unfold brL at h
  simp only [] at h
  split at h
  · split at h
    · cases h
    · simp only [Option.some.injEq, Prod.mk.injEq] at h; omega
  · simp only [Option.some.injEq, Prod.mk.injEq] at h
    obtain ⟨_, h2⟩ := h
    cases hu : unlikeL (rgA r x.a).h (rgA r x.b).h <;> rw [hu] at h2 <;> simp at h2 <;> omega
theorem stepL_le {C : Cx} {nr : Nat} {r : Rn} {c : List Ins} {k : Nat} {x : Ins} {p : Rn × Nat} (hk : c[k]? = some x) (hv : ValI C nr c k x) (h : stepL C r c k x = some p) : p.2 ≤ c.length := by
  have hkl := (List.getElem?_eq_some_iff.1 hk).1
  unfold stepL at h
  split at h
  · obtain ⟨a, _, rfl⟩ := Option.map_eq_some_iff.1 h; simp; omega
  split at h
  · obtain ⟨a, _, rfl⟩ := Option.map_eq_some_iff.1 h; simp; omega
  split at h
  · simp only [Option.some.injEq] at h; subst h; simp; omega
  split at h
  · simp only [Option.some.injEq] at h; subst h; simp; omega
  split at h
  · simp only [Option.some.injEq] at h; subst h; simp; omega
  split at h
  · simp only [Option.some.injEq] at h; subst h; simp; omega
  split at h
  · obtain ⟨a, _, rfl⟩ := Option.map_eq_some_iff.1 h; simp; omega
  split at h
  · simp only [Option.some.injEq] at h; subst h; simp; omega
  split at h
  · rename_i h11
    obtain ⟨r', n⟩ := p
    exact brL_le hkl (hv.lab h11) h
  · simp only [Option.some.injEq] at h; subst h; simp; omega
/-- What stays true of a runner stays true to its end. -/
theorem goL_inv {C : Cx} {nr : Nat} {c : List Ins} (hval : ∀ k x, c[k]? = some x → ValI C nr c k x) : ∀ (n k : Nat) (r r' : Rn), c.length - k ≤ n → k ≤ c.length → Inv C nr k r → goL C c k r = some r' → Inv C nr c.length r' := by
  intro n
  induction n with
  | zero =>
    intro k r r' hn hk hI hg
    rw [goL_end (by omega)] at hg
    simp only [Option.some.injEq] at hg
    subst hg
    exact hI.next hk
  | succ n ih =>
    intro k r r' hn hk hI hg
    by_cases hkl : k < c.length
    · have hx := List.getElem?_eq_getElem hkl
      cases hf : r.full with
      | true =>
        rw [goL_full hf] at hg
        simp only [Option.some.injEq] at hg
        subst hg
        exact hI.next hk
      | false =>
        cases hs : stepL C r c k c[k] with
        | none => rw [goL_none hx hf hs] at hg; cases hg
        | some p =>
          rw [goL_some hx hf hs] at hg
          have hgt := stepL_gt hs
          exact ih p.2 p.1 r' (by omega) (stepL_le hx (hval k _ hx) hs) (hI.step (hval k _ hx) hs) hg
    · rw [goL_end (by omega)] at hg
      simp only [Option.some.injEq] at hg
      subst hg
      exact hI.next hk
theorem begL_len (k nr : Nat) (init : List Ini) : (begL k nr init).length = nr := by
  unfold begL
  have key : ∀ (l : List Ini) (L : List Rg), (l.foldl (iniS k) L).length = L.length := by
    intro l
    induction l with
    | nil => intro L; rfl
    | cons x l ih => intro L; rw [List.foldl_cons, ih]; unfold iniS; split <;> simp
  rw [key, List.length_replicate]
theorem begL_mem {P : Rg → Prop} (k nr : Nat) (init : List Ini) (h0 : P ⟨.num 0, 0⟩) (h : ∀ x ∈ init, x.th = (k : Int) → P (iniR x)) : ∀ y ∈ begL k nr init, P y := by
  unfold begL
  have key : ∀ (l : List Ini) (L : List Rg), (∀ x ∈ l, x.th = (k : Int) → P (iniR x)) → (∀ y ∈ L, P y) → ∀ y ∈ l.foldl (iniS k) L, P y := by
    intro l
    induction l with
    | nil => intro L _ hL; exact hL
    | cons x l ih =>
      intro L hl hL
      rw [List.foldl_cons]
      refine ih _ (fun x hx => hl x (List.mem_cons_of_mem _ hx)) (fun y hy => ?_)
      unfold iniS at hy
      split at hy
      · rename_i hth
        rcases List.mem_or_eq_of_mem_set hy with h1 | rfl
        · exact hL y h1
        · exact hl x List.mem_cons_self hth
      · exact hL y hy
  exact key init _ h (fun y hy => by rw [List.eq_of_mem_replicate hy]; exact h0)
theorem inv0 {T : Tst} (hE : fileE T = 0) {C : Cx} (hC : C.locs = locsT T) (hahead : C.ahead ≤ 64) (k : Nat) : Inv C (nregs (isR T)) 0 (rn0 (isR T) T.init k) := by
  refine ⟨begL_mem _ _ _ ⟨show in32 0 by unfold in32; omega, Rds.zero _⟩ (fun x hx hth => ?_), begL_len _ _ _, Rds.zero _, by simpa [rn0] using hahead, Nat.le_refl _, ⟨List.Pairwise.nil, (fun p hp => by cases hp), Nat.zero_le _⟩, ⟨List.Pairwise.nil, (fun p hp => by cases hp), Nat.zero_le _⟩, ⟨List.Pairwise.nil, (fun p hp => by cases hp), Nat.zero_le _⟩, (fun p hp => by cases hp)⟩
  have hr := (okI_of hE hx).reg (by omega)
  unfold iniR
  split
  · rename_i hv
    exact ⟨hr.2.2.1 hv, Rds.zero _⟩
  · rename_i hv
    exact ⟨by show x.vl ∈ C.locs; rw [hC]; exact hr.2.2.2 hv, Rds.zero _⟩
theorem nodup_le : ∀ (l m : List (Int × Int)), l.Nodup → (∀ x ∈ l, x ∈ m) → l.length ≤ m.length
  | [], _, _, _ => Nat.zero_le _
  | x :: l, m, hn, hs => by
    have hx := hs x List.mem_cons_self
    have hn2 := List.nodup_cons.1 hn
    have h1 := nodup_le l (m.erase x) hn2.2 (fun y hy => by
      have hne : y ≠ x := fun e => hn2.1 (e ▸ hy)
      exact (List.mem_erase_of_ne hne).2 (hs y (List.mem_cons_of_mem _ hy)))
    have h2 := List.length_erase_of_mem hx
    have h3 := List.length_pos_of_mem hx
    simp only [List.length_cons]
    omega
theorem buck_len (evs : List Evt) (n f : Nat) (l : List (Int × Int)) (h : PrsOK evs n l) (hf : f + n ≤ 64) : (buck (l.map (shP f))).length ≤ 4096 := by
  obtain ⟨_, hnd, hpw, hmem, _⟩ := h.moved hf
  have hnd2 : (buck (l.map (shP f))).Nodup := hpw.imp (fun {a b} hab e => by subst e; unfold ordA at hab; omega)
  have h1 := nodup_le _ _ hnd2 (fun x hx => (hmem x).1 hx)
  have h2 := h.len
  rw [List.length_map] at h1
  omega
theorem atL_okA {a k t r : Int} {l : List UInt8} {v : Int} {n : Nat} (h : ownB a k t r l v n = true) : ∀ x ∈ atL k t r l, thingB a x.1 x.2.1 x.2.2 = true := by
  intro x hx
  unfold atL at hx
  split at hx
  · rename_i h2
    simp only [List.mem_singleton] at hx
    subst hx
    unfold ownB at h
    rw [if_pos h2] at h
    simp only [Bool.and_eq_true] at h
    exact h.1.1
  · simp at hx
theorem atomsF_okA {a : Int} : ∀ f : Fr, okF a f → ∀ x ∈ atomsF f, thingB a x.1 x.2.1 x.2.2 = true
  | .nil, _, x, hx => by simp [atomsF] at hx
  | .cons k t r l v kids rest, h, x, hx => by
    simp only [atomsF, List.mem_append] at hx
    rcases hx with (hx | hx) | hx
    · exact atL_okA h.1 x hx
    · exact atomsF_okA kids h.2.1 x hx
    · exact atomsF_okA rest h.2.2 x hx
theorem thg_of {T : Tst} (hE : fileE T = 0) {x : Th} (hx : x ∈ thsT T) : thingB T.arch x.1 x.2.1 x.2.2 = true := by
  obtain ⟨_, _, _, h1, h2, _⟩ := checkC_ok (fileE_small hE).2.2.2.2.2.1
  unfold thsT topT at hx
  split at hx
  · rcases List.mem_append.1 (thsU_sub _ x hx) with h | h
    · exact atL_okA h1 x h
    · exact atomsF_okA _ h2 x h
  · cases hx
theorem thg_reg {T : Tst} (hE : fileE T = 0) {x : Th} (hx : x ∈ thsT T) (h1 : x.1 ≠ -1) : 0 ≤ x.1 ∧ 0 ≤ x.2.1 ∧ x.2.1 < nregs (isR T) := by
  have h := thg_of hE hx
  unfold thingB at h
  rw [if_neg h1] at h
  simp only [Bool.and_eq_true, decide_eq_true_eq] at h
  have ha := (fileE_small hE).2.2.1
  refine ⟨h.1.1.1.1, h.1.1.2, ?_⟩
  have h2 := h.1.2
  rcases isR_eq ha with ⟨e1, e2⟩ | ⟨e1, e2⟩
  · rw [e2]; unfold regs at h2; rw [if_pos e1] at h2; exact h2
  · rw [e2]; unfold regs at h2; rw [if_neg (by omega)] at h2; exact h2
theorem thg_mem {T : Tst} (hE : fileE T = 0) {x : Th} (hx : x ∈ thsT T) (h1 : x.1 = -1) : x.2.2 ∈ locsT T := by
  have h := thg_of hE hx
  unfold thingB at h
  rw [if_pos h1] at h
  simp only [Bool.and_eq_true] at h
  unfold locsT
  rw [locsN_mem]
  refine ⟨?_, nameB_ne h.2⟩
  unfold rawN
  rw [List.mem_append, List.mem_append]
  exact Or.inr (Or.inr (List.mem_map.2 ⟨x, hx, rfl⟩))
/-- Nothing of the trace is too long. -/
structure TrOK (nt k : Nat) (a : Tr) : Prop where
  evs : a.evs.length ≤ 64
  bars : a.bars.length ≤ 256 * k
  addr : a.addr.length ≤ 4096 * k
  data : a.data.length ≤ 4096 * k
  hang : a.hang.length ≤ 4096 * k
  ends : a.ends.length = nt
theorem trOK0 (T : Tst) : TrOK (thsT T).length 0 (tr0 (thsT T)) := ⟨by simp [tr0], by simp [tr0], by simp [tr0], by simp [tr0], by simp [tr0], by simp [tr0]⟩
theorem TrOK.join {nt k nr m : Nat} {a : Tr} {C : Cx} {r : Rn} {es : List (Int × Int)} (h : TrOK nt k a) (hC : C.ahead = a.evs.length) (hI : Inv C nr m r) (hm : m ≤ 256) (he : es.length = nt) : TrOK nt (k + 1) (joinL a r es) := by
  have h1 := hI.room
  have h2 := hI.bars
  have h3 := buck_len _ _ a.evs.length _ hI.addr (by omega)
  have h4 := buck_len _ _ a.evs.length _ hI.data (by omega)
  have h5 := buck_len _ _ a.evs.length _ hI.hang (by omega)
  have := h.bars
  have := h.addr
  have := h.data
  have := h.hang
  exact ⟨by simp [joinL]; omega, by simp [joinL]; omega, by simp [joinL]; omega, by simp [joinL]; omega, by simp [joinL]; omega, he⟩
theorem thrsL_cons (risc : Bool) (locs : List Nm) (init : List Ini) (ths : List Th) (k : Nat) (c : List Ins) (cs : List (List Ins)) (a : Tr) : thrsL risc locs init ths k (c :: cs) a = match thrL risc locs init ths k c a with
    | .error e => .error (e, k)
    | .ok a' => thrsL risc locs init ths (k + 1) cs a' := rfl
/-- The trace, out of what the threads put down. -/
def outX (T : Tst) : Except (Int × Nat) Tr → Except (Int × Nat) Tr
  | .error e => .error e
  | .ok a => .ok { a with ends := finL (locsT T) 0 (thsT T) a.ends }
theorem traceL_of {T : Tst} (hE : fileE T = 0) {X : Except (Int × Nat) Tr} (h : thrsL (isR T) (locsT T) T.init (thsT T) 0 T.code (tr0 (thsT T)) = X) : traceL T = outX T X := by
  subst h
  unfold traceL
  rw [if_neg (by simp [hE])]
  rfl
section
variable {risc : Bool} {locs : List Nm} {init : List Ini} {ths : List Th} {k f : Nat} {c : List Ins} {cs cs' : List (List Ins)} {a a' : Tr} {X : Except (Int × Nat) Tr} {e : Int} {r : Rn} {es : List (Int × Int)}
theorem thrs_err (h : thrsL risc locs init ths k cs a = X) (hd : cs = c :: cs') (he : thrL risc locs init ths k c a = .error e) : X = .error (e, k) := by
  subst h hd
  rw [thrsL_cons, he]
theorem thrs_ok (h : thrsL risc locs init ths k cs a = X) (hd : cs = c :: cs') (he : thrL risc locs init ths k c a = .ok a') : thrsL risc locs init ths (k + 1) cs' a' = X := by
  subst h hd
  rw [thrsL_cons, he]
theorem thrL_none (hf : a.evs.length = f) (h : goL ⟨k, risc, f, locs⟩ c 0 (rn0 risc init k) = none) : thrL risc locs init ths k c a = .error 150 := by
  subst hf
  unfold thrL cxOf
  rw [h]
theorem thrL_full (hf : a.evs.length = f) (h : goL ⟨k, risc, f, locs⟩ c 0 (rn0 risc init k) = some r) (hr : r.full = true) : thrL risc locs init ths k c a = .error 2 := by
  subst hf
  unfold thrL cxOf
  rw [h]
  simp [hr]
theorem thrL_ends (hf : a.evs.length = f) (h : goL ⟨k, risc, f, locs⟩ c 0 (rn0 risc init k) = some r) (hr : r.full = false) (he : endsL k f r 0 ths a.ends = none) : thrL risc locs init ths k c a = .error 150 := by
  subst hf
  unfold thrL cxOf
  rw [h]
  simp [hr, he]
theorem thrL_ok (hf : a.evs.length = f) (h : goL ⟨k, risc, f, locs⟩ c 0 (rn0 risc init k) = some r) (hr : r.full = false) (he : endsL k f r 0 ths a.ends = some es) : thrL risc locs init ths k c a = .ok (joinL a r es) := by
  subst hf
  unfold thrL cxOf
  rw [h]
  simp [hr, he]
end
end Go.Proofs.YtjhafgnmahhacaaGreatDoor
