/- Layer 8: the program's tokens. Layer 8: the program's reader: its block, its tokens; fail, peek, take. Layer 8: the program's reader: take, int, loc. -/
import Derived.Test.YtmlnibjnacfanaaGreatDoorDa
import Derived.RegionTactic
import Derived.WalkSmall
namespace Go.Proofs.YtmlnibjnacfanaaGreatDoor
open Go.RowKit

theorem ext_list (s : ByteArray) (a b : Nat) : (s.extract a b).data.toList = (s.data.toList.drop a).take (b - a) := by
  rw [ByteArray.data_extract, Array.toList_extract, List.extract_eq_take_drop]
theorem ext_end (s : ByteArray) (a : Nat) : (s.extract a s.size).data.toList = s.data.toList.drop a := by
  rw [ext_list]
  exact List.take_of_length_le (by simp)
theorem ext_size (s : ByteArray) (a b : Nat) (h : b ≤ s.size) : (s.extract a b).size = b - a := by
  rw [ByteArray.size_extract]; omega
def tokCells : List Tok → List Value
  | [] => []
  | t :: r => .string ⟨t.1.toArray⟩ :: .int .i64 t.2 :: tokCells r
theorem tokCells_len : ∀ l, (tokCells l).length = l.length * 2
  | [] => rfl
  | _ :: r => by simp [tokCells, tokCells_len r]; omega
theorem tokCells_snoc : ∀ l (t : Tok), tokCells (l ++ [t]) = tokCells l ++ [.string ⟨t.1.toArray⟩, .int .i64 t.2]
  | [], _ => rfl
  | _ :: r, t => by simp [tokCells, tokCells_snoc r t]
theorem tokCells_at : ∀ (l : List Tok) (i : Nat) (t : Tok), l[i]? = some t → (tokCells l)[i * 2]? = some (.string ⟨t.1.toArray⟩) ∧ (tokCells l)[i * 2 + 1]? = some (.int .i64 t.2)
  | [], _, _, h => by simp at h
  | u :: r, 0, t, h => by simp at h; subst h; simp [tokCells]
  | u :: r, i + 1, t, h => by
    have := tokCells_at r i t (by simpa using h)
    rw [show (i + 1) * 2 = i * 2 + 1 + 1 by omega]
    simpa [tokCells] using this
theorem infoTok : (Tryz.prog.info? 121).map (fun i => (i.zero, i.size, i.bytes)) = some (some (.agg #[.string ⟨#[]⟩, .int .i64 0]), 2, 24) := by kernel_rfl
def TokPost (l : List UInt8) (w : World) (e : Ending) (w' : World) : Prop :=
  ∃ v, e = .returned v ∧ w'.ownsRow w.heap.size 121 2 v (toks 0 l).length (tokCells (toks 0 l)) ∧ Below w.heap.size w w'
theorem drop_cons (s : ByteArray) (k : Nat) (h : k < s.size) : s.data.toList.drop k = s[k] :: s.data.toList.drop (k + 1) := by
  have hl : s.data.toList.length = s.size := rfl
  rw [List.drop_eq_getElem_cons (by omega)]
  rfl
set_option maxHeartbeats 2000000 in
set_option maxRecDepth 100000 in
theorem tokensP (s : ByteArray) (w : World) (hs : s.size ≤ 262144) : Calls Tryz.prog 44 #[.string s] w (TokPost s.data.toList w) := by
  have hll : s.data.toList.length = s.size := rfl
  obtain ⟨i0, hi, hz0, hz1, hz2⟩ := info_parts infoTok
  go_enter Tryz.func44, Tryz.ntmps44
  go_wp2_with fail
  go_loopw [3, 4] (fun out at_ wr => ∃ (k : Nat) (done : List Tok), k ≤ s.size ∧ at_ = .int .i64 k ∧ done.length ≤ k ∧ wr.ownsRow w.heap.size 121 2 out done.length (tokCells done) ∧ toks 0 s.data.toList = done ++ toks k (s.data.toList.drop k) ∧ Below w.heap.size w wr) (fun _ i _ => s.size - (intOf i).toNat)
  case atStart => exact ⟨0, [], Nat.zero_le _, rfl, Nat.le_refl _, World.ownsRow_nil _ _ _ _, rfl, Below.refl _ _⟩
  case round =>
    obtain ⟨k, done, hk, rfl, hd, hown, htk, hb⟩ := hrel
    have HT := Lib.hid htk
    clear htk
    by_cases hlt : k < s.size
    · have HC := Lib.hid (drop_cons s k hlt)
      cases hx : blkB s[k] with
      | true =>
        have HX := Lib.hid hx
        have HN := Lib.hid (show toks 0 s.data.toList = done ++ toks (k + 1) (s.data.toList.drop (k + 1)) by rw [HT.out, HC.out, toks_blank k hx])
        clear hx
        go_wp2_with (go_at_call 77; refine (blankP _ _).mono ?_; rw [HX.out]; rintro e w' ⟨rfl, rfl⟩)
        go_roundw
        case rel => exact ⟨k + 1, done, by omega, by go_num, by omega, hown, HN.out, hb⟩
        case measure => simp [intOf]; omega
      | false =>
        have HX := Lib.hid hx
        obtain ⟨m, hm⟩ : ∃ m, longL (s.data.toList.drop k) = m := ⟨_, rfl⟩
        have hm1 : 1 ≤ m := by rw [← hm]; exact longL_pos _
        have hm2 : k + m ≤ s.size := by
          have := longL_le s[k] (s.data.toList.drop (k + 1))
          rw [← HC.out, hm] at this
          simp at this
          omega
        have HM := Lib.hid hm
        have hN : toks 0 s.data.toList = (done ++ [((s.extract k (k + m)).data.toList, k)]) ++ toks (k + m) (s.data.toList.drop (k + m)) := by
          rw [HT.out, HC.out, toks_tok k hx, ← HC.out, hm, ext_list, List.drop_drop]
          simp
        have HN := Lib.hid hN
        have HE := Lib.hid (ext_end s k)
        have hxs : 0 < (s.extract k s.size).size := by rw [ext_size _ _ _ (Nat.le_refl _)]; omega
        have hxs2 : (s.extract k s.size).size ≤ 9223372036854775807 := by rw [ext_size _ _ _ (Nat.le_refl _)]; omega
        have HS1 := Lib.hid hxs
        have HS2 := Lib.hid hxs2
        have i1 : (k : Int) + (m : Int) ≤ (s.size : Int) := by omega
        have i2 : (k : Int) ≤ (k : Int) + (m : Int) := by omega
        have i3 : (0 : Int) ≤ (k : Int) + (m : Int) := by omega
        have i4 : ((k : Int) + (m : Int)).toNat = k + m := by omega
        clear hx hm hN hxs hxs2
        go_wp2_with (first | (go_at_call 77; refine (blankP _ _).mono ?_; rw [HX.out]; rintro e w' ⟨rfl, rfl⟩) | (go_at_call 78; refine (longP HS1.out HS2.out).mono ?_; rw [HE.out, HM.out]; rintro e w' ⟨rfl, rfl⟩) | (at_builtin; refine wpList_append_own _ rfl _ _ 85 rfl w.heap.size 121 i0 (.agg #[.string ⟨#[]⟩, .int .i64 0]) 2 24 Tryz.underlying85 hi hz0 hz1 hz2 rfl (by decide) _ _ _ rfl (hown.alloc _) ⟨wr.heap.size, 0, none⟩ 1 1 [.string (s.extract k (k + m)), .int .i64 k] rfl rfl ?c1 ?c2 ?c3 ?c4 ?c5 ?_))
        case c1 =>
          intro j u hj
          match j, hj with
          | 0, hj => simp at hj; subst hj; simp [Addr.add, cell_new]
          | 1, hj => simp at hj; subst hj; simp [Addr.add, cell_new]
        case c2 => intro u hu; simp at hu; rcases hu with rfl | rfl <;> rfl
        case c3 => unfold maxLen; omega
        case c4 => omega
        case c5 => have := hb.size; simp; omega
        intro v' w1 hown' hgrow _
        have R : w1.ownsRow w.heap.size 121 2 v' (done ++ [((s.extract k (k + m)).data.toList, k)]).length (tokCells (done ++ [((s.extract k (k + m)).data.toList, k)])) := by
          rw [tokCells_snoc, List.length_append]
          show w1.ownsRow w.heap.size 121 2 v' (done.length + 1) (tokCells done ++ [.string ⟨(s.extract k (k + m)).data.toList.toArray⟩, .int .i64 k])
          rw [str_eta]
          exact hown'
        have HB := Lib.hid ((below_alloc hb _).grown hgrow (by have := hb.size; simp; omega) (fun j hj => (hown.lt j hj).1))
        have HR := Lib.hid R
        clear hown' hgrow hown R
        go_wp2
        go_roundw
        case rel => exact ⟨k + m, _, by omega, by go_num, by simp; omega, HR.out, HN.out, HB.out⟩
        case measure => simp [intOf]; omega
    · have HF := Lib.hid (show toks 0 s.data.toList = done by rw [HT.out, List.drop_of_length_le (by omega), toks_nil, List.append_nil])
      go_wp2_with fail
      go_ret
      exact ⟨_, rfl, by rw [HF.out]; exact hown, hb⟩

/-- The reader's block g and its tokens in memory. -/
structure Rd (w : World) (g : Nat) (a : Int) (s : ByteArray) (A : Option Addr) (cap : Nat) (all : List Tok) (k : Nat) : Prop where
  blk : Blk w g 88 #[.int .i64 a, .string s, .slice A all.length cap, .int .i64 k]
  tok : ∀ i t, all[i]? = some t → ∃ gt, A = some ⟨gt, 0, none⟩ ∧ gt ≠ g ∧ w.cell? ⟨gt, i * 2, none⟩ = some (.string ⟨t.1.toArray⟩) ∧ w.cell? ⟨gt, i * 2 + 1, none⟩ = some (.int .i64 t.2)
  len : all.length ≤ 262144
  size : s.size ≤ 262144
  le : k ≤ all.length
  txt : ∀ t ∈ all, t.1 ≠ [] ∧ t.1.length ≤ 262144
section
variable {w w' : World} {g : Nat} {a : Int} {s : ByteArray} {A : Option Addr} {cap : Nat} {all : List Tok} {k : Nat}
theorem Rd.below (h : Rd w g a s A cap all k) (hb : Below w.heap.size w w') : Rd w' g a s A cap all k :=
  ⟨h.blk.go hb, fun i t ht => by
    obtain ⟨gt, e, hne, c0, c1⟩ := h.tok i t ht
    exact ⟨gt, e, hne, cell_go c0 hb, cell_go c1 hb⟩, h.len, h.size, h.le, h.txt⟩
theorem Rd.alloc (h : Rd w g a s A cap all k) (o : Obj) : Rd (w.alloc o) g a s A cap all k := h.below (alloc_b w o)
theorem Rd.drew (h : Rd w g a s A cap all k) : Rd w.drew g a s A cap all k := ⟨h.blk, h.tok, h.len, h.size, h.le, h.txt⟩
theorem Rd.drewN (h : Rd w g a s A cap all k) (n : Nat) : Rd (w.drewN n) g a s A cap all k := ⟨h.blk, h.tok, h.len, h.size, h.le, h.txt⟩
theorem Rd.next (h : Rd w g a s A cap all k) {k' : Nat} (hk : k' ≤ all.length) : Rd (w.setCell ⟨g, 3, none⟩ (.int .i64 k')) g a s A cap all k' :=
  ⟨h.blk.set_ 3 _, fun i t ht => by
    obtain ⟨gt, e, hne, c0, c1⟩ := h.tok i t ht
    exact ⟨gt, e, hne, cell_set c0 (fun e => hne e.symm) _, cell_set c1 (fun e => hne e.symm) _⟩, h.len, h.size, hk, h.txt⟩
theorem Rd.next1 (h : Rd w g a s A cap all k) (hk : k < all.length) : Rd (w.setCell ⟨g, 3, none⟩ (.int .i64 ((k : Int) + 1))) g a s A cap all (k + 1) := by
  have := h.next (k' := k + 1) (by omega)
  simpa using this
theorem Rd.far (h : Rd w g a s A cap all k) {p : Addr} (hp : p.block ≠ g) (hq : ∀ gt, A = some ⟨gt, 0, none⟩ → p.block ≠ gt) (u : Value) : Rd (w.setCell p u) g a s A cap all k :=
  ⟨h.blk.far (fun e => hp e.symm) u, fun i t ht => by
    obtain ⟨gt, e, hne, c0, c1⟩ := h.tok i t ht
    exact ⟨gt, e, hne, cell_set c0 (hq gt e) _, cell_set c1 (hq gt e) _⟩, h.len, h.size, h.le, h.txt⟩
theorem Rd.new {w0 : World} {k0 : Nat} (h0 : Rd w0 g a s A cap all k0) (h : Rd w g a s A cap all k) {p : Addr} (hp : w0.heap.size ≤ p.block) (u : Value) : Rd (w.setCell p u) g a s A cap all k := by
  have hg := h0.blk.lt
  refine ⟨h.blk.far (fun e => by omega) u, fun i t ht => ?_, h.len, h.size, h.le, h.txt⟩
  obtain ⟨gt, e, hne, c0, c1⟩ := h.tok i t ht
  obtain ⟨gt', e', _, c0', _⟩ := h0.tok i t ht
  rw [e] at e'
  simp only [Option.some.injEq, Addr.mk.injEq, and_true] at e'
  subst e'
  have hlt := World.block_lt_of_cell? w0 ⟨gt, i * 2, none⟩ c0'
  simp only at hlt
  exact ⟨gt, e, hne, cell_set c0 (fun e => by omega) _, cell_set c1 (fun e => by omega) _⟩
theorem Rd.c0 (h : Rd w g a s A cap all k) : w.cell? ⟨g, 0, none⟩ = some (.int .i64 a) := h.blk.cell 0
theorem Rd.c1 (h : Rd w g a s A cap all k) : w.cell? ⟨g, 1, none⟩ = some (.string s) := h.blk.cell 1
theorem Rd.c2 (h : Rd w g a s A cap all k) : w.cell? ⟨g, 2, none⟩ = some (.slice A all.length cap) := h.blk.cell 2
theorem Rd.c3 (h : Rd w g a s A cap all k) : w.cell? ⟨g, 3, none⟩ = some (.int .i64 k) := h.blk.cell 3
theorem Rd.lt (h : Rd w g a s A cap all k) : g < w.heap.size := h.blk.lt
theorem hd_at {i : Nat} {t : Tok} (h : all[i]? = some t) : hd (all.drop i) = t.1 ∧ ∀ e, ps e (all.drop i) = t.2 := by
  obtain ⟨hlt, rfl⟩ := List.getElem?_eq_some_iff.1 h
  rw [List.drop_eq_getElem_cons hlt]
  exact ⟨rfl, fun _ => rfl⟩
theorem hd_end {i : Nat} (h : all.length ≤ i) : hd (all.drop i) = [] ∧ ∀ e, ps e (all.drop i) = e := by
  rw [List.drop_of_length_le h]
  exact ⟨rfl, fun _ => rfl⟩
theorem Rd.hd_ne (_h : Rd w g a s A cap all k) {i : Nat} (hn : hd (all.drop i) ≠ []) : i < all.length := by
  rcases Nat.lt_or_ge i all.length with hlt | hge
  · exact hlt
  · exact absurd (hd_end hge).1 hn
theorem Rd.hd_len (h : Rd w g a s A cap all k) (i : Nat) : (hd (all.drop i)).length ≤ 262144 := by
  rcases Nat.lt_or_ge i all.length with hlt | hge
  · have e := List.getElem?_eq_getElem hlt
    rw [(hd_at e).1]
    exact (h.txt _ (List.getElem_mem hlt)).2
  · rw [(hd_end hge).1]; simp
theorem tail_drop (i : Nat) : (all.drop i).tail = all.drop (i + 1) := by simp
end

theorem panic_end {P : Program} {fn : Func} {R : Ending → World → Prop} {a : Act} {w : World} {c : List PanicEntry} (hd : a.defers = []) (hR : R (.panicked c) w) : bodyPost P fn R (.panic c) a w := ⟨hd, hR⟩
def stopV (p : Nat) : Value := .iface 83 (.agg #[.int .i64 p])
def stopC (p : Nat) : List PanicEntry := [{ v := stopV p, recovered := false }]
section
variable {w : World} {g : Nat} {a : Int} {s : ByteArray} {A : Option Addr} {cap : Nat} {all : List Tok} {k : Nat}
set_option maxHeartbeats 1000000 in
set_option maxRecDepth 100000 in
theorem failP (h : Rd w g a s A cap all k) : Calls Tryz.prog 82 #[.pointer (some ⟨g, 0, none⟩)] w fun e w' => e = .panicked (stopC (ps s.size (all.drop k))) ∧ Below w.heap.size w w' := by
  have hk1 := h.le
  have hk2 := h.len
  have hk3 := h.size
  have q1 := h.c1
  have q2 := h.c2
  have q3 := h.c3
  by_cases hlt : k < all.length
  · have e := List.getElem?_eq_getElem hlt
    obtain ⟨gt, rfl, hne, c0, c1⟩ := h.tok _ _ e
    have HV := Lib.hid ((hd_at e).2 s.size)
    clear e h
    go_enter Tryz.func82, Tryz.ntmps82
    go_wp2
    go_quiet (fail)
    go_wp2
    refine still_tail 13 (by kernel_rfl) (by kernel_rfl) ?_
    simp only [List.take_succ_cons, List.take_zero, List.drop_succ_cons, List.drop_zero]
    repeat still_step
    refine wpStill_nil ?_
    go_wp2
    exact panic_end rfl ⟨by rw [HV.out]; rfl, below_drewN (Below.refl _ _) _⟩
  · have HV := Lib.hid ((hd_end (all := all) (i := k) (by omega)).2 s.size)
    clear h
    go_enter Tryz.func82, Tryz.ntmps82
    go_wp2
    go_quiet (fail)
    go_wp2
    exact panic_end rfl ⟨by rw [HV.out]; rfl, below_drewN (Below.refl _ _) _⟩
set_option maxHeartbeats 1000000 in
set_option maxRecDepth 100000 in
theorem peekP (h : Rd w g a s A cap all k) (j : Nat) (hj : j ≤ 1) : Calls Tryz.prog 79 #[.pointer (some ⟨g, 0, none⟩), .int .i64 j] w fun e w' => e = .returned (.string ⟨(hd (all.drop (k + j))).toArray⟩) ∧ ∃ n, w' = w.drewN n := by
  have hk1 := h.le
  have hk2 := h.len
  have q2 := h.c2
  have q3 := h.c3
  by_cases hlt : k + j < all.length
  · have e := List.getElem?_eq_getElem hlt
    obtain ⟨gt, rfl, hne, c0, c1⟩ := h.tok _ _ e
    have HV := Lib.hid ((hd_at e).1)
    clear e h
    go_enter Tryz.func79, Tryz.ntmps79
    go_wp2
    go_quiet (fail)
    go_wp2
    go_quiet (fail)
    go_wp2
    go_ret
    exact ⟨by rw [HV.out]; rfl, _, World.drewN_drewN _ _ _⟩
  · have HV := Lib.hid ((hd_end (all := all) (i := k + j) (by omega)).1)
    clear h
    go_enter Tryz.func79, Tryz.ntmps79
    go_wp2
    go_quiet (fail)
    go_wp2
    go_ret
    exact ⟨by rw [HV.out]; rfl, _, rfl⟩
theorem peek0P (h : Rd w g a s A cap all k) : Calls Tryz.prog 79 #[.pointer (some ⟨g, 0, none⟩), .int .i64 0] w fun e w' => e = .returned (.string ⟨(hd (all.drop k)).toArray⟩) ∧ ∃ n, w' = w.drewN n := peekP h 0 (by omega)
theorem peek1P (h : Rd w g a s A cap all k) : Calls Tryz.prog 79 #[.pointer (some ⟨g, 0, none⟩), .int .i64 1] w fun e w' => e = .returned (.string ⟨(hd (all.drop (k + 1))).toArray⟩) ∧ ∃ n, w' = w.drewN n := peekP h 1 (by omega)
theorem peek0B (h : Rd w g a s A cap all k) : Calls Tryz.prog 79 #[.pointer (some ⟨g, 0, none⟩), .int .i64 0] w fun e w' => e = .returned (.string ⟨(hd (all.drop k)).toArray⟩) ∧ Below w.heap.size w w' :=
  (peek0P h).mono fun _ _ ⟨h1, n, h2⟩ => ⟨h1, h2 ▸ below_drewN (Below.refl _ _) n⟩
theorem peek1B (h : Rd w g a s A cap all k) : Calls Tryz.prog 79 #[.pointer (some ⟨g, 0, none⟩), .int .i64 1] w fun e w' => e = .returned (.string ⟨(hd (all.drop (k + 1))).toArray⟩) ∧ Below w.heap.size w w' :=
  (peek1P h).mono fun _ _ ⟨h1, n, h2⟩ => ⟨h1, h2 ▸ below_drewN (Below.refl _ _) n⟩
theorem size_set (x : World) (p : Addr) (u : Value) : (x.setCell p u).heap.size = x.heap.size := by simp [World.setCell]
end

/-- What a reader's function ends in. -/
def Pst {α : Type} (g : Nat) (a : Int) (s : ByteArray) (A : Option Addr) (cap : Nat) (all : List Tok) (k : Nat) (w : World) (V : α → World → Value → Prop) (res : Rs α) (e : Ending) (w' : World) : Prop := match res with
  | .ok x L => ∃ v k', e = .returned v ∧ V x w' v ∧ Rd w' g a s A cap all k' ∧ all.drop k' = L ∧ k ≤ k' ∧ Only g w w'
  | .bad p => e = .panicked (stopC p) ∧ Only g w w'
abbrev PV {α : Type} (f : α → Value) : α → World → Value → Prop := fun x _ v => v = f x
section
variable {w : World} {g : Nat} {a : Int} {s : ByteArray} {A : Option Addr} {cap : Nat} {all : List Tok} {k : Nat}
set_option maxHeartbeats 1000000 in
set_option maxRecDepth 100000 in
theorem takeP (h : Rd w g a s A cap all k) (t : List UInt8) (ht : t ≠ []) : Calls Tryz.prog 80 #[.pointer (some ⟨g, 0, none⟩), .string ⟨t.toArray⟩] w (Pst g a s A cap all k w (PV fun _ => .tuple #[]) (pTake s.size t (all.drop k))) := by
  have q3 := h.c3
  have qf := h.blk.frozen 3
  have hk2 := h.len
  by_cases he : hd (all.drop k) = t
  · have hk : k < all.length := h.hd_ne (by rw [he]; exact ht)
    rw [show pTake s.size t (all.drop k) = .ok () (all.drop (k + 1)) by simp [pTake, he]]
    have HE := Lib.hid he
    have H := Lib.hid h
    clear he h ht
    go_enter Tryz.func80, Tryz.ntmps80
    go_wp2_with (go_at_call 79; refine (peekP H.out 0 (by omega)).mono ?_; simp only [Nat.add_zero]; rw [HE.out]; rintro e w1 ⟨rfl, n, rfl⟩)
    go_end0
    exact ⟨_, k + 1, rfl, rfl, (H.out.drewN n).next1 hk, rfl, by omega, Only.set (only_drewN (Only.refl g w) n) 3 _⟩
  · rw [show pTake s.size t (all.drop k) = .bad (ps s.size (all.drop k)) by simp [pTake, he]]
    obtain ⟨x, hx⟩ : ∃ x, hd (all.drop k) = x := ⟨_, rfl⟩
    have hq : (x == t) = false := by rw [← hx]; simpa using he
    have hq2 : ¬ x = t := by rw [← hx]; exact he
    have HX := Lib.hid hx
    have H := Lib.hid h
    clear he hx h ht
    go_enter Tryz.func80, Tryz.ntmps80
    go_wp2_with (first | (go_at_call 79; refine (peekP H.out 0 (by omega)).mono ?_; simp only [Nat.add_zero]; rw [HX.out]; rintro e w1 ⟨rfl, n, rfl⟩; have HD := Lib.hid (H.out.drewN n)) | (go_at_call 82; refine (failP HD.out).mono ?_; rintro e w2 ⟨rfl, hb2⟩))
    exact panic_end rfl ⟨rfl, (only_drewN (Only.refl g w) _).trans (Only.of_below hb2)⟩
theorem Pst.bad_of {α : Type} {V : α → World → Value → Prop} {p : Nat} {w' : World} (h : Only g w w') : Pst g a s A cap all k w V (.bad p) (.panicked (stopC p)) w' := ⟨rfl, h⟩
theorem atoiN_bounds (l : List UInt8) (h : atoiB l = true) : -9223372036854775808 ≤ atoiN l ∧ atoiN l ≤ 9223372036854775807 := by
  unfold atoiB at h
  unfold atoiN
  rcases e : Lib.atoiAll l with v | _ | _
  · simp only
    unfold Lib.atoiAll at e
    split at e
    · cases e
    · simp only at e
      split at e
      · cases e
      · cases e
      · split at e
        · cases e
        · split at e
          · cases e
          · injection e with e
            subst e
            split <;> omega
  · rw [e] at h; cases h
  · rw [e] at h; cases h
end
end Go.Proofs.YtmlnibjnacfanaaGreatDoor
