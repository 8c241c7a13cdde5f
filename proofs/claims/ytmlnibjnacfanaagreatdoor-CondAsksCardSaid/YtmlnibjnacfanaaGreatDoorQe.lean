/- Layer 8: the walk of CondAsks: what is known throughout; the condition that is not small. Layer 8: the walk of CondAsks for a condition that is small. -/
import Derived.Test.YtmlnibjnacfanaaGreatDoorQc
import Derived.Test.YtmlnibjnacfanaaGreatDoorQb
import Derived.Test.YtmlnibjnacfanaaGreatDoorJu
import Derived.Deep.DeepCutAuto
import Derived.WalkSpells
import Derived.Deep.CutBlock
namespace Go.Proofs.YtmlnibjnacfanaaGreatDoor
open Go.RowKit

/-- What lies in memory from the beginning on. -/
structure AskA (w W : World) (q k t r : Int) (l : List UInt8) (v : Int) (kids : Fr) (A : Option Addr) (cap : Nat) (Ai : Option Addr) (st : List Int) : Prop where
  below : Below w.heap.size w W
  sl : SlAt W w.heap.size (.slice A kids.len cap) kids
  ints : IntsAt W Ai st
  env : Env W
  box : Blk W w.heap.size 28 #[.int .i64 q, .int .i64 k, .int .i64 t, .int .i64 r, .string ⟨l.toArray⟩, .int .i64 v, .slice A kids.len cap]
section
variable {w W W' : World} {q k t r : Int} {l : List UInt8} {v : Int} {kids : Fr} {A : Option Addr} {cap : Nat} {Ai : Option Addr} {st : List Int}
theorem AskA.go (h : AskA w W q k t r l v kids A cap Ai st) (hb : Below W.heap.size W W') : AskA w W' q k t r l v kids A cap Ai st :=
  ⟨below_trans h.below hb, h.sl.below h.below.size hb, h.ints.below hb, h.env.mono hb, h.box.go hb⟩
theorem AskA.new (hs : SlAt w w.heap.size (.slice A kids.len cap) kids) (hst : IntsAt w Ai st) (hE : Env w) : AskA w (w.alloc (.cells #[.int .i64 q, .int .i64 k, .int .i64 t, .int .i64 r, .string ⟨l.toArray⟩, .int .i64 v, .slice A kids.len cap] 28 (0, 0))) q k t r l v kids A cap Ai st :=
  ⟨alloc_b w _, hs.below (Nat.le_refl _) (alloc_b w _), hst.below (alloc_b w _), hE.mono (alloc_b w _), Blk.new w _ _⟩
theorem AskA.slW (h : AskA w W q k t r l v kids A cap Ai st) : SlAt W W.heap.size (.slice A kids.len cap) kids := h.sl.up h.below.size
end
set_option maxHeartbeats 4000000 in
set_option maxRecDepth 100000 in
theorem asksW_big (q k t r : Int) (l : List UInt8) (v : Int) (kids : Fr) (A : Option Addr) (cap : Nat) (Ai : Option Addr) (cai : Nat) (st : List Int) (w : World) (hl : l.length ≤ 9223372036854775807) (hs : SlAt w w.heap.size (.slice A kids.len cap) kids) (hst : IntsV w (.slice Ai st.length cai) st) (hE : Env w) (hsm : smallB kids = false) :
    Calls Tryz.prog 5 #[condV q k t r l v (.slice A kids.len cap), .slice Ai st.length cai] w fun e w' => e = .returned (.bool true) ∧ Below w.heap.size w w' := by
  obtain ⟨A', cap', e', hst1, _, _, _, hst2⟩ := hst
  simp only [Value.slice.injEq, true_and] at e'
  obtain ⟨rfl, rfl⟩ := e'
  have hst3 : st.length ≤ 9223372036854775806 := by omega
  have HQ := Lib.hid (AskA.new (q := q) (k := k) (t := t) (r := r) (l := l) (v := v) hs hst1 hE)
  have HSM := Lib.hid hsm
  have hck : checkC 2 q k t r l v kids ≠ 0 := few_check (by unfold smallB at hsm; cases h : fewN kids 1024 64 with
    | none => rfl
    | some m => rw [h] at hsm; cases hsm)
  obtain ⟨E, hEE⟩ : ∃ E, checkC 2 q k t r l v kids = E := ⟨_, rfl⟩
  have HT0 := Lib.hid (show topT q k t r l v kids = [] by unfold topT; rw [if_neg hck])
  have HEV := Lib.hid (show evalU q k t r l v kids st = (false, E) by unfold evalU; rw [if_neg hck, hEE])
  have HCK := Lib.hid hEE
  clear hs hst1 hE hsm hck hEE
  have c0 := HQ.out.box.cell 0
  have c1 := HQ.out.box.cell 1
  have c2 := HQ.out.box.cell 2
  have c3 := HQ.out.box.cell 3
  have c4 := HQ.out.box.cell 4
  have c5 := HQ.out.box.cell 5
  have c6 := HQ.out.box.cell 6
  go_enter Tryz.func5, Tryz.ntmps5
  go_wp2_with fail
  refine (smallR q k t r l v _ kids _ HQ.out.slW).mono ?_
  rw [HSM.out]
  rintro e w1 ⟨rfl, hbx⟩
  have HQ := Lib.hid (HQ.out.go hbx)
  clear hbx c0 c1 c2 c3 c4 c5 c6
  have c0 := HQ.out.box.cell 0
  have c1 := HQ.out.box.cell 1
  have c2 := HQ.out.box.cell 2
  have c3 := HQ.out.box.cell 3
  have c4 := HQ.out.box.cell 4
  have c5 := HQ.out.box.cell 5
  have c6 := HQ.out.box.cell 6
  go_wp2_with fail
  refine (topG _ _ (Nat.le_refl _) HQ.out.slW hl).mono ?_
  rw [HT0.out, HCK.out]
  rintro e w2 ⟨u1, rfl, hown, hbx⟩
  obtain ⟨Au1, cu1, rfl⟩ := own_shp hown
  clear hown
  have HQ := Lib.hid (HQ.out.go hbx)
  clear hbx c0 c1 c2 c3 c4 c5 c6
  have c0 := HQ.out.box.cell 0
  have c1 := HQ.out.box.cell 1
  have c2 := HQ.out.box.cell 2
  have c3 := HQ.out.box.cell 3
  have c4 := HQ.out.box.cell 4
  have c5 := HQ.out.box.cell 5
  have c6 := HQ.out.box.cell 6
  go_wp2_with fail
  refine (evalG _ _ st _ _ (Nat.le_refl _) HQ.out.slW hl hst3 HQ.out.ints).mono ?_
  rw [HEV.out]
  rintro e w3 ⟨rfl, hbx⟩
  have HQ := Lib.hid (HQ.out.go hbx)
  clear hbx c0 c1 c2 c3 c4 c5 c6
  have c0 := HQ.out.box.cell 0
  have c1 := HQ.out.box.cell 1
  have c2 := HQ.out.box.cell 2
  have c3 := HQ.out.box.cell 3
  have c4 := HQ.out.box.cell 4
  have c5 := HQ.out.box.cell 5
  have c6 := HQ.out.box.cell 6
  go_wp2_with fail
  refine (checkR 2 q k t r l v _ kids _ hl HQ.out.slW).mono ?_
  rw [HCK.out]
  rintro e w4 ⟨rfl, hbx⟩
  have HQ := Lib.hid (HQ.out.go hbx)
  clear hbx c0 c1 c2 c3 c4 c5 c6
  have c0 := HQ.out.box.cell 0
  have c1 := HQ.out.box.cell 1
  have c2 := HQ.out.box.cell 2
  have c3 := HQ.out.box.cell 3
  have c4 := HQ.out.box.cell 4
  have c5 := HQ.out.box.cell 5
  have c6 := HQ.out.box.cell 6
  go_wp2_with (go_at_call 16; refine (awakeP HQ.out.env).mono ?_; rintro e wz ⟨rfl, hbz⟩)
  go_ret
  exact ⟨rfl, below_trans HQ.out.below hbz⟩

/-- What lies in memory once the twin is made. -/
structure AskB (W : World) (q k t r : Int) (l : List UInt8) (v : Int) (kids : Fr) (A3 : Option Addr) (cp3 bt : Nat) : Prop where
  sl : SlAt W W.heap.size (.slice A3 kids.len cp3) kids
  box : Blk W bt 28 #[.int .i64 q, .int .i64 k, .int .i64 t, .int .i64 r, .string ⟨l.toArray⟩, .int .i64 v, .slice A3 kids.len cp3]
section
variable {W W' : World} {q k t r : Int} {l : List UInt8} {v : Int} {kids : Fr} {A3 : Option Addr} {cp3 bt : Nat}
theorem AskB.go (h : AskB W q k t r l v kids A3 cp3 bt) (hb : Below W.heap.size W W') : AskB W' q k t r l v kids A3 cp3 bt :=
  ⟨(h.sl.below (Nat.le_refl _) hb).up hb.size, h.box.go hb⟩
theorem put7_cells {W : World} {b : Nat} (u0 u1 u2 u3 u4 u5 u6 : Value) : (((((((W.setCell ⟨b, 0, none⟩ u0).setCell ⟨b, 1, none⟩ u1).setCell ⟨b, 2, none⟩ u2).setCell ⟨b, 3, none⟩ u3).setCell ⟨b, 4, none⟩ u4).setCell ⟨b, 5, none⟩ u5).setCell ⟨b, 6, none⟩ u6).heap.size = W.heap.size := by simp
end
theorem topT_len {q k t r : Int} {l : List UInt8} {v : Int} {kids : Fr} : (topT q k t r l v kids).length ≤ 1024 := by
  unfold topT
  split
  · rename_i h
    have := (cond_ok h).2.2.2.2
    exact Nat.le_trans (thsU_len _) this
  · simp
theorem own_ths7 {w : World} {B n c : Nat} {A : Option Addr} {T : List Th} (h : w.ownsRow B 23 3 (.slice A n c) T.length (thCells T)) : ThsB w A T := by
  obtain ⟨A', cap, e, h⟩ := own_thsB h
  simp only [Value.slice.injEq] at e
  obtain ⟨rfl, _, rfl⟩ := e
  exact h
theorem ThsB.keep {w w' : World} {A : Option Addr} {T : List Th} (h : ThsB w A T) (hk : ∀ p, A = some p → p.block < w.heap.size → w'.heap[p.block]? = w.heap[p.block]?) : ThsB w' A T := fun i x hx => by
  obtain ⟨b, o, e, c0, c1, c2⟩ := h i x hx
  have hb := World.block_lt_of_cell? w _ c0
  have hh := hk _ e hb
  exact ⟨b, o, e, (heap_cell hh _).trans c0, (heap_cell hh _).trans c1, (heap_cell hh _).trans c2⟩
theorem app_oneW {P : Program} {ops : Array Oper} {rest : List Oper} {o : Oper} {a : Act} {Q : Exit → Act → World → Prop} (W : World)
    (hg : o.guard = none) (s x : Operand) (T E : TypeId) (hop : o.op = Op.call { callee := Callee.builtin Builtin.append, args := #[s, x], argTypes := #[T, T] })
    (z : Value) (size bytes : Nat) (h1 : P.underlying T = some (.slice E)) (hinfo : (P.info? E).map (fun i => (i.zero, i.size, i.bytes)) = some (some z, size, bytes)) (h6 : z.cells.size = size) (h7 : 0 < size)
    (news : List Value) (hn : news.length = size) (hone : ∀ u ∈ news, u.oneCell' = true) (B n : Nat) (xs : List Value) (v : Value) (hs : a.eval s = v) (hx : a.eval x = .slice (some ⟨W.heap.size, 0, none⟩) 1 1)
    (hown : W.ownsRow B E size v n xs) (b1 : n + 1 ≤ 1152921504606846976) (b2 : (n + 1) * bytes ≤ 140737488355328) (hB : B ≤ W.heap.size)
    (hK : ∀ v' w1, w1.ownsRow B E size v' (n + 1) (xs ++ news) → Grew W w1 B v → (∀ b, v'.ownBlock = some b → v.ownBlock = some b ∨ W.heap.size ≤ b) → wpList P ops Q rest (a.put o.dst v') w1) :
    wpList P ops Q (o :: rest) a (W.alloc (.cells news.toArray E (0, 0))) :=
  wpList_plain hg fun _ hK' => app_wp2 W _ s x T E hop z size bytes h1 hinfo h6 h7 news hn hone B n xs v hs hx (alloc_b _ _) (fun j u hj => by rw [cell_new]; simpa using hj) hown b1 b2 hB fun v' w1 a1 a2 a3 => hK' _ _ (hK v' w1 a1 a2 a3)
section
set_option maxHeartbeats 8000000 in
set_option maxRecDepth 100000 in
theorem asksW_small (q k t r : Int) (l : List UInt8) (v : Int) (kids : Fr) (A : Option Addr) (cap : Nat) (Ai : Option Addr) (cai : Nat) (st : List Int) (w : World) (hl : l.length ≤ 9223372036854775807) (hs : SlAt w w.heap.size (.slice A kids.len cap) kids) (hst : IntsV w (.slice Ai st.length cai) st) (hE : Env w) (hsm : smallB kids = true) :
    Calls Tryz.prog 5 #[condV q k t r l v (.slice A kids.len cap), .slice Ai st.length cai] w fun e w' => e = .returned (.bool true) ∧ Below w.heap.size w w' := by
  have HST := Lib.hid hst
  obtain ⟨A', cap', e', hst1, _, _, _, hst2⟩ := hst
  simp only [Value.slice.injEq, true_and] at e'
  obtain ⟨rfl, rfl⟩ := e'
  have hst3 : st.length ≤ 9223372036854775806 := by omega
  have hst4 : st.length ≤ 17592186043904 := by omega
  have HQ := Lib.hid (AskA.new (q := q) (k := k) (t := t) (r := r) (l := l) (v := v) hs hst1 hE)
  have HSM := Lib.hid hsm
  obtain ⟨hk1, hk2⟩ : kids.len ≤ 1024 ∧ smallF kids 70 := by
    unfold smallB at hsm
    cases h : fewN kids 1024 64 with
    | none => rw [h] at hsm; cases hsm
    | some m => exact few_root h
  have HTW := Lib.hid (fun (W : World) (h : w.heap.size ≤ W.heap.size) (hs : SlAt W w.heap.size (.slice A kids.len cap) kids) => twinR W w.heap.size k t r v l (.slice A kids.len cap) 70 70 rfl h (Nat.le_refl _) hk1 hk2 hs)
  obtain ⟨E, hEE⟩ : ∃ E, checkC 2 q k t r l v kids = E := ⟨_, rfl⟩
  obtain ⟨T, hTT⟩ : ∃ T, topT q k t r l v kids = T := ⟨_, rfl⟩
  obtain ⟨⟨bo, er⟩, hev⟩ : ∃ x, evalU q k t r l v kids st = x := ⟨_, rfl⟩
  have hTl : T.length ≤ 1024 := by rw [← hTT]; exact topT_len
  have HT0 := Lib.hid hTT
  have HE0 := Lib.hid hE
  have hTl6 : T.length ≤ 9223372036854775806 := by omega
  have HEV := Lib.hid hev
  have HCK := Lib.hid hEE
  clear hs hst1 hE hsm hEE hTT hev hk2
  have c0 := HQ.out.box.cell 0
  have c1 := HQ.out.box.cell 1
  have c2 := HQ.out.box.cell 2
  have c3 := HQ.out.box.cell 3
  have c4 := HQ.out.box.cell 4
  have c5 := HQ.out.box.cell 5
  have c6 := HQ.out.box.cell 6
  go_enter Tryz.func5, Tryz.ntmps5
  go_wp2_with fail
  refine (smallR q k t r l v _ kids _ HQ.out.slW).mono ?_
  rw [HSM.out]
  rintro e w1 ⟨rfl, hbx⟩
  have HQ := Lib.hid (HQ.out.go hbx)
  clear hbx c0 c1 c2 c3 c4 c5 c6
  have c0 := HQ.out.box.cell 0
  have c1 := HQ.out.box.cell 1
  have c2 := HQ.out.box.cell 2
  have c3 := HQ.out.box.cell 3
  have c4 := HQ.out.box.cell 4
  have c5 := HQ.out.box.cell 5
  have c6 := HQ.out.box.cell 6
  go_upto_region 6 with fail
  go_cut [10] from 60 to 65 (fun s10 wx => ∃ (bt cp3 : Nat) (A3 : Option Addr), s10 = .pointer (some ⟨bt, 0, none⟩) ∧ AskA w wx q k t r l v kids A cap Ai st ∧ AskB wx q k t r l v kids A3 cp3 bt)
  case first =>
    have SS : Hid (∀ y, Below w1.heap.size w1 y → (fun y : World => y.cell? ⟨w.heap.size, 0, none⟩ = some (.int .i64 q) ∧ y.cell? ⟨w.heap.size, 1, none⟩ = some (.int .i64 k) ∧ y.cell? ⟨w.heap.size, 2, none⟩ = some (.int .i64 t) ∧ y.cell? ⟨w.heap.size, 3, none⟩ = some (.int .i64 r) ∧ y.cell? ⟨w.heap.size, 4, none⟩ = some (.string ⟨l.toArray⟩) ∧ y.cell? ⟨w.heap.size, 5, none⟩ = some (.int .i64 v) ∧ y.cell? ⟨w.heap.size, 6, none⟩ = some (.slice A kids.len cap)) y) := Lib.hid (fun y hy => ⟨(HQ.out.go hy).box.cell 0, (HQ.out.go hy).box.cell 1, (HQ.out.go hy).box.cell 2, (HQ.out.go hy).box.cell 3, (HQ.out.go hy).box.cell 4, (HQ.out.go hy).box.cell 5, (HQ.out.go hy).box.cell 6⟩)
    refine wp_region_held_drew (S := (fun y : World => y.cell? ⟨w.heap.size, 0, none⟩ = some (.int .i64 q) ∧ y.cell? ⟨w.heap.size, 1, none⟩ = some (.int .i64 k) ∧ y.cell? ⟨w.heap.size, 2, none⟩ = some (.int .i64 t) ∧ y.cell? ⟨w.heap.size, 3, none⟩ = some (.int .i64 r) ∧ y.cell? ⟨w.heap.size, 4, none⟩ = some (.string ⟨l.toArray⟩) ∧ y.cell? ⟨w.heap.size, 5, none⟩ = some (.int .i64 v) ∧ y.cell? ⟨w.heap.size, 6, none⟩ = some (.slice A kids.len cap))) (by kernel_rfl) (SS.out _ (below_of_drew2 w1)) (fun hHeld => ?_)
    refine wpAnyH_take (i := 0) (v := ?_) rfl (by kernel_rfl) (by kernel_rfl) (by kernel_rfl) (fun _ _ _ h => h) (Or.inl ⟨by kernel_rfl, ?_⟩) (by assumption) ?_
    rotate_left
    · intro x' hSx
      try dsimp only at hSx
      go_simp
      try with_reducible rfl
    try simp only [Act.put, List.setIfInBounds_toArray]
    refine wpAnyH_take (i := 1) (v := ?_) rfl (by kernel_rfl) (by kernel_rfl) (by kernel_rfl) (fun _ _ _ h => h) (Or.inl ⟨by kernel_rfl, ?_⟩) (by assumption) ?_
    rotate_left
    · intro x' hSx
      try dsimp only at hSx
      go_simp
      try with_reducible rfl
    try simp only [Act.put]
    refine wpAnyH_take (i := 2) (v := ?_) rfl (by kernel_rfl) (by kernel_rfl) (by kernel_rfl) (fun _ _ _ h => h) (Or.inl ⟨by kernel_rfl, ?_⟩) (by assumption) ?_
    rotate_left
    · intro x' hSx
      try dsimp only at hSx
      go_simp
      try with_reducible rfl
    try simp only [Act.put]
    refine wpAnyH_take (i := 3) (v := ?_) rfl (by kernel_rfl) (by kernel_rfl) (by kernel_rfl) (fun _ _ _ h => h) (Or.inl ⟨by kernel_rfl, ?_⟩) (by assumption) ?_
    rotate_left
    · intro x' hSx
      try dsimp only at hSx
      go_simp
      try with_reducible rfl
    try simp only [Act.put]
    refine wpAnyH_ready (rs := [4, 6]) (by kernel_rfl) (by simp) ?_
    refine AllReadyH.cons rfl (fun K hK => ?_) (AllReadyH.cons rfl (fun K hK => ?_) (AllReadyH.nil))
    · go_simp
      go_at_call 24
      refine (HTW.out w1.drew (HQ.out.below.size) (HQ.out.sl.below HQ.out.below.size (Below.refl w1.heap.size w1).drew)).mono ?_
      rintro e x2 ⟨kv2, rfl, hsx, hbx⟩
      obtain ⟨A3, cp3, rfl⟩ : ∃ A3 cp3, kv2 = .slice A3 kids.len cp3 := by obtain ⟨A, cap, e, _⟩ := hsx; exact ⟨A, cap, e⟩
      have HSX := Lib.hid hsx
      have HBX := Lib.hid (show Below w1.heap.size w1 x2 from below_of_drew hbx)
      have hz2 := HBX.out.size
      clear hsx hbx
      
      refine hK.out _ _ (SS.out _ HBX.out) (fun _ => ?_)
      clear hK K
      try simp only [Act.put, List.setIfInBounds_toArray, List.set_cons_zero, List.set_cons_succ]
      refine wpAnyH_take (i := 5) (v := ?_) rfl (by kernel_rfl) (by kernel_rfl) (by kernel_rfl) (fun _ _ _ h => h) (Or.inl ⟨by kernel_rfl, ?_⟩) (by assumption) ?_
      rotate_left
      · intro x' hSx
        try dsimp only at hSx
        go_simp
        try with_reducible rfl
      try simp only [Act.put, List.setIfInBounds_toArray]
      refine wpAnyH_ready (rs := [6]) (by kernel_rfl) (by simp) ?_
      refine AllReadyH.cons rfl (fun K hK => ?_) AllReadyH.nil
      go_simp
      refine hK.out _ _ (SS.out _ (HBX.out.trans ((alloc_b x2 _).mono HBX.out.size))) (fun _ => ?_)
      clear hK K
      try simp only [Act.put, List.setIfInBounds_toArray, List.set_cons_zero, List.set_cons_succ]
      refine wpAnyH_ready (rs := [7]) (by kernel_rfl) (by simp) ?_
      refine AllReadyH.cons rfl (fun K hK => ?_) AllReadyH.nil
      go_simp
      refine hK.out _ _ (SS.out _ (HBX.out.trans ((alloc_b x2 _).mono HBX.out.size))) (fun _ => ?_)
      clear hK K
      try simp only [Act.put, List.setIfInBounds_toArray, List.set_cons_zero, List.set_cons_succ]
      refine wpAnyH_done (by kernel_rfl) ?_ _
      go_wp2
      go_meet
      exact ⟨_, cp3, A3, rfl, HQ.out.go (HBX.out.trans ((alloc_b x2 _).mono HBX.out.size)), ⟨((HSX.out.sl (hi := x2.heap.size) (fun b h => h.2)).below (Nat.le_refl _) (alloc_b x2 _)).up (by simp), Blk.new x2 _ _⟩⟩
    · go_simp
      refine hK.out _ _ (SS.out _ ((alloc_b w1 _).drew)) (fun _ => ?_)
      clear hK K
      try simp only [Act.put, List.setIfInBounds_toArray, List.set_cons_zero, List.set_cons_succ]
      refine wpAnyH_ready (rs := [4]) (by kernel_rfl) (by simp) ?_
      refine AllReadyH.cons rfl (fun K hK => ?_) AllReadyH.nil
      go_simp
      go_at_call 24
      refine (HTW.out ((w1.alloc (.cells #[.int .i64 0, .int .i64 0, .int .i64 0, .int .i64 0, .string ⟨#[]⟩, .int .i64 0, .slice none 0 0] 28 (0, 0))).drew) (by have := HQ.out.below.size; simp; omega) (HQ.out.sl.below HQ.out.below.size ((alloc_b w1 _).drew))).mono ?_
      rintro e x2 ⟨kv2, rfl, hsx, hbx⟩
      obtain ⟨A3, cp3, rfl⟩ : ∃ A3 cp3, kv2 = .slice A3 kids.len cp3 := by obtain ⟨A, cap, e, _⟩ := hsx; exact ⟨A, cap, e⟩
      have HSX := Lib.hid hsx
      have HBX := Lib.hid (show Below w1.heap.size w1 x2 from ((alloc_b w1 _).drew).trans (hbx.mono (by simp)))
      have hz2 := HBX.out.size
      have HZC : Blk x2 w1.heap.size 28 #[.int .i64 0, .int .i64 0, .int .i64 0, .int .i64 0, .string ⟨#[]⟩, .int .i64 0, .slice none 0 0] := (show Blk ((w1.alloc (.cells #[.int .i64 0, .int .i64 0, .int .i64 0, .int .i64 0, .string ⟨#[]⟩, .int .i64 0, .slice none 0 0] 28 (0, 0))).drew) w1.heap.size 28 #[.int .i64 0, .int .i64 0, .int .i64 0, .int .i64 0, .string ⟨#[]⟩, .int .i64 0, .slice none 0 0] from Blk.new w1 _ _).go hbx
      clear hsx hbx
      refine hK.out _ _ (SS.out _ HBX.out) (fun _ => ?_)
      clear hK K
      try simp only [Act.put, List.setIfInBounds_toArray, List.set_cons_zero, List.set_cons_succ]
      refine wpAnyH_take (i := 5) (v := ?_) rfl (by kernel_rfl) (by kernel_rfl) (by kernel_rfl) (fun _ _ _ h => h) (Or.inl ⟨by kernel_rfl, ?_⟩) (by assumption) ?_
      rotate_left
      · intro x' hSx
        try dsimp only at hSx
        go_simp
        try with_reducible rfl
      try simp only [Act.put, List.setIfInBounds_toArray]
      have z0 : x2.cell? ⟨w1.heap.size, 0, none⟩ = some (.int .i64 0) := HZC.cell 0
      have y0 : x2.frozen? ⟨w1.heap.size, 0, none⟩ = false := HZC.frozen 0
      have z1 : x2.cell? ⟨w1.heap.size, 1, none⟩ = some (.int .i64 0) := HZC.cell 1
      have y1 : x2.frozen? ⟨w1.heap.size, 1, none⟩ = false := HZC.frozen 1
      have z2 : x2.cell? ⟨w1.heap.size, 2, none⟩ = some (.int .i64 0) := HZC.cell 2
      have y2 : x2.frozen? ⟨w1.heap.size, 2, none⟩ = false := HZC.frozen 2
      have z3 : x2.cell? ⟨w1.heap.size, 3, none⟩ = some (.int .i64 0) := HZC.cell 3
      have y3 : x2.frozen? ⟨w1.heap.size, 3, none⟩ = false := HZC.frozen 3
      have z4 : x2.cell? ⟨w1.heap.size, 4, none⟩ = some (.string ⟨#[]⟩) := HZC.cell 4
      have y4 : x2.frozen? ⟨w1.heap.size, 4, none⟩ = false := HZC.frozen 4
      have z5 : x2.cell? ⟨w1.heap.size, 5, none⟩ = some (.int .i64 0) := HZC.cell 5
      have y5 : x2.frozen? ⟨w1.heap.size, 5, none⟩ = false := HZC.frozen 5
      have z6 : x2.cell? ⟨w1.heap.size, 6, none⟩ = some (.slice none 0 0) := HZC.cell 6
      have y6 : x2.frozen? ⟨w1.heap.size, 6, none⟩ = false := HZC.frozen 6
      refine wpAnyH_ready (rs := [7]) (by kernel_rfl) (by simp) ?_
      refine AllReadyH.cons rfl (fun K hK => ?_) AllReadyH.nil
      go_simp
      refine hK.out _ _ (SS.out _ (below_put7 HBX.out (Nat.le_refl _) _ _ _ _ _ _ _)) (fun _ => ?_)
      clear hK K
      try simp only [Act.put, List.setIfInBounds_toArray, List.set_cons_zero, List.set_cons_succ]
      refine wpAnyH_done (by kernel_rfl) ?_ _
      go_wp2
      go_meet
      have hbq := below_put7 HBX.out (Nat.le_refl _) (.int .i64 q) (.int .i64 k) (.int .i64 t) (.int .i64 r) (.string ⟨l.toArray⟩) (.int .i64 v) (.slice A3 kids.len cp3)
      exact ⟨_, cp3, A3, rfl, HQ.out.go hbq, ⟨(HSX.out.keep (fun b h => heap_put7 (by have := h.1; simp at this; omega) _ _ _ _ _ _ _)).sl (fun b h => by rw [put7_cells]; exact h.2), blk_put7 HZC rfl _ _ _ _ _ _ _⟩⟩
  case rest =>
    obtain ⟨bt, cp3, A3, rfl, hqa, hqb⟩ := hcut
    have HQ := Lib.hid hqa
    have HB := Lib.hid hqb
    clear hqa hqb c0 c1 c2 c3 c4 c5 c6
    have c0 := HQ.out.box.cell 0
    have c1 := HQ.out.box.cell 1
    have c2 := HQ.out.box.cell 2
    have c3 := HQ.out.box.cell 3
    have c4 := HQ.out.box.cell 4
    have c5 := HQ.out.box.cell 5
    have c6 := HQ.out.box.cell 6
    have d0 := HB.out.box.cell 0
    have d1 := HB.out.box.cell 1
    have d2 := HB.out.box.cell 2
    have d3 := HB.out.box.cell 3
    have d4 := HB.out.box.cell 4
    have d5 := HB.out.box.cell 5
    have d6 := HB.out.box.cell 6
    go_wp2_with fail
    refine (lentR _ st _ (HST.out.below HQ.out.below)).mono ?_
    rintro e w5 ⟨g5, c5', rfl, hg5, hL, hbx⟩
    have HL := Lib.hid hL
    clear hL
    have HQ := Lib.hid (HQ.out.go hbx)
    have HB := Lib.hid (HB.out.go hbx)
    clear hbx c0 c1 c2 c3 c4 c5 c6 d0 d1 d2 d3 d4 d5 d6
    have c0 := HQ.out.box.cell 0
    have c1 := HQ.out.box.cell 1
    have c2 := HQ.out.box.cell 2
    have c3 := HQ.out.box.cell 3
    have c4 := HQ.out.box.cell 4
    have c5 := HQ.out.box.cell 5
    have c6 := HQ.out.box.cell 6
    have d0 := HB.out.box.cell 0
    have d1 := HB.out.box.cell 1
    have d2 := HB.out.box.cell 2
    have d3 := HB.out.box.cell 3
    have d4 := HB.out.box.cell 4
    have d5 := HB.out.box.cell 5
    have d6 := HB.out.box.cell 6
    have hz5 := HQ.out.below.size
    go_wp2_with fail
    refine (topG _ _ (Nat.le_refl _) HB.out.sl hl).mono ?_
    rw [HT0.out, HCK.out]
    rintro e w6 ⟨u1, rfl, hown1, hbx⟩
    obtain ⟨A1, cu1, rfl⟩ := own_shp hown1
    have HO1 := Lib.hid (show w6.ownsRow w5.heap.size 23 3 (.slice A1 T.length cu1) T.length (thCells T) from hown1)
    have HLT := Lib.hid (fun b (hb : (Value.slice A1 T.length cu1).ownBlock = some b) => hown1.lt b hb)
    have hz6 := hbx.size
    clear hown1
    have HQ := Lib.hid (HQ.out.go hbx)
    have HB := Lib.hid (HB.out.go hbx)
    have HL := Lib.hid (HL.out.below hbx)
    clear hbx c0 c1 c2 c3 c4 c5 c6 d0 d1 d2 d3 d4 d5 d6
    have c0 := HQ.out.box.cell 0
    have c1 := HQ.out.box.cell 1
    have c2 := HQ.out.box.cell 2
    have c3 := HQ.out.box.cell 3
    have c4 := HQ.out.box.cell 4
    have c5 := HQ.out.box.cell 5
    have c6 := HQ.out.box.cell 6
    have d0 := HB.out.box.cell 0
    have d1 := HB.out.box.cell 1
    have d2 := HB.out.box.cell 2
    have d3 := HB.out.box.cell 3
    have d4 := HB.out.box.cell 4
    have d5 := HB.out.box.cell 5
    have d6 := HB.out.box.cell 6
    go_wp2_with fail
    refine (topG _ _ (Nat.le_refl _) HB.out.sl hl).mono ?_
    rw [HT0.out, HCK.out]
    rintro e w7 ⟨u2, rfl, hown2, hbx⟩
    obtain ⟨A2, cu2, rfl⟩ := own_shp hown2
    have HO2 := Lib.hid (show w7.ownsRow w6.heap.size 23 3 (.slice A2 T.length cu2) T.length (thCells T) from hown2)
    have hz7 := hbx.size
    clear hown2
    have HQ := Lib.hid (HQ.out.go hbx)
    have HB := Lib.hid (HB.out.go hbx)
    have HL := Lib.hid (HL.out.below hbx)
    have HO1 := Lib.hid (own_below HO1.out hbx)
    clear hbx c0 c1 c2 c3 c4 c5 c6 d0 d1 d2 d3 d4 d5 d6
    have c0 := HQ.out.box.cell 0
    have c1 := HQ.out.box.cell 1
    have c2 := HQ.out.box.cell 2
    have c3 := HQ.out.box.cell 3
    have c4 := HQ.out.box.cell 4
    have c5 := HQ.out.box.cell 5
    have c6 := HQ.out.box.cell 6
    have d0 := HB.out.box.cell 0
    have d1 := HB.out.box.cell 1
    have d2 := HB.out.box.cell 2
    have d3 := HB.out.box.cell 3
    have d4 := HB.out.box.cell 4
    have d5 := HB.out.box.cell 5
    have d6 := HB.out.box.cell 6
    go_wp2_with fail
    refine (evalG _ _ st _ _ (Nat.le_refl _) HB.out.sl hl hst3 HL.out.ints).mono ?_
    rw [HEV.out]
    rintro e w8 ⟨rfl, hbx⟩
    have hz8 := hbx.size
    have HQ := Lib.hid (HQ.out.go hbx)
    have HB := Lib.hid (HB.out.go hbx)
    have HL := Lib.hid (HL.out.below hbx)
    have HO1 := Lib.hid (own_below HO1.out hbx)
    have HO2 := Lib.hid (own_below HO2.out hbx)
    clear hbx c0 c1 c2 c3 c4 c5 c6 d0 d1 d2 d3 d4 d5 d6
    have c0 := HQ.out.box.cell 0
    have c1 := HQ.out.box.cell 1
    have c2 := HQ.out.box.cell 2
    have c3 := HQ.out.box.cell 3
    have c4 := HQ.out.box.cell 4
    have c5 := HQ.out.box.cell 5
    have c6 := HQ.out.box.cell 6
    have d0 := HB.out.box.cell 0
    have d1 := HB.out.box.cell 1
    have d2 := HB.out.box.cell 2
    have d3 := HB.out.box.cell 3
    have d4 := HB.out.box.cell 4
    have d5 := HB.out.box.cell 5
    have d6 := HB.out.box.cell 6
    go_wp2_with fail
    refine (topR _ _ (Nat.le_refl _) HQ.out.slW hl).mono ?_
    rw [HT0.out, HCK.out]
    rintro e w9 ⟨A9, c9, rfl, hw, hbx⟩
    have HW := Lib.hid hw
    have hz9 := hbx.size
    clear hw
    have HQ := Lib.hid (HQ.out.go hbx)
    have HB := Lib.hid (HB.out.go hbx)
    have HL := Lib.hid (HL.out.below hbx)
    have HO1 := Lib.hid (own_below HO1.out hbx)
    have HO2 := Lib.hid (own_below HO2.out hbx)
    clear hbx c0 c1 c2 c3 c4 c5 c6 d0 d1 d2 d3 d4 d5 d6
    have c0 := HQ.out.box.cell 0
    have c1 := HQ.out.box.cell 1
    have c2 := HQ.out.box.cell 2
    have c3 := HQ.out.box.cell 3
    have c4 := HQ.out.box.cell 4
    have c5 := HQ.out.box.cell 5
    have c6 := HQ.out.box.cell 6
    have d0 := HB.out.box.cell 0
    have d1 := HB.out.box.cell 1
    have d2 := HB.out.box.cell 2
    have d3 := HB.out.box.cell 3
    have d4 := HB.out.box.cell 4
    have d5 := HB.out.box.cell 5
    have d6 := HB.out.box.cell 6
    go_wp2_with fail
    refine (evalR _ _ st _ _ (Nat.le_refl _) HQ.out.slW hl hst3 HQ.out.ints).mono ?_
    rw [HEV.out]
    rintro e w10 ⟨rfl, hbx⟩
    have hz10 := hbx.size
    have HQ := Lib.hid (HQ.out.go hbx)
    have HB := Lib.hid (HB.out.go hbx)
    have HL := Lib.hid (HL.out.below hbx)
    have HO1 := Lib.hid (own_below HO1.out hbx)
    have HO2 := Lib.hid (own_below HO2.out hbx)
    have HW := Lib.hid (HW.out.below hbx)
    clear hbx c0 c1 c2 c3 c4 c5 c6 d0 d1 d2 d3 d4 d5 d6
    have c0 := HQ.out.box.cell 0
    have c1 := HQ.out.box.cell 1
    have c2 := HQ.out.box.cell 2
    have c3 := HQ.out.box.cell 3
    have c4 := HQ.out.box.cell 4
    have c5 := HQ.out.box.cell 5
    have c6 := HQ.out.box.cell 6
    have d0 := HB.out.box.cell 0
    have d1 := HB.out.box.cell 1
    have d2 := HB.out.box.cell 2
    have d3 := HB.out.box.cell 3
    have d4 := HB.out.box.cell 4
    have d5 := HB.out.box.cell 5
    have d6 := HB.out.box.cell 6
    go_wp2_with fail
    have SS : Hid (∀ y, Below w10.heap.size w10 y → (fun y : World => y.cell? ⟨w.heap.size, 0, none⟩ = some (.int .i64 q) ∧ y.cell? ⟨w.heap.size, 1, none⟩ = some (.int .i64 k) ∧ y.cell? ⟨w.heap.size, 2, none⟩ = some (.int .i64 t) ∧ y.cell? ⟨w.heap.size, 3, none⟩ = some (.int .i64 r) ∧ y.cell? ⟨w.heap.size, 4, none⟩ = some (.string ⟨l.toArray⟩) ∧ y.cell? ⟨w.heap.size, 5, none⟩ = some (.int .i64 v) ∧ y.cell? ⟨w.heap.size, 6, none⟩ = some (.slice A kids.len cap) ∧ y.cell? ⟨bt, 0, none⟩ = some (.int .i64 q) ∧ y.cell? ⟨bt, 1, none⟩ = some (.int .i64 k) ∧ y.cell? ⟨bt, 2, none⟩ = some (.int .i64 t) ∧ y.cell? ⟨bt, 3, none⟩ = some (.int .i64 r) ∧ y.cell? ⟨bt, 4, none⟩ = some (.string ⟨l.toArray⟩) ∧ y.cell? ⟨bt, 5, none⟩ = some (.int .i64 v) ∧ y.cell? ⟨bt, 6, none⟩ = some (.slice A3 kids.len cp3)) y) := Lib.hid (fun y hy => ⟨(HQ.out.go hy).box.cell 0, (HQ.out.go hy).box.cell 1, (HQ.out.go hy).box.cell 2, (HQ.out.go hy).box.cell 3, (HQ.out.go hy).box.cell 4, (HQ.out.go hy).box.cell 5, (HQ.out.go hy).box.cell 6, (HB.out.go hy).box.cell 0, (HB.out.go hy).box.cell 1, (HB.out.go hy).box.cell 2, (HB.out.go hy).box.cell 3, (HB.out.go hy).box.cell 4, (HB.out.go hy).box.cell 5, (HB.out.go hy).box.cell 6⟩)
    refine wp_region_held_drew (S := (fun y : World => y.cell? ⟨w.heap.size, 0, none⟩ = some (.int .i64 q) ∧ y.cell? ⟨w.heap.size, 1, none⟩ = some (.int .i64 k) ∧ y.cell? ⟨w.heap.size, 2, none⟩ = some (.int .i64 t) ∧ y.cell? ⟨w.heap.size, 3, none⟩ = some (.int .i64 r) ∧ y.cell? ⟨w.heap.size, 4, none⟩ = some (.string ⟨l.toArray⟩) ∧ y.cell? ⟨w.heap.size, 5, none⟩ = some (.int .i64 v) ∧ y.cell? ⟨w.heap.size, 6, none⟩ = some (.slice A kids.len cap) ∧ y.cell? ⟨bt, 0, none⟩ = some (.int .i64 q) ∧ y.cell? ⟨bt, 1, none⟩ = some (.int .i64 k) ∧ y.cell? ⟨bt, 2, none⟩ = some (.int .i64 t) ∧ y.cell? ⟨bt, 3, none⟩ = some (.int .i64 r) ∧ y.cell? ⟨bt, 4, none⟩ = some (.string ⟨l.toArray⟩) ∧ y.cell? ⟨bt, 5, none⟩ = some (.int .i64 v) ∧ y.cell? ⟨bt, 6, none⟩ = some (.slice A3 kids.len cp3))) (by kernel_rfl) (SS.out _ (below_of_drew2 w10)) (fun hHeld => ?_)
    refine wpAnyH_take (i := 0) (v := ?_) rfl (by kernel_rfl) (by kernel_rfl) (by kernel_rfl) (fun _ _ _ h => h) (Or.inl ⟨by kernel_rfl, ?_⟩) (by assumption) ?_
    rotate_left
    · intro x' hSx
      try dsimp only at hSx
      go_simp
      try with_reducible rfl
    try simp only [Act.put, List.setIfInBounds_toArray]
    refine wpAnyH_take (i := 1) (v := ?_) rfl (by kernel_rfl) (by kernel_rfl) (by kernel_rfl) (fun _ _ _ h => h) (Or.inl ⟨by kernel_rfl, ?_⟩) (by assumption) ?_
    rotate_left
    · intro x' hSx
      try dsimp only at hSx
      go_simp
      try with_reducible rfl
    try simp only [Act.put]
    refine wpAnyH_take (i := 2) (v := ?_) rfl (by kernel_rfl) (by kernel_rfl) (by kernel_rfl) (fun _ _ _ h => h) (Or.inl ⟨by kernel_rfl, ?_⟩) (by assumption) ?_
    rotate_left
    · intro x' hSx
      try dsimp only at hSx
      go_simp
      try with_reducible rfl
    try simp only [Act.put]
    refine wpAnyH_take (i := 3) (v := ?_) rfl (by kernel_rfl) (by kernel_rfl) (by kernel_rfl) (fun _ _ _ h => h) (Or.inl ⟨by kernel_rfl, ?_⟩) (by assumption) ?_
    rotate_left
    · intro x' hSx
      try dsimp only at hSx
      go_simp
      try with_reducible rfl
    try simp only [Act.put]
    refine wpAnyH_take (i := 4) (v := ?_) rfl (by kernel_rfl) (by kernel_rfl) (by kernel_rfl) (fun _ _ _ h => h) (Or.inl ⟨by kernel_rfl, ?_⟩) (by assumption) ?_
    rotate_left
    · intro x' hSx
      try dsimp only at hSx
      go_simp
      try with_reducible rfl
    try simp only [Act.put]
    refine wpAnyH_take (i := 5) (v := ?_) rfl (by kernel_rfl) (by kernel_rfl) (by kernel_rfl) (fun _ _ _ h => h) (Or.inl ⟨by kernel_rfl, ?_⟩) (by assumption) ?_
    rotate_left
    · intro x' hSx
      try dsimp only at hSx
      go_simp
      try with_reducible rfl
    try simp only [Act.put]
    refine wpAnyH_take (i := 6) (v := ?_) rfl (by kernel_rfl) (by kernel_rfl) (by kernel_rfl) (fun _ _ _ h => h) (Or.inl ⟨by kernel_rfl, ?_⟩) (by assumption) ?_
    rotate_left
    · intro x' hSx
      try dsimp only at hSx
      go_simp
      try with_reducible rfl
    try simp only [Act.put]
    refine wpAnyH_take (i := 7) (v := ?_) rfl (by kernel_rfl) (by kernel_rfl) (by kernel_rfl) (fun _ _ _ h => h) (Or.inl ⟨by kernel_rfl, ?_⟩) (by assumption) ?_
    rotate_left
    · intro x' hSx
      try dsimp only at hSx
      go_simp
      try with_reducible rfl
    try simp only [Act.put]
    refine wpAnyH_take (i := 8) (v := ?_) rfl (by kernel_rfl) (by kernel_rfl) (by kernel_rfl) (fun _ _ _ h => h) (Or.inl ⟨by kernel_rfl, ?_⟩) (by assumption) ?_
    rotate_left
    · intro x' hSx
      try dsimp only at hSx
      go_simp
      try with_reducible rfl
    try simp only [Act.put]
    refine wpAnyH_take (i := 9) (v := ?_) rfl (by kernel_rfl) (by kernel_rfl) (by kernel_rfl) (fun _ _ _ h => h) (Or.inl ⟨by kernel_rfl, ?_⟩) (by assumption) ?_
    rotate_left
    · intro x' hSx
      try dsimp only at hSx
      go_simp
      try with_reducible rfl
    try simp only [Act.put]
    refine wpAnyH_take (i := 10) (v := ?_) rfl (by kernel_rfl) (by kernel_rfl) (by kernel_rfl) (fun _ _ _ h => h) (Or.inl ⟨by kernel_rfl, ?_⟩) (by assumption) ?_
    rotate_left
    · intro x' hSx
      try dsimp only at hSx
      go_simp
      try with_reducible rfl
    try simp only [Act.put]
    refine wpAnyH_take (i := 11) (v := ?_) rfl (by kernel_rfl) (by kernel_rfl) (by kernel_rfl) (fun _ _ _ h => h) (Or.inl ⟨by kernel_rfl, ?_⟩) (by assumption) ?_
    rotate_left
    · intro x' hSx
      try dsimp only at hSx
      go_simp
      try with_reducible rfl
    try simp only [Act.put]
    refine wpAnyH_take (i := 12) (v := ?_) rfl (by kernel_rfl) (by kernel_rfl) (by kernel_rfl) (fun _ _ _ h => h) (Or.inl ⟨by kernel_rfl, ?_⟩) (by assumption) ?_
    rotate_left
    · intro x' hSx
      try dsimp only at hSx
      go_simp
      try with_reducible rfl
    try simp only [Act.put]
    refine wpAnyH_take (i := 13) (v := ?_) rfl (by kernel_rfl) (by kernel_rfl) (by kernel_rfl) (fun _ _ _ h => h) (Or.inl ⟨by kernel_rfl, ?_⟩) (by assumption) ?_
    rotate_left
    · intro x' hSx
      try dsimp only at hSx
      go_simp
      try with_reducible rfl
    try simp only [Act.put]
    refine wpAnyH_take (i := 14) (v := ?_) rfl (by kernel_rfl) (by kernel_rfl) (by kernel_rfl) (fun _ _ _ h => h) (Or.inl ⟨by kernel_rfl, ?_⟩) (by assumption) ?_
    rotate_left
    · intro x' hSx
      try dsimp only at hSx
      go_simp
      try with_reducible rfl
    try simp only [Act.put]
    refine wpAnyH_take (i := 15) (v := ?_) rfl (by kernel_rfl) (by kernel_rfl) (by kernel_rfl) (fun _ _ _ h => h) (Or.inl ⟨by kernel_rfl, ?_⟩) (by assumption) ?_
    rotate_left
    · intro x' hSx
      try dsimp only at hSx
      go_simp
      try with_reducible rfl
    try simp only [Act.put]
    refine wpAnyH_ready (rs := [16]) (by kernel_rfl) (by simp) ?_
    refine AllReadyH.cons rfl (fun K hK => ?_) AllReadyH.nil
    go_simp
    go_at_call 28
    refine (sameThR T A1 A9 cu1 c9 _ hTl6 ((own_ths7 HO1.out).below (Below.refl w10.heap.size w10).drew) (HW.out.1.below (Below.refl w10.heap.size w10).drew)).mono ?_
    rintro e x1 ⟨rfl, hb1⟩
    have HX1 := Lib.hid (show Below w10.heap.size w10 x1 from below_of_drew hb1)
    clear hb1
    refine hK.out _ _ (SS.out _ HX1.out) (fun _ => ?_)
    clear hK K
    try simp only [Act.put, List.setIfInBounds_toArray, List.set_cons_zero, List.set_cons_succ]
    refine wpAnyH_take (i := 17) (v := ?_) rfl (by kernel_rfl) (by kernel_rfl) (by kernel_rfl) (fun _ _ _ h => h) (Or.inl ⟨by kernel_rfl, ?_⟩) (by assumption) ?_
    rotate_left
    · intro x' hSx
      try dsimp only at hSx
      go_simp
      try with_reducible rfl
    try simp only [Act.put, List.setIfInBounds_toArray]
    refine wpAnyH_take (i := 18) (v := ?_) rfl (by kernel_rfl) (by kernel_rfl) (by kernel_rfl) (fun _ _ _ h => h) (Or.inl ⟨by kernel_rfl, ?_⟩) (by assumption) ?_
    rotate_left
    · intro x' hSx
      try dsimp only at hSx
      go_simp
      try with_reducible rfl
    try simp only [Act.put]
    refine wpAnyH_take (i := 19) (v := ?_) rfl (by kernel_rfl) (by kernel_rfl) (by kernel_rfl) (fun _ _ _ h => h) (Or.inl ⟨by kernel_rfl, ?_⟩) (by assumption) ?_
    rotate_left
    · intro x' hSx
      try dsimp only at hSx
      go_simp
      try with_reducible rfl
    try simp only [Act.put]
    refine wpAnyH_take (i := 20) (v := ?_) rfl (by kernel_rfl) (by kernel_rfl) (by kernel_rfl) (fun _ _ _ h => h) (Or.inl ⟨by kernel_rfl, ?_⟩) (by assumption) ?_
    rotate_left
    · intro x' hSx
      try dsimp only at hSx
      go_simp
      try with_reducible rfl
    try simp only [Act.put]
    refine wpAnyH_take (i := 21) (v := ?_) rfl (by kernel_rfl) (by kernel_rfl) (by kernel_rfl) (fun _ _ _ h => h) (Or.inl ⟨by kernel_rfl, ?_⟩) (by assumption) ?_
    rotate_left
    · intro x' hSx
      try dsimp only at hSx
      go_simp
      try with_reducible rfl
    try simp only [Act.put]
    refine wpAnyH_take (i := 22) (v := ?_) rfl (by kernel_rfl) (by kernel_rfl) (by kernel_rfl) (fun _ _ _ h => h) (Or.inl ⟨by kernel_rfl, ?_⟩) (by assumption) ?_
    rotate_left
    · intro x' hSx
      try dsimp only at hSx
      go_simp
      try with_reducible rfl
    try simp only [Act.put]
    refine wpAnyH_take (i := 23) (v := ?_) rfl (by kernel_rfl) (by kernel_rfl) (by kernel_rfl) (fun _ _ _ h => h) (Or.inl ⟨by kernel_rfl, ?_⟩) (by assumption) ?_
    rotate_left
    · intro x' hSx
      try dsimp only at hSx
      go_simp
      try with_reducible rfl
    try simp only [Act.put]
    refine wpAnyH_take (i := 24) (v := ?_) rfl (by kernel_rfl) (by kernel_rfl) (by kernel_rfl) (fun _ _ _ h => h) (Or.inl ⟨by kernel_rfl, ?_⟩) (by assumption) ?_
    rotate_left
    · intro x' hSx
      try dsimp only at hSx
      go_simp
      try with_reducible rfl
    try simp only [Act.put]
    refine wpAnyH_ready (rs := [25]) (by kernel_rfl) (by simp) ?_
    refine AllReadyH.cons rfl (fun K hK => ?_) AllReadyH.nil
    go_simp
    go_at_call 24
    refine (HTW.out x1 (HQ.out.go HX1.out).below.size (HQ.out.go HX1.out).sl).mono ?_
    rintro e x2 ⟨kv2, rfl, hsx, hb2⟩
    obtain ⟨A4, cp4, rfl⟩ : ∃ A4 cp4, kv2 = .slice A4 kids.len cp4 := by obtain ⟨A, cap, e, _⟩ := hsx; exact ⟨A, cap, e⟩
    have HSX := Lib.hid (hsx.sl (hi := x2.heap.size) (fun b h => h.2))
    have HX2 := Lib.hid (below_trans HX1.out hb2)
    clear hsx hb2
    refine hK.out _ _ (SS.out _ HX2.out) (fun _ => ?_)
    clear hK K
    try simp only [Act.put, List.setIfInBounds_toArray, List.set_cons_zero, List.set_cons_succ]
    refine wpAnyH_take (i := 26) (v := ?_) rfl (by kernel_rfl) (by kernel_rfl) (by kernel_rfl) (fun _ _ _ h => h) (Or.inl ⟨by kernel_rfl, ?_⟩) (by assumption) ?_
    rotate_left
    · intro x' hSx
      try dsimp only at hSx
      go_simp
      try with_reducible rfl
    try simp only [Act.put, List.setIfInBounds_toArray]
    refine wpAnyH_ready (rs := [27]) (by kernel_rfl) (by simp) ?_
    refine AllReadyH.cons rfl (fun K hK => ?_) AllReadyH.nil
    go_simp
    go_at_call 19
    refine (alikeR q k t r l v kids _ _ _ (HB.out.go HX2.out).sl HSX.out).mono ?_
    rintro e x3 ⟨rfl, hb3⟩
    have HX3 := Lib.hid (below_trans HX2.out hb3)
    clear hb3
    refine hK.out _ _ (SS.out _ HX3.out) (fun _ => ?_)
    clear hK K
    try simp only [Act.put, List.setIfInBounds_toArray, List.set_cons_zero, List.set_cons_succ]
    refine wpAnyH_take (i := 28) (v := ?_) rfl (by kernel_rfl) (by kernel_rfl) (by kernel_rfl) (fun _ _ _ h => h) (Or.inl ⟨by kernel_rfl, ?_⟩) (by assumption) ?_
    rotate_left
    · intro x' hSx
      try dsimp only at hSx
      go_simp
      try with_reducible rfl
    try simp only [Act.put, List.setIfInBounds_toArray]
    refine wpAnyH_take (i := 29) (v := ?_) rfl (by kernel_rfl) (by kernel_rfl) (by kernel_rfl) (fun _ _ _ h => h) (Or.inl ⟨by kernel_rfl, ?_⟩) (by assumption) ?_
    rotate_left
    · intro x' hSx
      try dsimp only at hSx
      go_simp
      try with_reducible rfl
    try simp only [Act.put]
    refine wpAnyH_take (i := 30) (v := ?_) rfl (by kernel_rfl) (by kernel_rfl) (by kernel_rfl) (fun _ _ _ h => h) (Or.inl ⟨by kernel_rfl, ?_⟩) (by assumption) ?_
    rotate_left
    · intro x' hSx
      try dsimp only at hSx
      go_simp
      try with_reducible rfl
    try simp only [Act.put]
    refine wpAnyH_take (i := 31) (v := ?_) rfl (by kernel_rfl) (by kernel_rfl) (by kernel_rfl) (fun _ _ _ h => h) (Or.inl ⟨by kernel_rfl, ?_⟩) (by assumption) ?_
    rotate_left
    · intro x' hSx
      try dsimp only at hSx
      go_simp
      try with_reducible rfl
    try simp only [Act.put]
    refine wpAnyH_take (i := 32) (v := ?_) rfl (by kernel_rfl) (by kernel_rfl) (by kernel_rfl) (fun _ _ _ h => h) (Or.inl ⟨by kernel_rfl, ?_⟩) (by assumption) ?_
    rotate_left
    · intro x' hSx
      try dsimp only at hSx
      go_simp
      try with_reducible rfl
    try simp only [Act.put]
    refine wpAnyH_ready (rs := [33]) (by kernel_rfl) (by simp) ?_
    refine AllReadyH.cons rfl (fun K hK => ?_) AllReadyH.nil
    go_simp
    go_at_call 29
    refine (keptR st g5 c5' Ai cai _ hst4 (HL.out.below HX3.out) (HQ.out.go HX3.out).ints).mono ?_
    rintro e w11 ⟨rfl, hb4⟩
    have hbx := below_trans HX3.out hb4
    have HX4 := Lib.hid hbx
    clear hb4
    refine hK.out _ _ (SS.out _ hbx) (fun _ => ?_)
    clear hK K
    try simp only [Act.put, List.setIfInBounds_toArray, List.set_cons_zero, List.set_cons_succ]
    refine wpAnyH_take (i := 34) (v := ?_) rfl (by kernel_rfl) (by kernel_rfl) (by kernel_rfl) (fun _ _ _ h => h) (Or.inl ⟨by kernel_rfl, ?_⟩) (by assumption) ?_
    rotate_left
    · intro x' hSx
      try dsimp only at hSx
      go_simp
      try with_reducible rfl
    try simp only [Act.put, List.setIfInBounds_toArray]
    refine wpAnyH_take (i := 35) (v := ?_) rfl (by kernel_rfl) (by kernel_rfl) (by kernel_rfl) (fun _ _ _ h => h) (Or.inl ⟨by kernel_rfl, ?_⟩) (by assumption) ?_
    rotate_left
    · intro x' hSx
      try dsimp only at hSx
      go_simp
      try with_reducible rfl
    try simp only [Act.put]
    refine wpAnyH_done (by kernel_rfl) ?_ _
    have hz11 := hbx.size
    have HQ := Lib.hid (HQ.out.go hbx)
    have HB := Lib.hid (HB.out.go hbx)
    have HL := Lib.hid (HL.out.below hbx)
    have HO1 := Lib.hid (own_below HO1.out hbx)
    have HO2 := Lib.hid (own_below HO2.out hbx)
    have HW := Lib.hid (HW.out.below hbx)
    clear hbx c0 c1 c2 c3 c4 c5 c6 d0 d1 d2 d3 d4 d5 d6
    have c0 := HQ.out.box.cell 0
    have c1 := HQ.out.box.cell 1
    have c2 := HQ.out.box.cell 2
    have c3 := HQ.out.box.cell 3
    have c4 := HQ.out.box.cell 4
    have c5 := HQ.out.box.cell 5
    have c6 := HQ.out.box.cell 6
    have d0 := HB.out.box.cell 0
    have d1 := HB.out.box.cell 1
    have d2 := HB.out.box.cell 2
    have d3 := HB.out.box.cell 3
    have d4 := HB.out.box.cell 4
    have d5 := HB.out.box.cell 5
    have d6 := HB.out.box.cell 6
    clear c0 c1 c2 c3 c4 c5 c6 d0 d1 d2 d3 d4 d5 d6
    go_wp2_with fail
    go_loopw [22] (fun i wr => ∃ (j : Nat) (cs : List Value), j ≤ T.length ∧ i = .int .i64 j ∧ wr.ownsRow w5.heap.size 23 3 (.slice A1 T.length cu1) T.length cs ∧ w11.grownBy wr (Value.slice A1 T.length cu1).ownBlock) (fun i _ => T.length - (intOf i).toNat)
    case atStart => exact ⟨0, _, Nat.zero_le _, rfl, HO1.out, ⟨rfl, rfl, rfl, Nat.le_refl _, fun _ _ _ => rfl⟩⟩
    case round =>
      obtain ⟨j, cs, hj, rfl, ho, hgr⟩ := hrel
      have HO := Lib.hid ho
      have HG := Lib.hid hgr
      clear hgr
      by_cases hlt : j < T.length
      · obtain ⟨g, rfl⟩ : ∃ g, A1 = some ⟨g, 0, none⟩ := by
          rcases ho.2 with ⟨e, h0⟩ | ⟨g, cap', cur, e, _⟩
          · omega
          · simp only [Value.slice.injEq, true_and] at e
            exact ⟨g, e.1⟩
        have hcs : cs.length = T.length * 3 := ho.1
        have hx0 := (ho.cellAt (j * 3) (by omega)).trans (List.getElem?_eq_getElem (by omega))
        have hx1 := (ho.cellAt (j * 3 + 1) (by omega)).trans (List.getElem?_eq_getElem (by omega))
        have hx2 := (ho.cellAt (j * 3 + 2) (by omega)).trans (List.getElem?_eq_getElem (by omega))
        generalize cs[j * 3]'_ = y0 at hx0
        generalize cs[j * 3 + 1]'_ = y1 at hx1
        generalize cs[j * 3 + 2]'_ = y2 at hx2
        have f0 := ho.frozenAt (j * 3)
        have f1 := ho.frozenAt (j * 3 + 1)
        have f2 := ho.frozenAt (j * 3 + 2)
        have i1 : (j : Int) < (T.length : Int) := by omega
        clear ho hcs
        go_wp2_with fail
        go_roundw
        case rel =>
          obtain ⟨o1, _⟩ := HO.out.stored (j * 3) (.int .i64 (-7))
          obtain ⟨o2, _⟩ := o1.stored (j * 3 + 1) (.int .i64 0)
          obtain ⟨o3, _⟩ := o2.stored (j * 3 + 2) (.string ⟨#[109, 97, 114, 107]⟩)
          have hg1 : w11.grownBy wr (some g) := HG.out
          have hg2 := only_setCell hg1 (p := ⟨g, j * 3, none⟩) (.inl rfl) (.int .i64 (-7))
          have hg3 := only_setCell hg2 (p := ⟨g, j * 3 + 1, none⟩) (.inl rfl) (.int .i64 0)
          have hg4 := only_setCell hg3 (p := ⟨g, j * 3 + 2, none⟩) (.inl rfl) (.string ⟨#[109, 97, 114, 107]⟩)
          exact ⟨j + 1, _, by omega, by go_num, o3, hg4⟩
        case measure => simp [intOf]; omega
      · obtain ⟨w12, rfl⟩ : ∃ x, x = wr := ⟨_, rfl⟩
        have hw2 : ∀ b, (Value.slice A1 T.length cu1).ownBlock = some b → w5.heap.size ≤ b ∧ b < w6.heap.size := HLT.out
        have hzr := HG.out.size
        have HK2 := Lib.hid (fun b (h : b < w11.heap.size) (hne : (Value.slice A1 T.length cu1).ownBlock ≠ some b) => HG.out.block b h (fun e => hne e.symm))
        have HBW := Lib.hid (HQ.out.below.grown HG.out HQ.out.below.size (fun b hb => by have := (HLT.out b hb).1; omega))
        have HOA := Lib.hid (own_keep HO2.out (w' := w12) (fun b hb => HK2.out b (HO2.out.lt b hb).2 (fun e => by have := (HLT.out b e).2; have := (HO2.out.lt b hb).1; omega)))
        have HWA := Lib.hid (show ThsN w8.heap.size w12 A9 T from ⟨HW.out.1.keep (fun p hp hb => HK2.out _ hb (fun e => by have := (HLT.out _ e).2; have := HW.out.2 p hp; omega)), HW.out.2⟩)
        have HEA := Lib.hid (HE0.out.mono HBW.out)
        have HLT2 := Lib.hid (fun b (hb : (Value.slice A1 T.length cu1).ownBlock = some b) => show w5.heap.size ≤ b ∧ b < w6.heap.size from HLT.out b hb)
        clear ho
        go_wp2_with fail
        go_loopw [12, 23] (fun s i wx => ∃ (m : Nat) (Ax : Option Addr) (cx : Nat) (cs' : List Value), m ≤ 30 ∧ i = .int .i64 m ∧ s = .slice Ax (T.length + m) cx ∧ wx.ownsRow w5.heap.size 23 3 (.slice Ax (T.length + m) cx) (T.length + m) cs' ∧ Below w.heap.size w wx ∧ w12.heap.size ≤ wx.heap.size ∧ (∀ b, b < w12.heap.size → (Value.slice A1 T.length cu1).ownBlock ≠ some b → wx.heap[b]? = w12.heap[b]?) ∧ ∀ b, (Value.slice Ax (T.length + m) cx).ownBlock = some b → (Value.slice A1 T.length cu1).ownBlock = some b ∨ w12.heap.size ≤ b) (fun _ i _ => 30 - (intOf i).toNat)
        case atStart => exact ⟨0, A1, cu1, cs, by omega, rfl, rfl, HO.out, HBW.out, Nat.le_refl _, fun _ _ _ => rfl, fun b hb => .inl hb⟩
        case round =>
          obtain ⟨m, Ax, cx, cs', hm, rfl, rfl, ho, hbw, hsz, hkp, hwh⟩ := hrel
          have HOX := Lib.hid ho
          have HBX := Lib.hid hbw
          have HKP := Lib.hid hkp
          have HWH := Lib.hid hwh
          clear ho hbw hkp hwh
          by_cases hlt2 : m < 30
          · have i1 : decide ((m : Int) < 30) = true := decide_eq_true (by omega)
            go_wp2_with (at_builtin; refine app_oneW wr rfl _ _ 42 23 rfl _ 3 32 Tryz.underlying42 infoThing rfl (by decide) (thCs (-8, 0, [])) rfl (thCs_one _) w5.heap.size _ _ (.slice Ax (T.length + m) cx) (by kernel_rfl) (by kernel_rfl) HOX.out (by omega) (by omega) (by omega) ?_; intro v' wy ho' hg' hw'; obtain ⟨Ay, cy, rfl⟩ := own_shp ho'; have HOY := Lib.hid ho'; have HGY := Lib.hid hg'; have HWY := Lib.hid hw'; clear ho' hg' hw')
            go_roundw
            case rel =>
              have hsy := HGY.out.below.size
              have hlo : ∀ b, (Value.slice Ax (T.length + m) cx).ownBlock = some b → w5.heap.size ≤ b ∧ b < wr.heap.size := fun b hb => HOX.out.lt b hb
              refine ⟨m + 1, Ay, cy, _, by omega, by go_num, rfl, HOY.out, HBX.out.trans (HGY.out.below.mono (by omega)), by omega, fun b hb hne => ?_, fun b hb => ?_⟩
              · refine (HGY.out.keep b (by omega) (fun e => ?_)).trans (HKP.out b hb hne)
                rcases HWH.out b e with h | h
                · exact hne h
                · omega
              · rcases HWY.out b hb with h | h
                · exact HWH.out b h
                · exact .inr (by omega)
            case measure => simp [intOf]; omega
          · have i1 : decide ((m : Int) < 30) = false := decide_eq_false (by omega)
            have HO2X := Lib.hid (own_keep HOA.out (w' := wr) (fun b hb => HKP.out b (HOA.out.lt b hb).2 (fun e => by have := (HLT2.out b e).2; have := (HOA.out.lt b hb).1; omega)))
            have HWX := Lib.hid (HWA.out.1.keep (w' := wr) (fun p hp hb => HKP.out _ hb (fun e => by have := (HLT2.out _ e).2; have := HWA.out.2 p hp; omega)))
            have HEX := Lib.hid (HE0.out.mono HBX.out)
            go_wp2_with (first
              | (go_at_call 28; refine (sameThR T A2 A9 cu2 c9 _ hTl6 (own_ths7 HO2X.out) HWX.out).mono ?_; rintro e wy ⟨rfl, hby⟩; have HYY := Lib.hid hby; have HEY := Lib.hid (HEX.out.mono hby); clear hby)
              | (go_at_call 16; refine (awakeP HEY.out).mono ?_; rintro e wz ⟨rfl, hbz⟩))
            go_ret
            exact ⟨rfl, below_trans HBX.out (below_trans HYY.out hbz)⟩
end
theorem walkAsks (q k t r : Int) (l : List UInt8) (v : Int) (kv : Value) (kids : Fr) (v1 : Value) (st : List Int) (w : World) (hl : l.length ≤ 9223372036854775807) (hs : SlAt w w.heap.size kv kids) (hst : IntsV w v1 st) (hE : Env w) :
    Calls Tryz.prog 5 #[condV q k t r l v kv, v1] w fun e w' => e = .returned (.bool true) ∧ Below w.heap.size w w' := by
  obtain ⟨A, cap, rfl, hs'⟩ := hs
  obtain ⟨Ai, cai, rfl, hst'⟩ := hst
  cases h : smallB kids with
  | false => exact asksW_big q k t r l v kids A cap Ai cai st w hl ⟨A, cap, rfl, hs'⟩ ⟨Ai, cai, rfl, hst'⟩ hE h
  | true => exact asksW_small q k t r l v kids A cap Ai cai st w hl ⟨A, cap, rfl, hs'⟩ ⟨Ai, cai, rfl, hst'⟩ hE h
end Go.Proofs.YtmlnibjnacfanaaGreatDoor
