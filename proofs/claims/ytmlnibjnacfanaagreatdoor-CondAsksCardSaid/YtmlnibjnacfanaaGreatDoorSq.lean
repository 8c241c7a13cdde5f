/- Layer 8: Spoil, walked. -/
import Derived.Test.YtmlnibjnacfanaaGreatDoorSp
import Derived.Test.YtmlnibjnacfanaaGreatDoorLs
import Derived.ArgAppend
namespace Go.Proofs.YtmlnibjnacfanaaGreatDoor
open Go.RowKit

theorem blank_one (k v : Int) : ∀ u ∈ blankCs k v, u.oneCell' = true := by
  intro u hu
  simp only [blankCs, List.mem_cons, List.not_mem_nil, or_false] at hu
  rcases hu with rfl | rfl | rfl | rfl | rfl | rfl <;> rfl
section
variable {ops : Array Oper} {rest : List Oper} {o : Oper} {a : Act} {Q : Exit → Act → World → Prop}
/-- One more node where there is room. -/
theorem mark_room (V : World) (hg : o.guard = none) (s x : Operand) (hop : o.op = Op.call { callee := Callee.builtin Builtin.append, args := #[s, x], argTypes := #[24, 24] })
    (g n cap nb : Nat) (k v : Int) (hs : a.eval s = .slice (some ⟨g, 0, none⟩) n cap) (hx : a.eval x = .slice (some ⟨nb, 0, none⟩) 1 1) (hN : NBlk V g cap) (hr : n + 1 ≤ cap) (_hcap : cap ≤ 9223372036854775807) (hn : n ≤ 1000000)
    (hc : ∀ j u, (blankCs k v)[j]? = some u → V.cell? ⟨nb, j, none⟩ = some u)
    (hK : wpList Tryz.prog ops Q rest (a.put o.dst (.slice (some ⟨g, 0, none⟩) (n + 1) cap)) (V.setCells g (n * 6) (blankCs k v))) : wpList Tryz.prog ops Q (o :: rest) a V := by
  obtain ⟨i0, hi, hz0, hz1, hz2⟩ := info_parts infoNode
  have hN' := hN
  obtain ⟨cur, hb, hsz⟩ := hN
  have hB : Blk V g 26 cur := hb
  refine wpList_append_arg V hg s x _ hop 26 i0 _ 6 72 Tryz.underlying24 hi hz0 hz1 hz2 rfl (by decide) g 0 n cap (cur.toList.take (n * 6)) hs (by simp; omega) (fun j u hj => ?_) ⟨nb, 0, none⟩ 1 1 (blankCs k v) hx rfl (fun j u hj => by rw [add_none', Nat.zero_add]; exact hc j u hj) (blank_one k v) (fun _ j hj => ?_) (by unfold maxLen; omega) (by omega) (fun _ => ?_) (fun h => by omega)
  · rw [Nat.zero_add, hB.cell j]
    rw [List.getElem?_take] at hj
    split at hj
    · simpa using hj
    · cases hj
  · have := hN'.cell (i := 0 + n * 6 + j) (by simp at hj; omega)
    exact this
  · rw [Nat.zero_add]; exact hK
/-- One more node where there is none: a new block. -/
theorem mark_new (V : World) (hg : o.guard = none) (s x : Operand) (hop : o.op = Op.call { callee := Callee.builtin Builtin.append, args := #[s, x], argTypes := #[24, 24] })
    (n nb : Nat) (k v : Int) (sv : Value) (hs : a.eval s = sv) (hsv : (sv = .slice none 0 0 ∧ n = 0) ∨ ∃ g cap, sv = .slice (some ⟨g, 0, none⟩) n cap ∧ NBlk V g cap ∧ n ≤ cap ∧ cap < n + 1) (hx : a.eval x = .slice (some ⟨nb, 0, none⟩) 1 1) (hn : n ≤ 1000000)
    (hc : ∀ j u, (blankCs k v)[j]? = some u → V.cell? ⟨nb, j, none⟩ = some u)
    (hK : ∀ g' cap' w', V.heap.size ≤ g' → NBlk w' g' cap' → n + 1 ≤ cap' → cap' ≤ 9223372036854775807 → V.grownBy w' none → wpList Tryz.prog ops Q rest (a.put o.dst (.slice (some ⟨g', 0, none⟩) (n + 1) cap')) w') : wpList Tryz.prog ops Q (o :: rest) a V := by
  obtain ⟨i0, hi, hz0, hz1, hz2⟩ := info_parts infoNode
  have hc' : ∀ j u, (blankCs k v)[j]? = some u → V.cell? ((⟨nb, 0, none⟩ : Addr).add j) = some u := fun j u hj => by rw [add_none', Nat.zero_add]; exact hc j u hj
  have hdone : ∀ xs v' w', w'.ownsRow V.heap.size 26 6 v' (n + 1) xs → V.grownBy w' none → wpList Tryz.prog ops Q rest (a.put o.dst v') w' := fun xs v' w' ho hgr => by
    rcases ho.2 with ⟨_, h0⟩ | ⟨g, cap, cur, rfl, h1, h2, h3, h4, h5, _⟩
    · omega
    · unfold maxLen at h4
      exact hK g cap w' h1 ⟨cur, h2, h5⟩ h3 h4 hgr
  rcases hsv with ⟨rfl, rfl⟩ | ⟨g, cap, rfl, hN, h1, h2⟩
  · refine wpList_append_own V hg s x _ hop V.heap.size 26 i0 _ 6 72 Tryz.underlying24 hi hz0 hz1 hz2 rfl (by decide) _ 0 [] hs (World.ownsRow_nil _ _ _ _) ⟨nb, 0, none⟩ 1 1 (blankCs k v) hx rfl hc' (blank_one k v) (by unfold maxLen; omega) (by omega) (Nat.le_refl _) fun v' w' ho hgr _ => ?_
    exact hdone _ v' w' ho hgr
  · obtain ⟨cur, hb, hsz⟩ := hN
    have hB : Blk V g 26 cur := hb
    refine wpList_append_arg V hg s x _ hop 26 i0 _ 6 72 Tryz.underlying24 hi hz0 hz1 hz2 rfl (by decide) g 0 n cap (cur.toList.take (n * 6)) hs (by simp; omega) (fun j u hj => ?_) ⟨nb, 0, none⟩ 1 1 (blankCs k v) hx rfl hc' (blank_one k v) (fun h => by omega) (by unfold maxLen; omega) (by omega) (fun h => by omega) (fun _ v' w' ho hgr => hdone _ v' w' ho hgr)
    rw [Nat.zero_add, hB.cell j]
    rw [List.getElem?_take] at hj
    split at hj
    · simpa using hj
    · cases hj
end
/-- What Spoil does at a node whose kids are f. -/
def SpoilC (f : Fr) : Prop :=
  ∀ (w : World) (S : Nat → Prop) (k t r v : Int) (l : ByteArray) (kv : Value), PartKid w S f kv → (∀ i, S i → i < w.heap.size) →
    Calls Tryz.prog 20 #[.agg #[.int .i64 k, .int .i64 t, .int .i64 r, .string l, .int .i64 v, kv]] w fun e w' => e = .returned (.tuple #[]) ∧ Bl S w w'
def AllS : Fr → Prop
  | .nil => True
  | .cons _ _ _ _ _ kids rest => SpoilC kids ∧ AllS rest
theorem AllS.at_ : ∀ (f : Fr) (j : Nat) {k t r : Int} {l : List UInt8} {v : Int} {kids rest : Fr}, AllS f → f.drop j = .cons k t r l v kids rest → SpoilC kids
  | .nil, 0, _, _, _, _, _, _, _, _, h => by cases h
  | .nil, _ + 1, _, _, _, _, _, _, _, _, h => by cases h
  | .cons _ _ _ _ _ _ _, 0, _, _, _, _, _, _, _, h, e => by cases e; exact h.1
  | .cons _ _ _ _ _ _ rest, j + 1, _, _, _, _, _, _, _, h, e => AllS.at_ rest j h.2 e
set_option maxHeartbeats 8000000 in
set_option maxRecDepth 100000 in
theorem spoil_step {f : Fr} (hF : AllS f) : SpoilC f := by
  intro w S k t r v l kv hk hS
  obtain ⟨A, n, cap, rfl, hn, hk2, hmk⟩ : ∃ A n cap, kv = .slice A n cap ∧ n ≤ 300000 ∧ (0 < n → ∃ g, A = some ⟨g, 0, none⟩ ∧ n = f.len ∧ S g ∧ NBlk w g cap ∧ f.len ≤ cap ∧ PartRow w S f g 0) ∧ (∀ H, MarkV S H w (.slice A n cap) n) := by
    rcases hk with rfl | ⟨g, cap, rfl, h1, h2, h3, h4, h5, h6⟩
    · exact ⟨none, 0, 0, rfl, by omega, fun h => by omega, fun H => .inl ⟨rfl, rfl⟩⟩
    · exact ⟨_, _, cap, rfl, h5, fun _ => ⟨g, rfl, rfl, h1, h2, h3, h6⟩, fun H => .inr ⟨g, cap, rfl, .inl h1, h2, h3, h4⟩⟩
  obtain ⟨W0, hW0⟩ : ∃ W0, w.alloc (.cells #[.int .i64 k, .int .i64 t, .int .i64 r, .string l, .int .i64 v, .slice A n cap] 26 (0, 0)) = W0 := ⟨_, rfl⟩
  have hs0 : W0.heap.size = w.heap.size + 1 := by rw [← hW0]; simp
  have hb0 : Below w.heap.size w W0 := by rw [← hW0]; exact alloc_b _ _
  have HB0 := Lib.hid (show Bl S w W0 from Bl.of_below hb0)
  have HBX := Lib.hid (show Blk W0 w.heap.size 26 #[.int .i64 k, .int .i64 t, .int .i64 r, .string l, .int .i64 v, .slice A n cap] by rw [← hW0]; exact Blk.new w _ _)
  have HK := Lib.hid (fun (wr : World) (hb : Bl S W0 wr) (j : Nat) (hj : j < n) => (show ∃ g, A = some ⟨g, 0, none⟩ ∧ S g ∧ NBlk wr g cap ∧ j < cap ∧ g < w.heap.size ∧ ∃ k' t' r' v' l' kv', RowIs wr g j k' t' r' v' l' kv' ∧ ∃ kids', SpoilC kids' ∧ PartKid wr S kids' kv' by
    obtain ⟨g, e, hnf, h1, h2, h3, h4⟩ := hk2 (by omega)
    have hbw := HB0.out.trans hb
    have h5 := PartRow.bl hbw f g 0 cap h1 h2 (by omega) h4
    obtain ⟨k0, t0, r0, l0, v0, kids', rest', hdr⟩ := f.drop_lt j (by omega)
    obtain ⟨k', t', r', v', l', kv', h6, h7⟩ := PartRow.at_ f g 0 j h5 hdr
    rw [Nat.zero_add] at h6
    exact ⟨g, e, h1, (hbw.inn g cap h1 h2).1, by omega, h2.lt, k', t', r', v', l', kv', h6, kids', AllS.at_ f j hF hdr, h7⟩))
  have HNS := Lib.hid (show ¬ S w.heap.size from fun h => by have := hS _ h; omega)
  have HSS := Lib.hid hS
  have HMK := Lib.hid (fun (wr : World) (hb : Bl S W0 wr) => (show MarkV S (w.heap.size + 1) wr (.slice A n cap) n by
    rcases hmk (w.heap.size + 1) with h | ⟨g, cap', e, h1, h2, h3, h4⟩
    · exact .inl h
    · by_cases hSg : S g
      · exact .inr ⟨g, cap', e, .inl hSg, ((HB0.out.trans hb).inn g cap' hSg h2).1, h3, h4⟩
      · exfalso
        have := h1.resolve_left hSg
        have := h2.lt
        omega))
  have HW0 := Lib.hid hW0
  clear hW0 hk hS hk2 hmk hb0
  go_enter Tryz.func20, Tryz.ntmps20
  go_wp2_with fail
  go_loopw [2] (fun i wr => ∃ j : Nat, j ≤ n ∧ i = .int .i64 j ∧ Bl S W0 wr) (fun i _ => n - (intOf i).toNat)
  case atStart => exact ⟨0, Nat.zero_le _, rfl, by rw [HW0.out]; exact Bl.refl _ _⟩
  case round =>
    obtain ⟨j, hj, rfl, hb⟩ := hrel
    have HB := Lib.hid hb
    have hbs := hb.size
    have hbx : Blk wr w.heap.size 26 #[.int .i64 k, .int .i64 t, .int .i64 r, .string l, .int .i64 v, .slice A n cap] := (hb.out _ (by omega) HNS.out).trans HBX.out
    have b5 := hbx.cell 5
    have HBXR := Lib.hid hbx
    clear hb hbx
    by_cases hlt : j < n
    · obtain ⟨g, rfl, hSg, hN, hjc, hgl, k', t', r', v', l', kv', ⟨q0, q1, q2, q3, q4, q5⟩, kids', hC, hP⟩ := HK.out wr HB.out j hlt
      have HC := Lib.hid (hC wr S k' t' r' v' l' kv' hP (fun i hi => by have := HSS.out i hi; omega))
      have i1 : (j : Int) < (n : Int) := by omega
      clear hC hP hN hSg
      go_wp2_with (go_at_call 20; refine HC.out.mono ?_; rintro e w2 ⟨rfl, hb2⟩)
      go_roundw
      case rel => exact ⟨j + 1, by omega, by go_num, HB.out.trans hb2⟩
      case measure => simp [intOf]; omega
    · go_wp2_with fail
      go_loopw [3] (fun i wr => ∃ j : Nat, j ≤ n ∧ i = .int .i64 j ∧ Bl S W0 wr) (fun i _ => n - (intOf i).toNat)
      case atStart => exact ⟨0, Nat.zero_le _, rfl, HB.out⟩
      case round =>
        obtain ⟨j2, hj2, rfl, hb⟩ := hrel
        have HB := Lib.hid hb
        have hbs := hb.size
        have hbx : Blk wr w.heap.size 26 #[.int .i64 k, .int .i64 t, .int .i64 r, .string l, .int .i64 v, .slice A n cap] := (hb.out _ (by omega) HNS.out).trans HBX.out
        have b5 := hbx.cell 5
        clear hb hbx
        by_cases hlt2 : j2 < n
        · obtain ⟨g, rfl, hSg, hN, hjc, hgl, k', t', r', v', l', kv', ⟨q0, q1, q2, q3, q4, q5⟩, kids', hC, hP⟩ := HK.out wr HB.out j2 hlt2
          have HP2 := Lib.hid (bl_put' HB.out (.inl hSg) hN hjc (-9) 77)
          have f0 := (hN.cell (i := j2 * 6) (by omega)).2
          have f1 := (hN.cell (i := j2 * 6 + 1) (by omega)).2
          have f2 := (hN.cell (i := j2 * 6 + 2) (by omega)).2
          have f3 := (hN.cell (i := j2 * 6 + 3) (by omega)).2
          have f4 := (hN.cell (i := j2 * 6 + 4) (by omega)).2
          have f5 := (hN.cell (i := j2 * 6 + 5) (by omega)).2
          have i1 : (j2 : Int) < (n : Int) := by omega
          clear hC hP hN hSg
          go_wp2_with fail
          go_roundw
          case rel => exact ⟨j2 + 1, by omega, by go_num, HP2.out⟩
          case measure => simp [intOf]; omega
        · have HMV := Lib.hid (HMK.out wr HB.out)
          go_wp2_with fail
          go_loopw [4, 5] (fun v4 i wr => ∃ j n' : Nat, j ≤ 9 ∧ i = .int .i64 j ∧ MarkV S (w.heap.size + 1) wr v4 n' ∧ n' ≤ 300000 + j ∧ Bl S W0 wr) (fun _ i _ => 9 - (intOf i).toNat)
          case atStart => exact ⟨0, n, by omega, rfl, HMV.out, by omega, HB.out⟩
          case round =>
            obtain ⟨j, n', hj, rfl, hmv, hn', hbl⟩ := hrel
            have HBL := Lib.hid hbl
            have hsz := hbl.size
            by_cases hlt : j < 9
            · have hca := fun jj u (hu : (blankCs (-8) 0)[jj]? = some u) => show (wr.alloc (.cells (blankCs (-8) 0).toArray 26 (0, 0))).cell? ⟨wr.heap.size, jj, none⟩ = some u by rw [cell_new]; simpa using hu
              have HCA := Lib.hid hca
              have HBA := Lib.hid (hbl.trans (Bl.of_below (alloc_b wr (.cells (blankCs (-8) 0).toArray 26 (0, 0)))))
              clear hca hbl
              rcases hmv with ⟨rfl, rfl⟩ | ⟨g', cap', rfl, hSg, hNg, h1, h2⟩
              · go_wp2_with (at_builtin; refine mark_new (wr.alloc (.cells (blankCs (-8) 0).toArray 26 (0, 0))) rfl _ _ rfl 0 wr.heap.size (-8) 0 _ rfl (.inl ⟨rfl, rfl⟩) rfl (by omega) HCA.out ?_; intro g2 cap2 w2 hg2 hN2 hc2 hm2 hgr; have HN2 := Lib.hid hN2; have HB2 := Lib.hid (bl_grown HBA.out hgr); clear hN2 hgr)
                go_roundw
                case rel => exact ⟨j + 1, 1, by omega, by go_num, .inr ⟨g2, cap2, rfl, .inr (by simp at hg2; omega), HN2.out, by omega, hm2⟩, by omega, HB2.out⟩
                case measure => simp [intOf]; omega
              · have HNG := Lib.hid (hNg.same (Below.heap_alloc wr (.cells (blankCs (-8) 0).toArray 26 (0, 0)) g' hNg.lt))
                have HSG := Lib.hid hSg
                clear hNg hSg
                by_cases hroom : n' + 1 ≤ cap'
                · have HB2 := Lib.hid (bl_put' HBA.out (by rcases HSG.out with h | h; exact .inl h; exact .inr (by omega)) HNG.out (show n' < cap' by omega) (-8) 0)
                  go_wp2_with (at_builtin; refine mark_room (wr.alloc (.cells (blankCs (-8) 0).toArray 26 (0, 0))) rfl _ _ rfl g' n' cap' wr.heap.size (-8) 0 rfl rfl HNG.out hroom h2 (by omega) HCA.out ?_)
                  have HN2 := Lib.hid (nblk_setCells (blankCs (-8) 0) (n' * 6) _ HNG.out)
                  go_roundw
                  case rel => exact ⟨j + 1, n' + 1, by omega, by go_num, .inr ⟨g', cap', rfl, HSG.out, HN2.out, hroom, h2⟩, by omega, HB2.out⟩
                  case measure => simp [intOf]; omega
                · go_wp2_with (at_builtin; refine mark_new (wr.alloc (.cells (blankCs (-8) 0).toArray 26 (0, 0))) rfl _ _ rfl n' wr.heap.size (-8) 0 _ rfl (.inr ⟨g', cap', rfl, HNG.out, h1, by omega⟩) rfl (by omega) HCA.out ?_; intro g2 cap2 w2 hg2 hN2 hc2 hm2 hgr; have HN2 := Lib.hid hN2; have HB2 := Lib.hid (bl_grown HBA.out hgr); clear hN2 hgr)
                  go_roundw
                  case rel => exact ⟨j + 1, n' + 1, by omega, by go_num, .inr ⟨g2, cap2, rfl, .inr (by simp at hg2; omega), HN2.out, by omega, hm2⟩, by omega, HB2.out⟩
                  case measure => simp [intOf]; omega
            · go_wp2_with fail
              go_end0
              exact ⟨rfl, HB0.out.trans HBL.out⟩
theorem allS : ∀ f, AllS f
  | .nil => trivial
  | .cons _ _ _ _ _ kids rest => ⟨spoil_step (allS kids), allS rest⟩
theorem spoilR (f : Fr) : SpoilC f := spoil_step (allS f)
end Go.Proofs.YtmlnibjnacfanaaGreatDoor
