/- Layer 8: the reference's gather, walked at an atom. Layer 8: the reference's gather at every node, and Things. Layer 8: the reference's holds, walked. -/
import Derived.Test.YtmlnibjnacfanaaGreatDoorJb
import Derived.Test.YtmlnibjnacfanaaGreatDoorEg
import Derived.Test.YtmlnibjnacfanaaGreatDoorCk
namespace Go.Proofs.YtmlnibjnacfanaaGreatDoor
open Go.RowKit

theorem thCs_one (x : Th) : ∀ u ∈ thCs x, u.oneCell' = true := by intro u hu; simp [thCs] at hu; rcases hu with rfl | rfl | rfl <;> rfl
theorem take_mem {L : List Th} {j : Nat} {x y : Th} (h : L[j]? = some y) (hne : y ≠ x) (hx : x ∉ L.take j) : x ∉ L.take (j + 1) := by
  rw [List.take_add_one, h]
  simp only [Option.toList_some, List.mem_append, List.mem_singleton, not_or]
  exact ⟨hx, fun e => hne e.symm⟩
theorem any_take' {L : List Th} {j : Nat} {y : Th} (h : L[j]? = some y) (p : Th → Bool) : (L.take (j + 1)).any p = ((L.take j).any p || p y) := by
  rw [List.take_add_one, h]; simp
theorem take_at {L : List Th} {j : Nat} {y : Th} (h : L[j]? = some y) : L.take (j + 1) = L.take j ++ [y] := by rw [List.take_add_one, h]; rfl
theorem below_of_drewN {B n : Nat} {a w : World} (h : Below B (a.drewN n) w) : Below B a w := ⟨h.os, h.tape, h.output, h.size, h.block⟩
theorem cell_kept {w0 w1 w2 : World} {B n b o : Nat} {u v : Value} {xs : List Value} {ty : TypeId} {z : Nat} (hk : ∀ b, b < w1.heap.size → v.ownBlock ≠ some b → w2.heap[b]? = w1.heap[b]?) (hB : b < B) (ho : w0.ownsRow B ty z v n xs) (hc : w1.cell? ⟨b, o, none⟩ = some u) : w2.cell? ⟨b, o, none⟩ = some u := by
  have hlt := World.block_lt_of_cell? w1 _ hc
  have := hk b hlt fun e => by have := (ho.lt _ e).1; omega
  rw [← hc]
  unfold World.cell?
  simp only [this]
theorem GaPost.mk {N : Nat} {T : List Th} {w w' : World} {B : Nat} {v : Value} (hN : N ≤ B) (h : w'.ownsRow B 23 3 v T.length (thCells T)) (hb : Below w.heap.size w w') : GaPost N T w (.returned v) w' := by
  obtain ⟨A, cap, rfl, ht⟩ := own_thsB h
  exact ⟨A, cap, rfl, ⟨ht, fun p hp => by
    subst hp
    rcases h.2 with ⟨e, _⟩ | ⟨g, cap', cur, e, h1, _⟩
    · cases e
    · simp only [Value.slice.injEq, Option.some.injEq] at e
      rw [e.1]; exact Nat.le_trans hN h1⟩, hb⟩
section
variable {w : World} {t r v : Int} {l : List UInt8}
set_option maxHeartbeats 4000000 in
set_option maxRecDepth 100000 in
theorem gathA (N : Nat) (hN : N ≤ w.heap.size) (Ak : Option Addr) (nk ck : Nat) (A : Option Addr) (cap : Nat) (L : List Th) (hlen : L.length ≤ 1000000) (hA : ThsB w A L) (hNA : NewA N A) :
    Calls Tryz.prog 59 #[nodeV 2 t r l v (.slice Ak nk ck), .slice A L.length cap] w (GaPost N (insT (t, r, l) L) w) := by
  have HA := Lib.hid hA
  have HNA := Lib.hid hNA
  clear hNA
  have HBN := Lib.hid (Blk.new w 26 #[.int .i64 2, .int .i64 t, .int .i64 r, .string ⟨l.toArray⟩, .int .i64 v, .slice Ak nk ck])
  have hb1 := alloc_b w (.cells #[.int .i64 2, .int .i64 t, .int .i64 r, .string ⟨l.toArray⟩, .int .i64 v, .slice Ak nk ck] 26 (0, 0))
  have hsz1 : (w.alloc (.cells #[.int .i64 2, .int .i64 t, .int .i64 r, .string ⟨l.toArray⟩, .int .i64 v, .slice Ak nk ck] 26 (0, 0))).heap.size = w.heap.size + 1 := by simp
  obtain ⟨W0, hW0⟩ : ∃ W0, w.alloc (.cells #[.int .i64 2, .int .i64 t, .int .i64 r, .string ⟨l.toArray⟩, .int .i64 v, .slice Ak nk ck] 26 (0, 0)) = W0 := ⟨_, rfl⟩
  rw [hW0] at hb1 hsz1
  have HB1 := Lib.hid hb1
  have HW0 := Lib.hid hW0
  clear hA hb1 hW0
  go_enter Tryz.func59, Tryz.ntmps59
  go_wp2_with fail
  go_loopw [5, 6, 7] (fun v5 p i wr => ∃ (j : Nat) (pb : Bool), j ≤ L.length ∧ i = .int .i64 j ∧ p = .bool pb ∧ (L.take j).any (befC (t, r, l)) = pb ∧ wr.ownsRow (w.heap.size + 1) 23 3 v5 (putO (t, r, l) (L.take j)).length (thCells (putO (t, r, l) (L.take j))) ∧ (t, r, l) ∉ L.take j ∧ Below (w.heap.size + 1) W0 wr) (fun _ _ i _ => L.length - (intOf i).toNat)
  case atStart => exact ⟨0, false, Nat.zero_le _, rfl, rfl, by simp, by simp [putO, thCells]; exact World.ownsRow_nil _ _ _ _, by simp, by rw [HW0.out]; exact Below.refl _ _⟩
  case round =>
    obtain ⟨j, pb, hj, rfl, rfl, hpb, hown, hno, hbr⟩ := hrel
    obtain ⟨Av, cv, rfl⟩ := own_shp hown
    have HBR := Lib.hid hbr
    have HPB := Lib.hid hpb
    have HOW := Lib.hid hown
    have HNO := Lib.hid hno
    have hzr := hbr.size
    have hol := putO_len (t, r, l) (L.take j)
    have htl : (L.take j).length ≤ j := List.length_take_le _ _
    have HBT := Lib.hid (show Below w.heap.size w wr from HB1.out.trans (hbr.mono (by omega)))
    have hBk := (HW0.out ▸ HBN.out : Blk W0 w.heap.size 26 #[.int .i64 2, .int .i64 t, .int .i64 r, .string ⟨l.toArray⟩, .int .i64 v, .slice Ak nk ck]).below hbr (by omega)
    have b1 := hBk.cell 1
    have b2 := hBk.cell 2
    have b3 := hBk.cell 3
    have HBK := Lib.hid hBk
    clear hbr hpb hown hno hBk
    by_cases hlt : j < L.length
    · have ex := List.getElem?_eq_getElem hlt
      obtain ⟨y, hy⟩ : ∃ y, L[j] = y := ⟨_, rfl⟩
      rw [hy] at ex
      obtain ⟨g, o, rfl, y0, y1, y2⟩ := HA.out _ _ ex
      have hgB : g < w.heap.size + 1 := Nat.lt_succ_of_lt (World.block_lt_of_cell? w _ y0)
      have z0 := cell_go y0 HBT.out
      have z1 := cell_go y1 HBT.out
      have z2 := cell_go y2 HBT.out
      have HEX := Lib.hid ex
      have hjl : (j : Int) < (L.length : Int) := by omega
      have hgd := fun (w : World) (op : BinOp) (x y : Operand) (xs ys : Array Value) => run_eqGuard_agg (P := Tryz.prog) w op 23 x y xs ys guard_thing
      clear ex hy y0 y1 y2
      by_cases hxy : y = (t, r, l)
      · subst hxy
        have heq : ∀ w, (binOp .eql 23 (thVal t r l) (thVal t r l)).run Tryz.prog w = .ok (.bool true) w := fun w => by rw [eql_thing (t, r, l) (t, r, l), decide_eq_true rfl]
        have HR := Lib.hid (show insT (t, r, l) L = L by unfold insT; rw [if_pos (List.mem_of_getElem? HEX.out)])
        go_wp2_with fail
        go_quiet (fail)
        go_wp2_with fail
        go_ret
        exact ⟨_, _, by rw [HR.out]; rfl, by rw [HR.out]; exact ⟨HA.out.below (below_drewN HBT.out _), HNA.out⟩, below_drewN HBT.out _⟩
      · have heq : ∀ w, (binOp .eql 23 (thVal y.1 y.2.1 y.2.2) (thVal t r l)).run Tryz.prog w = .ok (.bool false) w := fun w => by rw [eql_thing y (t, r, l), decide_eq_false hxy]
        have HN2 := Lib.hid (take_mem HEX.out hxy HNO.out)
        have HT := Lib.hid (take_at HEX.out)
        have HAN := Lib.hid (any_take' HEX.out (befC (t, r, l)))
        clear hxy
        go_wp2_with fail
        go_quiet (fail)
        go_wp2_with fail
        cases pb with
        | true =>
          have HP := Lib.hid (putO_step1 (y := y) HPB.out)
          go_quiet (fail)
          go_wp2_with (at_builtin; refine app_one _ rfl _ _ 42 23 rfl _ 3 32 Tryz.underlying42 infoThing rfl (by decide) (thCs y) rfl (thCs_one y) (w.heap.size + 1) _ _ _ rfl rfl (own_below HOW.out (below_drewN (Below.refl _ _) _)) (by omega) (by omega) (by first | omega | (simp; omega)) ?_)
          intro v' w1 hown1 hg1
          obtain ⟨Av1, cv1, rfl⟩ := own_shp hown1
          have HO1 := Lib.hid hown1
          have HG1 := Lib.hid hg1
          clear hown1 hg1
          go_wp2_with fail
          go_roundw
          case rel => exact ⟨j + 1, true, by omega, by go_num, rfl, by rw [HAN.out, HPB.out]; rfl, by rw [HT.out, HP.out, List.length_append, thCells_snoc]; exact HO1.out, HN2.out, HBR.out.trans (below_of_drewN HG1.out.below)⟩
          case measure => simp [intOf]; omega
        | false =>
          have d1 := cell_dr b1
          have d2 := cell_dr b2
          have d3 := cell_dr b3
          have e0 := cell_dr z0
          have e1 := cell_dr z1
          have e2 := cell_dr z2
          obtain ⟨bb, hbb⟩ : ∃ bb, befC (t, r, l) (y.1, y.2.1, y.2.2) = bb := ⟨_, rfl⟩
          have HBB := Lib.hid hbb
          clear hbb
          cases bb with
          | true =>
            have HP := Lib.hid (putO_step2 (y := y) HPB.out HBB.out)
            refine still_tail 9 (by kernel_rfl) (by kernel_rfl) ?_
            simp only [List.take_succ_cons, List.take_zero, List.drop_succ_cons, List.drop_zero]
            repeat still_step
            refine wpStill_nil ?_
            go_wp2_with (first
              | (go_at_call 96; refine (befR t r l y.1 y.2.1 y.2.2 _).mono ?_; rw [HBB.out]; rintro e w1 ⟨rfl, hbx⟩; have HX := Lib.hid (show Below wr.heap.size wr w1 from below_of_drewN (below_of_drew hbx)); have hzx : wr.heap.size ≤ w1.heap.size := hbx.size; clear hbx; have f1 := cell_go b1 HX.out; have f2 := cell_go b2 HX.out; have f3 := cell_go b3 HX.out; have k0 := cell_go z0 HX.out; have k1 := cell_go z1 HX.out; have k2 := cell_go z2 HX.out)
              | (at_builtin; refine app_one _ rfl _ _ 42 23 rfl _ 3 32 Tryz.underlying42 infoThing rfl (by decide) (thCs (t, r, l)) rfl (thCs_one (t, r, l)) (w.heap.size + 1) _ _ _ rfl rfl (own_below HOW.out HX.out) (by omega) (by omega) (by first | omega | (simp; omega)) ?_; intro v' w2 hown1 hg1; obtain ⟨Av1, cv1, rfl⟩ := own_shp hown1; have HO1 := Lib.hid hown1; have HG1 := Lib.hid hg1; have hz2 := hg1.below.size; have HNB := Lib.hid (fun (b : Nat) (hb : b < w1.heap.size) (hne : (Value.slice Av (putO (t, r, l) (L.take j)).length cv).ownBlock ≠ some b) => hg1.keep b hb hne); clear hown1 hg1; have m0 := cell_kept HNB.out hgB HOW.out k0; have m1 := cell_kept HNB.out hgB HOW.out k1; have m2 := cell_kept HNB.out hgB HOW.out k2)
              | (at_builtin; refine app_one _ rfl _ _ 42 23 rfl _ 3 32 Tryz.underlying42 infoThing rfl (by decide) (thCs y) rfl (thCs_one y) (w.heap.size + 1) _ _ _ rfl rfl HO1.out (by omega) (by omega) (by first | omega | (simp; omega)) ?_; intro v' w3 hown2 hg2; obtain ⟨Av2, cv2, rfl⟩ := own_shp hown2; have HO2 := Lib.hid hown2; have HG2 := Lib.hid hg2; clear hown2 hg2))
            go_roundw
            case rel => exact ⟨j + 1, true, by omega, by go_num, rfl, by rw [HAN.out, HPB.out]; exact HBB.out, by rw [HT.out, HP.out, List.length_append, List.length_append, thCells_snoc, thCells_snoc]; exact HO2.out, HN2.out, HBR.out.trans (((HX.out.mono (by omega)).trans HG1.out.below).trans HG2.out.below)⟩
            case measure => simp [intOf]; omega
          | false =>
            have HP := Lib.hid (putO_step3 (y := y) HPB.out HBB.out)
            refine still_tail 9 (by kernel_rfl) (by kernel_rfl) ?_
            simp only [List.take_succ_cons, List.take_zero, List.drop_succ_cons, List.drop_zero]
            repeat still_step
            refine wpStill_nil ?_
            go_wp2_with (first
              | (go_at_call 96; refine (befR t r l y.1 y.2.1 y.2.2 _).mono ?_; rw [HBB.out]; rintro e w1 ⟨rfl, hbx⟩; have HX := Lib.hid (show Below wr.heap.size wr w1 from below_of_drewN (below_of_drew hbx)); have hzx : wr.heap.size ≤ w1.heap.size := hbx.size; clear hbx; have f1 := cell_go b1 HX.out; have f2 := cell_go b2 HX.out; have f3 := cell_go b3 HX.out; have k0 := cell_go z0 HX.out; have k1 := cell_go z1 HX.out; have k2 := cell_go z2 HX.out)
              | (at_builtin; refine app_one _ rfl _ _ 42 23 rfl _ 3 32 Tryz.underlying42 infoThing rfl (by decide) (thCs y) rfl (thCs_one y) (w.heap.size + 1) _ _ _ rfl rfl (own_below HOW.out HX.out) (by omega) (by omega) (by first | omega | (simp; omega)) ?_; intro v' w2 hown1 hg1; obtain ⟨Av1, cv1, rfl⟩ := own_shp hown1; have HO1 := Lib.hid hown1; have HG1 := Lib.hid hg1; clear hown1 hg1))
            go_roundw
            case rel => exact ⟨j + 1, false, by omega, by go_num, rfl, by rw [HAN.out, HPB.out]; exact HBB.out, by rw [HT.out, HP.out, List.length_append, thCells_snoc]; exact HO1.out, HN2.out, HBR.out.trans ((HX.out.mono (by omega)).trans HG1.out.below)⟩
            case measure => simp [intOf]; omega
    · have hje : j = L.length := by omega
      subst hje
      have htk : L.take L.length = L := List.take_length
      have HTK := Lib.hid htk
      clear htk
      have HNX := Lib.hid (show (t, r, l) ∉ L by have := HNO.out; rwa [HTK.out] at this)
      have HIN := Lib.hid (show insT (t, r, l) L = putT (t, r, l) L by unfold insT; rw [if_neg HNX.out])
      cases pb with
      | true =>
        have HP := Lib.hid (show insT (t, r, l) L = putO (t, r, l) (L.take L.length) by rw [HIN.out, HTK.out]; exact putO_end1 (by have := HPB.out; rwa [HTK.out] at this))
        go_wp2_with fail
        go_ret
        rw [HP.out]
        exact GaPost.mk (by omega) HOW.out HBT.out
      | false =>
        have HP := Lib.hid (show insT (t, r, l) L = putO (t, r, l) (L.take L.length) ++ [(t, r, l)] by rw [HIN.out, HTK.out]; exact putO_end2 (by have := HPB.out; rwa [HTK.out] at this))
        go_wp2_with (at_builtin; refine app_one _ rfl _ _ 42 23 rfl _ 3 32 Tryz.underlying42 infoThing rfl (by decide) (thCs (t, r, l)) rfl (thCs_one (t, r, l)) (w.heap.size + 1) _ _ _ rfl rfl HOW.out (by omega) (by omega) (by first | omega | (simp; omega)) ?_; intro v' w2 hown1 hg1; obtain ⟨Av1, cv1, rfl⟩ := own_shp hown1; have HO1 := Lib.hid hown1; have HG1 := Lib.hid hg1; clear hown1 hg1)
        go_ret
        rw [HP.out]
        refine GaPost.mk (B := w.heap.size + 1) (by omega) ?_ (HB1.out.trans ((HBR.out.trans HG1.out.below).mono (by omega)))
        rw [List.length_append, thCells_snoc]
        have hf := HO1.out
        rw [HTK.out] at hf ⊢
        exact hf
end

/-- What gather does at one node. -/
def NodeG (k t r : Int) (l : List UInt8) (v : Int) (kids : Fr) : Prop :=
  ∀ (w : World) (hi : Nat) (kv : Value) (A : Option Addr) (cap : Nat) (L : List Th) (N : Nat), N ≤ w.heap.size → hi ≤ w.heap.size → SlAt w hi kv kids → ThsN N w A L → L.length + 1 + kids.all ≤ 1000000 →
    Calls Tryz.prog 59 #[nodeV k t r l v kv, .slice A L.length cap] w (GaPost N (gatL (atL k t r l ++ atomsF kids) L) w)
def AllG : Fr → Prop
  | .nil => True
  | .cons k t r l v kids rest => NodeG k t r l v kids ∧ AllG rest
theorem AllG.at_ : ∀ (f : Fr) (j : Nat) {k t r : Int} {l : List UInt8} {v : Int} {kids rest : Fr}, AllG f → f.drop j = .cons k t r l v kids rest → NodeG k t r l v kids
  | .nil, 0, _, _, _, _, _, _, _, _, h => by cases h
  | .nil, _ + 1, _, _, _, _, _, _, _, _, h => by cases h
  | .cons _ _ _ _ _ _ _, 0, _, _, _, _, _, _, _, h, e => by cases e; exact h.1
  | .cons _ _ _ _ _ _ rest, j + 1, _, _, _, _, _, _, _, h, e => AllG.at_ rest j h.2 e
section
variable {k t r v : Int} {l : List UInt8} {kids : Fr}
set_option maxHeartbeats 2000000 in
set_option maxRecDepth 100000 in
theorem nodeG_step (hk : AllG kids) (hat : k = 2 → kids = .nil) : NodeG k t r l v kids := by
  intro w hi kv A0 cap0 L N hN hhi hs hths hlen
  by_cases h2 : k = 2
  · obtain rfl := hat h2
    subst h2
    obtain ⟨A, cap, rfl, s1, s2, s3⟩ := hs
    have hL : L.length ≤ 1000000 := by omega
    have := gathA (t := t) (r := r) (l := l) (v := v) N hN A 0 cap A0 cap0 L hL hths.1 hths.2
    exact this
  obtain ⟨A, cap, rfl, s1, s2, s3⟩ := hs
  have S3 := Lib.hid s3
  have HK := Lib.hid hk
  have HTS := Lib.hid hths
  have hb0 := alloc_b w (.cells #[.int .i64 k, .int .i64 t, .int .i64 r, .string ⟨l.toArray⟩, .int .i64 v, .slice A kids.len cap] 26 (0, 0))
  have HB0 := Lib.hid hb0
  have HBN := Lib.hid (Blk.new w 26 #[.int .i64 k, .int .i64 t, .int .i64 r, .string ⟨l.toArray⟩, .int .i64 v, .slice A kids.len cap])
  have HT0 := Lib.hid (hths.below hb0)
  have HAT := Lib.hid (show atL k t r l ++ atomsF kids = atomsF kids by simp [atL, h2])
  have hne : (k == 2) = false := by simpa using h2
  clear s3 hk hths hb0 hat h2
  go_enter Tryz.func59, Tryz.ntmps59
  go_wp2_with fail
  go_loopw [1, 8] (fun v1 i wr => ∃ (j : Nat) (A1 : Option Addr) (c1 : Nat) (M : List Th), j ≤ kids.len ∧ i = .int .i64 j ∧ v1 = .slice A1 M.length c1 ∧ ThsN N wr A1 M ∧ gatL (atomsF (kids.drop j)) M = gatL (atomsF kids) L ∧ M.length + (kids.drop j).all ≤ L.length + kids.all ∧ Below w.heap.size w wr ∧ Below (w.heap.size + 1) (w.alloc (.cells #[.int .i64 k, .int .i64 t, .int .i64 r, .string ⟨l.toArray⟩, .int .i64 v, .slice A kids.len cap] 26 (0, 0))) wr) (fun _ i _ => kids.len - (intOf i).toNat)
  case atStart => exact ⟨0, A0, cap0, L, Nat.zero_le _, rfl, rfl, HT0.out, by rw [show kids.drop 0 = kids by cases kids <;> rfl], by rw [show kids.drop 0 = kids by cases kids <;> rfl]; exact Nat.le_refl _, HB0.out, Below.refl _ _⟩
  case round =>
    obtain ⟨j, A1, c1, M, hj, rfl, rfl, hths, hM, hML, hbr, hbr2⟩ := hrel
    have HTH := Lib.hid hths
    have HMM := Lib.hid hM
    have HBR := Lib.hid hbr
    have HBR2 := Lib.hid hbr2
    have hzr := hbr2.size
    simp only [World.size_alloc] at hzr
    have hBk := HBN.out.below hbr2 (by omega)
    have b5 := hBk.cell 5
    clear hths hM hbr hbr2 hBk
    by_cases hlt : j < kids.len
    · obtain ⟨b, o, rfl, hb, hrow⟩ := S3.out (by omega)
      obtain ⟨k', t', r', l', v', kids', rest', hdr⟩ := kids.drop_lt j hlt
      have hrow' := RowAt.keep (w' := wr) (fun b o hb => HBR.out.cell (p := ⟨b, o, none⟩) (show b < w.heap.size by omega)) kids b o hb hrow
      have hat := RowAt.at_ kids b o j hrow'
      rw [hdr] at hat
      obtain ⟨kv', q0, q1, q2, q3, q4, q5, hl', hsl'⟩ := hat.head
      obtain ⟨A', cap', rfl, hsl''⟩ := hsl'
      have HSL := Lib.hid (⟨A', cap', rfl, hsl''⟩ : SlAt wr hi (.slice A' kids'.len cap') kids')
      have HC := Lib.hid (AllG.at_ kids j HK.out hdr)
      have HNX := Lib.hid (kids.drop_next j hdr)
      have hall : (kids.drop j).all = 1 + kids'.all + rest'.all := by rw [hdr]; rfl
      have hatl : (atL k' t' r' l').length ≤ 1 := by unfold atL; split <;> simp
      have haf := atomsF_len kids'
      have HST := Lib.hid (show gatL (atomsF (kids.drop j)) M = gatL (atomsF rest') (gatL (atL k' t' r' l' ++ atomsF kids') M) by rw [hdr]; simp only [atomsF, gatL_append])
      have hgl := gatL_len (atL k' t' r' l' ++ atomsF kids') M
      simp only [List.length_append] at hgl
      obtain ⟨M', hM'⟩ : ∃ M', gatL (atL k' t' r' l' ++ atomsF kids') M = M' := ⟨_, rfl⟩
      rw [hM'] at hgl HST
      have HM' := Lib.hid hM'
      have hml : M.length + 1 + kids'.all ≤ 1000000 := by omega
      have hml2 : M'.length + rest'.all ≤ L.length + kids.all := by omega
      clear hrow hrow' hat hsl'' hdr hall hM' hgl hatl haf
      go_wp2_with (go_at_call 59; refine (HC.out _ hi _ _ _ M N (by omega) (by omega) HSL.out HTH.out hml).mono ?_; rw [HM'.out]; rintro e w2 ⟨A2, c2, rfl, ht2, hb2⟩)
      go_roundw
      case rel => exact ⟨j + 1, A2, c2, M', by omega, by go_num, rfl, ht2, by rw [HNX.out, ← HMM.out, HST.out], by rw [HNX.out]; exact hml2, HBR.out.trans (hb2.mono (by omega)), HBR2.out.trans (hb2.mono (by omega))⟩
      case measure => simp [intOf]; omega
    · have hjk : j = kids.len := by omega
      have HE := Lib.hid (show gatL (atL k t r l ++ atomsF kids) L = M by rw [HAT.out, ← HMM.out, Fr.drop_ge kids j (by omega)]; rfl)
      go_wp2_with fail
      go_ret
      rw [HE.out]
      exact ⟨A1, c1, rfl, HTH.out, HBR.out⟩
/-- Atoms have no kids: what the reference's gather asks of a node that may be. -/
def flatF : Fr → Prop
  | .nil => True
  | .cons k _ _ _ _ kids rest => (k = 2 → kids = .nil) ∧ flatF kids ∧ flatF rest
theorem allG : ∀ f, flatF f → AllG f
  | .nil, _ => trivial
  | .cons _ _ _ _ _ kids rest, h => ⟨nodeG_step (allG kids h.2.1) h.1, allG rest h.2.2⟩
theorem own_flat {a k t r v : Int} {l : List UInt8} {kids : Fr} (h : ownB a k t r l v kids.len = true) : k = 2 → kids = .nil := by
  intro h2
  unfold ownB at h
  rw [if_pos h2] at h
  simp only [Bool.and_eq_true, decide_eq_true_eq] at h
  have : kids.len = 0 := by first | exact h.2 | (simpa using h.2)
  cases kids with
  | nil => rfl
  | cons _ _ _ _ _ _ _ => simp [Fr.len] at this
theorem ok_flat {a : Int} : ∀ f, okF a f → flatF f
  | .nil, _ => trivial
  | .cons _ _ _ _ _ kids rest, h => ⟨own_flat h.1, ok_flat kids h.2.1, ok_flat rest h.2.2⟩
theorem nodeG_all {a : Int} (h : ownB a k t r l v kids.len = true) (hk : okF a kids) : NodeG k t r l v kids := nodeG_step (allG kids (ok_flat kids hk)) (own_flat h)
end

theorem valG_out : ∀ (T : List Th) (st : List Int) (f : Th → Int) (x : Th), x ∉ T → valG T st f x = f x
  | [], _, _, _, _ => by simp [valG]
  | _ :: _, [], _, _, _ => by simp [valG]
  | y :: T, v :: st, f, x, h => by
    simp only [List.mem_cons, not_or] at h
    rw [valG, valG_out T st _ x h.2]
    simp [upd, h.1]
theorem valG_at : ∀ (T : List Th) (st : List Int) (f : Th → Int) (i : Nat) (x : Th) (v : Int), T.Nodup → T[i]? = some x → st[i]? = some v → valG T st f x = v
  | [], _, _, _, _, _, _, h, _ => by simp at h
  | _ :: _, [], _, _, _, _, _, _, h => by simp at h
  | y :: T, u :: st, f, 0, x, v, hn, h, k => by
    simp only [List.getElem?_cons_zero, Option.some.injEq] at h k
    subst h k
    rw [valG, valG_out T st _ y (List.nodup_cons.1 hn).1]
    simp [upd]
  | y :: T, u :: st, f, i + 1, x, v, hn, h, k => by
    rw [valG]
    exact valG_at T st _ i x v (List.nodup_cons.1 hn).2 (by simpa using h) (by simpa using k)
/-- What the reference's holds does at one node. -/
def NodeJ (T : List Th) (st : List Int) (k t r : Int) (l : List UInt8) (v : Int) (kids : Fr) : Prop :=
  ∀ (w : World) (hi : Nat) (kv : Value) (A : Option Addr) (cA : Nat) (A2 : Option Addr) (c2 : Nat), hi ≤ w.heap.size → SlAt w hi kv kids → ThsB w A T → IntsAt w A2 st → (∀ x ∈ atL k t r l ++ atomsF kids, x ∈ T) → ownB 2 k t r l v kids.len = true → okF 2 kids →
    Calls Tryz.prog 61 #[nodeV k t r l v kv, .slice A T.length cA, .slice A2 st.length c2] w fun e w' => e = .returned (.bool (hOf (valG T st (fun _ => 0)) k t r l v (hL (valG T st (fun _ => 0)) kids))) ∧ Below w.heap.size w w'
def AllJ (T : List Th) (st : List Int) : Fr → Prop
  | .nil => True
  | .cons k t r l v kids rest => NodeJ T st k t r l v kids ∧ AllJ T st rest
theorem AllJ.at_ {T : List Th} {st : List Int} : ∀ (f : Fr) (j : Nat) {k t r : Int} {l : List UInt8} {v : Int} {kids rest : Fr}, AllJ T st f → f.drop j = .cons k t r l v kids rest → NodeJ T st k t r l v kids
  | .nil, 0, _, _, _, _, _, _, _, _, h => by cases h
  | .nil, _ + 1, _, _, _, _, _, _, _, _, h => by cases h
  | .cons _ _ _ _ _ _ _, 0, _, _, _, _, _, _, _, h, e => by cases e; exact h.1
  | .cons _ _ _ _ _ _ rest, j + 1, _, _, _, _, _, _, _, h, e => AllJ.at_ rest j h.2 e
theorem atomsF_at : ∀ (f : Fr) (j : Nat) {k t r : Int} {l : List UInt8} {v : Int} {kids rest : Fr}, f.drop j = .cons k t r l v kids rest → ∀ x ∈ atL k t r l ++ atomsF kids, x ∈ atomsF f
  | .nil, 0, _, _, _, _, _, _, _, h => by cases h
  | .nil, _ + 1, _, _, _, _, _, _, _, h => by cases h
  | .cons _ _ _ _ _ _ _, 0, _, _, _, _, _, _, _, e => by
    cases e
    intro x hx
    simp only [atomsF, List.mem_append] at hx ⊢
    exact .inl hx
  | .cons _ _ _ _ _ _ rest, j + 1, _, _, _, _, _, _, _, e => by
    intro x hx
    have := atomsF_at rest j e x hx
    simp only [atomsF, List.mem_append]
    exact .inr this
theorem all_take_step {bs : List Bool} {j : Nat} {b : Bool} (h : bs[j]? = some b) : (bs.take (j + 1)).all (fun b => b) = ((bs.take j).all (fun b => b) && b) := by rw [List.take_add_one, h]; simp
theorem any_take_step' {bs : List Bool} {j : Nat} {b : Bool} (h : bs[j]? = some b) : (bs.take (j + 1)).any (fun b => b) = ((bs.take j).any (fun b => b) || b) := by rw [List.take_add_one, h]; simp
theorem all_of_at {bs : List Bool} {j : Nat} {b : Bool} (h : bs[j]? = some b) (hb : b = false) : bs.all (fun b => b) = false := by
  subst hb
  rw [List.all_eq_false]
  exact ⟨false, List.mem_of_getElem? h, by simp⟩
theorem own_kinds {a k t r : Int} {l : List UInt8} {v : Int} {n : Nat} (h : ownB a k t r l v n = true) : k = 1 ∨ k = 2 ∨ k = 3 ∨ k = 4 ∨ k = 5 := by
  unfold ownB at h
  split at h
  · omega
  · simp only [Bool.and_eq_true] at h
    have h2 := h.2
    by_cases h1 : k = 1
    · exact .inl h1
    by_cases h3 : k = 3
    · exact .inr (.inr (.inl h3))
    by_cases h4 : k = 4
    · exact .inr (.inr (.inr (.inl h4)))
    by_cases h5 : k = 5
    · exact .inr (.inr (.inr (.inr h5)))
    simp [h1, h3, h4, h5] at h2
section
variable {T : List Th} {st : List Int} {k t r v : Int} {l : List UInt8} {kids : Fr}
set_option maxHeartbeats 2000000 in
set_option maxRecDepth 100000 in
theorem nodeJ_1 : NodeJ T st 1 t r l v kids := by
  intro w hi kv A cA A2 c2 hhi hs hth hst hx ho hk
  obtain ⟨Ak, cap, rfl, s1, s2, s3⟩ := hs
  have HR := Lib.hid (show hOf (valG T st (fun _ => 0)) 1 t r l v (hL (valG T st (fun _ => 0)) kids) = true by simp [hOf])
  rw [HR.out]
  clear s3 hth hst hx ho hk HR
  go_enter Tryz.func61, Tryz.ntmps61
  go_wp2_with fail
  go_ret
  exact ⟨rfl, alloc_b _ _⟩
set_option maxHeartbeats 2000000 in
set_option maxRecDepth 100000 in
theorem nodeJ_2 (hlen : T.length ≤ 1000000) (hls : st.length = T.length) (hnd : T.Nodup) : NodeJ T st 2 t r l v kids := by
  intro w hi kv A cA A2 c2 hhi hs hth hst hx ho hk
  obtain ⟨Ak, cap, rfl, s1, s2, s3⟩ := hs
  have hin : (t, r, l) ∈ T := hx _ (by simp [atL])
  obtain ⟨m, hm, hmx⟩ := List.mem_iff_getElem.1 hin
  have HM := Lib.hid (show T[m]? = some (t, r, l) by rw [List.getElem?_eq_getElem hm, hmx])
  have HND := Lib.hid hnd
  have HR := Lib.hid (show hOf (valG T st (fun _ => 0)) 2 t r l v (hL (valG T st (fun _ => 0)) kids) = decide (valG T st (fun _ => 0) (t, r, l) = v) by simp [hOf])
  obtain ⟨f, hf⟩ : ∃ f, valG T st (fun _ => 0) = f := ⟨_, rfl⟩
  have HF := Lib.hid hf
  rw [HR.out, hf]
  have HTH := Lib.hid hth
  have HST := Lib.hid hst
  have HLS := Lib.hid hls
  have hls' : st.length ≤ 1000000 := by omega
  have HBN := Lib.hid (Blk.new w 26 #[.int .i64 2, .int .i64 t, .int .i64 r, .string ⟨l.toArray⟩, .int .i64 v, .slice Ak kids.len cap])
  have HB0 := Lib.hid (alloc_b w (.cells #[.int .i64 2, .int .i64 t, .int .i64 r, .string ⟨l.toArray⟩, .int .i64 v, .slice Ak kids.len cap] 26 (0, 0)))
  rw [hls]
  clear s3 hth hst hx ho hk HR hnd hmx hin hf hls
  go_enter Tryz.func61, Tryz.ntmps61
  go_wp2_with fail
  go_loopw [7] (fun i wr => ∃ j : Nat, j ≤ T.length ∧ i = .int .i64 j ∧ (t, r, l) ∉ T.take j ∧ ∃ n, wr = (w.alloc (.cells #[.int .i64 2, .int .i64 t, .int .i64 r, .string ⟨l.toArray⟩, .int .i64 v, .slice Ak kids.len cap] 26 (0, 0))).drewN n) (fun i _ => T.length - (intOf i).toNat)
  case atStart => exact ⟨0, Nat.zero_le _, rfl, by simp, 0, rfl⟩
  case round =>
    obtain ⟨j, hj, rfl, hno, n, hwr⟩ := hrel
    have HNO := Lib.hid hno
    have HBT := Lib.hid (show Below w.heap.size w wr by rw [hwr]; exact below_drewN HB0.out n)
    have hBk : Blk wr w.heap.size 26 #[.int .i64 2, .int .i64 t, .int .i64 r, .string ⟨l.toArray⟩, .int .i64 v, .slice Ak kids.len cap] := by rw [hwr]; exact HBN.out
    have HWR := Lib.hid hwr
    have b1 := hBk.cell 1
    have b2 := hBk.cell 2
    have b3 := hBk.cell 3
    have b4 := hBk.cell 4
    clear hno hwr hBk
    by_cases hlt : j < T.length
    · have ex := List.getElem?_eq_getElem hlt
      obtain ⟨y, hy⟩ : ∃ y, T[j] = y := ⟨_, rfl⟩
      rw [hy] at ex
      have hlt2 : j < st.length := by rw [HLS.out]; exact hlt
      have ev := List.getElem?_eq_getElem hlt2
      obtain ⟨u, hu⟩ : ∃ u, st[j] = u := ⟨_, rfl⟩
      rw [hu] at ev
      obtain ⟨g, o, rfl, y0, y1, y2⟩ := HTH.out _ _ ex
      obtain ⟨g2, o2, rfl, d0⟩ := HST.out _ _ ev
      have z0 := cell_go y0 HBT.out
      have z1 := cell_go y1 HBT.out
      have z2 := cell_go y2 HBT.out
      have d1 := cell_go d0 HBT.out
      have HEX := Lib.hid ex
      have HEV := Lib.hid ev
      have hjl : (j : Int) < (T.length : Int) := by omega
      have hgd := fun (w : World) (op : BinOp) (x y : Operand) (xs ys : Array Value) => run_eqGuard_agg (P := Tryz.prog) w op 23 x y xs ys guard_thing
      clear ex hy y0 y1 y2 hu ev d0 hlt2
      by_cases hxy : y = (t, r, l)
      · subst hxy
        have heq : ∀ w, (binOp .eql 23 (thVal t r l) (thVal t r l)).run Tryz.prog w = .ok (.bool true) w := fun w => by rw [eql_thing (t, r, l) (t, r, l), decide_eq_true rfl]
        have HV := Lib.hid (show f (t, r, l) = u by rw [← HF.out]; exact valG_at T st _ j _ u HND.out HEX.out HEV.out)
        go_wp2_with fail
        go_quiet (fail)
        go_wp2_with fail
        go_quiet (fail)
        go_wp2_with fail
        go_ret
        exact ⟨ret_bool (by rw [HV.out]; rfl), below_drewN (below_drewN HBT.out _) _⟩
      · have heq : ∀ w, (binOp .eql 23 (thVal y.1 y.2.1 y.2.2) (thVal t r l)).run Tryz.prog w = .ok (.bool false) w := fun w => by rw [eql_thing y (t, r, l), decide_eq_false hxy]
        have HN2 := Lib.hid (take_mem HEX.out hxy HNO.out)
        clear hxy
        go_wp2_with fail
        go_quiet (fail)
        go_wp2_with fail
        go_roundw
        case rel => exact ⟨j + 1, by omega, by go_num, HN2.out, _, by rw [HWR.out, World.drewN_drewN]⟩
        case measure => simp [intOf]; omega
    · exact absurd (List.mem_of_getElem? HM.out) (by have := HNO.out; rwa [List.take_of_length_le (by omega)] at this)
set_option maxHeartbeats 2000000 in
set_option maxRecDepth 100000 in
theorem nodeJ_3 (hN : AllJ T st kids) : NodeJ T st 3 t r l v kids := by
  intro w hi kv A cA A2 c2 hhi hs hth hst hx ho hk
  obtain ⟨Ak, cap, rfl, s1, s2, s3⟩ := hs
  have hk1 : kids.len = 1 := by
    unfold ownB at ho
    rw [if_neg (by decide)] at ho
    simp only [Bool.and_eq_true] at ho
    simpa using ho.2
  match kids, hk1 with
  | .cons k' t' r' l' v' kids' .nil, _ =>
  obtain ⟨bb, o, rfl, hb, hrow⟩ := s3 (by simp [Fr.len])
  obtain ⟨kv', q0, q1, q2, q3, q4, q5, hl', hsl'⟩ := RowAt.head hrow
  have HB0 := Lib.hid (alloc_b w (.cells #[.int .i64 3, .int .i64 t, .int .i64 r, .string ⟨l.toArray⟩, .int .i64 v, .slice (some ⟨bb, o, none⟩) 1 cap] 26 (0, 0)))
  have HX := Lib.hid (Blk.new w 26 #[.int .i64 3, .int .i64 t, .int .i64 r, .string ⟨l.toArray⟩, .int .i64 v, .slice (some ⟨bb, o, none⟩) 1 cap])
  have hf : hOf (valG T st (fun _ => 0)) 3 t r l v (hL (valG T st (fun _ => 0)) (.cons k' t' r' l' v' kids' .nil)) = !hOf (valG T st (fun _ => 0)) k' t' r' l' v' (hL (valG T st (fun _ => 0)) kids') := rfl
  have hC := hN.1 (w.alloc (.cells #[.int .i64 3, .int .i64 t, .int .i64 r, .string ⟨l.toArray⟩, .int .i64 v, .slice (some ⟨bb, o, none⟩) 1 cap] 26 (0, 0))) hi kv' A cA A2 c2 (by simp; omega) (hsl'.below hhi HB0.out) (hth.below HB0.out) (hst.below HB0.out) (fun x h => hx x (by
    simp only [atomsF, List.mem_append] at h ⊢
    exact .inr (.inl h))) hk.1 hk.2.1
  rw [hf]
  obtain ⟨b, hb⟩ : ∃ b, hOf (valG T st (fun _ => 0)) k' t' r' l' v' (hL (valG T st (fun _ => 0)) kids') = b := ⟨_, rfl⟩
  rw [hb] at hC ⊢
  have HC := Lib.hid hC
  have hc1 : 1 ≤ cap := by simpa [Fr.len] using s1
  obtain ⟨A', cap', rfl, _⟩ := hsl'
  have q0 := cell_go q0 HB0.out
  have q1 := cell_go q1 HB0.out
  have q2 := cell_go q2 HB0.out
  have q3 := cell_go q3 HB0.out
  have q4 := cell_go q4 HB0.out
  have q5 := cell_go q5 HB0.out
  clear ho hk hN s1 s3 hrow hk1 hC hf hx hth hst
  go_enter Tryz.func61, Tryz.ntmps61
  go_wp2_with (go_at_call 61; refine HC.out.mono ?_; rintro e w1 ⟨rfl, hb1⟩)
  go_ret
  exact ⟨rfl, below_trans HB0.out hb1⟩
set_option maxHeartbeats 2000000 in
set_option maxRecDepth 100000 in
theorem nodeJ_4 (hN : AllJ T st kids) : NodeJ T st 4 t r l v kids := by
  intro w hi kv A cA A2 c2 hhi hs hth hst hx ho hk
  obtain ⟨Ak, cap, rfl, s1, s2, s3⟩ := hs
  have HAT := Lib.hid (fun x (h : x ∈ atomsF kids) => hx x (by simp [atL]; exact h))
  have hv : hOf (valG T st (fun _ => 0)) 4 t r l v (hL (valG T st (fun _ => 0)) kids) = (hL (valG T st (fun _ => 0)) kids).all (fun b => b) := by simp [hOf]; rfl
  have hll := hL_len (valG T st (fun _ => 0)) kids
  obtain ⟨bs, hbs⟩ : ∃ bs, hL (valG T st (fun _ => 0)) kids = bs := ⟨_, rfl⟩
  have HBS := Lib.hid hbs
  rw [hv, hbs]
  rw [hbs] at hll
  have S3 := Lib.hid s3
  have HN := Lib.hid hN
  have HK := Lib.hid hk
  have HTH := Lib.hid hth
  have HST := Lib.hid hst
  have HBN := Lib.hid (Blk.new w 26 #[.int .i64 4, .int .i64 t, .int .i64 r, .string ⟨l.toArray⟩, .int .i64 v, .slice Ak kids.len cap])
  have hb0 := alloc_b w (.cells #[.int .i64 4, .int .i64 t, .int .i64 r, .string ⟨l.toArray⟩, .int .i64 v, .slice Ak kids.len cap] 26 (0, 0))
  have HB0 := Lib.hid hb0
  clear s3 hth hst hx ho hk hv hbs hN hb0
  go_enter Tryz.func61, Tryz.ntmps61
  go_wp2_with fail
  go_loopw [8] (fun i wr => ∃ j : Nat, j ≤ kids.len ∧ i = .int .i64 j ∧ (bs.take j).all (fun b => b) = true ∧ Below (w.heap.size + 1) (w.alloc (.cells #[.int .i64 4, .int .i64 t, .int .i64 r, .string ⟨l.toArray⟩, .int .i64 v, .slice Ak kids.len cap] 26 (0, 0))) wr) (fun i _ => kids.len - (intOf i).toNat)
  case atStart => exact ⟨0, Nat.zero_le _, rfl, by simp, Below.refl _ _⟩
  case round =>
    obtain ⟨j, hj, rfl, hno, hbr⟩ := hrel
    have HNO := Lib.hid hno
    have hzr := hbr.size
    simp only [World.size_alloc] at hzr
    have HBR := Lib.hid hbr
    have HBT := Lib.hid (show Below w.heap.size w wr from HB0.out.trans (hbr.mono (by omega)))
    have hBk := HBN.out.below hbr (by omega)
    have b5 := hBk.cell 5
    clear hno hbr hBk
    by_cases hlt : j < kids.len
    · obtain ⟨b, o, rfl, hb, hrow⟩ := S3.out (by omega)
      obtain ⟨k', t', r', l', v', kids', rest', hdr⟩ := kids.drop_lt j hlt
      have hrow' := RowAt.keep (w' := wr) (fun b o hb => HBT.out.cell (p := ⟨b, o, none⟩) (show b < w.heap.size by omega)) kids b o hb hrow
      have hat := RowAt.at_ kids b o j hrow'
      rw [hdr] at hat
      obtain ⟨kv', q0, q1, q2, q3, q4, q5, hl', hsl'⟩ := hat.head
      obtain ⟨A', cap', rfl, hsl''⟩ := hsl'
      have HSL := Lib.hid (⟨A', cap', rfl, hsl''⟩ : SlAt wr hi (.slice A' kids'.len cap') kids')
      have HC := Lib.hid (AllJ.at_ kids j HN.out hdr)
      have HOK := Lib.hid (okF.at_ kids j HK.out hdr)
      have HAX := Lib.hid (fun x hx => HAT.out x (atomsF_at kids j hdr x hx))
      have hbj := hL_at (valG T st (fun _ => 0)) kids j hdr
      rw [HBS.out] at hbj
      obtain ⟨bj, hbjj⟩ : ∃ bj, hOf (valG T st (fun _ => 0)) k' t' r' l' v' (hL (valG T st (fun _ => 0)) kids') = bj := ⟨_, rfl⟩
      rw [hbjj] at hbj
      have HBJ := Lib.hid hbj
      have HBV := Lib.hid hbjj
      have HTR := Lib.hid (HTH.out.below HBT.out)
      have HSR := Lib.hid (HST.out.below HBT.out)
      clear hrow hrow' hat hsl'' hdr hbj hbjj
      cases bj with
      | true =>
        go_wp2_with (go_at_call 61; refine (HC.out wr hi _ A cA A2 c2 (by omega) HSL.out HTR.out HSR.out HAX.out HOK.out.1 HOK.out.2).mono ?_; rw [HBV.out]; rintro e w2 ⟨rfl, hb2⟩)
        go_roundw
        case rel => exact ⟨j + 1, by omega, by go_num, by rw [all_take_step HBJ.out, HNO.out]; rfl, HBR.out.trans (hb2.mono (by omega))⟩
        case measure => simp [intOf]; omega
      | false =>
        have HE := Lib.hid (show bs.all (fun b => b) = false from all_of_at HBJ.out rfl)
        go_wp2_with (go_at_call 61; refine (HC.out wr hi _ A cA A2 c2 (by omega) HSL.out HTR.out HSR.out HAX.out HOK.out.1 HOK.out.2).mono ?_; rw [HBV.out]; rintro e w2 ⟨rfl, hb2⟩)
        go_ret
        exact ⟨ret_bool HE.out.symm, HBT.out.trans (hb2.mono (by omega))⟩
    · have HFIN := Lib.hid (show bs.all (fun b => b) = true by have := HNO.out; rwa [List.take_of_length_le (by omega)] at this)
      go_wp2_with fail
      go_ret
      exact ⟨ret_bool HFIN.out.symm, HBT.out⟩
set_option maxHeartbeats 2000000 in
set_option maxRecDepth 100000 in
theorem nodeJ_5 (hN : AllJ T st kids) : NodeJ T st 5 t r l v kids := by
  intro w hi kv A cA A2 c2 hhi hs hth hst hx ho hk
  obtain ⟨Ak, cap, rfl, s1, s2, s3⟩ := hs
  have HAT := Lib.hid (fun x (h : x ∈ atomsF kids) => hx x (by simp [atL]; exact h))
  have hv : hOf (valG T st (fun _ => 0)) 5 t r l v (hL (valG T st (fun _ => 0)) kids) = (hL (valG T st (fun _ => 0)) kids).any (fun b => b) := by simp [hOf]; rfl
  have hll := hL_len (valG T st (fun _ => 0)) kids
  obtain ⟨bs, hbs⟩ : ∃ bs, hL (valG T st (fun _ => 0)) kids = bs := ⟨_, rfl⟩
  have HBS := Lib.hid hbs
  rw [hv, hbs]
  rw [hbs] at hll
  have S3 := Lib.hid s3
  have HN := Lib.hid hN
  have HK := Lib.hid hk
  have HTH := Lib.hid hth
  have HST := Lib.hid hst
  have HBN := Lib.hid (Blk.new w 26 #[.int .i64 5, .int .i64 t, .int .i64 r, .string ⟨l.toArray⟩, .int .i64 v, .slice Ak kids.len cap])
  have hb0 := alloc_b w (.cells #[.int .i64 5, .int .i64 t, .int .i64 r, .string ⟨l.toArray⟩, .int .i64 v, .slice Ak kids.len cap] 26 (0, 0))
  have HB0 := Lib.hid hb0
  clear s3 hth hst hx ho hk hv hbs hN hb0
  go_enter Tryz.func61, Tryz.ntmps61
  go_wp2_with fail
  go_loopw [9] (fun i wr => ∃ j : Nat, j ≤ kids.len ∧ i = .int .i64 j ∧ (bs.take j).any (fun b => b) = false ∧ Below (w.heap.size + 1) (w.alloc (.cells #[.int .i64 5, .int .i64 t, .int .i64 r, .string ⟨l.toArray⟩, .int .i64 v, .slice Ak kids.len cap] 26 (0, 0))) wr) (fun i _ => kids.len - (intOf i).toNat)
  case atStart => exact ⟨0, Nat.zero_le _, rfl, by simp, Below.refl _ _⟩
  case round =>
    obtain ⟨j, hj, rfl, hno, hbr⟩ := hrel
    have HNO := Lib.hid hno
    have hzr := hbr.size
    simp only [World.size_alloc] at hzr
    have HBR := Lib.hid hbr
    have HBT := Lib.hid (show Below w.heap.size w wr from HB0.out.trans (hbr.mono (by omega)))
    have hBk := HBN.out.below hbr (by omega)
    have b5 := hBk.cell 5
    clear hno hbr hBk
    by_cases hlt : j < kids.len
    · obtain ⟨b, o, rfl, hb, hrow⟩ := S3.out (by omega)
      obtain ⟨k', t', r', l', v', kids', rest', hdr⟩ := kids.drop_lt j hlt
      have hrow' := RowAt.keep (w' := wr) (fun b o hb => HBT.out.cell (p := ⟨b, o, none⟩) (show b < w.heap.size by omega)) kids b o hb hrow
      have hat := RowAt.at_ kids b o j hrow'
      rw [hdr] at hat
      obtain ⟨kv', q0, q1, q2, q3, q4, q5, hl', hsl'⟩ := hat.head
      obtain ⟨A', cap', rfl, hsl''⟩ := hsl'
      have HSL := Lib.hid (⟨A', cap', rfl, hsl''⟩ : SlAt wr hi (.slice A' kids'.len cap') kids')
      have HC := Lib.hid (AllJ.at_ kids j HN.out hdr)
      have HOK := Lib.hid (okF.at_ kids j HK.out hdr)
      have HAX := Lib.hid (fun x hx => HAT.out x (atomsF_at kids j hdr x hx))
      have hbj := hL_at (valG T st (fun _ => 0)) kids j hdr
      rw [HBS.out] at hbj
      obtain ⟨bj, hbjj⟩ : ∃ bj, hOf (valG T st (fun _ => 0)) k' t' r' l' v' (hL (valG T st (fun _ => 0)) kids') = bj := ⟨_, rfl⟩
      rw [hbjj] at hbj
      have HBJ := Lib.hid hbj
      have HBV := Lib.hid hbjj
      have HTR := Lib.hid (HTH.out.below HBT.out)
      have HSR := Lib.hid (HST.out.below HBT.out)
      clear hrow hrow' hat hsl'' hdr hbj hbjj
      cases bj with
      | false =>
        go_wp2_with (go_at_call 61; refine (HC.out wr hi _ A cA A2 c2 (by omega) HSL.out HTR.out HSR.out HAX.out HOK.out.1 HOK.out.2).mono ?_; rw [HBV.out]; rintro e w2 ⟨rfl, hb2⟩)
        go_roundw
        case rel => exact ⟨j + 1, by omega, by go_num, by rw [any_take_step' HBJ.out, HNO.out]; rfl, HBR.out.trans (hb2.mono (by omega))⟩
        case measure => simp [intOf]; omega
      | true =>
        have HE := Lib.hid (show bs.any (fun b => b) = true from any_of_at HBJ.out (fun b => b) rfl)
        go_wp2_with (go_at_call 61; refine (HC.out wr hi _ A cA A2 c2 (by omega) HSL.out HTR.out HSR.out HAX.out HOK.out.1 HOK.out.2).mono ?_; rw [HBV.out]; rintro e w2 ⟨rfl, hb2⟩)
        go_ret
        exact ⟨ret_bool HE.out.symm, HBT.out.trans (hb2.mono (by omega))⟩
    · have HFIN := Lib.hid (show bs.any (fun b => b) = false by have := HNO.out; rwa [List.take_of_length_le (by omega)] at this)
      go_wp2_with fail
      go_ret
      exact ⟨ret_bool HFIN.out.symm, HBT.out⟩
theorem nodeJ_step (hlen : T.length ≤ 1000000) (hls : st.length = T.length) (hnd : T.Nodup) (hN : AllJ T st kids) : NodeJ T st k t r l v kids := by
  intro w hi kv A cA A2 c2 hhi hs hth hst hx ho hk
  have hkk : k = 1 ∨ k = 2 ∨ k = 3 ∨ k = 4 ∨ k = 5 := own_kinds ho
  rcases hkk with rfl | rfl | rfl | rfl | rfl
  · exact nodeJ_1 w hi kv A cA A2 c2 hhi hs hth hst hx ho hk
  · exact nodeJ_2 hlen hls hnd w hi kv A cA A2 c2 hhi hs hth hst hx ho hk
  · exact nodeJ_3 hN w hi kv A cA A2 c2 hhi hs hth hst hx ho hk
  · exact nodeJ_4 hN w hi kv A cA A2 c2 hhi hs hth hst hx ho hk
  · exact nodeJ_5 hN w hi kv A cA A2 c2 hhi hs hth hst hx ho hk
theorem allJ (hlen : T.length ≤ 1000000) (hls : st.length = T.length) (hnd : T.Nodup) : ∀ f, AllJ T st f
  | .nil => trivial
  | .cons _ _ _ _ _ kids rest => ⟨nodeJ_step hlen hls hnd (allJ hlen hls hnd kids), allJ hlen hls hnd rest⟩
theorem nodeJ_all (hlen : T.length ≤ 1000000) (hls : st.length = T.length) (hnd : T.Nodup) : NodeJ T st k t r l v kids := nodeJ_step hlen hls hnd (allJ hlen hls hnd kids)
end
end Go.Proofs.YtmlnibjnacfanaaGreatDoor
