/- Layer 8: the condition that things have values: the program's All. -/
import Derived.Test.YtmlnibjnacfanaaGreatDoorJf
import Derived.Test.YtmlnibjnacfanaaGreatDoorDj
namespace Go.Proofs.YtmlnibjnacfanaaGreatDoor
open Go.RowKit

def atomN (p : Th × Int) : Nd := ⟨2, p.1.1, p.1.2.1, p.1.2.2, p.2, .nil⟩
def okP (p : Th × Int) : Bool := thingB 2 p.1.1 p.1.2.1 p.1.2.2 && numB p.2
def allN : List Nd → Nd
  | [] => ⟨1, 0, 0, [], 0, .nil⟩
  | [n] => n
  | l => ⟨4, 0, 0, [], 0, frOf l⟩
/-- What All answers. -/
def allC (xs : List Th) (vs : List Int) : (Int × Nd) × Int :=
  if xs.length ≠ vs.length then ((0, noNd), 1) else if 1023 < xs.length then ((0, noNd), 2) else if (xs.zip vs).all okP then ((1, allN ((xs.zip vs).map atomN)), 0) else ((0, noNd), 80)
def AllPost (r : (Int × Nd) × Int) (w : World) (e : Ending) (w' : World) : Prop :=
  ∃ kv, e = .returned (.tuple #[condV r.1.1 r.1.2.k r.1.2.t r.1.2.r r.1.2.l r.1.2.v kv, .int .i64 r.2]) ∧ r.1.2.l.length ≤ 262144 ∧ KidC w' (fun b => w.heap.size ≤ b ∧ b < w'.heap.size) kv r.1.2.kids ∧ Below w.heap.size w w'
theorem AllPost.zero {w w' : World} {E : Int} (hb : Below w.heap.size w w') : AllPost ((0, noNd), E) w (.returned (.tuple #[condV 0 0 0 0 [] 0 (.slice none 0 0), .int .i64 E])) w' :=
  ⟨_, rfl, by simp [noNd], KidC.nil _ _, hb⟩
theorem zip_at {xs : List Th} {vs : List Int} {j : Nat} {x : Th} {v : Int} (h : xs[j]? = some x) (k : vs[j]? = some v) : (xs.zip vs)[j]? = some (x, v) := by
  rw [List.getElem?_zip_eq_some]; exact ⟨h, k⟩
theorem allN_many : ∀ {l : List Nd}, 2 ≤ l.length → allN l = ⟨4, 0, 0, [], 0, frOf l⟩
  | [], h => by simp at h
  | [_], h => by simp at h
  | _ :: _ :: _, _ => rfl
/-- The atoms' cells, as append leaves them. -/
def NdRow (w : World) (B : Nat) (v : Value) (l : List Nd) : Prop := ∃ cs, w.ownsRow B 26 6 v l.length cs ∧ FrC w (fun _ => False) (frOf l) cs ∧ l.length ≤ 1023
theorem ndCs_one (n : Nd) (kv : Value) (h : kv.oneCell' = true) : ∀ u ∈ nodeCs n kv, u.oneCell' = true := by
  intro u hu
  simp only [nodeCs, List.mem_cons, List.not_mem_nil, or_false] at hu
  rcases hu with rfl | rfl | rfl | rfl | rfl | rfl <;> first | rfl | exact h
theorem NdRow.done {w0 w : World} {B : Nat} {v : Value} {l : List Nd} (h : NdRow w B v l) (hB : w0.heap.size ≤ B) : KidC w (fun b => w0.heap.size ≤ b ∧ b < w.heap.size) v (frOf l) := by
  obtain ⟨cs, ho, hf, hl⟩ := h
  refine ⟨cs, ?_, by rw [frOf_len]; omega, fun b hb => ?_, hf.mono (fun _ e => e.elim) _ _⟩
  · rw [frOf_len]; exact own_zero ho
  · have := ho.lt b hb
    exact ⟨by omega, this.2⟩
theorem ret_condE {fn : Func} (hfn : fn.results = #[.cell 4 28, .tmp 5]) {a : Act} {W : World} {R : Ending → World → Prop} {b : Nat} {q k t r v E : Int} {l : List UInt8} {kv : Value}
    (hB : Blk W b 28 #[.int .i64 q, .int .i64 k, .int .i64 t, .int .i64 r, .string ⟨l.toArray⟩, .int .i64 v, kv]) (h4 : a.tmps[4]? = some (.pointer (some ⟨b, 0, none⟩))) (h5 : a.tmps[5]? = some (.int .i64 E)) (hd : a.defers = [])
    (hR : R (.returned (.tuple #[condV q k t r l v kv, .int .i64 E])) W) : bodyPost Tryz.prog fn R .ret a W := by
  have a0 : W.cell? ⟨b, 0, none⟩ = some (.int .i64 q) := hB.cell 0
  have a1 : W.cell? ⟨b, 1, none⟩ = some (.int .i64 k) := hB.cell 1
  have a2 : W.cell? ⟨b, 2, none⟩ = some (.int .i64 t) := hB.cell 2
  have a3 : W.cell? ⟨b, 3, none⟩ = some (.int .i64 r) := hB.cell 3
  have a4 : W.cell? ⟨b, 4, none⟩ = some (.string ⟨l.toArray⟩) := hB.cell 4
  have a5 : W.cell? ⟨b, 5, none⟩ = some (.int .i64 v) := hB.cell 5
  have a6 : W.cell? ⟨b, 6, none⟩ = some kv := hB.cell 6
  exact bodyPost_ret (by simp [results, hfn, h4, h5, go_sem, a0, a1, a2, a3, a4, a5, a6]) hd hR
theorem blk_put7 {W : World} {b : Nat} {cs : Array Value} (h : Blk W b 28 cs) (hs : cs.size = 7) (u0 u1 u2 u3 u4 u5 u6 : Value) :
    Blk (((((((W.setCell ⟨b, 0, none⟩ u0).setCell ⟨b, 1, none⟩ u1).setCell ⟨b, 2, none⟩ u2).setCell ⟨b, 3, none⟩ u3).setCell ⟨b, 4, none⟩ u4).setCell ⟨b, 5, none⟩ u5).setCell ⟨b, 6, none⟩ u6) b 28 #[u0, u1, u2, u3, u4, u5, u6] := by
  obtain ⟨l⟩ := cs
  match l, hs with
  | [a0, a1, a2, a3, a4, a5, a6], _ =>
    have := ((((((h.set_ 0 u0).set_ 1 u1).set_ 2 u2).set_ 3 u3).set_ 4 u4).set_ 5 u5).set_ 6 u6
    simpa using this
theorem heap_put7 {W : World} {b i : Nat} (hi : i ≠ b) (u0 u1 u2 u3 u4 u5 u6 : Value) :
    (((((((W.setCell ⟨b, 0, none⟩ u0).setCell ⟨b, 1, none⟩ u1).setCell ⟨b, 2, none⟩ u2).setCell ⟨b, 3, none⟩ u3).setCell ⟨b, 4, none⟩ u4).setCell ⟨b, 5, none⟩ u5).setCell ⟨b, 6, none⟩ u6).heap[i]? = W.heap[i]? := by
  rw [Below.heap_setCell _ _ _ _ hi, Below.heap_setCell _ _ _ _ hi, Below.heap_setCell _ _ _ _ hi, Below.heap_setCell _ _ _ _ hi, Below.heap_setCell _ _ _ _ hi, Below.heap_setCell _ _ _ _ hi, Below.heap_setCell _ _ _ _ hi]
theorem below_put7 {W0 W : World} {B b : Nat} (h : Below B W0 W) (hb : B ≤ b) (u0 u1 u2 u3 u4 u5 u6 : Value) :
    Below B W0 (((((((W.setCell ⟨b, 0, none⟩ u0).setCell ⟨b, 1, none⟩ u1).setCell ⟨b, 2, none⟩ u2).setCell ⟨b, 3, none⟩ u3).setCell ⟨b, 4, none⟩ u4).setCell ⟨b, 5, none⟩ u5).setCell ⟨b, 6, none⟩ u6) :=
  ((((((h.setCell (p := ⟨b, 0, none⟩) hb _).setCell (p := ⟨b, 1, none⟩) hb _).setCell (p := ⟨b, 2, none⟩) hb _).setCell (p := ⟨b, 3, none⟩) hb _).setCell (p := ⟨b, 4, none⟩) hb _).setCell (p := ⟨b, 5, none⟩) hb _).setCell (p := ⟨b, 6, none⟩) hb _
/-- A cell outside the row that grew. -/
theorem own_keepc {wr w1 w2 : World} {B n b o : Nat} {u v : Value} {xs : List Value} {ty : TypeId} {z : Nat} (hk : ∀ b, b < w1.heap.size → v.ownBlock ≠ some b → w2.heap[b]? = w1.heap[b]?) (ho : wr.ownsRow B ty z v n xs) (hc : w1.cell? ⟨b, o, none⟩ = some u) (hb : b < B ∨ wr.heap.size ≤ b) : w2.cell? ⟨b, o, none⟩ = some u := by
  have hlt := World.block_lt_of_cell? w1 _ hc
  have := hk b hlt fun e => by have := ho.lt _ e; omega
  rw [← hc]
  unfold World.cell?
  simp only [this]
section
variable {w : World}
set_option maxHeartbeats 4000000 in
set_option maxRecDepth 100000 in
theorem allCP (xs : List Th) (vs : List Int) (A A2 : Option Addr) (cA c2 : Nat) (hA : ThsB w A xs) (hA2 : IntsAt w A2 vs) (hl1 : xs.length ≤ 9223372036854775807) (_hl2 : vs.length ≤ 9223372036854775807) (hst : ∀ x ∈ xs, x.2.2.length ≤ 9223372036854775807) :
    Calls Tryz.prog 30 #[.slice A xs.length cA, .slice A2 vs.length c2] w (AllPost (allC xs vs) w) := by
  have HA := Lib.hid hA
  have HA2 := Lib.hid hA2
  have HST := Lib.hid hst
  clear hA hA2 hst
  by_cases hle : xs.length = vs.length
  · by_cases hbig : 1023 < xs.length
    · have HR := Lib.hid (show allC xs vs = ((0, noNd), 2) by unfold allC; rw [if_neg (by simpa using hle), if_pos hbig])
      have e1 : ((xs.length : Int) != (vs.length : Int)) = false := by simp [hle]
      have e2 : decide ((1023 : Int) < (xs.length : Int)) = true := by simp; omega
      clear hle
      go_enter Tryz.func30, Tryz.ntmps30
      go_wp2_with fail
      refine bodyPost_ret (v := .tuple #[condV 0 0 0 0 [] 0 (.slice none 0 0), .int .i64 2]) (by simp [results, Tryz.results30, go_sem]) rfl ?_
      rw [HR.out]
      exact AllPost.zero (alloc_b _ _)
    · have HR := Lib.hid (show allC xs vs = if (xs.zip vs).all okP then ((1, allN ((xs.zip vs).map atomN)), 0) else ((0, noNd), 80) by unfold allC; rw [if_neg (by simpa using hle), if_neg hbig])
      have e1 : ((xs.length : Int) != (vs.length : Int)) = false := by simp [hle]
      have e2 : decide ((1023 : Int) < (xs.length : Int)) = false := by simp; omega
      have hzl : (xs.zip vs).length = xs.length := by simp [hle]
      have HLE := Lib.hid hle
      have HZL := Lib.hid hzl
      have hxl : xs.length ≤ 1023 := by omega
      have HAT := Lib.hid (fun (j : Nat) (x : Th) (v : Int) (h : xs[j]? = some x) (k : vs[j]? = some v) => zip_at h k)
      obtain ⟨Z, hZ⟩ : ∃ Z, xs.zip vs = Z := ⟨_, rfl⟩
      rw [hZ] at HR HZL HAT
      have HBN := Lib.hid (Blk.new w 28 #[.int .i64 0, .int .i64 0, .int .i64 0, .int .i64 0, .string ⟨#[]⟩, .int .i64 0, .slice none 0 0])
      have HB1 := Lib.hid (alloc_b w (.cells #[.int .i64 0, .int .i64 0, .int .i64 0, .int .i64 0, .string ⟨#[]⟩, .int .i64 0, .slice none 0 0] 28 (0, 0)))
      clear hle hzl hZ
      go_enter Tryz.func30, Tryz.ntmps30
      go_wp2_with fail
      go_loopw [6, 24] (fun v6 i wr => ∃ j : Nat, j ≤ xs.length ∧ i = .int .i64 j ∧ NdRow wr (w.heap.size + 1) v6 ((Z.take j).map atomN) ∧ (Z.take j).all okP = true ∧ Below (w.heap.size + 1) (w.alloc (.cells #[.int .i64 0, .int .i64 0, .int .i64 0, .int .i64 0, .string ⟨#[]⟩, .int .i64 0, .slice none 0 0] 28 (0, 0))) wr) (fun _ i _ => xs.length - (intOf i).toNat)
      case atStart => exact ⟨0, Nat.zero_le _, rfl, ⟨[], by simpa using World.ownsRow_nil _ _ _ _, rfl, by simp⟩, by simp, Below.refl _ _⟩
      case round =>
        obtain ⟨j, hj, rfl, hrow, hok, hbr⟩ := hrel
        have HOK := Lib.hid hok
        have HBR := Lib.hid hbr
        have hzr := hbr.size
        simp only [World.size_alloc] at hzr
        have HBT := Lib.hid (show Below w.heap.size w wr from HB1.out.trans (hbr.mono (by omega)))
        have hBk := HBN.out.below hbr (by omega)
        have c0 := hBk.cell 0
        have f0 := hBk.frozen 0
        have c1 := hBk.cell 1
        have f1 := hBk.frozen 1
        have c2 := hBk.cell 2
        have f2 := hBk.frozen 2
        have c3 := hBk.cell 3
        have f3 := hBk.frozen 3
        have c4 := hBk.cell 4
        have f4 := hBk.frozen 4
        have c5 := hBk.cell 5
        have f5 := hBk.frozen 5
        have c6 := hBk.cell 6
        have f6 := hBk.frozen 6
        have HBK := Lib.hid hBk
        obtain ⟨cs, hown, hfr, hll⟩ := hrow
        have hlen : ((Z.take j).map atomN).length = j := by have := HZL.out; simp; omega
        rw [hlen] at hown
        obtain ⟨Av, cv, rfl⟩ := own_shp hown
        have HOW := Lib.hid hown
        have HFR := Lib.hid hfr
        have HLN := Lib.hid hlen
        clear hbr hok hBk hown hfr hll hlen
        by_cases hlt : j < xs.length
        · have ex := List.getElem?_eq_getElem hlt
          obtain ⟨x, hx⟩ : ∃ x, xs[j] = x := ⟨_, rfl⟩
          rw [hx] at ex
          have hlt2 : j < vs.length := by rw [← HLE.out]; exact hlt
          have ev := List.getElem?_eq_getElem hlt2
          obtain ⟨v, hv⟩ : ∃ v, vs[j] = v := ⟨_, rfl⟩
          rw [hv] at ev
          have HZ := Lib.hid (HAT.out j x v ex ev)
          have hxs := HST.out x (List.mem_of_getElem? ex)
          obtain ⟨g, o, rfl, y0, y1, y2⟩ := HA.out _ _ ex
          obtain ⟨g2, o2, rfl, d0⟩ := HA2.out _ _ ev
          have hg2 := World.block_lt_of_cell? w _ d0
          have z0 := cell_go y0 HBT.out
          have z1 := cell_go y1 HBT.out
          have z2 := cell_go y2 HBT.out
          have d1 := cell_go d0 HBT.out
          have i1 : (j : Int) < (xs.length : Int) := by omega
          have i2 : (j : Int) < (vs.length : Int) := by omega
          clear hx ex hv ev y0 y1 y2 d0
          have hxb := Blk.new wr 23 #[.int .i64 x.1, .int .i64 x.2.1, .string ⟨x.2.2.toArray⟩]
          have HXB := Lib.hid hxb
          have d2 := cell_al d1 (.cells #[.int .i64 x.1, .int .i64 x.2.1, .string ⟨x.2.2.toArray⟩] 23 (0, 0))
          have HBX := Lib.hid (alloc_b wr (.cells #[.int .i64 x.1, .int .i64 x.2.1, .string ⟨x.2.2.toArray⟩] 23 (0, 0)))
          obtain ⟨tb, htb⟩ : ∃ b, thingB 2 x.1 x.2.1 x.2.2 = b := ⟨_, rfl⟩
          obtain ⟨nb, hnb⟩ : ∃ b, numB v = b := ⟨_, rfl⟩
          have HTB := Lib.hid (show thingB 2 x.1 x.2.1 (⟨x.2.2.toArray⟩ : ByteArray).data.toList = tb from htb)
          have HNB := Lib.hid hnb
          have HOP := Lib.hid (show okP (x, v) = (tb && nb) by unfold okP; rw [htb, hnb])
          clear hxb htb hnb
          have hbad : (tb && nb) = false → Z.all okP = false := fun h => by
            rw [List.all_eq_false]
            exact ⟨(x, v), List.mem_of_getElem? HZ.out, by rw [HOP.out, h]; simp⟩
          have HBAD := Lib.hid hbad
          clear hbad
          cases tb with
          | false =>
            have HE := Lib.hid (show allC xs vs = ((0, noNd), 80) by rw [HR.out, HBAD.out rfl]; rfl)
            go_wp2_with (go_at_call 63; refine (thingP 2 x.1 x.2.1 _ _ (by rw [str_size]; exact hxs)).mono ?_; rw [HTB.out]; rintro e wx ⟨rfl, hbx⟩; have hq := below_trans HBX.out hbx; have HBK := Lib.hid (HBK.out.go hq); have c0 := HBK.out.cell 0; have f0 := HBK.out.frozen 0; have c1 := HBK.out.cell 1; have f1 := HBK.out.frozen 1; have c2 := HBK.out.cell 2; have f2 := HBK.out.frozen 2; have c3 := HBK.out.cell 3; have f3 := HBK.out.frozen 3; have c4 := HBK.out.cell 4; have f4 := HBK.out.frozen 4; have c5 := HBK.out.cell 5; have f5 := HBK.out.frozen 5; have c6 := HBK.out.cell 6; have f6 := HBK.out.frozen 6; have HQ := Lib.hid hq; clear hq hbx)
            refine ret_condE rfl (blk_put7 HBK.out rfl _ _ _ _ _ _ _) rfl rfl rfl ?_
            rw [HE.out]
            exact AllPost.zero (below_put7 (HBT.out.trans (HQ.out.mono (by omega))) (Nat.le_refl _) _ _ _ _ _ _ _)
          | true =>
            cases nb with
            | false =>
              have HE := Lib.hid (show allC xs vs = ((0, noNd), 80) by rw [HR.out, HBAD.out rfl]; rfl)
              go_wp2_with (first | (go_at_call 63; refine (thingP 2 x.1 x.2.1 _ _ (by rw [str_size]; exact hxs)).mono ?_; rw [HTB.out]; rintro e wx ⟨rfl, hbx⟩; have hq := below_trans HBX.out hbx; have HBK := Lib.hid (HBK.out.go hq); have d3 := cell_go d2 hbx; have c0 := HBK.out.cell 0; have f0 := HBK.out.frozen 0; have c1 := HBK.out.cell 1; have f1 := HBK.out.frozen 1; have c2 := HBK.out.cell 2; have f2 := HBK.out.frozen 2; have c3 := HBK.out.cell 3; have f3 := HBK.out.frozen 3; have c4 := HBK.out.cell 4; have f4 := HBK.out.frozen 4; have c5 := HBK.out.cell 5; have f5 := HBK.out.frozen 5; have c6 := HBK.out.cell 6; have f6 := HBK.out.frozen 6; have HX3 := Lib.hid (HXB.out.go hbx); have x0 := HX3.out.cell 0; have x1 := HX3.out.cell 1; have x2 := HX3.out.cell 2; have HQ := Lib.hid hq; clear hq hbx) | (go_at_call 64; refine (numP _ _).mono ?_; rw [HNB.out]; rintro e wy ⟨rfl, rfl⟩))
              refine ret_condE rfl (blk_put7 HBK.out rfl _ _ _ _ _ _ _) rfl rfl rfl ?_
              rw [HE.out]
              exact AllPost.zero (below_put7 (HBT.out.trans (HQ.out.mono (by omega))) (Nat.le_refl _) _ _ _ _ _ _ _)
            | true =>
              have HGO := Lib.hid (show (Z.take (j + 1)).all okP = true by rw [List.take_add_one, HZ.out]; simp [HOK.out, HOP.out])
              have HSN := Lib.hid (show (Z.take (j + 1)).map atomN = (Z.take j).map atomN ++ [atomN (x, v)] by rw [List.take_add_one, HZ.out]; simp)
              have HTL := Lib.hid (show x.2.2.length ≤ 262144 from Nat.le_trans (thingB_loc (a := 2) (by have := HTB.out; exact this)) (by decide))
              go_wp2_with (first | (go_at_call 63; refine (thingP 2 x.1 x.2.1 _ _ (by rw [str_size]; exact hxs)).mono ?_; rw [HTB.out]; rintro e wx ⟨rfl, hbx⟩; have hq := below_trans HBX.out hbx; have HBK := Lib.hid (HBK.out.go hq); have d3 := cell_go d2 hbx; have c0 := HBK.out.cell 0; have f0 := HBK.out.frozen 0; have c1 := HBK.out.cell 1; have f1 := HBK.out.frozen 1; have c2 := HBK.out.cell 2; have f2 := HBK.out.frozen 2; have c3 := HBK.out.cell 3; have f3 := HBK.out.frozen 3; have c4 := HBK.out.cell 4; have f4 := HBK.out.frozen 4; have c5 := HBK.out.cell 5; have f5 := HBK.out.frozen 5; have c6 := HBK.out.cell 6; have f6 := HBK.out.frozen 6; have HX3 := Lib.hid (HXB.out.go hbx); have x0 := HX3.out.cell 0; have x1 := HX3.out.cell 1; have x2 := HX3.out.cell 2; have HQ := Lib.hid hq; clear hq hbx) | (go_at_call 64; refine (numP _ _).mono ?_; rw [HNB.out]; rintro e wy ⟨rfl, rfl⟩))
              have q0 := cell_dr x0
              have q1 := cell_dr x1
              have q2 := cell_dr x2
              have q3 := cell_dr d3
              have HOD := Lib.hid (own_below HOW.out HQ.out)
              refine wp_region_held_drew (S := (fun y => y.cell? ⟨wr.heap.size, 0, none⟩ = some (.int .i64 x.1) ∧ y.cell? ⟨wr.heap.size, 1, none⟩ = some (.int .i64 x.2.1) ∧ y.cell? ⟨wr.heap.size, 2, none⟩ = some (.string ⟨x.2.2.toArray⟩) ∧ y.cell? ⟨g2, o2 + j, none⟩ = some (.int .i64 v))) (by kernel_rfl) ⟨q0, q1, q2, q3⟩ (fun hHeld => ?_)
              refine wpAnyH_take (i := 0) (v := ?_) rfl (by kernel_rfl) (by kernel_rfl) (by kernel_rfl) (fun _ _ _ h => h) (Or.inl ⟨by rfl, ?_⟩) (by assumption) ?_
              rotate_left
              · intro x' hSx
                try dsimp only at hSx
                go_simp
                try with_reducible rfl
              try simp only [Act.put, List.setIfInBounds_toArray]
              refine wpAnyH_take (i := 1) (v := ?_) rfl (by kernel_rfl) (by kernel_rfl) (by kernel_rfl) (fun _ _ _ h => h) (Or.inl ⟨by rfl, ?_⟩) (by assumption) ?_
              rotate_left
              · intro x' hSx
                try dsimp only at hSx
                go_simp
                try with_reducible rfl
              try simp only [Act.put]
              refine wpAnyH_take (i := 2) (v := ?_) rfl (by kernel_rfl) (by kernel_rfl) (by kernel_rfl) (fun _ _ _ h => h) (Or.inl ⟨by rfl, ?_⟩) (by assumption) ?_
              rotate_left
              · intro x' hSx
                try dsimp only at hSx
                go_simp
                try with_reducible rfl
              try simp only [Act.put]
              refine wpAnyH_take (i := 3) (v := ?_) rfl (by kernel_rfl) (by kernel_rfl) (by kernel_rfl) (fun _ _ _ h => h) (Or.inl ⟨by rfl, ?_⟩) (by assumption) ?_
              rotate_left
              · intro x' hSx
                try dsimp only at hSx
                go_simp
                try with_reducible rfl
              try simp only [Act.put]
              refine wpAnyH_take (i := 4) (v := ?_) rfl (by kernel_rfl) (by kernel_rfl) (by kernel_rfl) (fun _ _ _ h => h) (Or.inl ⟨by rfl, ?_⟩) (by assumption) ?_
              rotate_left
              · intro x' hSx
                try dsimp only at hSx
                go_simp
                try with_reducible rfl
              try simp only [Act.put]
              refine wpAnyH_take (i := 5) (v := ?_) rfl (by kernel_rfl) (by kernel_rfl) (by kernel_rfl) (fun _ _ _ h => h) (Or.inl ⟨by rfl, ?_⟩) (by assumption) ?_
              rotate_left
              · intro x' hSx
                try dsimp only at hSx
                go_simp
                try with_reducible rfl
              try simp only [Act.put]
              refine wpAnyH_take (i := 6) (v := ?_) rfl (by kernel_rfl) (by kernel_rfl) (by kernel_rfl) (fun _ _ _ h => h) (Or.inl ⟨by rfl, ?_⟩) (by assumption) ?_
              rotate_left
              · intro x' hSx
                try dsimp only at hSx
                go_simp
                try with_reducible rfl
              try simp only [Act.put]
              refine wpAnyH_ready (rs := [7]) (by kernel_rfl) (by simp) ?_
              refine AllReadyH.cons rfl (fun K hK => ?_) AllReadyH.nil
              go_simp
              refine hK.out _ _ ⟨cell_dr (cell_al x0 _), cell_dr (cell_al x1 _), cell_dr (cell_al x2 _), cell_dr (cell_al d3 _)⟩ (fun _ => ?_)
              clear hK K
              try simp only [Act.put, List.setIfInBounds_toArray, List.set_cons_zero, List.set_cons_succ]
              refine wpAnyH_ready (rs := [8]) (by kernel_rfl) (by simp) ?_
              refine AllReadyH.cons rfl (fun K hK => ?_) AllReadyH.nil
              rw [if_pos (by kernel_rfl)]
              refine app_wp wx _ _ _ 24 26 rfl _ 6 72 Tryz.underlying24 infoNode rfl (by decide) (nodeCs (atomN (x, v)) (.slice none 0 0)) rfl (ndCs_one _ _ rfl) (w.heap.size + 1) _ _ _ rfl rfl ((alloc_b wx _).drew) (fun jj u hj => by show (wx.alloc (.cells (nodeCs (atomN (x, v)) (.slice none 0 0)).toArray 26 (0, 0))).cell? _ = _; rw [cell_new]; simpa using hj) HOD.out (by omega) (by omega) (by have := HQ.out.size; omega) ?_
              intro v' w2 hown1 hg1
              obtain ⟨Av1, cv1, rfl⟩ := own_shp hown1
              have HO1 := Lib.hid hown1
              have HG1 := Lib.hid hg1
              have HNK := Lib.hid (fun (b : Nat) (hb : b < wx.heap.size) (hne : (Value.slice Av j cv).ownBlock ≠ some b) => hg1.keep b hb hne)
              clear hown1 hg1
              refine hK.out _ _ ⟨own_keepc HNK.out HOW.out x0 (.inr (Nat.le_refl _)), own_keepc HNK.out HOW.out x1 (.inr (Nat.le_refl _)), own_keepc HNK.out HOW.out x2 (.inr (Nat.le_refl _)), own_keepc HNK.out HOW.out d3 (.inl (Nat.lt_succ_of_lt hg2))⟩ (fun _ => ?_)
              clear hK K
              try simp only [Act.put, List.setIfInBounds_toArray]
              refine wpAnyH_take (i := 9) (v := ?_) rfl (by kernel_rfl) (by kernel_rfl) (by kernel_rfl) (fun _ _ _ h => h) (Or.inl ⟨by rfl, ?_⟩) (by assumption) ?_
              rotate_left
              · intro x' hSx
                try dsimp only at hSx
                go_simp
                try with_reducible rfl
              try simp only [Act.put]
              refine wpAnyH_done (by kernel_rfl) ?_ _
              go_wp2
              go_roundw
              case rel =>
                refine ⟨j + 1, by omega, by go_num, ⟨cs ++ nodeCs (atomN (x, v)) (.slice none 0 0), ?_, ?_, ?_⟩, HGO.out, HBR.out.trans ((HQ.out.mono (by omega)).trans HG1.out.below)⟩
                · rw [HSN.out, List.length_append, HLN.out]; exact HO1.out
                · rw [HSN.out]
                  exact FrC.snoc HTL.out (KidC.nil _ _) _ _ (FrC.keep (fun _ e => e.elim) _ _ HFR.out)
                · rw [HSN.out, List.length_append, HLN.out]; simp; omega
              case measure => simp [intOf]; omega
        · have hje : j = xs.length := by omega
          have HTK := Lib.hid (show Z.take j = Z from List.take_of_length_le (by have := HZL.out; omega))
          have HRR := Lib.hid (show allC xs vs = ((1, allN (Z.map atomN)), 0) by rw [HR.out]; have := HOK.out; rw [HTK.out] at this; rw [this]; rfl)
          have HNR := Lib.hid (show NdRow wr (w.heap.size + 1) (.slice Av j cv) (Z.map atomN) from ⟨cs, by have h := HLN.out; rw [HTK.out] at h; rw [h]; exact HOW.out, by have h := HFR.out; rw [HTK.out] at h; exact h, by have h := HLN.out; rw [HTK.out] at h; omega⟩)
          have HLL := Lib.hid (show (Z.map atomN).length = j by have h := HLN.out; rw [HTK.out] at h; exact h)
          have HEN := Lib.hid (fun (W : World) (hh : ∀ b, w.heap.size + 1 ≤ b → b < wr.heap.size → W.heap[b]? = wr.heap[b]?) (hz : wr.heap.size ≤ W.heap.size) => ((NdRow.done (w0 := w.alloc (.cells #[] 0 (0, 0))) HNR.out (by simp)).keep (w' := W) (fun b hb' => hh b (by simpa using hb'.1) hb'.2)).mono (S' := fun b => w.heap.size ≤ b ∧ b < W.heap.size) (fun b hb' => ⟨by have := hb'.1; simp at this; omega, Nat.lt_of_lt_of_le hb'.2 hz⟩))
          obtain ⟨L, hL⟩ : ∃ L, Z.map atomN = L := ⟨_, rfl⟩
          rw [hL] at HRR HNR HLL HEN
          clear hje hL
          match L, HLL.out with
          | [], h0 =>
            simp only [List.length_nil] at h0
            subst h0
            have HNB := Lib.hid (HBK.out.alloc (.cells #[.int .i64 1, .int .i64 0, .int .i64 0, .string ⟨#[]⟩, .int .i64 0, .slice none 0 0] 26 (0, 0)))
            have c0 := HNB.out.cell 0
            have f0 := HNB.out.frozen 0
            have c1 := HNB.out.cell 1
            have f1 := HNB.out.frozen 1
            have c2 := HNB.out.cell 2
            have f2 := HNB.out.frozen 2
            have c3 := HNB.out.cell 3
            have f3 := HNB.out.frozen 3
            have c4 := HNB.out.cell 4
            have f4 := HNB.out.frozen 4
            have c5 := HNB.out.cell 5
            have f5 := HNB.out.frozen 5
            have c6 := HNB.out.cell 6
            have f6 := HNB.out.frozen 6
            go_wp2_with fail
            refine ret_condE rfl (blk_put7 HNB.out rfl _ _ _ _ _ _ _) rfl rfl rfl ?_
            rw [HRR.out]
            exact ⟨_, rfl, by simp [allN], KidC.nil _ _, below_put7 (below_alloc HBT.out _) (Nat.le_refl _) _ _ _ _ _ _ _⟩
          | [n0], h0 =>
            simp only [List.length_cons, List.length_nil] at h0
            subst h0
            obtain ⟨cs1, ho1, hf1, _⟩ := HNR.out
            obtain ⟨hnl, kv1, rfl, hk1⟩ := hf1.one
            obtain ⟨A1, cp1, rfl⟩ := hk1.shape
            have hg1 : ∃ g, Av = some ⟨g, 0, none⟩ := by
              rcases HOW.out.2 with ⟨_, h0⟩ | ⟨g, cap', cur, e, _⟩
              · omega
              · simp only [Value.slice.injEq, true_and] at e
                exact ⟨g, e.1⟩
            obtain ⟨g, rfl⟩ := hg1
            have n0' := ho1.cellAt 0 (by simp)
            have n1' := ho1.cellAt 1 (by simp)
            have n2' := ho1.cellAt 2 (by simp)
            have n3' := ho1.cellAt 3 (by simp)
            have n4' := ho1.cellAt 4 (by simp)
            have n5' := ho1.cellAt 5 (by simp)
            simp only [nodeCs, List.getElem?_cons_zero, List.getElem?_cons_succ] at n0' n1' n2' n3' n4' n5'
            have HKK := Lib.hid hk1
            have HHO := Lib.hid ho1
            have HNL := Lib.hid hnl
            have m0 := cell_al n0' (.cells #[.int .i64 4, .int .i64 0, .int .i64 0, .string ⟨#[]⟩, .int .i64 0, .slice (some ⟨g, 0, none⟩) 1 cv] 26 (0, 0))
            have m1 := cell_al n1' (.cells #[.int .i64 4, .int .i64 0, .int .i64 0, .string ⟨#[]⟩, .int .i64 0, .slice (some ⟨g, 0, none⟩) 1 cv] 26 (0, 0))
            have m2 := cell_al n2' (.cells #[.int .i64 4, .int .i64 0, .int .i64 0, .string ⟨#[]⟩, .int .i64 0, .slice (some ⟨g, 0, none⟩) 1 cv] 26 (0, 0))
            have m3 := cell_al n3' (.cells #[.int .i64 4, .int .i64 0, .int .i64 0, .string ⟨#[]⟩, .int .i64 0, .slice (some ⟨g, 0, none⟩) 1 cv] 26 (0, 0))
            have m4 := cell_al n4' (.cells #[.int .i64 4, .int .i64 0, .int .i64 0, .string ⟨#[]⟩, .int .i64 0, .slice (some ⟨g, 0, none⟩) 1 cv] 26 (0, 0))
            have m5 := cell_al n5' (.cells #[.int .i64 4, .int .i64 0, .int .i64 0, .string ⟨#[]⟩, .int .i64 0, .slice (some ⟨g, 0, none⟩) 1 cv] 26 (0, 0))
            clear hk1 ho1 hnl hf1
            have HNB := Lib.hid (HBK.out.alloc (.cells #[.int .i64 n0.k, .int .i64 n0.t, .int .i64 n0.r, .string ⟨n0.l.toArray⟩, .int .i64 n0.v, .slice A1 n0.kids.len cp1] 26 (0, 0)))
            have c0 := HNB.out.cell 0
            have f0 := HNB.out.frozen 0
            have c1 := HNB.out.cell 1
            have f1 := HNB.out.frozen 1
            have c2 := HNB.out.cell 2
            have f2 := HNB.out.frozen 2
            have c3 := HNB.out.cell 3
            have f3 := HNB.out.frozen 3
            have c4 := HNB.out.cell 4
            have f4 := HNB.out.frozen 4
            have c5 := HNB.out.cell 5
            have f5 := HNB.out.frozen 5
            have c6 := HNB.out.cell 6
            have f6 := HNB.out.frozen 6
            have HAN := Lib.hid (show allN [n0] = n0 from rfl)
            go_wp2_with fail
            refine ret_condE rfl (blk_put7 HNB.out rfl _ _ _ _ _ _ _) rfl rfl rfl ?_
            rw [HRR.out, HAN.out]
            refine ⟨_, rfl, HNL.out, ?_, below_put7 (below_alloc HBT.out _) (Nat.le_refl w.heap.size) _ _ _ _ _ _ _⟩
            exact (KidC.keep HKK.out (fun _ e => e.elim)).mono (fun _ e => e.elim)
          | n0 :: n1 :: L', h0 =>
            have h2 : 2 ≤ j := by rw [← h0]; simp
            have e3 : ((j : Int) == 0) = false := by simp; omega
            have e4 : ((j : Int) == 1) = false := by simp; omega
            have HAN := Lib.hid (show allN (n0 :: n1 :: L') = ⟨4, 0, 0, [], 0, frOf (n0 :: n1 :: L')⟩ from rfl)
            have HNB := Lib.hid (HBK.out.alloc (.cells #[.int .i64 4, .int .i64 0, .int .i64 0, .string ⟨#[]⟩, .int .i64 0, .slice Av j cv] 26 (0, 0)))
            have c0 := HNB.out.cell 0
            have f0 := HNB.out.frozen 0
            have c1 := HNB.out.cell 1
            have f1 := HNB.out.frozen 1
            have c2 := HNB.out.cell 2
            have f2 := HNB.out.frozen 2
            have c3 := HNB.out.cell 3
            have f3 := HNB.out.frozen 3
            have c4 := HNB.out.cell 4
            have f4 := HNB.out.frozen 4
            have c5 := HNB.out.cell 5
            have f5 := HNB.out.frozen 5
            have c6 := HNB.out.cell 6
            have f6 := HNB.out.frozen 6
            go_wp2_with fail
            refine ret_condE rfl (blk_put7 HNB.out rfl _ _ _ _ _ _ _) rfl rfl rfl ?_
            rw [HRR.out, HAN.out]
            refine ⟨_, rfl, by simp, ?_, below_put7 (below_alloc HBT.out _) (Nat.le_refl w.heap.size) _ _ _ _ _ _ _⟩
            refine HEN.out _ (fun b hb1 hb2 => ?_) (by simp [World.setCell])
            rw [heap_put7 (by omega), Below.heap_alloc _ _ _ hb2]
  · have HR := Lib.hid (show allC xs vs = ((0, noNd), 1) by unfold allC; rw [if_pos hle])
    have e1 : ((xs.length : Int) != (vs.length : Int)) = true := by simp; omega
    clear hle
    go_enter Tryz.func30, Tryz.ntmps30
    go_wp2_with fail
    refine bodyPost_ret (v := .tuple #[condV 0 0 0 0 [] 0 (.slice none 0 0), .int .i64 1]) (by simp [results, Tryz.results30, go_sem]) rfl ?_
    rw [HR.out]
    exact AllPost.zero (alloc_b _ _)
end
end Go.Proofs.YtmlnibjnacfanaaGreatDoor
