/- Layer 9: the program's Do, where it tells no error. -/
import Derived.Test.YtjhafgnmahhacaaGreatDoorTe34
import Derived.WalkSpells
import Derived.OwnWalk
import Derived.Laws.EntriesVeiled
namespace Go.Proofs.YtjhafgnmahhacaaGreatDoor
open Go.RowKit
section
/-- What Do answers: registers of the call's own, and an act. -/
def DoPo (vs : List (List UInt8 × Int)) (at_ : Int) (ac : Ac) (w : World) (e : Ending) (w' : World) : Prop :=
  ∃ g cap, e = .returned (.tuple #[locV (.slice (some ⟨g, 0, none⟩) vs.length cap) at_, actV ac, .int .i64 0]) ∧ RegsG w' w.heap.size g cap vs ∧ Below w.heap.size w w'
/-- Half way: Do's own thread lies at s. -/
def Half (W : World) (at_ : Int) (vs : List (List UInt8 × Int)) (s : Value) (x : World) : Prop :=
  ∃ Bo g cap, s = .pointer (some ⟨Bo, 0, none⟩) ∧ W.heap.size ≤ Bo ∧ Blk x Bo 60 #[.slice (some ⟨g, 0, none⟩) vs.length cap, .int .i64 (at_ + 1)] ∧ RegsG x W.heap.size g cap vs ∧ Below W.heap.size W x
theorem half_a {W x1 w3 : World} {at_ : Int} {vs : List (List UInt8 × Int)} {g cap : Nat} {u0 u1 : Value} (hB : Below W.heap.size W x1)
    (ho : RegsG w3 (x1.alloc (.cells #[u0, u1] 60 (0, 0))).heap.size g cap vs) (hb : Below (x1.alloc (.cells #[u0, u1] 60 (0, 0))).heap.size (x1.alloc (.cells #[u0, u1] 60 (0, 0))) w3) :
    Half W at_ vs (.pointer (some ⟨x1.heap.size, 0, none⟩)) ((w3.setCell ⟨x1.heap.size, 0, none⟩ (.slice (some ⟨g, 0, none⟩) vs.length cap)).setCell ⟨x1.heap.size, 1, none⟩ (.int .i64 (at_ + 1))) := by
  obtain ⟨hg1, hg2, _, _, cur, hcur⟩ := ho.blk
  have hz1 := hB.size
  have hz2 := hb.size
  rw [World.size_alloc] at hg1 hz2
  have k0 := (((Blk.new x1 60 #[u0, u1]).go hb).set_ 0 (.slice (some ⟨g, 0, none⟩) vs.length cap)).set_ 1 (.int .i64 (at_ + 1))
  refine ⟨x1.heap.size, g, cap, rfl, by omega, k0, ?_, ?_⟩
  · exact own_lowE (own_farE (own_farE ho (by simp; omega) _) (by simp; omega) _) (by rw [World.size_alloc]; omega)
  · have h1 : Below W.heap.size W w3 := hB.trans (((alloc_b x1 _).mono hz1).trans (hb.mono (by rw [World.size_alloc]; omega)))
    exact (h1.setCell (by simpa using hz1) _).setCell (by simpa using hz1) _
theorem half_b {W x1 w3 : World} {at_ : Int} {vs : List (List UInt8 × Int)} {g cap : Nat} (hB : Below W.heap.size W x1)
    (ho : RegsG w3 x1.heap.size g cap vs) (hb : Below x1.heap.size x1 w3) :
    Half W at_ vs (.pointer (some ⟨w3.heap.size, 0, none⟩)) (w3.alloc (.cells #[.slice (some ⟨g, 0, none⟩) vs.length cap, .int .i64 (at_ + 1)] 60 (0, 0))) := by
  have hz1 := hB.size
  have hz2 := hb.size
  exact ⟨w3.heap.size, g, cap, rfl, by omega, Blk.new _ _ _, own_below (own_lowE ho hz1) (alloc_b _ _), (hB.trans (hb.mono hz1)).alloc (Nat.le_trans hz1 hz2) _⟩
theorem blk4 (w : World) (t0 t1 t2 t3 : TypeId) (c0 c1 c2 c3 : Array Value) {w' : World} (hb : Below ((((w.alloc (.cells c0 t0 (0, 0))).alloc (.cells c1 t1 (0, 0))).alloc (.cells c2 t2 (0, 0))).alloc (.cells c3 t3 (0, 0))).heap.size ((((w.alloc (.cells c0 t0 (0, 0))).alloc (.cells c1 t1 (0, 0))).alloc (.cells c2 t2 (0, 0))).alloc (.cells c3 t3 (0, 0))) w') :
    Blk w' w.heap.size t0 c0 ∧ Blk w' (w.heap.size + 1) t1 c1 ∧ Blk w' (w.heap.size + 1 + 1) t2 c2 ∧ Blk w' (w.heap.size + 1 + 1 + 1) t3 c3 ∧ Below w.heap.size w w' ∧ w.heap.size + 4 ≤ w'.heap.size := by
  have e1 : (w.alloc (.cells c0 t0 (0, 0))).heap.size = w.heap.size + 1 := by simp
  have e2 : ((w.alloc (.cells c0 t0 (0, 0))).alloc (.cells c1 t1 (0, 0))).heap.size = w.heap.size + 1 + 1 := by simp
  have e3 : (((w.alloc (.cells c0 t0 (0, 0))).alloc (.cells c1 t1 (0, 0))).alloc (.cells c2 t2 (0, 0))).heap.size = w.heap.size + 1 + 1 + 1 := by simp
  have k1 := (Blk.new (w.alloc (.cells c0 t0 (0, 0))) t1 c1)
  have k2 := (Blk.new ((w.alloc (.cells c0 t0 (0, 0))).alloc (.cells c1 t1 (0, 0))) t2 c2)
  have k3 := (Blk.new (((w.alloc (.cells c0 t0 (0, 0))).alloc (.cells c1 t1 (0, 0))).alloc (.cells c2 t2 (0, 0))) t3 c3)
  rw [e1] at k1
  rw [e2] at k2
  rw [e3] at k3
  refine ⟨((((Blk.new w t0 c0).alloc _).alloc _).alloc _).go hb, ((k1.alloc _).alloc _).go hb, (k2.alloc _).go hb, k3.go hb, below_trans (below_alloc (below_alloc (below_alloc (alloc_b _ _) _) _) _) hb, ?_⟩
  have := hb.size
  simp at this
  omega
theorem own_dr {w : World} {B : Nat} {t : TypeId} {z n : Nat} {v : Value} {xs : List Value} (h : w.ownsRow B t z v n xs) : w.drew.ownsRow B t z v n xs := h
theorem doL_len {op d a imm : Int} {loc : List UInt8} {vs vs' : List (List UInt8 × Int)} {ac : Ac} (h : doL op d a imm loc vs = some (vs', ac)) : vs'.length = vs.length := by
  unfold doL at h
  repeat' split at h
  all_goals first | (cases h; simp) | cases h
theorem insB_len {op d a b imm : Int} {loc : List UInt8} {label : ByteArray} {fence : Int} (h : insB op d a b imm ⟨loc.toArray⟩ label fence = true) : loc.length ≤ 32 := by
  have e : ∀ l : List UInt8, (⟨l.toArray⟩ : ByteArray).toList = l := fun l => ByteArray.toList_eq _
  unfold insB at h
  simp only [Bool.and_eq_true, e] at h
  have h2 := h.2
  repeat' split at h2
  · simp only [Bool.and_eq_true] at h2; exact nameB_len h2.1.1.1
  · simp only [Bool.and_eq_true] at h2; exact nameB_len h2.1.1.1
  · simp only [Bool.and_eq_true] at h2; exact nameB_len h2.1.1.1
  · simp only [Bool.and_eq_true, List.isEmpty_iff] at h2; rw [h2.1.1.1]; simp
  · simp only [Bool.and_eq_true, List.isEmpty_iff] at h2; rw [h2.1.1.1]; simp
  · cases h2
theorem tab_at (k : Nat) (hk : k < 5) : tabCells[k * 2]? = some (.int .i64 ((k : Int) + 1)) ∧ tabCells[k * 2 + 1]? = some (.func (.func (tabF k)) #[] #[]) := by
  match k, hk with
  | 0, _ => exact ⟨rfl, rfl⟩
  | 1, _ => exact ⟨rfl, rfl⟩
  | 2, _ => exact ⟨rfl, rfl⟩
  | 3, _ => exact ⟨rfl, rfl⟩
  | 4, _ => exact ⟨rfl, rfl⟩
section
set_option maxHeartbeats 4000000
set_option maxRecDepth 100000
theorem doP (A : Option Addr) (cap : Nat) (vs vs' : List (List UInt8 × Int)) (ac : Ac) (op d a b imm : Int) (loc : List UInt8) (at_ : Int) (w : World) (h : insB op d a b imm ⟨loc.toArray⟩ ⟨#[]⟩ 0 = true) (hd : doL op d a imm loc vs = some (vs', ac))
    (hv : encV.At w A vs) (ht : threadB 15 at_ vs = true) :
    Calls Tryz.prog 90 #[insV op d a b imm ⟨loc.toArray⟩ ⟨#[]⟩ 0, locV (.slice A vs.length cap) at_] w (DoPo vs' (at_ + 1) ac w) := by
  have hs : (⟨loc.toArray⟩ : ByteArray).size ≤ 9223372036854775807 := by
    have := insB_len h
    rw [str_size]; omega
  obtain ⟨t1, t2, h15, _⟩ := threadB_iff.1 ht
  have H := Lib.hid h
  have HT := Lib.hid ht
  have HD := Lib.hid hd
  have HV := Lib.hid hv
  have HL := Lib.hid h15
  have b6 : IntKind.i64.wrap (at_ + 1) = at_ + 1 := IntWalk.i64_in _ (by omega)
  clear h ht hd hv h15
  go_enter Tryz.func90, Tryz.ntmps90
  go_wp2_with fail
  refine (chkIP d a b imm ⟨loc.toArray⟩ ⟨#[]⟩ 0 _ hs op).mono ?_
  rw [H.out]
  rintro e w1 ⟨rfl, hb1⟩
  obtain ⟨i1, l1, p1, q1, hbw, hz⟩ := blk4 _ _ _ _ _ _ _ _ _ hb1
  have HBW := Lib.hid hbw
  have HI := Lib.hid i1
  have HLo := Lib.hid l1
  have HP := Lib.hid p1
  have HQ := Lib.hid q1
  have e0 := l1.cl 0
  have e1 := l1.cl 1
  clear hb1 hbw i1 l1 p1 q1
  go_wp2_with fail
  refine (mayP A cap at_ vs _ (HV.out.below HBW.out) HT.out).mono ?_
  rintro e w2 ⟨rfl, hb2⟩
  have e0 := cell_go e0 hb2
  have e1 := cell_go e1 hb2
  have HB2 := Lib.hid hb2
  have hz2 := hb2.size
  clear hb2
  go_upto_region 6 with fail
  have HS := Lib.hid (show ∀ x, Below w2.heap.size w2 x → (x.cell? ⟨w.heap.size + 1, 0, none⟩ = some (.slice A vs.length cap) ∧ x.cell? ⟨w.heap.size + 1, 1, none⟩ = some (.int .i64 at_) ∧ encV.At x A vs ∧ Below w2.heap.size w2 x) from fun x hx => ⟨cell_go e0 hx, cell_go e1 hx, ((HV.out.below HBW.out).below HB2.out).below hx, hx⟩)
  go_cut [8] (fun s8 wx => Half w2 at_ vs s8 wx)
  case first =>
    go_region_held3 (fun x => x.cell? ⟨w.heap.size + 1, 0, none⟩ = some (.slice A vs.length cap) ∧ x.cell? ⟨w.heap.size + 1, 1, none⟩ = some (.int .i64 at_) ∧ encV.At x A vs ∧ Below w2.heap.size w2 x)
      ((refine HS.out _ ?_; repeat (first | exact Below.refl _ _ | refine below_trans ?_ hb' | refine Below.drew ?_ | refine below_alloc ?_ _ | refine Below.setCell ?_ (by simp) _)))
      (first | (go_at_call 101; have hh := ‹World.cell? _ _ = _ ∧ _›; refine (cloneVP A cap vs _ hh.2.2.1 (by have := HL.out; omega) (by have := HL.out; omega)).mono ?_; rintro e w' ⟨g, cap, rfl, hown, hb'⟩; obtain ⟨hcx, hfx⟩ := bcell hb'; have hzx := hb'.size))
    all_goals
      go_wp2
      go_meet
      first
        | exact half_b (Below.refl _ _).drew hown hb'
        | exact half_a (Below.refl _ _) hown ⟨hb'.os, hb'.tape, hb'.output, hb'.size, hb'.block⟩
  case rest =>
    obtain ⟨Bo, g, cp, rfl, hB1, hbo, hrg, hbx⟩ := hcut
    have HX := Lib.hid hbx
    have HBo := Lib.hid hbo
    have HRg := Lib.hid hrg
    clear hbx hbo hrg HS e0 e1 b6
    go_wp2_with (go_at_call 166; refine (tableP _).mono ?_; rintro e w3 ⟨rfl, rfl⟩)
    have hBe := alloc_b wc (.cells tabCells 244 (0, 0))
    have HX3 := Lib.hid (HB2.out.trans ((HX.out.trans (hBe.mono HX.out.size)).mono hz2))
    have HT3 := Lib.hid (Blk.new wc 244 tabCells)
    have HBo3 := Lib.hid (HBo.out.go hBe)
    have HRg3 := Lib.hid (RegsG.below HRg.out hBe)
    clear hBe HBo HRg
    have hopm : ∃ m : Nat, op = (m : Int) + 1 ∧ m < 5 := by
      have hh := H.out
      unfold insB at hh
      simp only [Bool.and_eq_true] at hh
      have h2 := hh.2
      repeat' split at h2
      all_goals first | (subst_vars; exact ⟨_, rfl, by decide⟩) | cases h2
    obtain ⟨m, hm, hm5⟩ := hopm
    have hzt : wc.heap.size < (wc.alloc (.cells tabCells 244 (0, 0))).heap.size := by simp
    generalize hW3 : wc.alloc (.cells tabCells 244 (0, 0)) = W3 at *
    generalize hT : wc.heap.size = T at *
    clear hW3 hT HX
    have HM := Lib.hid hm
    clear hm
    go_loopw [10, 34] (fun _ i wr => ∃ k : Nat, k ≤ m ∧ i = .int .i64 k ∧ Below W3.heap.size W3 wr) (fun _ i _ => 5 - (intOf i).toNat)
    case atStart => exact ⟨0, by omega, rfl, Below.refl _ _⟩
    case round =>
      obtain ⟨k, hk, rfl, hr0⟩ := hrel
      have HR := Lib.hid hr0
      have hzr := hr0.size
      obtain ⟨c0, c1⟩ := tab_at k (by omega)
      have tk0 := (HT3.out.go HR.out).cl (k * 2) c0
      have tk1 := (HT3.out.go HR.out).cl (k * 2 + 1) c1
      have hi := (HI.out.go HX3.out).go HR.out
      have i0 := hi.cl 0
      have hz3 := HX3.out.size
      have z1 : w.heap.size < wr.heap.size := by omega
      have z2 : Bo < wr.heap.size := Nat.lt_of_lt_of_le HBo3.out.lt hzr
      have z3 : T < wr.heap.size := Nat.lt_of_lt_of_le hzt hzr
      by_cases hkm : k = m
      · subst hkm
        have HII := Lib.hid hi
        have i1 := hi.cl 1
        have i2 := hi.cl 2
        have i3 := hi.cl 3
        have i4 := hi.cl 4
        have i5 := hi.cl 5
        have i6 := hi.cl 6
        have i7 := hi.cl 7
        have g1 : (((k : Int) + 1) != op) = false := by rw [HM.out]; simp
        clear hi c0 c1
        rcases (by omega : k = 0 ∨ k = 1 ∨ k = 2 ∨ k = 3 ∨ k = 4) with rfl | rfl | rfl | rfl | rfl
        all_goals
          simp only [tabF] at tk1
          go_wp2_with fail
          refine (closP _ g cp Bo vs vs' ac op d a b imm loc (at_ + 1) _ H.out HD.out HL.out (own_below HRg3.out (below_trans HR.out (alloc_b _ _))) (HBo3.out.go (below_trans HR.out (alloc_b _ _))) _ HM.out hm5).mono ?_
          rintro e w4 ⟨rfl, hown, honly⟩
          have HN := Lib.hid (Only.trans (Only.of_below (g := g) (below_trans (below_trans HX3.out HR.out) (alloc_b _ _))) honly)
          obtain ⟨hgB, _, _, _, cur, hcur⟩ := RegsG.blk HRg3.out
          have hgo : Bo ≠ g := blkNe HBo3.out hcur (by decide)
          have HP4 := Lib.hid (HP.out.only HN.out (by omega))
          have HQ4 := Lib.hid (HQ.out.only HN.out (by omega))
          have HO4 := Lib.hid (((HBo3.out.go HR.out).alloc _).only honly hgo)
          have HW4 := Lib.hid (Only.below (HBW.out) (by omega) HN.out)
          have HOwn := Lib.hid hown
          have z4 := honly.size
          have z5 : w.heap.size + 1 + 1 + 1 < w4.heap.size := by simp at z4; omega
          have z7 : w.heap.size + 1 + 1 < w4.heap.size := by omega
          have z6 : Bo < w4.heap.size := HO4.out.lt
          have p0 := HP4.out.cl 0
          have p1 := HP4.out.cl 1
          have q0 := HQ4.out.cl 0
          have q1 := HQ4.out.cl 1
          have q2 := HQ4.out.cl 2
          have q3 := HQ4.out.cl 3
          have q4 := HQ4.out.cl 4
          have pf := HP4.out.frozen
          have qf := HQ4.out.frozen
          have o0 : w4.cell? ⟨Bo, 0, none⟩ = some (.slice (some ⟨g, 0, none⟩) vs'.length cp) := by rw [doL_len HD.out]; exact HO4.out.cl 0
          have o1 := HO4.out.cl 1
          clear hown honly i0 i1 i2 i3 i4 i5 i6 i7 tk0 tk1 hcur z1 z2 z3 z4 g1
          go_wp2_with fail
          go_region
          all_goals
            go_wp2
            refine bodyPost_ret (v := .tuple #[locV (.slice (some ⟨g, 0, none⟩) vs'.length cp) (at_ + 1), actV ac, .int .i64 0]) (by simp [results, Tryz.results90, go_sem, *]) rfl ⟨g, cp, rfl, ?_, ?_⟩
            · refine own_lowE (B := w2.heap.size) ?_ (by omega)
              repeat (first | with_reducible exact HOwn.out | with_reducible refine own_farE ?_ (by simp <;> omega) _ | with_reducible refine own_dr ?_ | with_reducible refine own_below ?_ (alloc_b _ _))
            · repeat (first | with_reducible exact HW4.out | with_reducible refine Below.drew ?_ | with_reducible refine below_alloc ?_ _ | with_reducible refine Below.setCell ?_ (by simp <;> omega) _)
      · have g1 : (((k : Int) + 1) != op) = true := by rw [HM.out]; simp; omega
        clear hi c0 c1
        go_wp2_with fail
        go_roundw
        case rel => exact ⟨k + 1, by omega, by go_num, below_alloc HR.out _⟩
        case measure => simp [intOf]; omega
end
end
end Go.Proofs.YtjhafgnmahhacaaGreatDoor
