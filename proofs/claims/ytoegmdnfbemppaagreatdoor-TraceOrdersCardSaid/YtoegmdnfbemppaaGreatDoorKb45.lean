/- Layer 15: a fence stands between two events: the program's closure in Fenced. Layer 1: the relation of some pairs: the program's rel.Of. -/
import Derived.Test.YtoegmdnfbemppaaGreatDoorKb03
import Derived.Test.YtoegmdnfbemppaaGreatDoorKb11
import Derived.Test.YtoegmdnfbemppaaGreatDoorKb17
import Derived.Test.YtoegmdnfbemppaaGreatDoorKb41

namespace Go.Proofs.YtoegmdnfbemppaaGreatDoor
open Go.RowKit

abbrev evV (x : Evt) : Value := .agg #[.int .i64 x.th, .int .i64 x.pl, .int .i64 x.dr, .int .i64 x.lc, .int .i64 x.vl, .int .i64 x.rg]
theorem anyL_step {α : Type} {c : List α} {j : Nat} {x : α} (h : c[j]? = some x) (p : α → Bool) : (c.take (j + 1)).any p = ((c.take j).any p || p x) := by
  obtain ⟨h1, rfl⟩ := List.getElem?_eq_some_iff.1 h
  rw [List.take_succ_eq_append_getElem h1, List.any_append]
  simp
theorem anyL_at {α : Type} {c : List α} {j : Nat} {x : α} (h : c[j]? = some x) (p : α → Bool) (hp : p x = true) : c.any p = true := by
  obtain ⟨h1, rfl⟩ := List.getElem?_eq_some_iff.1 h
  exact List.any_eq_true.2 ⟨_, List.getElem_mem h1, hp⟩
section
set_option maxHeartbeats 4000000
set_option maxRecDepth 100000
theorem fenC (bars : List Br) (A : Option Addr) (cap p : Nat) (a b : Evt) (w : World) (h : encB.At w A bars) (hl : bars.length ≤ 4096) (hp : w.cell? ⟨p, 3, none⟩ = some (.slice A bars.length cap)) :
    Calls Tryz.prog 76 #[evV a, evV b, .pointer (some ⟨p, 0, none⟩)] w fun e w' => e = .returned (.bool (fenB fordB bars a b)) ∧ Below w.heap.size w w' := by
  obtain ⟨at_, ap, ad, al, av, ar⟩ := a
  obtain ⟨bt, bp, bd, bl, bv, br⟩ := b
  simp only [evV]
  have HA := Lib.hid h
  have HB0 := Lib.hid (below_2 w (.cells #[.int .i64 at_, .int .i64 ap, .int .i64 ad, .int .i64 al, .int .i64 av, .int .i64 ar] 50 (0, 0)) (.cells #[.int .i64 bt, .int .i64 bp, .int .i64 bd, .int .i64 bl, .int .i64 bv, .int .i64 br] 50 (0, 0)))
  have hp2 := cell_go hp HB0.out
  have HKA0 := Lib.hid (Blk.alloc (Blk.new w 50 #[.int .i64 at_, .int .i64 ap, .int .i64 ad, .int .i64 al, .int .i64 av, .int .i64 ar]) (.cells #[.int .i64 bt, .int .i64 bp, .int .i64 bd, .int .i64 bl, .int .i64 bv, .int .i64 br] 50 (0, 0)))
  have HKB0 : Hid (Blk _ (w.heap.size + 1) _ _) := Lib.hid (blk_new2 w (.cells #[.int .i64 at_, .int .i64 ap, .int .i64 ad, .int .i64 al, .int .i64 av, .int .i64 ar] 50 (0, 0)) 50 #[.int .i64 bt, .int .i64 bp, .int .i64 bd, .int .i64 bl, .int .i64 bv, .int .i64 br])
  obtain ⟨P, hP⟩ : ∃ P : Br → Bool, (fun x : Br => decide (x.th = at_) && decide (ap < x.pl) && decide (x.pl < bp) && fordB x.fe ad bd) = P := ⟨_, rfl⟩
  have HP := Lib.hid (fun x : Br => show P x = (decide (x.th = at_) && decide (ap < x.pl) && decide (x.pl < bp) && fordB x.fe ad bd) by rw [← hP])
  obtain ⟨q, hq⟩ : ∃ q, bars.any P = q := ⟨_, rfl⟩
  have HQ := Lib.hid hq
  have hq2 : fenB fordB bars ⟨at_, ap, ad, al, av, ar⟩ ⟨bt, bp, bd, bl, bv, br⟩ = q := by rw [← hq, ← hP]; rfl
  rw [hq2]
  clear h hp hP hq hq2
  go_enter Tryz.func76, Tryz.ntmps76
  go_wp2_with fail
  generalize (w.alloc (.cells #[.int .i64 at_, .int .i64 ap, .int .i64 ad, .int .i64 al, .int .i64 av, .int .i64 ar] 50 (0, 0))).alloc (.cells #[.int .i64 bt, .int .i64 bp, .int .i64 bd, .int .i64 bl, .int .i64 bv, .int .i64 br] 50 (0, 0)) = w1 at *
  go_loopw [11] (fun v wr => ∃ i : Nat, i ≤ bars.length ∧ v = .int .i64 i ∧ (bars.take i).any P = false ∧ Below w.heap.size w wr ∧ Blk wr w.heap.size 50 #[.int .i64 at_, .int .i64 ap, .int .i64 ad, .int .i64 al, .int .i64 av, .int .i64 ar] ∧ Blk wr (w.heap.size + 1) 50 #[.int .i64 bt, .int .i64 bp, .int .i64 bd, .int .i64 bl, .int .i64 bv, .int .i64 br]) (fun v _ => bars.length - (intOf v).toNat)
  case atStart => exact ⟨0, Nat.zero_le _, rfl, by simp, HB0.out, HKA0.out, HKB0.out⟩
  case round =>
    obtain ⟨i, hi, rfl, hno, hb, hka, hkb⟩ := hrel
    have HNO := Lib.hid hno
    have HB := Lib.hid hb
    have hii : (0 : Int) ≤ (i : Int) := by omega
    have a0 : wr.cell? ⟨w.heap.size, 0, none⟩ = some (.int .i64 at_) := hka.cell 0
    have a1 : wr.cell? ⟨w.heap.size, 1, none⟩ = some (.int .i64 ap) := hka.cell 1
    have a2 : wr.cell? ⟨w.heap.size, 2, none⟩ = some (.int .i64 ad) := hka.cell 2
    have b1 : wr.cell? ⟨w.heap.size + 1, 1, none⟩ = some (.int .i64 bp) := hkb.cell 1
    have b2 : wr.cell? ⟨w.heap.size + 1, 2, none⟩ = some (.int .i64 bd) := hkb.cell 2
    have hgb := hkb.lt
    have hga := hka.lt
    by_cases hlt : i < bars.length
    · have hij : (i : Int) < (bars.length : Int) := by omega
      obtain ⟨x, hx⟩ : ∃ x, bars[i]? = some x := ⟨_, List.getElem?_eq_getElem hlt⟩
      obtain ⟨g, o, rfl, c0, c1, c2⟩ := bar_at (HA.out.below hb) hx
      have HX := Lib.hid hx
      have hpx := HP.out x
      obtain ⟨xt, xp, xf⟩ := x
      simp only at c0 c1 c2 hpx
      have HB1 := Lib.hid (below_alloc hb (.cells #[.int .i64 xt, .int .i64 xp, .int .i64 xf] 79 (0, 0)))
      have HKA := Lib.hid (hka.alloc (.cells #[.int .i64 xt, .int .i64 xp, .int .i64 xf] 79 (0, 0)))
      have HKB := Lib.hid (hkb.alloc (.cells #[.int .i64 xt, .int .i64 xp, .int .i64 xf] 79 (0, 0)))
      clear hx hno hb hka hkb HB0 HKA0 HKB0
      by_cases h1 : xt = at_
      · by_cases h2 : ap < xp
        · by_cases h3 : xp < bp
          · obtain ⟨r, hr⟩ : ∃ r, fordB xf ad bd = r := ⟨_, rfl⟩
            have HR := Lib.hid (show P ⟨xt, xp, xf⟩ = r by rw [hpx]; simp [h1, h2, h3, hr])
            have HO := Lib.hid (fun z : World => ordersP xf ad bd z)
            rw [hr] at HO
            subst h1
            clear hpx hr
            cases r
            · go_wp2_with (go_at_call 13; refine (HO.out _).mono ?_; rintro e w' ⟨rfl, hb9⟩; have HB9 := Lib.hid hb9; clear hb9)
              go_roundw
              case rel => exact ⟨i + 1, by omega, by go_num, by rw [anyL_step HX.out, HNO.out, HR.out]; rfl, below_trans HB1.out HB9.out, HKA.out.go HB9.out, HKB.out.go HB9.out⟩
              case measure => simp [intOf]; omega
            · go_wp2_with (go_at_call 13; refine (HO.out _).mono ?_; rintro e w' ⟨rfl, hb9⟩; have HB9 := Lib.hid hb9; clear hb9)
              go_ret
              exact ⟨ret_bool (by rw [← HQ.out, anyL_at HX.out P HR.out]), below_trans HB1.out HB9.out⟩
          · have HR := Lib.hid (show P ⟨xt, xp, xf⟩ = false by rw [hpx]; simp [h3])
            subst h1
            clear hpx
            go_wp2_with fail
            go_roundw
            case rel => exact ⟨i + 1, by omega, by go_num, by rw [anyL_step HX.out, HNO.out, HR.out]; rfl, HB1.out, HKA.out, HKB.out⟩
            case measure => simp [intOf]; omega
        · have HR := Lib.hid (show P ⟨xt, xp, xf⟩ = false by rw [hpx]; simp [h2])
          subst h1
          clear hpx
          go_wp2_with fail
          go_roundw
          case rel => exact ⟨i + 1, by omega, by go_num, by rw [anyL_step HX.out, HNO.out, HR.out]; rfl, HB1.out, HKA.out, HKB.out⟩
          case measure => simp [intOf]; omega
      · have HR := Lib.hid (show P ⟨xt, xp, xf⟩ = false by rw [hpx]; simp [h1])
        have h1f : (xt == at_) = false := by simpa using h1
        clear hpx
        go_wp2_with fail
        go_roundw
        case rel => exact ⟨i + 1, by omega, by go_num, by rw [anyL_step HX.out, HNO.out, HR.out]; rfl, HB1.out, HKA.out, HKB.out⟩
        case measure => simp [intOf]; omega
    · have hij : ¬ (i : Int) < (bars.length : Int) := by omega
      have HF := Lib.hid (show bars.any P = false by have := HNO.out; rwa [List.take_of_length_le (by omega)] at this)
      go_wp2_with fail
      go_ret
      exact ⟨ret_bool (by rw [← HQ.out, HF.out]), HB.out⟩
end
end Go.Proofs.YtoegmdnfbemppaaGreatDoor
namespace Go.Proofs.YtoegmdnfbemppaaGreatDoor
open Go.RowKit

theorem madeW (n : Nat) : madeCells #[.int .u64 0] n = (encW.flat (List.replicate n 0)).toArray := by
  rw [made_one]
  congr 1
  induction n with
  | zero => rfl
  | succ n ih => rw [List.replicate_succ, List.replicate_succ, Enc.flat_cons, ← ih]; rfl
theorem infoW : (Tryz.prog.info? 110).map (fun i => (i.zero, i.size, i.bytes)) = some (some (.int .u64 0), 1, 8) := by kernel_rfl
theorem mk_words (n : Nat) (hn : n ≤ 1000000) (w : World) : (Instr.makeSlice 56 (.int .i64 (n : Int)) (.int .i64 (n : Int))).run Tryz.prog w = .ok (.slice (some ⟨w.heap.size, 0, none⟩) n n) (w.alloc (.cells (encW.flat (List.replicate n 0)).toArray 110 (0, 0))) := by
  obtain ⟨i0, hi, hz0, hz1, hz2⟩ := info_partsM infoW
  have h := run_make (P := Tryz.prog) w 56 110 i0 _ Tryz.underlying56 hi hz0 .i64 .i64 (n : Int) (n : Int) (by omega) (Int.le_refl _) (by rw [hz2]; omega) (by omega)
  rw [h, hz1]
  simp only [Int.toNat_natCast, Nat.mul_one]
  rw [show (Value.int .u64 0).cells = #[Value.int .u64 0] from rfl, madeW]
theorem flatW_at {m : List Nat} {i x : Nat} (h : m[i]? = some x) : (encW.flat m).toArray[i]? = some (.int .u64 (x : Int)) := by
  have := encW.flat_at h (show 0 < encW.size by show 0 < 1; omega)
  rw [show i * encW.size + 0 = i by show i * 1 + 0 = i; omega] at this
  simpa using this
theorem flatW_set (m : List Nat) (i x : Nat) (h : i < m.length) : (encW.flat m).toArray.setIfInBounds i (.int .u64 (x : Int)) = (encW.flat (m.set i x)).toArray := by
  apply Array.ext'
  apply List.ext_getElem?
  intro j
  have hl : (encW.flat m).length = m.length := by rw [encW.flat_len]; show m.length * 1 = _; omega
  rw [show ((encW.flat (m.set i x)).toArray.toList) = encW.flat (m.set i x) from rfl, flat_set encW m i x j h]
  simp only [Array.toList_setIfInBounds, List.getElem?_set]
  show _ = if i * 1 ≤ j ∧ j < i * 1 + 1 then _ else _
  by_cases hij : i = j
  · subst hij
    rw [if_pos (by omega)]
    simp [hl, h]
  · rw [if_neg hij, if_neg (by omega)]
section
set_option maxHeartbeats 4000000
set_option maxRecDepth 100000
theorem relOfP (n : Nat) (V : Sl) (l : List (Int × Int)) (w : World) (hn : n ≤ 64) (hlen : l.length ≤ 1000000) (h : encP.At w V.A l) (hV : V.n = l.length) (hl : ∀ p ∈ l, 0 ≤ p.1 ∧ p.1 < n ∧ 0 ≤ p.2 ∧ p.2 < n) :
    Calls Tryz.prog 77 #[.int .i64 (n : Int), V.v] w fun e w' => ∃ q, e = .returned (.tuple #[.agg #[.int .i64 (n : Int), .slice (some ⟨q, 0, none⟩) n n], .int .i64 0]) ∧ Blk w' q 110 (encW.flat (relL n l)).toArray ∧ w.heap.size ≤ q ∧ Below w.heap.size w w' := by
  obtain ⟨Av, nv, cv⟩ := V
  simp only at hV h
  subst hV
  simp only [Sl.v]
  have HA := Lib.hid h
  have HL := Lib.hid hl
  have hmk := mk_words n (by omega)
  have hn1 : (n : Int) ≤ 64 := by omega
  clear h hl
  go_enter Tryz.func77, Tryz.ntmps77
  go_wp2_with fail
  have HB0 := Lib.hid (below_alloc (below_2 w (.cells #[.int .i64 0, .slice none 0 0] 58 (0, 0)) (.cells (encW.flat (List.replicate n 0)).toArray 110 (0, 0))) (.cells #[.int .i64 (n : Int), .slice (some ⟨w.heap.size + 1, 0, none⟩) n n] 58 (0, 0)))
  have HR0 := Lib.hid (Blk.alloc (Blk.alloc (Blk.new w 58 #[.int .i64 0, .slice none 0 0]) (.cells (encW.flat (List.replicate n 0)).toArray 110 (0, 0))) (.cells #[.int .i64 (n : Int), .slice (some ⟨w.heap.size + 1, 0, none⟩) n n] 58 (0, 0)))
  have HQ0 := Lib.hid (Blk.alloc (Blk.new (w.alloc (.cells #[.int .i64 0, .slice none 0 0] 58 (0, 0))) 110 (encW.flat (List.replicate n 0)).toArray) (.cells #[.int .i64 (n : Int), .slice (some ⟨w.heap.size + 1, 0, none⟩) n n] 58 (0, 0)))
  have HO0 := Lib.hid (Blk.new ((w.alloc (.cells #[.int .i64 0, .slice none 0 0] 58 (0, 0))).alloc (.cells (encW.flat (List.replicate n 0)).toArray 110 (0, 0))) 58 #[.int .i64 (n : Int), .slice (some ⟨w.heap.size + 1, 0, none⟩) n n])
  simp only [World.size_alloc] at HQ0 HO0
  generalize ((w.alloc (.cells #[.int .i64 0, .slice none 0 0] 58 (0, 0))).alloc (.cells (encW.flat (List.replicate n 0)).toArray 110 (0, 0))).alloc (.cells #[.int .i64 (n : Int), .slice (some ⟨w.heap.size + 1, 0, none⟩) n n] 58 (0, 0)) = w1 at *
  clear hmk
  go_loopw [22] (fun v wr => ∃ (i : Nat) (m : List Nat), i ≤ l.length ∧ v = .int .i64 i ∧ m = (l.take i).foldl relS (List.replicate n 0) ∧ m.length = n ∧ (∀ x ∈ m, x < 18446744073709551616) ∧ Blk wr w.heap.size 58 #[.int .i64 0, .slice none 0 0] ∧ Blk wr (w.heap.size + 1) 110 (encW.flat m).toArray ∧ Blk wr (w.heap.size + 1 + 1) 58 #[.int .i64 (n : Int), .slice (some ⟨w.heap.size + 1, 0, none⟩) n n] ∧ Below w.heap.size w wr) (fun v _ => l.length - (intOf v).toNat)
  case atStart => exact ⟨0, _, Nat.zero_le _, rfl, rfl, by simp, (fun x hx => by rw [List.eq_of_mem_replicate hx]; omega), HR0.out, HQ0.out, HO0.out, HB0.out⟩
  case round =>
    obtain ⟨i, m, hi, rfl, hm, hml, hmx, hr, hq, ho, hb⟩ := hrel
    have HM := Lib.hid hm
    have HMX := Lib.hid hmx
    have HR := Lib.hid hr
    have HQ := Lib.hid hq
    have HO := Lib.hid ho
    have HB := Lib.hid hb
    have hzo := ho.lt
    clear hm hmx hr hq ho hb HR0 HQ0 HO0 HB0
    have hii : (0 : Int) ≤ (i : Int) := by omega
    by_cases hlt : i < l.length
    · have hij : (i : Int) < (l.length : Int) := by omega
      obtain ⟨p, hp⟩ : ∃ p, l[i]? = some p := ⟨_, List.getElem?_eq_getElem hlt⟩
      obtain ⟨b, o, rfl, c0, c1⟩ := prs_at (HA.out.below HB.out) hp
      obtain ⟨h1, h2, h3, h4⟩ := HL.out p (List.mem_of_getElem? hp)
      have HS := Lib.hid (show (l.take (i + 1)).foldl relS (List.replicate n 0) = relS m p by
        obtain ⟨g1, g2⟩ := List.getElem?_eq_some_iff.1 hp
        rw [List.take_succ_eq_append_getElem g1, List.foldl_append, ← HM.out, g2]; rfl)
      obtain ⟨pa, pb⟩ := p
      simp only at c0 c1 h1 h2 h3 h4
      obtain ⟨a, rfl⟩ := Int.eq_ofNat_of_zero_le h1
      obtain ⟨d, rfl⟩ := Int.eq_ofNat_of_zero_le h3
      obtain ⟨x, hx⟩ : ∃ x, m[a]? = some x := ⟨_, List.getElem?_eq_getElem (by omega)⟩
      have hx64 := HMX.out x (List.mem_of_getElem? hx)
      have HX := Lib.hid hx
      have HS2 := Lib.hid (show relS m ((a : Int), (d : Int)) = m.set a (x ||| 2 ^ d) by unfold relS; simp [hx])
      have HD := Lib.hid (Blk.new wr 52 #[.int .i64 (a : Int), .int .i64 (d : Int)])
      have HB1 := Lib.hid (alloc_b wr (.cells #[.int .i64 (a : Int), .int .i64 (d : Int)] 52 (0, 0)))
      clear hp hx
      go_wp2_with fail
      have HO1 := Lib.hid (HO.out.go HB1.out)
      have HQ1 := Lib.hid (HQ.out.go HB1.out)
      have HR1 := Lib.hid (HR.out.go HB1.out)
      have HB2 := Lib.hid (below_trans HB.out HB1.out)
      generalize wr.alloc (.cells #[.int .i64 (a : Int), .int .i64 (d : Int)] 52 (0, 0)) = w2 at *
      have k1 : w2.cell? ⟨w.heap.size + 1 + 1, 1, none⟩ = some (.slice (some ⟨w.heap.size + 1, 0, none⟩) n n) := HO1.out.cell 1
      have k2 : w2.cell? ⟨w.heap.size + 1, a, none⟩ = some (.int .u64 (x : Int)) := by rw [HQ1.out.cell]; exact flatW_at HX.out
      have k3 : w2.cell? ⟨wr.heap.size, 0, none⟩ = some (.int .i64 (a : Int)) := HD.out.cell 0
      have k4 : w2.cell? ⟨wr.heap.size, 1, none⟩ = some (.int .i64 (d : Int)) := HD.out.cell 1
      have hd64 : d < 64 := by omega
      have hs2 : IntKind.u64.wrap ((2 : Int) ^ d) = ((2 ^ d : Nat) : Int) := by have := shl_one hd64; rwa [Int.one_mul] at this
      have hp : 2 ^ d < 18446744073709551616 := by
        have : 2 ^ d < 2 ^ 64 := Nat.pow_lt_pow_right (by omega) hd64
        simpa using this
      have ho := bits_or64 hx64 hp
      have hv : bits .or .u64 (x : Int) (IntKind.u64.wrap ((2 : Int) ^ min d 64)) = ((x ||| 2 ^ d : Nat) : Int) := by rw [Nat.min_eq_left (by omega), hs2]; exact ho
      have hdi : (0 : Int) ≤ (d : Int) := by omega
      have hdj : (d : Int) < 64 := by omega
      refine wpE_start (S := (fun y : World => y.cell? ⟨w.heap.size + 1 + 1, 1, none⟩ = some (.slice (some ⟨w.heap.size + 1, 0, none⟩) n n) ∧ y.cell? ⟨w.heap.size + 1, a, none⟩ = some (.int .u64 (x : Int)) ∧ y.cell? ⟨wr.heap.size, 0, none⟩ = some (.int .i64 (a : Int)) ∧ y.cell? ⟨wr.heap.size, 1, none⟩ = some (.int .i64 (d : Int)))) (E := [1, 3, 5, 7, 8, 9]) (by kernel_rfl) ⟨k1, k2, k3, k4⟩ (fun hHeld => ?_)
      simp only [List.length_cons, List.length_nil, Nat.zero_add, Nat.reduceAdd]
      (refine wpP 0 (v := ?_) rfl (by kernel_rfl) ?_ ?_; rotate_left; (focus (intro x'; go_simp; try with_reducible rfl)); (try simp only [pa1, pa3, Act.put, pa4, pa5, pa6]))
      (refine wpP 2 (v := ?_) rfl (by kernel_rfl) ?_ ?_; rotate_left; (focus (intro x'; go_simp; try with_reducible rfl)); (try simp only [pa1, pa2, pa3, Act.put, pa4, pa5, pa6]))
      (refine wpP 6 (v := ?_) rfl (by kernel_rfl) ?_ ?_; rotate_left; (focus (intro x'; go_simp; try with_reducible rfl)); (try simp only [pa1, pa2, pa3, Act.put, pa4, pa5, pa6]))
      (refine wpT 1 (v := ?_) rfl (by kernel_rfl) ?_ (by assumption) ?_; rotate_left; (focus (intro x' hSx; (try dsimp only at hSx); go_simp; try with_reducible rfl)); (try simp only [pa1, pa2, pa3, Act.put, pa4, pa5, pa6]))
      (refine wpT 3 (v := ?_) rfl (by kernel_rfl) ?_ (by assumption) ?_; rotate_left; (focus (intro x' hSx; (try dsimp only at hSx); go_simp; try with_reducible rfl)); (try simp only [pa1, pa2, pa3, Act.put, pa4, pa5, pa6]))
      (refine wpP 4 (v := ?_) rfl (by kernel_rfl) ?_ ?_; rotate_left; (focus (intro x'; go_simp; try with_reducible rfl)); (try simp only [pa1, pa2, pa3, Act.put, pa4, pa5, pa6]))
      (refine wpT 5 (v := ?_) rfl (by kernel_rfl) ?_ (by assumption) ?_; rotate_left; (focus (intro x' hSx; (try dsimp only at hSx); go_simp; try with_reducible rfl)); (try simp only [pa1, pa2, pa3, Act.put, pa4, pa5, pa6]))
      (refine wpT 7 (v := ?_) rfl (by kernel_rfl) ?_ (by assumption) ?_; rotate_left; (focus (intro x' hSx; (try dsimp only at hSx); go_simp; try with_reducible rfl)); (try simp only [pa1, pa2, pa3, Act.put, pa4, pa5, pa6]))
      (refine wpT 8 (v := ?_) rfl (by kernel_rfl) ?_ (by assumption) ?_; rotate_left; (focus (intro x' hSx; (try dsimp only at hSx); go_simp; try with_reducible rfl)); (try simp only [pa1, pa2, pa3, Act.put, pa4, pa5, pa6]))
      (refine wpT 9 (v := ?_) rfl (by kernel_rfl) ?_ (by assumption) ?_; rotate_left; (focus (intro x' hSx; (try dsimp only at hSx); go_simp; try with_reducible rfl)); (try simp only [pa1, pa2, pa3, Act.put, pa4, pa5, pa6]))
      (refine wpP 10 (v := ?_) rfl (by kernel_rfl) ?_ ?_; rotate_left; (focus (intro x'; go_simp; try with_reducible rfl)); (try simp only [pa1, pa2, pa3, Act.put, pa4, pa5, pa6]))
      (refine wpP 11 (v := ?_) rfl (by kernel_rfl) ?_ ?_; rotate_left; (focus (intro x'; go_simp; try with_reducible rfl)); (try simp only [pa1, pa2, pa3, Act.put, pa4, pa5, pa6]))
      refine wpE_tail 12 rfl (by kernel_rfl) ?_
      simp only [List.drop_succ_cons, List.drop_zero]
      have HV := Lib.hid hv
      clear hHeld k1 k3 k4 ho hs2 hp hv
      have fq := HQ1.out.frozen a
      have HW := Lib.hid (show Blk (w2.setCell ⟨w.heap.size + 1, a, none⟩ (.int .u64 (bits .or .u64 (x : Int) (IntKind.u64.wrap ((2 : Int) ^ min d 64))))) (w.heap.size + 1) 110 (encW.flat (relS m ((a : Int), (d : Int)))).toArray by
        have := HQ1.out.set_ a (.int .u64 (bits .or .u64 (x : Int) (IntKind.u64.wrap ((2 : Int) ^ min d 64))))
        rw [HV.out, flatW_set _ _ _ (by omega), ← HS2.out] at this
        rw [HV.out]
        exact this)
      have HMM := Lib.hid (show ∀ y ∈ relS m ((a : Int), (d : Int)), y < 18446744073709551616 by
        have := relF_mem n [((a : Int), (d : Int))] (fun q hq => by rw [List.mem_singleton] at hq; subst hq; simp only; omega) m HMX.out
        simpa using this)
      have HR2 := Lib.hid (HR1.out.far (p := ⟨w.heap.size + 1, a, none⟩) (show w.heap.size ≠ w.heap.size + 1 by omega) (.int .u64 (bits .or .u64 (x : Int) (IntKind.u64.wrap ((2 : Int) ^ min d 64)))))
      have HO2 := Lib.hid (HO1.out.far (p := ⟨w.heap.size + 1, a, none⟩) (show w.heap.size + 1 + 1 ≠ w.heap.size + 1 by omega) (.int .u64 (bits .or .u64 (x : Int) (IntKind.u64.wrap ((2 : Int) ^ min d 64)))))
      have HB3 := Lib.hid (HB2.out.setCell (p := ⟨w.heap.size + 1, a, none⟩) (show w.heap.size ≤ w.heap.size + 1 by omega) (.int .u64 (bits .or .u64 (x : Int) (IntKind.u64.wrap ((2 : Int) ^ min d 64)))))
      go_wp2_with fail
      go_roundw
      case rel => exact ⟨i + 1, relS m ((a : Int), (d : Int)), by omega, by go_num, HS.out.symm, by rw [relS_len]; exact hml, HMM.out, HR2.out, HW.out, HO2.out, HB3.out.drew⟩
      case measure => simp [intOf]; omega
    · have hij : ¬ (i : Int) < (l.length : Int) := by omega
      have HF := Lib.hid (show m = relL n l by rw [HM.out, List.take_of_length_le (by omega)]; rfl)
      have r0 := HR.out.cell 0
      have r1 := HR.out.cell 1
      have fr := HR.out.frozen
      have o0 := HO.out.cell 0
      have o1 := HO.out.cell 1
      go_wp2_with fail
      refine bodyPost_ret (v := .tuple #[.agg #[.int .i64 (n : Int), .slice (some ⟨w.heap.size + 1, 0, none⟩) n n], .int .i64 0]) (by simp [results, Tryz.results77, go_sem, *]) rfl ?_
      refine ⟨w.heap.size + 1, rfl, ?_, by omega, ?_⟩
      · rw [← HF.out]
        exact (HQ.out.far (p := ⟨w.heap.size, 0, none⟩) (show w.heap.size + 1 ≠ w.heap.size by omega) _).far (p := ⟨w.heap.size, 1, none⟩) (show w.heap.size + 1 ≠ w.heap.size by omega) _
      · exact (HB.out.setCell (p := ⟨w.heap.size, 0, none⟩) (Nat.le_refl _) _).setCell (p := ⟨w.heap.size, 1, none⟩) (Nat.le_refl _) _
end
end Go.Proofs.YtoegmdnfbemppaaGreatDoor
