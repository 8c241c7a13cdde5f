/- The reference's words: the plain function, and its contract. -/
import Derived.Test.YtlpcahkchmlghaaDoorId
import Derived.Deep.DeepCutAuto
import Derived.WalkSpells
import Derived.Deep.CutBlock
namespace Go.Proofs.YtlpcahkchmlghaaDoor
open Go.RowKit

def signB (c : UInt8) : Bool := c == 91 || c == 93 || c == 44
def goesB (c : UInt8) : Bool := !blankB c && !signB c
def wordsF : Nat → List UInt8 → List (List UInt8)
  | 0, _ => []
  | _ + 1, [] => []
  | n + 1, c :: r => if blankB c then wordsF n r else if signB c then [c] :: wordsF n r else (c :: r.takeWhile goesB) :: wordsF n (r.dropWhile goesB)
def wordsL (l : List UInt8) : List (List UInt8) := wordsF l.length l
theorem wordsF_any : ∀ (n m : Nat) (l : List UInt8), l.length ≤ n → l.length ≤ m → wordsF n l = wordsF m l := by
  intro n
  induction n with
  | zero =>
    intro m l h _
    have : l = [] := List.eq_nil_of_length_eq_zero (by omega)
    subst this
    cases m <;> rfl
  | succ n ih =>
    intro m l h hm
    cases l with
    | nil => cases m <;> rfl
    | cons c r =>
      cases m with
      | zero => simp at hm
      | succ m =>
        have hr : r.length ≤ n := by simpa using h
        have hr' : r.length ≤ m := by simpa using hm
        have hd : (r.dropWhile goesB).length ≤ r.length := (List.dropWhile_sublist goesB).length_le
        simp only [wordsF]
        rw [ih m r hr hr', ih m _ (Nat.le_trans hd hr) (Nat.le_trans hd hr')]
theorem wordsL_nil : wordsL [] = [] := rfl
theorem wordsL_cons (c : UInt8) (r : List UInt8) : wordsL (c :: r) = if blankB c then wordsL r else if signB c then [c] :: wordsL r else (c :: r.takeWhile goesB) :: wordsL (r.dropWhile goesB) := by
  have hd : (r.dropWhile goesB).length ≤ r.length := (List.dropWhile_sublist goesB).length_le
  show wordsF (r.length + 1) (c :: r) = _
  simp only [wordsF, wordsL]
  rw [wordsF_any r.length (r.dropWhile goesB).length _ hd (Nat.le_refl _)]
theorem drop_cons {l : List UInt8} {k : Nat} (h : k < l.length) : l.drop k = l[k] :: l.drop (k + 1) := List.drop_eq_getElem_cons h
/-- What stands from k on as far as m: the first that stops is at m. -/
theorem take_until {l : List UInt8} {k m : Nat} (hk : k ≤ m) (hm : m ≤ l.length) (hall : ∀ j (hj : j < l.length), k ≤ j → j < m → goesB l[j] = true) (hstop : ∀ h : m < l.length, goesB l[m] = false) :
    (l.drop k).takeWhile goesB = (l.drop k).take (m - k) ∧ (l.drop k).dropWhile goesB = l.drop m := by
  induction h : m - k generalizing k with
  | zero =>
    have : k = m := by omega
    subst this
    by_cases hk' : k < l.length
    · rw [List.take_zero, drop_cons hk', List.takeWhile_cons, List.dropWhile_cons, hstop hk']
      exact ⟨rfl, rfl⟩
    · rw [List.drop_eq_nil_of_le (by omega)]; simp
  | succ d ih =>
    have hk' : k < l.length := by omega
    have hg := hall k hk' (Nat.le_refl _) (by omega)
    obtain ⟨i1, i2⟩ := ih (k := k + 1) (by omega) (fun j hj h1 h2 => hall j hj (by omega) h2) (by omega)
    rw [drop_cons hk', List.takeWhile_cons, List.dropWhile_cons, hg]
    simp only [if_true, List.take_succ_cons]
    exact ⟨by rw [i1], i2⟩
theorem extract_list (l : List UInt8) (a b : Nat) : (⟨l.toArray⟩ : ByteArray).extract a b = ⟨((l.drop a).take (b - a)).toArray⟩ := by
  apply ByteArray.ext
  rw [ByteArray.data_extract]
  apply Array.ext'
  rw [Array.toList_extract, List.extract_eq_take_drop]
theorem word_step {l : List UInt8} {k m : Nat} (hk : k < l.length) (hkm : k + 1 ≤ m) (hm : m ≤ l.length) (hb : blankB l[k] = false) (hs : signB l[k] = false) (hall : ∀ j (hj : j < l.length), k + 1 ≤ j → j < m → goesB l[j] = true) (hstop : ∀ h : m < l.length, goesB l[m] = false) :
    wordsL (l.drop k) = (l.drop k).take (m - k) :: wordsL (l.drop m) := by
  obtain ⟨h1, h2⟩ := take_until (k := k + 1) hkm hm hall hstop
  rw [drop_cons hk, wordsL_cons, hb, hs, h1, h2]
  have : m - k = m - (k + 1) + 1 := by omega
  rw [this, List.take_succ_cons]
  simp
theorem sign_step {l : List UInt8} {k : Nat} (hk : k < l.length) (hb : blankB l[k] = false) (hs : signB l[k] = true) : wordsL (l.drop k) = (l.drop k).take 1 :: wordsL (l.drop (k + 1)) := by
  rw [drop_cons hk, wordsL_cons, hb, hs, List.take_succ_cons, List.take_zero]
  rfl
theorem blank_step {l : List UInt8} {k : Nat} (hk : k < l.length) (hb : blankB l[k] = true) : wordsL (l.drop k) = wordsL (l.drop (k + 1)) := by
  rw [drop_cons hk, wordsL_cons, hb]
  simp
theorem wordsL_len : ∀ (n : Nat) (l : List UInt8), l.length ≤ n → (wordsL l).length ≤ l.length := by
  intro n
  induction n with
  | zero => intro l h; have : l = [] := List.eq_nil_of_length_eq_zero (by omega); subst this; simp [wordsL_nil]
  | succ n ih =>
    intro l h
    cases l with
    | nil => simp [wordsL_nil]
    | cons c r =>
      have hr : r.length ≤ n := by simpa using h
      have hd : (r.dropWhile goesB).length ≤ r.length := (List.dropWhile_sublist goesB).length_le
      rw [wordsL_cons]
      split
      · have := ih r hr; simp; omega
      · split
        · have := ih r hr; simp; omega
        · have := ih _ (Nat.le_trans hd hr); simp; omega

theorem stringInfo : (Tryd.prog.info? 9).map (fun i => (i.zero, i.size, i.bytes)) = some (some (.string ⟨#[]⟩), 1, 16) := by kernel_rfl
def strW (ws : List (List UInt8)) : List Value := ws.map fun x => .string ⟨x.toArray⟩
/-- What words hands back. -/
def WordsPost (l : List UInt8) (w : World) (e : Ending) (w' : World) : Prop := ∃ v, e = .returned v ∧ w'.ownsRow w.heap.size 9 1 v (wordsL l).length (strW (wordsL l)) ∧ Below w.heap.size w w'

theorem sign_yes {c : UInt8} (hs : signB c = true) : ((c.toNat : Int) != 91) = false ∨ (((c.toNat : Int) != 91) = true ∧ ((c.toNat : Int) != 93) = false) ∨ (((c.toNat : Int) != 91) = true ∧ ((c.toNat : Int) != 93) = true ∧ ((c.toNat : Int) != 44) = false) := by
  have e : ∀ k : UInt8, c = k ↔ (c.toNat : Int) = (k.toNat : Int) := fun k => by
    rw [← UInt8.toNat_inj]; omega
  simp [signB, e] at hs
  by_cases h1 : (c.toNat : Int) = 91
  · simp [h1]
  · by_cases h2 : (c.toNat : Int) = 93
    · simp [h2]
    · have h3 : (c.toNat : Int) = 44 := by omega
      simp [h3]
theorem sign_no {c : UInt8} (hs : signB c = false) : ((c.toNat : Int) != 91) = true ∧ ((c.toNat : Int) != 93) = true ∧ ((c.toNat : Int) != 44) = true := by
  have e : ∀ k : UInt8, c = k ↔ (c.toNat : Int) = (k.toNat : Int) := fun k => by
    rw [← UInt8.toNat_inj]; omega
  simp [signB, e] at hs
  simp
  omega
theorem sign_bools (c : UInt8) : signB c = (((c.toNat : Int) == 91) || ((c.toNat : Int) == 93) || ((c.toNat : Int) == 44)) := by
  have e : ∀ k : UInt8, c = k ↔ (c.toNat : Int) = (k.toNat : Int) := fun k => by
    rw [← UInt8.toNat_inj]; omega
  rw [Bool.eq_iff_iff]
  simp [signB, e]

theorem cell_one (w : World) (x : Value) (t : TypeId) (j : Nat) (u : Value) (h : [x][j]? = some u) : (w.alloc (.cells #[x] t)).cell? (Addr.add ⟨w.heap.size, 0, none⟩ j) = some u := by
  cases j with
  | zero =>
    simp at h; subst h
    show (w.alloc (.cells #[x] t (0, 0))).cell? ⟨w.heap.size, 0, none⟩ = _
    rw [cell_new]; rfl
  | succ j => simp at h
theorem own_below {W w w1 : World} {base e size n : Nat} {v : Value} {xs : List Value} {o : Obj} (hb : Below W.heap.size W w) (hown : w.ownsRow base e size v n xs) (hbase : W.heap.size ≤ base) (hg : (w.alloc o).grownBy w1 v.ownBlock) : Below W.heap.size W w1 :=
  Below.grown (below_alloc hb o) hg (Nat.le_trans hb.size (by simp)) (fun j hj => Nat.le_trans hbase (hown.lt _ hj).1)

set_option maxRecDepth 100000 in
set_option maxHeartbeats 1000000 in
theorem wordsR (l : List UInt8) (hl : l.length ≤ 262144) (w : World) : Calls Tryd.prog 35 #[.string ⟨l.toArray⟩] w (WordsPost l w) := by
  obtain ⟨i0, hi, hz0, hz1, hz2⟩ := info_parts stringInfo
  go_enter Tryd.func35, Tryd.ntmps35
  go_wp2
  go_loopw [3, 4, 5, 6] (fun v i _ _ wr => ∃ (k : Nat) (ws : List (List UInt8)), k ≤ l.length ∧ i = .int .i64 k ∧ wordsL l = ws ++ wordsL (l.drop k) ∧ wr.ownsRow w.heap.size 9 1 v ws.length (strW ws) ∧ Below w.heap.size w wr) (fun _ i _ _ _ => l.length - (intOf i).toNat)
  case atStart => exact ⟨0, [], Nat.zero_le _, rfl, by simp, ⟨rfl, .inl ⟨rfl, rfl⟩⟩, Below.refl _ _⟩
  case round =>
    obtain ⟨k, ws, hk, rfl, hws, hown, hbw⟩ := hrel
    have HW := Lib.hid hws
    clear hws
    by_cases hlt : k < l.length
    · obtain ⟨c, hc⟩ : ∃ c, l[k] = c := ⟨_, rfl⟩
      have hx : ∀ h, (⟨l.toArray⟩ : ByteArray)[k]'h = c := fun _ => hc
      have HC := Lib.hid hc
      clear hc
      have hclt : (c.toNat : Int) < 256 := by have := c.toNat_lt; omega
      cases hb : blankB c with
      | true =>
        go_wp2_with (go_at_call 63; refine (blankR _ _ rfl _).mono ?_; rintro e w' ⟨rfl, rfl⟩)
        go_roundw
        case rel => exact ⟨k + 1, ws, by omega, by go_num, by rw [HW.out, blank_step hlt (by rw [HC.out]; exact hb)], hown, hbw⟩
        case measure => simp [intOf]; omega
      | false =>
        have HB := Lib.hid hb
        go_upto_block 2 with (go_at_call 63; refine (blankR _ _ rfl _).mono ?_; rintro e w' ⟨rfl, rfl⟩)
        go_cut [6] (fun s6 wx => ∃ m : Nat, s6 = .int .i64 m ∧ k + 1 ≤ m ∧ m ≤ l.length ∧ (signB c = true → m = k + 1) ∧ (signB c = false → (∀ j (hj : j < l.length), k + 1 ≤ j → j < m → goesB l[j] = true) ∧ ∀ h : m < l.length, goesB l[m] = false) ∧ wr = wx)
        case first =>
          go_wp2
          go_loop [6] (fun e => ∃ m : Nat, e = .int .i64 m ∧ k + 1 ≤ m ∧ m ≤ l.length ∧ (signB c = true → m = k + 1) ∧ (signB c = false → (∀ j (hj : j < l.length), k + 1 ≤ j → j < m → goesB l[j] = true))) (fun e => l.length - (intOf e).toNat)
          case atStart => exact ⟨k + 1, by go_num, Nat.le_refl _, by omega, fun _ => rfl, fun _ j _ h1 h2 => by omega⟩
          case round =>
            obtain ⟨m, rfl, hm1, hm2, hms, hmn⟩ := hrel
            have HM1 := Lib.hid hms
            have HM2 := Lib.hid hmn
            clear hms hmn
            cases hs : signB c with
            | true =>
              have HS := Lib.hid hs
              have hs3 := sign_yes hs
              clear hs
              rcases hs3 with h1 | ⟨h1, h2⟩ | ⟨h1, h2, h3⟩
              all_goals
                go_wp2
                go_meet
                exact ⟨m, rfl, hm1, hm2, HM1.out, fun h => (by first | (cases h; done) | (rw [HS.out] at h; cases h)), rfl⟩
            | false =>
              have HS := Lib.hid hs
              obtain ⟨h1, h2, h3⟩ := sign_no hs
              clear hs
              by_cases hlt2 : m < l.length
              · obtain ⟨d, hd⟩ : ∃ d, l[m] = d := ⟨_, rfl⟩
                have hxd : ∀ h, (⟨l.toArray⟩ : ByteArray)[m]'h = d := fun _ => hd
                have HD := Lib.hid hd
                clear hd
                have hdlt : (d.toNat : Int) < 256 := by have := d.toNat_lt; omega
                cases hbd : blankB d with
                | true =>
                  go_wp2_with (go_at_call 63; refine (blankR _ _ rfl _).mono ?_; rintro e w' ⟨rfl, rfl⟩)
                  go_meet
                  exact ⟨m, rfl, hm1, hm2, HM1.out, fun _ => ⟨HM2.out (by first | rfl | exact HS.out), fun _ => by rw [HD.out]; simp [goesB, hbd]⟩, rfl⟩
                | false =>
                  cases hsd : signB d with
                  | true =>
                    have HSD := Lib.hid hsd
                    have hs3 := sign_yes hsd
                    clear hsd
                    rcases hs3 with g1 | ⟨g1, g2⟩ | ⟨g1, g2, g3⟩
                    all_goals
                      go_wp2_with (go_at_call 63; refine (blankR _ _ rfl _).mono ?_; rintro e w' ⟨rfl, rfl⟩)
                      go_meet
                      exact ⟨m, rfl, hm1, hm2, HM1.out, fun _ => ⟨HM2.out (by first | rfl | exact HS.out), fun _ => by rw [HD.out]; simp [goesB, HSD.out]⟩, rfl⟩
                  | false =>
                    have HSD := Lib.hid hsd
                    obtain ⟨g1, g2, g3⟩ := sign_no hsd
                    clear hsd
                    go_wp2_with (go_at_call 63; refine (blankR _ _ rfl _).mono ?_; rintro e w' ⟨rfl, rfl⟩)
                    go_round
                    case rel => exact ⟨m + 1, by go_num, by omega, by omega, fun h => (by first | (cases h; done) | (rw [HS.out] at h; cases h)), fun _ j hj q1 q2 => by
                      by_cases e : j < m
                      · exact HM2.out (by first | rfl | exact HS.out) j hj q1 e
                      · obtain rfl : j = m := by omega
                        rw [HD.out]; simp [goesB, hbd, HSD.out]⟩
                    case measure => simp [intOf]; omega
              · go_wp2
                go_meet
                exact ⟨m, rfl, hm1, hm2, HM1.out, fun _ => ⟨HM2.out (by first | rfl | exact HS.out), fun h' => absurd h' hlt2⟩, rfl⟩
        case rest =>
          obtain ⟨m, rfl, hm1, hm2, hms, hmn, rfl⟩ := hcut
          have hword : wordsL (l.drop k) = (l.drop k).take (m - k) :: wordsL (l.drop m) := by
            cases hs : signB c with
            | true =>
              have e := hms hs
              subst e
              rw [sign_step hlt (by rw [HC.out]; exact hb) (by rw [HC.out]; exact hs), Nat.add_sub_cancel_left]
            | false =>
              exact word_step hlt hm1 hm2 (by rw [HC.out]; exact hb) (by rw [HC.out]; exact hs) (hmn hs).1 (hmn hs).2
          have HN := Lib.hid hword
          clear hword hms hmn
          have hxe := extract_list l k m
          have b1 : (k : Int) ≤ (m : Int) := by omega
          have b2 : (m : Int) ≤ (l.length : Int) := by omega
          have b3 : k ≤ m := by omega
          have hwl : ws.length ≤ 262144 := by
            have h1 := wordsL_len l.length l (Nat.le_refl _)
            rw [HW.out, List.length_append] at h1
            omega
          go_wp2_with (at_builtin; refine wpList_append_own _ rfl _ _ 68 rfl w.heap.size 9 i0 (.string ⟨#[]⟩) 1 16 Tryd.underlying68 hi hz0 hz1 hz2 rfl (by decide) _ _ _ rfl (hown.alloc _) ⟨wr.heap.size, 0, none⟩ 1 1 [.string ⟨((l.drop k).take (m - k)).toArray⟩] rfl rfl (cell_one _ _ _) (fun u hu => by simp at hu; subst hu; rfl) (by unfold maxLen; omega) (by omega) (Nat.le_trans hbw.size (by simp)) ?_; intro v1 w1 hown1 hgrow1 _; have hbw1 := own_below hbw hown (Nat.le_refl _) hgrow1; clear hgrow1)
          go_roundw
          case rel => exact ⟨m, ws ++ [(l.drop k).take (m - k)], hm2, by go_num, by rw [HW.out, HN.out, List.append_assoc]; rfl, by simpa [strW] using hown1, hbw1⟩
          case measure => simp [intOf]; omega
    · go_wp2
      go_ret
      refine ⟨_, rfl, by
        have e : wordsL l = ws := by rw [HW.out, List.drop_eq_nil_of_le (by omega), wordsL_nil, List.append_nil]
        rw [e]; exact hown, hbw⟩
end Go.Proofs.YtlpcahkchmlghaaDoor
