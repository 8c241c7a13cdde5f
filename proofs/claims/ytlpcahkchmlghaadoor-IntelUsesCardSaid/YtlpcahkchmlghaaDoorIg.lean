/- Contracts of the program's number, place, moved and Parse. -/
import Derived.Test.YtlpcahkchmlghaaDoorIe
import Derived.WalkSpells
import Derived.WalkLawsBesides
namespace Go.Proofs.YtlpcahkchmlghaaDoor
open Go.RowKit

def numP (l : List UInt8) : Bool := atoiB l && numB (atoiN l) && (Lib.itoa (atoiN l) == l)

theorem atoiN_bounds (l : List UInt8) (h : atoiB l = true) : -9223372036854775808 ≤ atoiN l ∧ atoiN l ≤ 9223372036854775807 := by
  unfold atoiB at h
  unfold atoiN
  rcases e : Lib.atoiAll l with v | _ | _
  · simp only
    unfold Lib.atoiAll at e
    cases l with
    | nil => simp at e
    | cons c r =>
      simp only at e
      rcases e2 : Lib.parseMag (if c.toNat = 43 ∨ c.toNat = 45 then r else c :: r) with u | _ | _
      · rw [e2] at e
        simp only at e
        split at e
        · simp at e
        · split at e
          · simp at e
          · injection e with e
            subst e
            split <;> omega
      · rw [e2] at e; simp at e
      · rw [e2] at e; simp at e
  · rw [e] at h; cases h
  · rw [e] at h; cases h

set_option maxHeartbeats 400000 in
theorem number_c (s : ByteArray) (w : World) (hE : Env w) (hs : s.size ≤ 281474976710656) :
    Calls Tryd.prog 62 #[.string s] w fun e w' => e = .returned (.tuple #[.int .i64 (atoiN s.data.toList), .bool (numP s.data.toList)]) ∧ Below w.heap.size w w' := by
  cases h1 : atoiB s.data.toList with
  | false =>
    have HF := Lib.hid (show numP s.data.toList = false by simp [numP, h1])
    have H1 := Lib.hid h1
    clear h1
    go_enter Tryd.func62, Tryd.ntmps62
    go_wp2_with (first
      | (go_at_call 82; refine (atoi_no _ _ hE hs H1.out).mono ?_; rintro e w' ⟨t, a, rfl, hb⟩))
    go_ret2
    exact ⟨by rw [HF.out]; rfl, hb⟩
  | true =>
    have hab := atoiN_bounds _ h1
    have H1 := Lib.hid h1
    clear h1
    have HN := Lib.hid (show numP s.data.toList = (numB (atoiN s.data.toList) && (Lib.itoa (atoiN s.data.toList) == s.data.toList)) by simp [numP, H1.out])
    cases h2 : numB (atoiN s.data.toList) with
    | false =>
      go_enter Tryd.func62, Tryd.ntmps62
      go_wp2_with (first
        | (go_at_call 82; refine (atoi_yes _ _ hs H1.out).mono ?_; rintro e w' ⟨rfl, hb⟩)
        | (go_at_call 43; refine (isNumber_c _ _).mono ?_; rintro e w2 ⟨rfl, rfl⟩))
      go_ret2
      exact ⟨by rw [HN.out, h2]; rfl, hb⟩
    | true =>
      go_enter Tryd.func62, Tryd.ntmps62
      go_wp2_with (first
        | (go_at_call 82; refine (atoi_yes _ _ hs H1.out).mono ?_; rintro e w' ⟨rfl, hb⟩; have hE' := hE.mono hb)
        | (go_at_call 43; refine (isNumber_c _ _).mono ?_; rintro e w2 ⟨rfl, rfl⟩)
        | (go_at_call 38; refine (itoa_c _ _ hE' hab.1 hab.2).mono ?_; rintro e w3 ⟨rfl, hb'⟩))
      go_ret2
      exact ⟨by rw [HN.out, h2, ← ByteArray.toList_eq]; rfl, below_trans hb hb'⟩

def placeP (l : List UInt8) : List UInt8 × Bool :=
  if l.length < 2 ∨ l.head? ≠ some 91 ∨ l.getLast? ≠ some 93 then ([], false)
  else (trimB ((l.drop 1).take (l.length - 2)), nameB (trimB ((l.drop 1).take (l.length - 2))))

theorem dropWhile_le {α : Type} (p : α → Bool) (l : List α) : (l.dropWhile p).length ≤ l.length := (List.dropWhile_sublist p).length_le
theorem trimB_le (l : List UInt8) : (trimB l).length ≤ l.length := by
  unfold trimB Lib.trimS Lib.trimLeftS Lib.trimRightS
  refine Nat.le_trans (dropWhile_le _ _) ?_
  rw [List.length_reverse]
  exact Nat.le_trans (dropWhile_le _ _) (by simp)
theorem head_byte {s : ByteArray} (h : 0 < s.size) : s.data.toList.head? = some s[0] := by
  have hl := str_len s
  have hg : s[0] = s.data.toList[0]'(by omega) := rfl
  rw [hg, List.head?_eq_getElem?, List.getElem?_eq_getElem]
theorem last_byte {s : ByteArray} (h : 0 < s.size) : s.data.toList.getLast? = some (s[s.size - 1]'(by omega)) := by
  have hl := str_len s
  have hg : (s[s.size - 1]'(by omega)) = s.data.toList[s.size - 1]'(by omega) := rfl
  rw [hg, List.getLast?_eq_getElem?]
  simp only [hl]
  exact List.getElem?_eq_getElem _
theorem extract_mid (s : ByteArray) : (s.extract 1 (s.size - 1)).data.toList = (s.data.toList.drop 1).take (s.size - 2) := by
  rw [ByteArray.data_extract, Array.toList_extract, List.extract_eq_take_drop]
  rw [show s.size - 1 - 1 = s.size - 2 from by omega]
theorem byte_ne {c : UInt8} {k : UInt8} (h : ((c.toNat : Int) != (k.toNat : Int)) = true) : c ≠ k := by
  rintro rfl; simp at h
theorem byte_eq {c : UInt8} {k : UInt8} (h : ((c.toNat : Int) != (k.toNat : Int)) = false) : c = k := by
  rw [← UInt8.toNat_inj]; simp at h; omega

theorem place_sT (s : ByteArray) (hs : s.size ≤ 281474976710656) : (s.extract 1 (s.size - 1)).size ≤ 9223372036854775807 := by rw [ByteArray.size_extract]; omega
theorem place_fin (s : ByteArray) (hp : placeP s.data.toList = (trimB ((s.data.toList.drop 1).take (s.size - 2)), nameB (trimB ((s.data.toList.drop 1).take (s.size - 2))))) (x : List UInt8) (hx : x = (s.data.toList.drop 1).take (s.size - 2)) :
    Ending.returned (.tuple #[.string ⟨(trimB x).toArray⟩, .bool (nameB (trimB x))]) = .returned (.tuple #[.string ⟨(placeP s.data.toList).1.toArray⟩, .bool (placeP s.data.toList).2]) := by
  rw [hp, hx]
theorem isName_l (l : List UInt8) (w : World) (hl : l.length ≤ 9223372036854775807) : Calls Tryd.prog 42 #[.string ⟨l.toArray⟩] w fun e w' => e = .returned (.bool (nameB l)) ∧ w = w' := isName_c ⟨l.toArray⟩ w (by rw [str_size]; exact hl)
set_option maxRecDepth 100000 in
set_option maxHeartbeats 400000 in
theorem place_ok (s : ByteArray) (w : World) (hs : s.size ≤ 281474976710656) (hl : 2 ≤ s.size)
    (hp : placeP s.data.toList = (trimB ((s.data.toList.drop 1).take (s.size - 2)), nameB (trimB ((s.data.toList.drop 1).take (s.size - 2)))))
    (hb1 : ((s[0].toNat : Int) != 91) = false) (hb2 : (((s[s.size - 1]'(by omega)).toNat : Int) != 93) = false) :
    Calls Tryd.prog 61 #[.string s] w fun e w' => e = .returned (.tuple #[.string ⟨(placeP s.data.toList).1.toArray⟩, .bool (placeP s.data.toList).2]) ∧ Below w.heap.size w w' := by
  have h0 : 0 < s.size := by omega
  have h1 : 1 ≤ s.size - 1 := by omega
  have hli : (2 : Int) ≤ (s.size : Int) := by omega
  have hi1 : (1 : Int) ≤ (s.size : Int) - 1 := by omega
  have hi2 : ((s.size : Int) - 1).toNat = s.size - 1 := by omega
  have hz : decide ((s.size : Int) < 2) = false := by simp; omega
  have HP := Lib.hid hp
  have H1 := Lib.hid hb1
  have H2 := Lib.hid hb2
  clear hb1 hb2 hp
  go_enter Tryd.func61, Tryd.ntmps61
  go_wp2_with (first
    | (go_at_call 30; refine (trim_c _ _ (place_sT s hs)).mono ?_; rintro e w' ⟨rfl, hb⟩)
    | (go_at_call 42; refine (isName_l _ _ (Nat.le_trans (trimB_le _) (by rw [List.length_take]; omega))).mono ?_; rintro e w2 ⟨rfl, rfl⟩))
  all_goals first
    | (have q : (s[0].toNat : Int) = 91 := by simpa using H1.out
       exfalso
       omega)
    | (have q : (((s[s.size - 1]'(by omega)).toNat : Int) != 93) = true := by assumption
       rw [H2.out] at q
       cases q)
    | (go_ret2
       exact ⟨place_fin s HP.out _ (by rw [List.drop_one, Nat.sub_sub]), hb⟩)
set_option maxRecDepth 100000 in
set_option maxHeartbeats 400000 in
theorem place_c (s : ByteArray) (w : World) (hs : s.size ≤ 281474976710656) :
    Calls Tryd.prog 61 #[.string s] w fun e w' => e = .returned (.tuple #[.string ⟨(placeP s.data.toList).1.toArray⟩, .bool (placeP s.data.toList).2]) ∧ Below w.heap.size w w' := by
  by_cases h2 : s.size < 2
  · have HP := Lib.hid (show placeP s.data.toList = ([], false) by unfold placeP; rw [if_pos (.inl (by rw [str_len]; exact h2))])
    go_enter Tryd.func61, Tryd.ntmps61
    go_wp2
    go_ret2
    exact ⟨by rw [HP.out]; rfl, Below.refl _ _⟩
  · have hl : 2 ≤ s.size := by omega
    have h1 : 1 ≤ s.size - 1 := by omega
    have hli : (2 : Int) ≤ (s.size : Int) := by omega
    have hi1 : (1 : Int) ≤ (s.size : Int) - 1 := by omega
    have hi2 : ((s.size : Int) - 1).toNat = s.size - 1 := by omega
    have hz : decide ((s.size : Int) < 2) = false := by simp; omega
    have h0 : 0 < s.size := by omega
    clear h2
    cases hb1 : ((s[0].toNat : Int) != 91) with
    | true =>
      have HP := Lib.hid (show placeP s.data.toList = ([], false) by unfold placeP; rw [if_pos (.inr (.inl (by rw [head_byte h0]; simpa using byte_ne (k := 91) hb1)))])
      go_enter Tryd.func61, Tryd.ntmps61
      go_wp2
      go_ret2
      exact ⟨by rw [HP.out]; rfl, Below.refl _ _⟩
    | false =>
      cases hb2 : (((s[s.size - 1]'(by omega)).toNat : Int) != 93) with
      | true =>
        have HP := Lib.hid (show placeP s.data.toList = ([], false) by unfold placeP; rw [if_pos (.inr (.inr (by rw [last_byte h0]; simpa using byte_ne (k := 93) hb2)))])
        go_enter Tryd.func61, Tryd.ntmps61
        go_wp2
        go_ret2
        exact ⟨by rw [HP.out]; rfl, Below.refl _ _⟩
      | false =>
        have e1 := byte_eq (k := 91) hb1
        have e2 := byte_eq (k := 93) hb2
        have HP := Lib.hid (show placeP s.data.toList = (trimB ((s.data.toList.drop 1).take (s.size - 2)), nameB (trimB ((s.data.toList.drop 1).take (s.size - 2)))) by
          unfold placeP
          rw [if_neg (by rw [head_byte h0, last_byte h0, str_len, e1, e2]; simp; omega), str_len])
        exact place_ok s w hs hl HP.out (by simp [e1]) (by simp [e2])

theorem place_l (l : List UInt8) (w : World) (hl : l.length ≤ 281474976710656) : Calls Tryd.prog 61 #[.string ⟨l.toArray⟩] w fun e w' => e = .returned (.tuple #[.string ⟨(placeP l).1.toArray⟩, .bool (placeP l).2]) ∧ Below w.heap.size w w' :=
  place_c ⟨l.toArray⟩ w (by rw [str_size]; exact hl)
theorem number_l (l : List UInt8) (w : World) (hE : Env w) (hl : l.length ≤ 281474976710656) : Calls Tryd.prog 62 #[.string ⟨l.toArray⟩] w fun e w' => e = .returned (.tuple #[.int .i64 (atoiN l), .bool (numP l)]) ∧ Below w.heap.size w w' :=
  number_c ⟨l.toArray⟩ w hE (by rw [str_size]; exact hl)
theorem hasPrefix_l (l p : List UInt8) (w : World) : Calls Tryd.prog 31 #[.string ⟨l.toArray⟩, .string ⟨p.toArray⟩] w fun e w' => e = .returned (.bool (Lib.hasPrefix l p)) ∧ w = w' := hasPrefix_c _ _ w
theorem trim_l (l : List UInt8) (w : World) (hl : l.length ≤ 9223372036854775807) :
    Calls Tryd.prog 30 #[.string ⟨l.toArray⟩, .string ⟨#[32, 9, 10, 13]⟩] w fun e w' => e = .returned (.string ⟨(trimB l).toArray⟩) ∧ Below w.heap.size w w' := trim_c ⟨l.toArray⟩ w (by rw [str_size]; exact hl)

def mvP (to fr : List UInt8) : (Int × Int × Int × Int × List UInt8) × Bool :=
  if (placeP to).2 then
    if Lib.hasPrefix fr [36] then ((1, 0, 0, atoiN fr.tail, (placeP to).1), numP fr.tail)
    else match regOf fr with
      | some r => ((2, 0, r, 0, (placeP to).1), true)
      | none => ((2, 0, 0, 0, (placeP to).1), false)
  else match regOf to with
    | none => ((0, 0, 0, 0, []), false)
    | some d =>
      if Lib.hasPrefix fr [36] then ((4, d, 0, atoiN fr.tail, []), numP fr.tail)
      else ((3, d, 0, 0, (placeP fr).1), (placeP fr).2)
def mvV (m : (Int × Int × Int × Int × List UInt8) × Bool) : Value := .tuple #[insV m.1.1 m.1.2.1 m.1.2.2.1 0 m.1.2.2.2.1 ⟨m.1.2.2.2.2.toArray⟩ ⟨#[]⟩ 0, .bool m.2]

theorem regOf_lt {l : List UInt8} {k : Nat} (h : regOf l = some k) : k < 15 := by
  unfold regOf at h
  have := List.mem_of_find?_eq_some h
  simpa using this
theorem regOfP_y {l : List UInt8} {k : Nat} (h : regOf l = some k) (w : World) (hE : Env w) : Calls Tryd.prog 19 #[.string ⟨l.toArray⟩] w fun e w' => e = .returned (.tuple #[.int .i64 k, .int .i64 0]) ∧ w = w' := by
  have := regOfP ⟨l.toArray⟩ w hE
  unfold regOfV at this
  rw [str_mk, h] at this
  exact this
theorem regOfP_n {l : List UInt8} (h : regOf l = none) (w : World) (hE : Env w) : Calls Tryd.prog 19 #[.string ⟨l.toArray⟩] w fun e w' => e = .returned (.tuple #[.int .i64 0, .int .i64 90]) ∧ w = w' := by
  have := regOfP ⟨l.toArray⟩ w hE
  unfold regOfV at this
  rw [str_mk, h] at this
  exact this
theorem place_lt {l : List UInt8} (h : (placeP l).2 = true) (w : World) (hl : l.length ≤ 281474976710656) :
    Calls Tryd.prog 61 #[.string ⟨l.toArray⟩] w fun e w' => e = .returned (.tuple #[.string ⟨(placeP l).1.toArray⟩, .bool true]) ∧ Below w.heap.size w w' := by
  have := place_l l w hl
  rw [h] at this
  exact this
theorem place_lf {l : List UInt8} (h : (placeP l).2 = false) (w : World) (hl : l.length ≤ 281474976710656) :
    Calls Tryd.prog 61 #[.string ⟨l.toArray⟩] w fun e w' => e = .returned (.tuple #[.string ⟨(placeP l).1.toArray⟩, .bool false]) ∧ Below w.heap.size w w' := by
  have := place_l l w hl
  rw [h] at this
  exact this
theorem ext_drop (l : List UInt8) (k : Nat) : (⟨l.toArray⟩ : ByteArray).extract k l.length = ⟨(l.drop k).toArray⟩ := by
  apply ByteArray.ext
  rw [ByteArray.data_extract]
  apply Array.ext'
  rw [Array.toList_extract, List.extract_eq_take_drop]
  exact List.take_of_length_le (by simp)
theorem ext_tail (l : List UInt8) : (⟨l.toArray⟩ : ByteArray).extract 1 l.length = ⟨l.tail.toArray⟩ := by rw [ext_drop, List.drop_one]
theorem prefix_pos {l p : List UInt8} (h : Lib.hasPrefix l p = true) : p.length ≤ l.length := by
  unfold Lib.hasPrefix at h
  exact (List.isPrefixOf_iff_prefix.1 h).length_le

set_option maxHeartbeats 400000 in
theorem moved_1 (a b : List UInt8) (w : World) (hE : Env w) (ha : a.length ≤ 281474976710656) (hb : b.length ≤ 281474976710656) (hp : (placeP a).2 = true) (hd : Lib.hasPrefix b [36] = true) :
    Calls Tryd.prog 34 #[.string ⟨a.toArray⟩, .string ⟨b.toArray⟩] w fun e w' => e = .returned (mvV (mvP a b)) ∧ Below w.heap.size w w' := by
  have hb1 : 1 ≤ b.length := prefix_pos hd
  have hx := ext_tail b
  have HM := Lib.hid (show mvP a b = ((1, 0, 0, atoiN b.tail, (placeP a).1), numP b.tail) by simp [mvP, hp, hd])
  have HP := Lib.hid hp
  clear hp
  go_enter Tryd.func34, Tryd.ntmps34
  go_wp2_with (first
    | (go_at_call 61; refine (place_lt HP.out _ ha).mono ?_; rintro e w' ⟨rfl, hb⟩; have hbw := below_trans (below_alloc (Below.refl _ _) _) hb; have hE' := hE.mono hbw; obtain ⟨hc, hf⟩ := bcell hb; have hz : w.heap.size < w'.heap.size := Nat.lt_of_lt_of_le (by simp) hb.size)
    | (go_at_call 31; refine (hasPrefix_l _ _ _).mono ?_; rintro e w2 ⟨rfl, rfl⟩)
    | (go_at_call 62; refine (number_l _ _ hE' (by rw [List.length_tail]; omega)).mono ?_; rintro e w3 ⟨rfl, hb2⟩; have hbw2 := below_trans hbw hb2; obtain ⟨hc2, hf2⟩ := bcell hb2; have hz2 : w.heap.size < w3.heap.size := Nat.lt_of_lt_of_le hz hb2.size))
  refine bodyPost_ret (v := mvV ((1, 0, 0, atoiN b.tail, (placeP a).1), numP b.tail)) ?_ rfl ⟨?_, ?_⟩
  · simp [results, Tryd.results34, go_sem, hc, hz, mvV, hc2]
  · rw [HM.out]
  · repeat (first | (with_reducible refine Below.setCell ?_ ?_ _; rotate_left 1; exact Nat.le_refl _) | (with_reducible exact hbw2))
set_option maxHeartbeats 400000 in
theorem moved_2 (a b : List UInt8) (w : World) (hE : Env w) (ha : a.length ≤ 281474976710656) (_hb : b.length ≤ 281474976710656) (hp : (placeP a).2 = true) (hd : Lib.hasPrefix b [36] = false) (k : Nat) (hr : regOf b = some k) :
    Calls Tryd.prog 34 #[.string ⟨a.toArray⟩, .string ⟨b.toArray⟩] w fun e w' => e = .returned (mvV (mvP a b)) ∧ Below w.heap.size w w' := by
  have HR := Lib.hid hr
  have HM := Lib.hid (show mvP a b = ((2, 0, (k : Int), 0, (placeP a).1), true) by simp [mvP, hp, hd, hr])
  have HP := Lib.hid hp
  clear hp hr
  go_enter Tryd.func34, Tryd.ntmps34
  go_wp2_with (first
    | (go_at_call 61; refine (place_lt HP.out _ ha).mono ?_; rintro e w' ⟨rfl, hb⟩; have hbw := below_trans (below_alloc (Below.refl _ _) _) hb; have hE' := hE.mono hbw; obtain ⟨hc, hf⟩ := bcell hb; have hz : w.heap.size < w'.heap.size := Nat.lt_of_lt_of_le (by simp) hb.size)
    | (go_at_call 31; refine (hasPrefix_l _ _ _).mono ?_; rintro e w2 ⟨rfl, rfl⟩)
    | (go_at_call 19; refine (regOfP_y HR.out _ hE').mono ?_; rintro e w4 ⟨rfl, rfl⟩))
  refine bodyPost_ret (v := mvV ((2, 0, (k : Int), 0, (placeP a).1), true)) ?_ rfl ⟨?_, ?_⟩
  · simp [results, Tryd.results34, go_sem, hc, mvV]
  · rw [HM.out]
  · repeat (first | (with_reducible refine Below.setCell ?_ ?_ _; rotate_left 1; exact Nat.le_refl _) | (with_reducible exact hbw))
set_option maxHeartbeats 400000 in
theorem moved_3 (a b : List UInt8) (w : World) (hE : Env w) (ha : a.length ≤ 281474976710656) (_hb : b.length ≤ 281474976710656) (hp : (placeP a).2 = true) (hd : Lib.hasPrefix b [36] = false) (hr : regOf b = none) :
    Calls Tryd.prog 34 #[.string ⟨a.toArray⟩, .string ⟨b.toArray⟩] w fun e w' => e = .returned (mvV (mvP a b)) ∧ Below w.heap.size w w' := by
  have HR := Lib.hid hr
  have HM := Lib.hid (show mvP a b = ((2, 0, 0, 0, (placeP a).1), false) by simp [mvP, hp, hd, hr])
  have HP := Lib.hid hp
  clear hp hr
  go_enter Tryd.func34, Tryd.ntmps34
  go_wp2_with (first
    | (go_at_call 61; refine (place_lt HP.out _ ha).mono ?_; rintro e w' ⟨rfl, hb⟩; have hbw := below_trans (below_alloc (Below.refl _ _) _) hb; have hE' := hE.mono hbw; obtain ⟨hc, hf⟩ := bcell hb; have hz : w.heap.size < w'.heap.size := Nat.lt_of_lt_of_le (by simp) hb.size)
    | (go_at_call 31; refine (hasPrefix_l _ _ _).mono ?_; rintro e w2 ⟨rfl, rfl⟩)
    | (go_at_call 19; refine (regOfP_n HR.out _ hE').mono ?_; rintro e w4 ⟨rfl, rfl⟩))
  refine bodyPost_ret (v := mvV ((2, 0, 0, 0, (placeP a).1), false)) ?_ rfl ⟨?_, ?_⟩
  · simp [results, Tryd.results34, go_sem, hc, mvV]
  · rw [HM.out]
  · repeat (first | (with_reducible refine Below.setCell ?_ ?_ _; rotate_left 1; exact Nat.le_refl _) | (with_reducible exact hbw))
set_option maxHeartbeats 400000 in
theorem moved_4 (a b : List UInt8) (w : World) (hE : Env w) (ha : a.length ≤ 281474976710656) (_hb : b.length ≤ 281474976710656) (hp : (placeP a).2 = false) (hr : regOf a = none) :
    Calls Tryd.prog 34 #[.string ⟨a.toArray⟩, .string ⟨b.toArray⟩] w fun e w' => e = .returned (mvV (mvP a b)) ∧ Below w.heap.size w w' := by
  have HR := Lib.hid hr
  have HM := Lib.hid (show mvP a b = ((0, 0, 0, 0, []), false) by simp [mvP, hp, hr])
  have HP := Lib.hid hp
  clear hp hr
  go_enter Tryd.func34, Tryd.ntmps34
  go_wp2_with (first
    | (go_at_call 61; refine (place_lf HP.out _ ha).mono ?_; rintro e w' ⟨rfl, hb⟩; have hbw := below_trans (below_alloc (Below.refl _ _) _) hb; have hE' := hE.mono hbw; obtain ⟨hc, hf⟩ := bcell hb; have hz : w.heap.size < w'.heap.size := Nat.lt_of_lt_of_le (by simp) hb.size)
    | (go_at_call 31; refine (hasPrefix_l _ _ _).mono ?_; rintro e w2 ⟨rfl, rfl⟩)
    | (go_at_call 19; refine (regOfP_n HR.out _ hE').mono ?_; rintro e w4 ⟨rfl, rfl⟩))
  refine bodyPost_ret (v := mvV ((0, 0, 0, 0, []), false)) ?_ rfl ⟨?_, ?_⟩
  · simp [results, Tryd.results34, go_sem, hc, mvV]
  · rw [HM.out]
  · repeat (first | (with_reducible refine Below.setCell ?_ ?_ _; rotate_left 1; exact Nat.le_refl _) | (with_reducible exact hbw))
set_option maxHeartbeats 400000 in
theorem moved_5 (a b : List UInt8) (w : World) (hE : Env w) (ha : a.length ≤ 281474976710656) (hb : b.length ≤ 281474976710656) (hp : (placeP a).2 = false) (k : Nat) (hr : regOf a = some k) (hd : Lib.hasPrefix b [36] = true) :
    Calls Tryd.prog 34 #[.string ⟨a.toArray⟩, .string ⟨b.toArray⟩] w fun e w' => e = .returned (mvV (mvP a b)) ∧ Below w.heap.size w w' := by
  have hb1 : 1 ≤ b.length := prefix_pos hd
  have hx := ext_tail b
  have HR := Lib.hid hr
  have HM := Lib.hid (show mvP a b = ((4, (k : Int), 0, atoiN b.tail, []), numP b.tail) by simp [mvP, hp, hd, hr])
  have HP := Lib.hid hp
  clear hp hr
  go_enter Tryd.func34, Tryd.ntmps34
  go_wp2_with (first
    | (go_at_call 61; refine (place_lf HP.out _ ha).mono ?_; rintro e w' ⟨rfl, hb⟩; have hbw := below_trans (below_alloc (Below.refl _ _) _) hb; have hE' := hE.mono hbw; obtain ⟨hc, hf⟩ := bcell hb; have hz : w.heap.size < w'.heap.size := Nat.lt_of_lt_of_le (by simp) hb.size)
    | (go_at_call 31; refine (hasPrefix_l _ _ _).mono ?_; rintro e w2 ⟨rfl, rfl⟩)
    | (go_at_call 19; refine (regOfP_y HR.out _ hE').mono ?_; rintro e w4 ⟨rfl, rfl⟩)
    | (go_at_call 62; refine (number_l _ _ hE' (by rw [List.length_tail]; omega)).mono ?_; rintro e w3 ⟨rfl, hb2⟩; have hbw2 := below_trans hbw hb2; obtain ⟨hc2, hf2⟩ := bcell hb2; have hz2 : w.heap.size < w3.heap.size := Nat.lt_of_lt_of_le hz hb2.size))
  refine bodyPost_ret (v := mvV ((4, (k : Int), 0, atoiN b.tail, []), numP b.tail)) ?_ rfl ⟨?_, ?_⟩
  · simp [results, Tryd.results34, go_sem, hc, hz, mvV, hc2]
  · rw [HM.out]
  · repeat (first | (with_reducible refine Below.setCell ?_ ?_ _; rotate_left 1; exact Nat.le_refl _) | (with_reducible exact hbw2))
set_option maxHeartbeats 400000 in
theorem moved_6 (a b : List UInt8) (w : World) (hE : Env w) (ha : a.length ≤ 281474976710656) (hb : b.length ≤ 281474976710656) (hp : (placeP a).2 = false) (k : Nat) (hr : regOf a = some k) (hd : Lib.hasPrefix b [36] = false) :
    Calls Tryd.prog 34 #[.string ⟨a.toArray⟩, .string ⟨b.toArray⟩] w fun e w' => e = .returned (mvV (mvP a b)) ∧ Below w.heap.size w w' := by
  have HR := Lib.hid hr
  have hb0 := hb
  have tokA : True := trivial
  have HM := Lib.hid (show mvP a b = ((3, (k : Int), 0, 0, (placeP b).1), (placeP b).2) by simp [mvP, hp, hd, hr])
  have HP := Lib.hid hp
  clear hp hr
  go_enter Tryd.func34, Tryd.ntmps34
  go_wp2_with (first
    | (go_at_call 61; have _t := tokA; refine (place_lf HP.out _ ha).mono ?_; clear tokA; rintro e w' ⟨rfl, hb⟩; have hbw := below_trans (below_alloc (Below.refl _ _) _) hb; have hE' := hE.mono hbw; obtain ⟨hc, hf⟩ := bcell hb; have hz : w.heap.size < w'.heap.size := Nat.lt_of_lt_of_le (by simp) hb.size)
    | (go_at_call 61; refine (place_l _ _ hb0).mono ?_; rintro e w3 ⟨rfl, hb2⟩; have hbw2 := below_trans hbw hb2; obtain ⟨hc2, hf2⟩ := bcell hb2; have hz2 : w.heap.size < w3.heap.size := Nat.lt_of_lt_of_le hz hb2.size)
    | (go_at_call 31; refine (hasPrefix_l _ _ _).mono ?_; rintro e w2 ⟨rfl, rfl⟩)
    | (go_at_call 19; refine (regOfP_y HR.out _ hE').mono ?_; rintro e w4 ⟨rfl, rfl⟩))
  refine bodyPost_ret (v := mvV ((3, (k : Int), 0, 0, (placeP b).1), (placeP b).2)) ?_ rfl ⟨?_, ?_⟩
  · simp [results, Tryd.results34, go_sem, hc, hz, mvV, hc2]
  · rw [HM.out]
  · repeat (first | (with_reducible refine Below.setCell ?_ ?_ _; rotate_left 1; exact Nat.le_refl _) | (with_reducible exact hbw2))

theorem moved_c (a b : List UInt8) (w : World) (hE : Env w) (ha : a.length ≤ 281474976710656) (hb : b.length ≤ 281474976710656) :
    Calls Tryd.prog 34 #[.string ⟨a.toArray⟩, .string ⟨b.toArray⟩] w fun e w' => e = .returned (mvV (mvP a b)) ∧ Below w.heap.size w w' := by
  cases hp : (placeP a).2 with
  | true =>
    cases hd : Lib.hasPrefix b [36] with
    | true => exact moved_1 a b w hE ha hb hp hd
    | false =>
      cases hr : regOf b with
      | some k => exact moved_2 a b w hE ha hb hp hd k hr
      | none => exact moved_3 a b w hE ha hb hp hd hr
  | false =>
    cases hr : regOf a with
    | none => exact moved_4 a b w hE ha hb hp hr
    | some k =>
      cases hd : Lib.hasPrefix b [36] with
      | true => exact moved_5 a b w hE ha hb hp k hr hd
      | false => exact moved_6 a b w hE ha hb hp k hr hd
end Go.Proofs.YtlpcahkchmlghaaDoor
