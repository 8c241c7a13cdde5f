/- Layer 8: texts as tokens: plain. Layer 8: the program's blank, long, tokens. Layer 8: what is read of tokens: plain. Layer 8: the program's long, at every text; tokens. -/
import Derived.Test.YtmlnibjnacfanaaGreatDoorCa
import Derived.Test.YtmlnibjnacfanaaGreatDoorCf
import Derived.Test.YtmlnibjnacfanaaGreatDoorCe
namespace Go.Proofs.YtmlnibjnacfanaaGreatDoor
open Go.RowKit

def blkB (c : UInt8) : Bool := decide ((c.toNat : Int) = 32) || decide ((c.toNat : Int) = 9) || decide ((c.toNat : Int) = 10) || decide ((c.toNat : Int) = 13)
def hdDig : List UInt8 → Bool
  | [] => false
  | c :: _ => digitB c
def signB (c : UInt8) (r : List UInt8) : Bool := (c == 47 && r.head? == some 92) || (c == 92 && r.head? == some 47)
/-- How long the token is that begins a text. -/
def longL : List UInt8 → Nat
  | [] => 1
  | c :: r => if letterB c then 1 + (r.takeWhile partB).length else if digitB c || (c == 45 && hdDig r) then 1 + (r.takeWhile digitB).length else if signB c r then 2 else 1
theorem longL_pos (l : List UInt8) : 1 ≤ longL l := by
  cases l with
  | nil => simp [longL]
  | cons c r => simp only [longL]; split <;> (try split) <;> (try split) <;> omega
theorem takeWhile_le (p : UInt8 → Bool) : ∀ l : List UInt8, (l.takeWhile p).length ≤ l.length
  | [] => by simp
  | c :: r => by
    have := takeWhile_le p r
    rw [List.takeWhile_cons]
    split
    · simp; omega
    · simp
theorem longL_le (c : UInt8) (r : List UInt8) : longL (c :: r) ≤ r.length + 1 := by
  have h1 := takeWhile_le partB r
  have h2 := takeWhile_le digitB r
  simp only [longL]
  split
  · omega
  split
  · omega
  split
  · rename_i h
    cases r with
    | nil => simp [signB] at h
    | cons d r' => simp
  · omega

abbrev Tok := List UInt8 × Nat
def tokF : Nat → Nat → List UInt8 → List Tok
  | 0, _, _ => []
  | _ + 1, _, [] => []
  | f + 1, p, c :: r => if blkB c then tokF f (p + 1) r else ((c :: r).take (longL (c :: r)), p) :: tokF f (p + longL (c :: r)) ((c :: r).drop (longL (c :: r)))
theorem tokF_nil : ∀ f p, tokF f p [] = []
  | 0, _ => rfl
  | _ + 1, _ => rfl
theorem tokF_fuel : ∀ (f g p : Nat) (l : List UInt8), l.length ≤ f → l.length ≤ g → tokF f p l = tokF g p l
  | 0, g, p, l, h, _ => by
    have : l = [] := List.eq_nil_of_length_eq_zero (by omega)
    subst this; rw [tokF_nil, tokF_nil]
  | f + 1, 0, p, l, _, h => by
    have : l = [] := List.eq_nil_of_length_eq_zero (by omega)
    subst this; rw [tokF_nil, tokF_nil]
  | f + 1, g + 1, p, [], _, _ => rfl
  | f + 1, g + 1, p, c :: r, h, k => by
    simp only [List.length_cons] at h k
    have hp := longL_pos (c :: r)
    simp only [tokF]
    rw [tokF_fuel f g (p + 1) r (by omega) (by omega), tokF_fuel f g (p + longL (c :: r)) ((c :: r).drop (longL (c :: r))) (by simp; omega) (by simp; omega)]
/-- A text's tokens, with their places, from a place on. -/
def toks (p : Nat) (l : List UInt8) : List Tok := tokF l.length p l
theorem toks_nil (p : Nat) : toks p [] = [] := rfl
theorem toks_blank (p : Nat) {c : UInt8} {r : List UInt8} (h : blkB c = true) : toks p (c :: r) = toks (p + 1) r := by
  show tokF (r.length + 1) p (c :: r) = _
  simp only [tokF, h, if_true]; rfl
theorem toks_tok (p : Nat) {c : UInt8} {r : List UInt8} (h : blkB c = false) : toks p (c :: r) = ((c :: r).take (longL (c :: r)), p) :: toks (p + longL (c :: r)) ((c :: r).drop (longL (c :: r))) := by
  have hp := longL_pos (c :: r)
  show tokF (r.length + 1) p (c :: r) = _
  simp only [tokF, h, Bool.false_eq_true, if_false]
  rw [toks, tokF_fuel r.length _ _ _ (by simp; omega) (Nat.le_refl _)]
theorem tokF_len : ∀ (f p : Nat) (l : List UInt8), (tokF f p l).length ≤ l.length
  | 0, _, _ => by simp [tokF]
  | _ + 1, _, [] => by simp [tokF]
  | f + 1, p, c :: r => by
    have hp := longL_pos (c :: r)
    have h1 := tokF_len f (p + 1) r
    have h2 := tokF_len f (p + longL (c :: r)) ((c :: r).drop (longL (c :: r)))
    simp only [tokF]
    split
    · simp; omega
    · simp at h2 ⊢; omega
theorem toks_len (p : Nat) (l : List UInt8) : (toks p l).length ≤ l.length := tokF_len _ _ _

theorem takeWhile_at (p : UInt8 → Bool) : ∀ (l : List UInt8) (k : Nat), k ≤ l.length → (∀ j (h : j < l.length), j < k → p l[j] = true) → (∀ h : k < l.length, p l[k] = false) → (l.takeWhile p).length = k
  | [], k, h, _, _ => by simp at h; simp [h]
  | c :: r, 0, _, _, h => by
    have := h (by simp)
    simp at this
    simp [this]
  | c :: r, k + 1, hk, ha, h => by
    have h0 := ha 0 (by simp) (by omega)
    simp at h0
    simp only [List.takeWhile_cons, h0, if_true, List.length_cons]
    rw [takeWhile_at p r k (by simpa using hk) (fun j hj hjk => ha (j + 1) (by simp; omega) (by omega)) (fun hk' => h (by simp; omega))]
/-- How long a text's first token is, as a loop over its bytes finds it. -/
theorem long_run (p : UInt8 → Bool) (s : ByteArray) (k : Nat) (h1 : 1 ≤ k) (hk : k ≤ s.size) (ha : ∀ j (h : j < s.size), 1 ≤ j → j < k → p s[j] = true) (h : ∀ hk : k < s.size, p s[k] = false) :
    1 + (s.data.toList.tail.takeWhile p).length = k := by
  have hl : s.data.toList.length = s.size := rfl
  have hg : ∀ i (hi : i < s.size), s[i] = s.data.toList[i]'(by omega) := fun _ _ => rfl
  cases e : s.data.toList with
  | nil => rw [e] at hl; simp at hl; omega
  | cons c r =>
    rw [e] at hl
    simp at hl
    simp only [List.tail_cons]
    rw [takeWhile_at p r (k - 1) (by omega) (fun j hj hjk => by
      have := ha (j + 1) (by omega) (by omega) (by omega)
      rw [hg _ (by omega)] at this
      simp only [e] at this
      simpa using this) (fun hj => by
      have := h (by omega)
      rw [hg _ (by omega)] at this
      simp only [e] at this
      obtain ⟨k', rfl⟩ : ∃ k', k = k' + 1 := ⟨k - 1, by omega⟩
      simpa using this)]
    omega
section
variable {s : ByteArray} (h0 : 0 < s.size)
include h0
theorem ba_cons : ∃ r, s.data.toList = s[0] :: r ∧ r.length + 1 = s.size ∧ (∀ h1 : 1 < s.size, r.head? = some s[1]) := by
  have hl : s.data.toList.length = s.size := rfl
  have hg : ∀ i (hi : i < s.size), s[i] = s.data.toList[i]'(by omega) := fun _ _ => rfl
  cases e : s.data.toList with
  | nil => rw [e] at hl; simp at hl; omega
  | cons c r =>
    have e0 : s[0] = c := by rw [hg 0 h0]; simp only [e, List.getElem_cons_zero]
    rw [e] at hl
    refine ⟨r, by rw [e0], by simpa using hl, fun h1 => ?_⟩
    rw [hg 1 h1]
    simp only [e]
    cases r with
    | nil => simp at hl; omega
    | cons d r' => simp
theorem long_letter (h : letterB s[0] = true) : longL s.data.toList = 1 + (s.data.toList.tail.takeWhile partB).length := by
  obtain ⟨r, e, _⟩ := ba_cons h0
  rw [e]; simp [longL, h]
theorem long_digit (h : letterB s[0] = false) (h' : digitB s[0] = true) : longL s.data.toList = 1 + (s.data.toList.tail.takeWhile digitB).length := by
  obtain ⟨r, e, _⟩ := ba_cons h0
  rw [e]; simp [longL, h, h']
theorem long_minus (_h : letterB s[0] = false) (h' : s[0] = 45) (h1 : 1 < s.size) (hd : digitB s[1] = true) : longL s.data.toList = 1 + (s.data.toList.tail.takeWhile digitB).length := by
  obtain ⟨r, e, _, hh⟩ := ba_cons h0
  have := hh h1
  rw [e]
  cases r with
  | nil => simp at this
  | cons d r' =>
    simp at this
    subst this
    have h45 : letterB 45 = false := by decide
    simp [longL, h', hdDig, hd, h45]
end

theorem blankP (c : UInt8) (w : World) : Calls Tryz.prog 77 #[.int .u8 c.toNat] w fun e w' => e = .returned (.bool (blkB c)) ∧ w = w' := by
  go_enter Tryz.func77, Tryz.ntmps77
  go_wp2
  all_goals (go_ret; exact ⟨ret_bool (by first | (simp_all [blkB]; done) | (simp [blkB, *]; done) | (rw [Bool.eq_iff_iff]; simp [blkB]; done) | (rw [Bool.eq_iff_iff]; simp [blkB]; omega)), rfl⟩)
theorem partP (c : UInt8) (w : World) : Calls Tryz.prog 106 #[.int .u8 c.toNat] w fun e w' => e = .returned (.bool (partB c)) ∧ w = w' := by
  cases hx : letterB c with
  | true =>
    have HX := Lib.hid hx
    have HV := Lib.hid (show partB c = true by simp [partB, hx])
    clear hx
    go_enter Tryz.func106, Tryz.ntmps106
    go_wp2_with (go_at_call 107; refine (letterP _ _).mono ?_; rw [HX.out]; rintro e w' ⟨rfl, rfl⟩)
    go_ret
    exact ⟨ret_bool HV.out.symm, rfl⟩
  | false =>
    cases hy : digitB c with
    | true =>
      have HX := Lib.hid hx
      have HY := Lib.hid hy
      have HV := Lib.hid (show partB c = true by simp [partB, hy])
      clear hx hy
      go_enter Tryz.func106, Tryz.ntmps106
      go_wp2_with (first | (go_at_call 107; refine (letterP _ _).mono ?_; rw [HX.out]; rintro e w' ⟨rfl, rfl⟩) | (go_at_call 108; refine (digitP _ _).mono ?_; rw [HY.out]; rintro e w' ⟨rfl, rfl⟩))
      go_ret
      exact ⟨ret_bool HV.out.symm, rfl⟩
    | false =>
      have HX := Lib.hid hx
      have HY := Lib.hid hy
      have HV := Lib.hid (show partB c = decide ((c.toNat : Int) = 95) by simp [partB, hx, hy])
      clear hx hy
      go_enter Tryz.func106, Tryz.ntmps106
      go_wp2_with (first | (go_at_call 107; refine (letterP _ _).mono ?_; rw [HX.out]; rintro e w' ⟨rfl, rfl⟩) | (go_at_call 108; refine (digitP _ _).mono ?_; rw [HY.out]; rintro e w' ⟨rfl, rfl⟩))
      go_ret
      exact ⟨ret_bool (by rw [HV.out, Bool.eq_iff_iff]; simp), rfl⟩

section
variable {s : ByteArray} {w : World} (h0 : 0 < s.size) (hs : s.size ≤ 9223372036854775807)
include h0 hs
set_option maxHeartbeats 1000000 in
set_option maxRecDepth 100000 in
theorem longP_letter (h : letterB s[0] = true) : Calls Tryz.prog 78 #[.string s] w fun e w' => e = .returned (.int .i64 (longL s.data.toList)) ∧ w = w' := by
  have HL := Lib.hid (long_letter h0 h)
  have HX := Lib.hid h
  clear h
  go_enter Tryz.func78, Tryz.ntmps78
  go_wp2_with (go_at_call 107; refine (letterP _ _).mono ?_; rw [HX.out]; rintro e w' ⟨rfl, rfl⟩)
  go_loop [4] (fun n => ∃ k : Nat, 1 ≤ k ∧ k ≤ s.size ∧ n = .int .i64 k ∧ ∀ j (h : j < s.size), 1 ≤ j → j < k → partB s[j] = true) (fun n => s.size - (intOf n).toNat)
  case atStart => exact ⟨1, by omega, by omega, rfl, fun j _ h1 h2 => by omega⟩
  case round =>
    obtain ⟨k, hk1, hk2, rfl, hall⟩ := hrel
    have HA := Lib.hid hall
    clear hall
    by_cases hlt : k < s.size
    · cases hp : partB s[k] with
      | true =>
        have HP := Lib.hid hp
        clear hp
        go_wp2_with (go_at_call 106; refine (partP _ _).mono ?_; rw [HP.out]; rintro e w' ⟨rfl, rfl⟩)
        go_round
        case rel => exact ⟨k + 1, by omega, by omega, by go_num, fun j hj h1 h2 => by
          by_cases e : j < k
          · exact HA.out j hj h1 e
          · obtain rfl : j = k := by omega
            exact HP.out⟩
        case measure => simp [intOf]; omega
      | false =>
        have HP := Lib.hid hp
        have HV := Lib.hid (long_run partB s k hk1 hk2 HA.out (fun _ => HP.out))
        clear hp
        go_wp2_with (go_at_call 106; refine (partP _ _).mono ?_; rw [HP.out]; rintro e w' ⟨rfl, rfl⟩)
        go_ret
        exact ⟨ret_int (by rw [HL.out, HV.out]), rfl⟩
    · have HV := Lib.hid (long_run partB s k hk1 hk2 HA.out (fun h => absurd h hlt))
      go_wp2_with fail
      go_ret
      exact ⟨ret_int (by rw [HL.out, HV.out]), rfl⟩
set_option maxHeartbeats 1000000 in
set_option maxRecDepth 100000 in
theorem longP_digit (h : letterB s[0] = false) (h' : digitB s[0] = true) : Calls Tryz.prog 78 #[.string s] w fun e w' => e = .returned (.int .i64 (longL s.data.toList)) ∧ w = w' := by
  have HL := Lib.hid (long_digit h0 h h')
  have HX := Lib.hid h
  have HY := Lib.hid h'
  clear h h'
  go_enter Tryz.func78, Tryz.ntmps78
  go_wp2_with (first | (go_at_call 107; refine (letterP _ _).mono ?_; rw [HX.out]; rintro e w' ⟨rfl, rfl⟩) | (go_at_call 108; refine (digitP _ _).mono ?_; rw [HY.out]; rintro e w' ⟨rfl, rfl⟩))
  go_loop [4] (fun n => ∃ k : Nat, 1 ≤ k ∧ k ≤ s.size ∧ n = .int .i64 k ∧ ∀ j (h : j < s.size), 1 ≤ j → j < k → digitB s[j] = true) (fun n => s.size - (intOf n).toNat)
  case atStart => exact ⟨1, by omega, by omega, rfl, fun j _ h1 h2 => by omega⟩
  case round =>
    obtain ⟨k, hk1, hk2, rfl, hall⟩ := hrel
    have HA := Lib.hid hall
    clear hall
    by_cases hlt : k < s.size
    · cases hp : digitB s[k] with
      | true =>
        have HP := Lib.hid hp
        clear hp
        go_wp2_with (go_at_call 108; refine (digitP _ _).mono ?_; rw [HP.out]; rintro e w' ⟨rfl, rfl⟩)
        go_round
        case rel => exact ⟨k + 1, by omega, by omega, by go_num, fun j hj h1 h2 => by
          by_cases e : j < k
          · exact HA.out j hj h1 e
          · obtain rfl : j = k := by omega
            exact HP.out⟩
        case measure => simp [intOf]; omega
      | false =>
        have HP := Lib.hid hp
        have HV := Lib.hid (long_run digitB s k hk1 hk2 HA.out (fun _ => HP.out))
        clear hp
        go_wp2_with (go_at_call 108; refine (digitP _ _).mono ?_; rw [HP.out]; rintro e w' ⟨rfl, rfl⟩)
        go_ret
        exact ⟨ret_int (by rw [HL.out, HV.out]), rfl⟩
    · have HV := Lib.hid (long_run digitB s k hk1 hk2 HA.out (fun h => absurd h hlt))
      go_wp2_with fail
      go_ret
      exact ⟨ret_int (by rw [HL.out, HV.out]), rfl⟩
end

/-- What a reader answers: what was read and what is left, or where it went wrong. -/
inductive Rs (α : Type) where
  | ok (a : α) (rest : List Tok)
  | bad (p : Nat)
def Rs.go {α β : Type} (x : Rs α) (f : α → List Tok → Rs β) : Rs β := match x with
  | .ok a L => f a L
  | .bad p => .bad p
theorem Rs.go_ok {α β : Type} (a : α) (L : List Tok) (f : α → List Tok → Rs β) : (Rs.ok a L).go f = f a L := rfl
theorem Rs.go_bad {α β : Type} (p : Nat) (f : α → List Tok → Rs β) : (Rs.bad p : Rs α).go f = .bad p := rfl
structure Nd where
  k : Int
  t : Int
  r : Int
  l : List UInt8
  v : Int
  kids : Fr
def Nd.on (n : Nd) (f : Fr) : Fr := .cons n.k n.t n.r n.l n.v n.kids f
def frOf : List Nd → Fr
  | [] => .nil
  | n :: r => n.on (frOf r)
theorem frOf_len : ∀ l, (frOf l).len = l.length
  | [] => rfl
  | n :: r => by simp [frOf, Nd.on, Fr.len, frOf_len r]
def hd : List Tok → List UInt8
  | [] => []
  | t :: _ => t.1
def ps (e : Nat) : List Tok → Nat
  | [] => e
  | t :: _ => t.2
def numIn (lo hi : Int) (l : List UInt8) : Option Int := if atoiB l = true ∧ Lib.itoa (atoiN l) = l ∧ lo ≤ atoiN l ∧ atoiN l ≤ hi then some (atoiN l) else none
def minB : List UInt8 → Bool
  | [] => false
  | c :: _ => digitB c || decide ((c.toNat : Int) = 45)
def pTake (e : Nat) (s : List UInt8) (L : List Tok) : Rs Unit := if hd L = s then .ok () L.tail else .bad (ps e L)
def pInt (e : Nat) (lo hi : Int) (L : List Tok) : Rs Int := match numIn lo hi (hd L) with
  | some n => .ok n L.tail
  | none => .bad (ps e L)
def pLoc (e : Nat) (L : List Tok) : Rs (List UInt8) := if nameB (hd L) = true then .ok (hd L) L.tail else .bad (ps e L)
def pReg (e : Nat) (a : Int) (L : List Tok) : Rs Nat := match regOf a (hd L) with
  | some k => .ok k L.tail
  | none => .bad (ps e L)
def pThing (e : Nat) (a : Int) (L : List Tok) : Rs (Int × Int × List UInt8) :=
  if hd L = [91] then (pLoc e L.tail).go fun x L => (pTake e [93] L).go fun _ L => .ok (-1, 0, x) L
  else if minB (hd L) = true then (pInt e 0 15 L).go fun n L => (pTake e [58] L).go fun _ L => (pReg e a L).go fun k L => .ok (n, (k : Int), []) L
  else (pLoc e L).go fun x L => .ok (-1, 0, x) L
def pAtom (e : Nat) (a : Int) (L : List Tok) : Rs Nd :=
  (pThing e a L).go fun x L => (pTake e [61] L).go fun _ L => (pInt e (-2147483648) 2147483647 L).go fun v L => .ok ⟨2, x.1, x.2.1, x.2.2, v, .nil⟩ L
def rowA (one : List Tok → Rs Nd) (sign : List UInt8) : Nat → List Nd → List Tok → Rs (List Nd)
  | 0, _, _ => .bad 0
  | g + 1, acc, L => if hd L = sign then (one L.tail).go fun n L' => rowA one sign g (acc ++ [n]) L' else .ok acc L
def rowE (kind : Int) : List Nd → Nd
  | [n] => n
  | l => ⟨kind, 0, 0, [], 0, frOf l⟩
theorem rowE_many {kind : Int} : ∀ {l : List Nd}, 2 ≤ l.length → rowE kind l = ⟨kind, 0, 0, [], 0, frOf l⟩
  | [], h => by simp at h
  | [_], h => by simp at h
  | _ :: _ :: _, _ => rfl
def rowN (kind : Int) (sign : List UInt8) (one : List Tok → Rs Nd) (g : Nat) (L : List Tok) : Rs Nd :=
  (one L).go fun n L' => (rowA one sign g [n] L').go fun l L'' => .ok (rowE kind l) L''
/-- What is no row; the rows within are read with so much fuel. -/
def pNot (e : Nat) (a : Int) : Nat → List Tok → Rs Nd
  | 0, _ => .bad 0
  | f + 1, L =>
    if hd L = [126] then (pNot e a f L.tail).go fun n L' => .ok ⟨3, 0, 0, [], 0, n.on .nil⟩ L'
    else if hd L = [40] then (rowN 5 [92, 47] (rowN 4 [47, 92] (pNot e a f) f) f L.tail).go fun n L' => (pTake e [41] L').go fun _ L'' => .ok n L''
    else if hd L = [116, 114, 117, 101] ∧ hd L.tail ≠ [61] then .ok ⟨1, 0, 0, [], 0, .nil⟩ L.tail
    else pAtom e a L
def pAnd (e : Nat) (a : Int) (f : Nat) : List Tok → Rs Nd := rowN 4 [47, 92] (pNot e a f) f
def pOr (e : Nat) (a : Int) (f : Nat) : List Tok → Rs Nd := rowN 5 [92, 47] (pAnd e a f) f
def existsT : List UInt8 := [101, 120, 105, 115, 116, 115]
def pHead (e : Nat) (L : List Tok) : Rs Int :=
  if hd L = [102, 111, 114, 97, 108, 108] then .ok 3 L.tail
  else if hd L = [126] then (pTake e existsT L.tail).go fun _ L => .ok 2 L
  else (pTake e existsT L).go fun _ L => .ok 1 L
def pEnd : List Tok → Rs Unit
  | [] => .ok () []
  | t :: _ => .bad t.2
def pCond (e : Nat) (a : Int) (f : Nat) (L : List Tok) : Rs (Int × Nd) :=
  (pHead e L).go fun q L => (pTake e [40] L).go fun _ L => (pOr e a f L).go fun n L => (pTake e [41] L).go fun _ L => (pEnd L).go fun _ L => .ok (q, n) L
def noNd : Nd := ⟨0, 0, 0, [], 0, .nil⟩
/-- What is read of a text: the quantifier, the node; what is told; where. -/
def parseC (a : Int) (s : List UInt8) : (Int × Nd) × Int × Nat :=
  if archB a = false then ((0, noNd), 5, 0)
  else if 262144 < s.length then ((0, noNd), 2, 0)
  else match pCond s.length a (s.length + 1) (toks 0 s) with
    | .bad p => ((0, noNd), 80, p)
    | .ok (q, n) _ => if checkC a q n.k n.t n.r n.l n.v n.kids = 0 then ((q, n), 0, 0) else ((0, noNd), checkC a q n.k n.t n.r n.l n.v n.kids, 0)

/-- The text of the other awake's test. -/
def sbT : List UInt8 := [101, 120, 105, 115, 116, 115, 32, 40, 48, 58, 69, 65, 88, 61, 48, 32, 47, 92, 32, 49, 58, 69, 65, 88, 61, 48, 41]
def sbN : Nd := ⟨4, 0, 0, [], 0, .cons 2 0 0 [] 0 .nil (.cons 2 1 0 [] 0 .nil .nil)⟩
theorem parse_sb : parseC 1 sbT = ((1, sbN), 0, 0) := by kernel_rfl
theorem parse_half : parseC 1 [101, 120, 105, 115, 116, 115, 32, 40, 120, 61, 49] = ((0, noNd), 80, 11) := by kernel_rfl

def preB (l : List UInt8) (x y : UInt8) : Bool := Lib.hasPrefix l [x, y]
theorem preB_cons (c x y : UInt8) (r : List UInt8) : preB (c :: r) x y = (c == x && r.head? == some y) := by
  cases r with
  | nil => simp [preB, Lib.hasPrefix, List.isPrefixOf]
  | cons d r' =>
    simp only [preB, Lib.hasPrefix, List.isPrefixOf, List.head?_cons, Bool.and_true]
    rw [Bool.eq_iff_iff]
    simp only [Bool.and_eq_true, beq_iff_eq, Option.some.injEq]
    constructor <;> (rintro ⟨rfl, rfl⟩; exact ⟨rfl, rfl⟩)
section
variable {s : ByteArray} {w : World} (h0 : 0 < s.size) (hs : s.size ≤ 9223372036854775807)
include h0
theorem long_sign (h : letterB s[0] = false) (h' : digitB s[0] = false) (hm : s[0] ≠ 45) : longL s.data.toList = if preB s.data.toList 47 92 || preB s.data.toList 92 47 then 2 else 1 := by
  obtain ⟨r, e, _⟩ := ba_cons h0
  rw [e]
  simp only [preB_cons, longL, h, h', Bool.false_or]
  have : (s[0] == 45) = false := by simpa using hm
  simp [this, signB]
theorem long_dash (h' : s[0] = 45) (hd : ∀ h1 : 1 < s.size, digitB s[1] = false) : longL s.data.toList = 1 ∧ preB s.data.toList 47 92 = false ∧ preB s.data.toList 92 47 = false := by
  obtain ⟨r, e, hl, hh⟩ := ba_cons h0
  have h45 : letterB 45 = false := by decide
  have d45 : digitB 45 = false := by decide
  rw [e]
  refine ⟨?_, by rw [preB_cons]; simp [h'], by rw [preB_cons]; simp [h']⟩
  have : hdDig r = false := by
    cases r with
    | nil => rfl
    | cons d r' =>
      have h1 : 1 < s.size := by simp at hl; omega
      have := hh h1
      simp at this
      subst this
      exact hd h1
  simp [longL, h', h45, d45, this, signB]
include hs
set_option maxHeartbeats 1000000 in
set_option maxRecDepth 100000 in
theorem longP_minus (h' : s[0] = 45) (h1 : 1 < s.size) (hd : digitB s[1] = true) : Calls Tryz.prog 78 #[.string s] w fun e w' => e = .returned (.int .i64 (longL s.data.toList)) ∧ w = w' := by
  have HL := Lib.hid (long_minus h0 (by rw [h']; decide) h' h1 hd)
  have HX := Lib.hid (show letterB s[0] = false by rw [h']; decide)
  have HY := Lib.hid (show digitB s[0] = false by rw [h']; decide)
  have HZ := Lib.hid hd
  have hm : ((s[0].toNat : Int) == 45) = true := by rw [h']; decide
  clear h' hd
  go_enter Tryz.func78, Tryz.ntmps78
  go_wp2_with (first | (go_at_call 107; refine (letterP _ _).mono ?_; rw [HX.out]; rintro e w' ⟨rfl, rfl⟩) | (go_at_call 108; refine (digitP _ _).mono ?_; (first | (with_reducible rw [HY.out]) | (with_reducible rw [HZ.out])); rintro e w' ⟨rfl, rfl⟩))
  go_loop [4] (fun n => ∃ k : Nat, 1 ≤ k ∧ k ≤ s.size ∧ n = .int .i64 k ∧ ∀ j (h : j < s.size), 1 ≤ j → j < k → digitB s[j] = true) (fun n => s.size - (intOf n).toNat)
  case atStart => exact ⟨1, by omega, by omega, rfl, fun j _ h1 h2 => by omega⟩
  case round =>
    obtain ⟨k, hk1, hk2, rfl, hall⟩ := hrel
    have HA := Lib.hid hall
    clear hall
    by_cases hlt : k < s.size
    · cases hp : digitB s[k] with
      | true =>
        have HP := Lib.hid hp
        clear hp
        go_wp2_with (go_at_call 108; refine (digitP _ _).mono ?_; rw [HP.out]; rintro e w' ⟨rfl, rfl⟩)
        go_round
        case rel => exact ⟨k + 1, by omega, by omega, by go_num, fun j hj h1 h2 => by
          by_cases e : j < k
          · exact HA.out j hj h1 e
          · obtain rfl : j = k := by omega
            exact HP.out⟩
        case measure => simp [intOf]; omega
      | false =>
        have HP := Lib.hid hp
        have HV := Lib.hid (long_run digitB s k hk1 hk2 HA.out (fun _ => HP.out))
        clear hp
        go_wp2_with (go_at_call 108; refine (digitP _ _).mono ?_; rw [HP.out]; rintro e w' ⟨rfl, rfl⟩)
        go_ret
        exact ⟨ret_int (by rw [HL.out, HV.out]), rfl⟩
    · have HV := Lib.hid (long_run digitB s k hk1 hk2 HA.out (fun h => absurd h hlt))
      go_wp2_with fail
      go_ret
      exact ⟨ret_int (by rw [HL.out, HV.out]), rfl⟩
set_option maxHeartbeats 1000000 in
set_option maxRecDepth 100000 in
theorem longP_rest (h : letterB s[0] = false) (h' : digitB s[0] = false) (hd : s[0] = 45 → ∀ h1 : 1 < s.size, digitB s[1] = false) : Calls Tryz.prog 78 #[.string s] w fun e w' => e = .returned (.int .i64 (longL s.data.toList)) ∧ w = w' := by
  obtain ⟨b1, hb1⟩ : ∃ b, preB s.data.toList 47 92 = b := ⟨_, rfl⟩
  obtain ⟨b2, hb2⟩ : ∃ b, preB s.data.toList 92 47 = b := ⟨_, rfl⟩
  have hV : longL s.data.toList = if b1 || b2 then 2 else 1 := by
    by_cases hm : s[0] = 45
    · obtain ⟨a, b, c⟩ := long_dash h0 hm (hd hm)
      rw [a, ← hb1, ← hb2, b, c]; rfl
    · rw [long_sign h0 h h' hm, hb1, hb2]
  have HL := Lib.hid hV
  have HX := Lib.hid h
  have HY := Lib.hid h'
  have HD := Lib.hid hd
  have P1 := Lib.hid (show Lib.hasPrefix s.data.toList (⟨#[47, 92]⟩ : ByteArray).data.toList = b1 from hb1)
  have P2 := Lib.hid (show Lib.hasPrefix s.data.toList (⟨#[92, 47]⟩ : ByteArray).data.toList = b2 from hb2)
  by_cases hm : s[0] = 45
  · have hm' : ((s[0].toNat : Int) == 45) = true := by rw [hm]; decide
    have HM := Lib.hid hm
    clear h h' hd hm hV hb1 hb2
    by_cases h1 : 1 < s.size
    · have HZ := Lib.hid (HD.out HM.out h1)
      cases b1 <;> cases b2
      all_goals
        go_enter Tryz.func78, Tryz.ntmps78
        go_wp2_with (first | (go_at_call 107; refine (letterP _ _).mono ?_; rw [HX.out]; rintro e w' ⟨rfl, rfl⟩) | (go_at_call 108; refine (digitP _ _).mono ?_; (first | (with_reducible rw [HY.out]) | (with_reducible rw [HZ.out])); rintro e w' ⟨rfl, rfl⟩) | (go_at_call 109; refine (hasPrefix_c _ _ _).mono ?_; (first | (with_reducible rw [P1.out]) | (with_reducible rw [P2.out])); rintro e w' ⟨rfl, rfl⟩))
        go_ret
        exact ⟨ret_int (by rw [HL.out]; rfl), rfl⟩
    · cases b1 <;> cases b2
      all_goals
        go_enter Tryz.func78, Tryz.ntmps78
        go_wp2_with (first | (go_at_call 107; refine (letterP _ _).mono ?_; rw [HX.out]; rintro e w' ⟨rfl, rfl⟩) | (go_at_call 108; refine (digitP _ _).mono ?_; rw [HY.out]; rintro e w' ⟨rfl, rfl⟩) | (go_at_call 109; refine (hasPrefix_c _ _ _).mono ?_; (first | (with_reducible rw [P1.out]) | (with_reducible rw [P2.out])); rintro e w' ⟨rfl, rfl⟩))
        go_ret
        exact ⟨ret_int (by rw [HL.out]; rfl), rfl⟩
  · have hm' : ((s[0].toNat : Int) == 45) = false := by
      refine beq_eq_false_iff_ne.2 fun e => hm ?_
      exact UInt8.toNat_inj.1 (by simpa using (show s[0].toNat = 45 by omega))
    clear h h' hd hm hV hb1 hb2
    cases b1 <;> cases b2
    all_goals
      go_enter Tryz.func78, Tryz.ntmps78
      go_wp2_with (first | (go_at_call 107; refine (letterP _ _).mono ?_; rw [HX.out]; rintro e w' ⟨rfl, rfl⟩) | (go_at_call 108; refine (digitP _ _).mono ?_; rw [HY.out]; rintro e w' ⟨rfl, rfl⟩) | (go_at_call 109; refine (hasPrefix_c _ _ _).mono ?_; (first | (with_reducible rw [P1.out]) | (with_reducible rw [P2.out])); rintro e w' ⟨rfl, rfl⟩))
      go_ret
      exact ⟨ret_int (by rw [HL.out]; rfl), rfl⟩
theorem longP : Calls Tryz.prog 78 #[.string s] w fun e w' => e = .returned (.int .i64 (longL s.data.toList)) ∧ w = w' := by
  cases h : letterB s[0] with
  | true => exact longP_letter h0 hs h
  | false =>
    cases h' : digitB s[0] with
    | true => exact longP_digit h0 hs h h'
    | false =>
      by_cases hm : s[0] = 45
      · by_cases h1 : 1 < s.size
        · cases hd : digitB s[1] with
          | true => exact longP_minus h0 hs hm h1 hd
          | false => exact longP_rest h0 hs h h' (fun _ _ => hd)
        · exact longP_rest h0 hs h h' (fun _ h => absurd h h1)
      · exact longP_rest h0 hs h h' (fun h => absurd h hm)
end
end Go.Proofs.YtmlnibjnacfanaaGreatDoor
