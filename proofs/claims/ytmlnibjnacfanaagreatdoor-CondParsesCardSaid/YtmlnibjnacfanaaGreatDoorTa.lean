/- Layer 8: the reference's tokens, plain: the kind of a token's text, and where what is behind it begins. -/
import Derived.Test.YtmlnibjnacfanaaGreatDoorDd
namespace Go.Proofs.YtmlnibjnacfanaaGreatDoor
open Go.RowKit

/-- The kind of a token by its text: the end, a word, a number, a sign. -/
def kindT : List UInt8 → Int
  | [] => 0
  | c :: r => if letterB c then 1 else if digitB c || (c == 45 && !r.isEmpty) then 2 else 3
/-- Where what is behind the next token begins. -/
def nx (e : Nat) : List Tok → Nat
  | [] => e
  | t :: _ => t.2 + t.1.length
abbrev tokV (e : Nat) (L : List Tok) : Value := .agg #[.int .i64 (kindT (hd L)), .string ⟨(hd L).toArray⟩, .int .i64 (ps e L), .int .i64 (nx e L)]
theorem nx_next : ∀ (n : Nat) (l : List UInt8) (i : Nat), l.length - i ≤ n → i ≤ l.length → nx l.length (toks i (l.drop i)) ≤ l.length ∧ toks (nx l.length (toks i (l.drop i))) (l.drop (nx l.length (toks i (l.drop i)))) = (toks i (l.drop i)).tail := by
  intro n
  induction n with
  | zero =>
    intro l i h hi
    have : l.drop i = [] := List.drop_eq_nil_of_le (by omega)
    rw [this, toks_nil]
    exact ⟨Nat.le_refl _, by rw [show nx l.length [] = l.length from rfl, List.drop_length, toks_nil]; rfl⟩
  | succ n ih =>
    intro l i h hi
    cases hx : l.drop i with
    | nil =>
      rw [toks_nil]
      exact ⟨Nat.le_refl _, by rw [show nx l.length [] = l.length from rfl, List.drop_length, toks_nil]; rfl⟩
    | cons c r =>
      have hlen : (l.drop i).length = r.length + 1 := by rw [hx]; rfl
      rw [List.length_drop] at hlen
      have hr : l.drop (i + 1) = r := by rw [← List.drop_drop, hx]; rfl
      cases hb : blkB c with
      | true =>
        rw [toks_blank i hb, ← hr]
        exact ih l (i + 1) (by omega) (by omega)
      | false =>
        rw [toks_tok i hb]
        have hle := longL_le c r
        have hpos := longL_pos (c :: r)
        have hn : nx l.length (((c :: r).take (longL (c :: r)), i) :: toks (i + longL (c :: r)) ((c :: r).drop (longL (c :: r)))) = i + longL (c :: r) := by
          simp only [nx, List.length_take, List.length_cons]
          omega
        rw [hn]
        refine ⟨by omega, ?_⟩
        rw [← List.drop_drop, hx]
        rfl
/-- What a token that was met is, by its text's bounds. -/
theorem tok_fin {s : ByteArray} {m k : Nat} {L : List Tok} (hlt : m < s.size) (hb : blkB s[m] = false) (hL : toks m (s.data.toList.drop m) = L) (hk : m < k) (hk2 : k ≤ s.size) (hlong : longL (s.data.toList.drop m) = k - m) (kd : Int)
    (hkd : kindT (s[m] :: (s.data.toList.drop (m + 1)).take (k - m - 1)) = kd) : tokV s.size L = .agg #[.int .i64 kd, .string (s.extract m k), .int .i64 m, .int .i64 k] := by
  have hd0 := drop_cons s m hlt
  rw [hd0] at hL hlong
  rw [toks_tok m hb] at hL
  rw [hlong] at hL
  have h1 : (s[m] :: s.data.toList.drop (m + 1)).take (k - m) = s[m] :: (s.data.toList.drop (m + 1)).take (k - m - 1) := by
    rw [show k - m = (k - m - 1) + 1 by omega, List.take_succ_cons]; simp
  have hsz : s.data.toList.length = s.size := Array.length_toList
  have h2 : (s[m] :: (s.data.toList.drop (m + 1)).take (k - m - 1)).length = k - m := by
    simp only [List.length_cons, List.length_take, List.length_drop, hsz]; omega
  have h3 : s.extract m k = ⟨(s[m] :: (s.data.toList.drop (m + 1)).take (k - m - 1)).toArray⟩ := by
    have := ext_list s m k
    rw [hd0, h1] at this
    rw [← this]
  subst hL
  simp only [tokV, hd, ps, nx, h1, h2, hkd, h3]
  rw [show m + (k - m) = k by omega]
/-- The end of a run: what comes from place k on is none of it. -/
theorem run_len {p : UInt8 → Bool} {s : ByteArray} {m k : Nat} (hk1 : m + 1 ≤ k) (hk : k ≤ s.size) (ha : ∀ j (h : j < s.size), m + 1 ≤ j → j < k → p s[j] = true) (h : ∀ hk : k < s.size, p s[k] = false) : ((s.data.toList.drop (m + 1)).takeWhile p).length = k - m - 1 := by
  have hsz : s.data.toList.length = s.size := Array.length_toList
  have hg : ∀ j (hj : j < (s.data.toList.drop (m + 1)).length), (s.data.toList.drop (m + 1))[j] = s[m + 1 + j]'(by rw [List.length_drop, hsz] at hj; omega) := fun j hj => by
    rw [List.getElem_drop]; rfl
  refine takeWhile_at p _ _ (by rw [List.length_drop, hsz]; omega) (fun j hj h1 => ?_) (fun hj => ?_)
  · rw [hg]
    exact ha _ _ (by omega) (by omega)
  · rw [hg]
    have e : m + 1 + (k - m - 1) = k := by omega
    have hk' : k < s.size := by rw [List.length_drop, hsz] at hj; omega
    simp only [e]
    exact h hk'
end Go.Proofs.YtmlnibjnacfanaaGreatDoor
