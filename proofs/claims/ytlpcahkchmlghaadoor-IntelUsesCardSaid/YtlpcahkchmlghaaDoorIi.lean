/- The program's Parse: one contract. -/
import Derived.Test.YtlpcahkchmlghaaDoorIh
namespace Go.Proofs.YtlpcahkchmlghaaDoor
open Go.RowKit

theorem cut_len1 (l sep : List UInt8) : (Lib.cut l sep).1.length ≤ l.length := by
  unfold Lib.cut
  split
  · simp only [List.length_take]; omega
  · exact Nat.le_refl _
theorem cut_len2 (l sep : List UInt8) : (Lib.cut l sep).2.1.length ≤ l.length := by
  unfold Lib.cut
  split
  · simp only [List.length_drop]; omega
  · simp
theorem cut_len (t : List UInt8) (h : t.length ≤ 262144) : (Lib.cut (t.drop 3) [44]).1.length + (Lib.cut (t.drop 3) [44]).2.1.length ≤ 262144 := by
  unfold Lib.cut
  split
  · simp only [List.length_take, List.length_drop]; omega
  · simp only [List.length_drop, List.length_nil]; omega
theorem placeP_len (l : List UInt8) : (placeP l).1.length ≤ l.length := by
  unfold placeP
  split
  · simp
  · refine Nat.le_trans (trimB_le _) ?_
    simp only [List.length_take, List.length_drop]; omega
theorem mvP_len (a b : List UInt8) : (mvP a b).1.2.2.2.2.length ≤ a.length + b.length := by
  have h1 := placeP_len a
  have h2 := placeP_len b
  unfold mvP
  split
  · split
    · simp only; omega
    · split <;> (simp only; omega)
  · split
    · simp
    · split
      · simp
      · simp only; omega

theorem parse_c (l : List UInt8) (hl : l.length ≤ 9223372036854775807) (w : World) (hE : Env w) :
    Calls Tryd.prog 10 #[.string ⟨l.toArray⟩] w fun e w' => e = .returned (parseV (parseP l)) ∧ Below w.heap.size w w' := by
  by_cases h0 : 262144 < l.length
  · rw [parseP, if_pos h0]; exact parse_long l h0 hl w
  rw [parseP, if_neg h0]
  have hle : l.length ≤ 262144 := by omega
  have htl : (trimB l).length ≤ 262144 := Nat.le_trans (trimB_le l) hle
  obtain ⟨t, ht⟩ : ∃ t, trimB l = t := ⟨_, rfl⟩
  rw [ht] at htl ⊢
  by_cases hM : t = [77, 70, 69, 78, 67, 69]
  · rw [parse2, if_pos hM]; exact parse_mfence l hle (ht.trans hM) w
  have hMb : (t == [77, 70, 69, 78, 67, 69]) = false := by simpa using hM
  rw [parse2, if_neg hM]
  by_cases hp : Lib.hasPrefix t [77, 79, 86] = false
  · rw [if_pos hp]; exact parse_nopre l t hle ht hMb w hE hp
  rw [if_neg hp]
  replace hp : Lib.hasPrefix t [77, 79, 86] = true := by simpa using hp
  by_cases h4 : 4 ≤ t.length
  · rw [dif_pos h4]
    by_cases hk : blankB t[3] = false
    · rw [if_pos hk]; exact parse_noblank l t hle ht hMb w hE hp h4 _ rfl hk
    rw [if_neg hk]
    replace hk : blankB t[3] = true := by simpa using hk
    have hl1 := Nat.le_trans (cut_len1 (t.drop 3) [44]) (by rw [List.length_drop]; omega : _ ≤ 262144)
    have hl2 := Nat.le_trans (cut_len2 (t.drop 3) [44]) (by rw [List.length_drop]; omega : _ ≤ 262144)
    have hl12 : (Lib.cut (t.drop 3) [44]).1.length + (Lib.cut (t.drop 3) [44]).2.1.length ≤ 262144 := cut_len t htl
    obtain ⟨c1, c2, b, hcut⟩ : ∃ c1 c2 b, Lib.cut (t.drop 3) [44] = (c1, c2, b) := ⟨_, _, _, rfl⟩
    rw [hcut] at hl1 hl2 hl12 ⊢
    cases b with
    | false => exact parse_nocut l t hle ht hMb w hE hp h4 _ rfl hk htl c1 c2 hcut
    | true =>
      have hml := mvP_len (trimB c1) (trimB c2)
      have ht1 := trimB_le c1
      have ht2 := trimB_le c2
      obtain ⟨op, d, x, imm, loc, r, hm⟩ : ∃ op d x imm loc r, mvP (trimB c1) (trimB c2) = ((op, d, x, imm, loc), r) := ⟨_, _, _, _, _, _, rfl⟩
      simp only [hm] at hml ⊢
      simp only at hl1 hl2 hl12
      cases r with
      | false => exact parse_nomove l t hle ht hMb w hE hp h4 _ rfl hk htl c1 c2 hcut hl1 hl2 op d x imm loc hm
      | true =>
        cases hi : insB op d x 0 imm ⟨loc.toArray⟩ ⟨#[]⟩ 0 with
        | false => exact parse_nocheck l t hle ht hMb w hE hp h4 _ rfl hk htl c1 c2 hcut hl1 hl2 op d x imm loc hm (by omega) hi
        | true => exact parse_yes l t hle ht hMb w hE hp h4 _ rfl hk htl c1 c2 hcut hl1 hl2 op d x imm loc hm (by omega) hi
  · rw [dif_neg h4]; exact parse_short l t hle ht hMb w hE hp (by omega)
end Go.Proofs.YtlpcahkchmlghaaDoor
