/- Contracts of Print, Parse, Check for laws; blanks. -/
import Derived.Test.YtlpcahkchmlghaaDoorIv
import Derived.Test.YtlpcahkchmlghaaDoorKa
namespace Go.Proofs.YtlpcahkchmlghaaDoor
open Go.RowKit

theorem Env.alloc {w : World} (h : Env w) (o : Obj) : Env (w.alloc o) := h.mono (alloc_below w o)
theorem Env.drewN {w : World} (h : Env w) (n : Nat) : Env (w.drewN n) := h.mono (below_drewN (Below.refl _ _) n)
theorem Env.drew {w : World} (h : Env w) : Env w.drew := h.mono ((Below.refl _ _).drew)
theorem insB_std {op d a b imm : Int} {loc label : ByteArray} {fence : Int} (h : insB op d a b imm loc label fence = true) : b = 0 ∧ label = ⟨#[]⟩ ∧ fence = 0 := by
  have hl : ∀ s : ByteArray, s.toList = [] → s = ⟨#[]⟩ := fun s h => str_ext (str_nil h)
  rcases insB_op h with rfl | rfl | rfl | rfl | rfl
  · have := insB_1 h; exact ⟨this.2.2.2.2.1, hl _ this.2.2.2.2.2.1, this.2.2.2.2.2.2⟩
  · have := insB_2 h; exact ⟨this.2.2.2.2.1, hl _ this.2.2.2.2.2.1, this.2.2.2.2.2.2⟩
  · have := insB_3 h; exact ⟨this.2.2.2.2.1, hl _ this.2.2.2.2.2.1, this.2.2.2.2.2.2⟩
  · have := insB_4 h; exact ⟨this.2.2.2.2.1, hl _ this.2.2.2.2.2.1, this.2.2.2.2.2.2⟩
  · have := insB_5 h; exact ⟨this.2.2.2.2.1, hl _ this.2.2.2.2.2.1, this.2.2.2.2.2.2⟩
theorem insB_loc {op d a b imm : Int} {loc label : ByteArray} {fence : Int} (h : insB op d a b imm loc label fence = true) : loc.size ≤ 32 := by
  have hl : ∀ s : ByteArray, s.toList = [] → s.size ≤ 32 := fun s h => by rw [str_ext (str_nil h)]; decide
  rcases insB_op h with rfl | rfl | rfl | rfl | rfl
  · exact nameB_size (insB_1 h).1
  · exact nameB_size (insB_2 h).1
  · exact nameB_size (insB_3 h).1
  · exact hl _ (insB_4 h).1
  · exact hl _ (insB_5 h).1
section
variable {op d a imm : Int} {loc : List UInt8} (h : insB op d a 0 imm ⟨loc.toArray⟩ ⟨#[]⟩ 0 = true) (w : World) (hE : Env w)
include h hE
theorem printP_l : Calls Tryd.prog 13 #[insV op d a 0 imm ⟨loc.toArray⟩ ⟨#[]⟩ 0] w fun e w' => e = .returned (.tuple #[.string ⟨(printB op d a imm loc).toArray⟩, .int .i64 0]) ∧ Below w.heap.size w w' := by
  rcases insB_op h with rfl | rfl | rfl | rfl | rfl
  · obtain ⟨h1, h2, rfl, rfl, _⟩ := insB_1 h; exact printP_1 imm ⟨loc.toArray⟩ h1 h2 w hE
  · obtain ⟨h1, h2, rfl, rfl, _⟩ := insB_2 h
    obtain ⟨k, hk, rfl⟩ := regB_nat h2
    exact printP_2 k ⟨loc.toArray⟩ h1 hk w hE
  · obtain ⟨h1, h2, rfl, rfl, _⟩ := insB_3 h
    obtain ⟨k, hk, rfl⟩ := regB_nat h2
    exact printP_3 k ⟨loc.toArray⟩ h1 hk w hE
  · obtain ⟨h1, h2, h3, rfl, _⟩ := insB_4 h
    rw [str_list] at h1
    subst h1
    obtain ⟨k, hk, rfl⟩ := regB_nat h2
    exact printP_4 k imm hk h3 w hE
  · obtain ⟨h1, rfl, rfl, rfl, _⟩ := insB_5 h
    rw [str_list] at h1
    subst h1
    exact printP_5 w hE
theorem printR_l : Calls Tryd.prog 21 #[insV op d a 0 imm ⟨loc.toArray⟩ ⟨#[]⟩ 0] w fun e w' => e = .returned (.tuple #[.string ⟨(printB op d a imm loc).toArray⟩, .int .i64 0]) ∧ Below w.heap.size w w' := by
  rcases insB_op h with rfl | rfl | rfl | rfl | rfl
  · obtain ⟨h1, h2, rfl, rfl, _⟩ := insB_1 h; exact printR_1 imm ⟨loc.toArray⟩ h1 h2 w hE
  · obtain ⟨h1, h2, rfl, rfl, _⟩ := insB_2 h
    obtain ⟨k, hk, rfl⟩ := regB_nat h2
    exact printR_2 k ⟨loc.toArray⟩ h1 hk w hE
  · obtain ⟨h1, h2, rfl, rfl, _⟩ := insB_3 h
    obtain ⟨k, hk, rfl⟩ := regB_nat h2
    exact printR_3 k ⟨loc.toArray⟩ h1 hk w hE
  · obtain ⟨h1, h2, h3, rfl, _⟩ := insB_4 h
    rw [str_list] at h1
    subst h1
    obtain ⟨k, hk, rfl⟩ := regB_nat h2
    exact printR_4 k imm hk h3 w hE
  · obtain ⟨h1, rfl, rfl, rfl, _⟩ := insB_5 h
    rw [str_list] at h1
    subst h1
    exact printR_5 w hE
/-- What was printed is read back. -/
theorem back_l : Calls Tryd.prog 10 #[.string ⟨(printB op d a imm loc).toArray⟩] w fun e w' => e = .returned (.tuple #[insV op d a 0 imm ⟨loc.toArray⟩ ⟨#[]⟩ 0, .int .i64 0]) ∧ Below w.heap.size w w' := by
  have hl := printB_len h
  have := parse_c (printB op d a imm loc) (by omega) w hE
  rw [print_parse h] at this
  exact this
end
theorem parseP_s {l : List UInt8} {op d x imm : Int} {loc : List UInt8} (h : parseP l = some (op, d, x, imm, loc)) (hl : l.length ≤ 9223372036854775807) (w : World) (hE : Env w) :
    Calls Tryd.prog 10 #[.string ⟨l.toArray⟩] w fun e w' => e = .returned (.tuple #[insV op d x 0 imm ⟨loc.toArray⟩ ⟨#[]⟩ 0, .int .i64 0]) ∧ Below w.heap.size w w' := by
  have := parse_c l hl w hE
  rw [h] at this
  exact this
theorem parseP_0 {l : List UInt8} (h : parseP l = none) (hl : l.length ≤ 9223372036854775807) (w : World) (hE : Env w) :
    Calls Tryd.prog 10 #[.string ⟨l.toArray⟩] w fun e w' => e = .returned (.tuple #[insV 0 0 0 0 0 ⟨#[]⟩ ⟨#[]⟩ 0, .int .i64 91]) ∧ Below w.heap.size w w' := by
  have := parse_c l hl w hE
  rw [h] at this
  exact this
theorem checkP_l2 {op d a b imm : Int} {loc label : ByteArray} {fence : Int} {r : Bool} (h : insB op d a b imm loc label fence = r) (w : World) (hs : loc.size ≤ 9223372036854775807) :
    Calls Tryd.prog 15 #[insV op d a b imm loc label fence] w fun e w' => e = .returned (.int .i64 (chkI r)) ∧ Below w.heap.size w w' := by
  have := checkP d a b imm loc label fence w hs op
  rw [h] at this; exact this
theorem checkR_l2 {op d a b imm : Int} {loc label : ByteArray} {fence : Int} {r : Bool} (h : insB op d a b imm loc label fence = r) (w : World) (hs : loc.size ≤ 9223372036854775807) :
    Calls Tryd.prog 14 #[insV op d a b imm loc label fence] w fun e w' => e = .returned (.int .i64 (chkI r)) ∧ Below w.heap.size w w' := by
  have := checkR d a b imm loc label fence w hs op
  rw [h] at this; exact this

/-- A few blanks. -/
def blkT : List (List UInt8) := [[], [32], [9], [32, 10], [13, 32, 32], [32, 32, 32]]
def blkL (n : Int) : List UInt8 := blkT.getD (n % 6).toNat []
theorem blkT_all : ∀ k : Fin 6, (∀ c ∈ blkT.getD k.val [], blankB c = true) ∧ (blkT.getD k.val []).length ≤ 3 := by decide +kernel
theorem blkL_all (n : Int) : (∀ c ∈ blkL n, blankB c = true) ∧ (blkL n).length ≤ 3 := blkT_all ⟨(n % 6).toNat, by omega⟩
set_option maxHeartbeats 1000000 in
theorem blanks_c (n : Int) (w : World) : Calls Tryd.prog 16 #[.int .i64 n] w fun e w' => e = .returned (.string ⟨(blkL n).toArray⟩) ∧ Below w.heap.size w w' := by
  have key : ∀ (r : Int) (l : List UInt8), n.tmod 6 = r → -6 < r → r < 6 → blkT.getD (r % 6).toNat [] = l → blkL n = l := by
    intro r l h h1 h2 hl
    have : n % 6 = r % 6 := by
      have h3 := Int.mul_tdiv_add_tmod n 6
      rw [h] at h3
      omega
    unfold blkL
    rw [this, hl]
  have hb1 : n.tmod 6 < 6 := Int.tmod_lt_of_pos _ (by decide)
  have hb2 : -6 < n.tmod 6 := by
    have := Int.tmod_lt_of_pos (-n) (b := 6) (by decide)
    rw [Int.neg_tmod] at this
    omega
  obtain ⟨r, hr⟩ : ∃ r, n.tmod 6 = r := ⟨_, rfl⟩
  rw [hr] at hb1 hb2
  have hcs : r = -5 ∨ r = -4 ∨ r = -3 ∨ r = -2 ∨ r = -1 ∨ r = 0 ∨ r = 1 ∨ r = 2 ∨ r = 3 ∨ r = 4 ∨ r = 5 := by omega
  clear hb1 hb2
  rcases hcs with rfl | rfl | rfl | rfl | rfl | rfl | rfl | rfl | rfl | rfl | rfl
  all_goals
    have HK := Lib.hid (key _ _ hr (by decide) (by decide) rfl)
    clear key
    go_enter Tryd.func16, Tryd.ntmps16
    go_wp2
    go_ret
    rw [HK.out]
    exact ⟨rfl, below_alloc (Below.refl _ _) _⟩
end Go.Proofs.YtlpcahkchmlghaaDoor
