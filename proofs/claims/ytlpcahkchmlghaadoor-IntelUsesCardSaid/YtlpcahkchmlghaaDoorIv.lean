/- The laws' own helper awake, and the walk of IntelParses. -/
import Derived.Test.YtlpcahkchmlghaaDoorIu
import Derived.Test.YtlpcahkchmlghaaDoorIf
namespace Go.Proofs.YtlpcahkchmlghaaDoor
open Go.RowKit

theorem insV_eta (op d x imm : Int) (loc : List UInt8) (er : Int) : Value.tuple #[insV op d x 0 imm ⟨loc.toArray⟩ ⟨#[]⟩ 0, .int .i64 er] = .tuple #[insV op d x 0 imm ⟨loc.toArray⟩ ⟨#[]⟩ 0, .int .i64 er] := rfl
def parsed (o : Option (Int × Int × Int × Int × List UInt8)) (op d x imm : Int) (loc : List UInt8) (er : Int) : Prop := parseV o = .tuple #[insV op d x 0 imm ⟨loc.toArray⟩ ⟨#[]⟩ 0, .int .i64 er]
theorem parsed_any (o : Option (Int × Int × Int × Int × List UInt8)) : ∃ op d x imm loc er, parsed o op d x imm loc er := by
  cases o with
  | none => exact ⟨0, 0, 0, 0, [], 91, rfl⟩
  | some m => exact ⟨m.1, m.2.1, m.2.2.1, m.2.2.2.1, m.2.2.2.2, 0, rfl⟩
theorem parseP_as {l : List UInt8} {op d x imm : Int} {loc : List UInt8} {er : Int} (h : parsed (parseP l) op d x imm loc er) (hl : l.length ≤ 9223372036854775807) (w : World) (hE : Env w) :
    Calls Tryd.prog 10 #[.string ⟨l.toArray⟩] w fun e w' => e = .returned (.tuple #[insV op d x 0 imm ⟨loc.toArray⟩ ⟨#[]⟩ 0, .int .i64 er]) ∧ Below w.heap.size w w' := by
  have := parse_c l hl w hE
  rw [h] at this; exact this
theorem parseR_as {l : List UInt8} {op d x imm : Int} {loc : List UInt8} {er : Int} (h : parsed (parseP l) op d x imm loc er) (hl : l.length ≤ 9223372036854775807) (w : World) (hE : Env w) :
    Calls Tryd.prog 11 #[.string ⟨l.toArray⟩] w fun e w' => e = .returned (.tuple #[insV op d x 0 imm ⟨loc.toArray⟩ ⟨#[]⟩ 0, .int .i64 er]) ∧ Below w.heap.size w w' := by
  have h2 := parseR_c l hl w hE
  have e : prV (parseR l) = parseV (parseP l) := by rw [parse_same l]; cases parseR l <;> rfl
  rw [e, h] at h2; exact h2

def awakeL : List UInt8 := [32, 77, 79, 86, 32, 32, 69, 66, 88, 32, 44, 32, 91, 32, 121, 32, 93]
theorem awake_parse : parsed (parseP awakeL) 3 1 0 0 [121] 0 := by
  have : parseP awakeL = some (3, 1, 0, 0, [121]) := by decide +kernel
  unfold parsed
  rw [this]; rfl
theorem awake_print : printB 1 0 0 (-5) [120] = [77, 79, 86, 32, 91, 120, 93, 44, 36, 45, 53] := by decide +kernel

set_option maxRecDepth 100000 in
set_option maxHeartbeats 400000 in
theorem awake_c (w : World) (hE : Env w) : Calls Tryd.prog 12 #[] w fun e w' => e = .returned (.bool true) ∧ Below w.heap.size w w' := by
  have HA := Lib.hid awake_print
  go_enter Tryd.func12, Tryd.ntmps12
  go_wp2_with (first
    | (go_at_call 10; refine (parseP_as (l := awakeL) awake_parse (by decide) _ hE).mono ?_; rintro e w1 ⟨rfl, hb1⟩; have hE1 := hE.mono hb1)
    | (go_at_call 13; refine (printP_1 (-5) ⟨#[120]⟩ (by decide) (by decide) _ (hE1.mono (alloc_below _ _))).mono ?_; rintro e w2 ⟨rfl, hb2⟩; have hB2 := below_trans (below_trans hb1 (alloc_below _ _)) hb2; obtain ⟨hc2, hf2⟩ := bcell hb2; rw [HA.out]))
  go_ret
  exact ⟨rfl, hB2⟩

set_option maxRecDepth 100000 in
set_option maxHeartbeats 1000000 in
theorem walkParses_l (l : List UInt8) (hl : l.length ≤ 9223372036854775807) (w : World) (hE : Env w) : Calls Tryd.prog 3 #[.string ⟨l.toArray⟩] w fun e w' => e = .returned (.bool true) ∧ Below w.heap.size w w' := by
  obtain ⟨op, d, x, imm, loc, er, hp⟩ := parsed_any (parseP l)
  have HP := Lib.hid hp
  clear hp
  go_enter Tryd.func3, Tryd.ntmps3
  go_wp2_with (first
    | (go_at_call 10; refine (parseP_as HP.out hl _ hE).mono ?_; rintro e w1 ⟨rfl, hb1⟩; have hE1 := hE.mono hb1)
    | (go_at_call 11; refine (parseR_as HP.out hl _ (hE1.mono (alloc_below _ _))).mono ?_; rintro e w2 ⟨rfl, hb2⟩; have hB2 := below_trans (below_trans hb1 (alloc_below _ _)) hb2; obtain ⟨hc2, hf2⟩ := bcell hb2; have hz2 : w1.heap.size < w2.heap.size := Nat.lt_of_lt_of_le (by simp) hb2.size)
    | (go_at_call 12; refine (awake_c _ ((hE.mono hB2).mono (alloc_below _ _))).mono ?_; rintro e w3 ⟨rfl, hb3⟩; have hB3 := below_trans (below_trans hB2 (alloc_below _ _)) hb3))
  go_ret
  exact ⟨rfl, hB3⟩
theorem walkParses (s : ByteArray) (hs : s.size ≤ 9223372036854775807) (w : World) (hE : Env w) : Calls Tryd.prog 3 #[.string s] w fun e w' => e = .returned (.bool true) ∧ Below w.heap.size w w' := by
  have := walkParses_l s.data.toList (by rw [str_len]; exact hs) w hE
  rw [str_eta] at this
  exact this
end Go.Proofs.YtlpcahkchmlghaaDoor
