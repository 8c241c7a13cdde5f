/- Layer 8: what must come, whatever the arguments are. Layer 8: awake. -/
import Derived.Test.YtmlnibjnacfanaaGreatDoorDq
import Derived.Test.YtmlnibjnacfanaaGreatDoorCp
import Derived.Test.YtmlnibjnacfanaaGreatDoorHf
namespace Go.Proofs.YtmlnibjnacfanaaGreatDoor
open Go.RowKit

def sbK : Fr := .cons 2 0 0 [] 0 .nil (.cons 2 1 0 [] 0 .nil .nil)
theorem sb_print : printC 1 1 4 0 0 [] 0 sbK = .tuple #[.string ⟨sbT.toArray⟩, .int .i64 0] := by kernel_rfl
theorem sb_check : checkC 2 1 4 0 0 [] 0 sbK = 0 := by kernel_rfl
theorem sb_own : ownB 2 4 0 0 [] 0 sbK.len = true := by kernel_rfl
theorem sb_okF : okF 2 sbK := ⟨by kernel_rfl, trivial, by kernel_rfl, trivial, trivial⟩
theorem sb_atoms : atL 4 0 0 [] ++ atomsF sbK = [(0, 0, []), (1, 0, [])] := by kernel_rfl
theorem sb_v : ∀ x ∈ atL 4 0 0 [] ++ atomsF sbK, vthB x := by
  rw [sb_atoms]
  intro x hx
  simp only [List.mem_cons, List.not_mem_nil, or_false] at hx
  rcases hx with rfl | rfl <;> (show _ = true; kernel_rfl)
theorem sb_nd : (atL 4 0 0 [] ++ atomsF sbK).Nodup := by rw [sb_atoms]; decide
theorem sb_sort : sortT [(0, 0, []), (1, 0, [])] = [(0, 0, []), (1, 0, [])] := by
  unfold sortT
  refine List.mergeSort_of_pairwise ?_
  simp only [List.pairwise_cons, List.mem_cons, List.not_mem_nil, or_false, forall_eq, false_implies, implies_true, List.Pairwise.nil, and_true]
  kernel_rfl
theorem sb_eval (st : List Int) (r : Bool × Int) (h : (if numsB st 2 then (hOf (valG [(0, 0, []), (1, 0, [])] st (fun _ => 0)) 4 0 0 [] 0 (hL (valG [(0, 0, []), (1, 0, [])] st (fun _ => 0)) sbK), (0 : Int)) else (false, 1)) = r) : evalC 4 0 0 [] 0 sbK st = r := by
  unfold evalC
  rw [sb_atoms, sb_sort]
  exact h
theorem sb_eval0 : evalC 4 0 0 [] 0 sbK [0, 0] = (true, 0) := sb_eval _ _ (by kernel_rfl)
theorem sb_eval1 : evalC 4 0 0 [] 0 sbK [0, 1] = (false, 0) := sb_eval _ _ (by kernel_rfl)
theorem evalSb {w : World} (hi : Nat) (kv : Value) (st : List Int) (A2 : Option Addr) (c2 : Nat) (b : Bool) (hst : st.length = 2) (he : evalC 4 0 0 [] 0 sbK st = (b, 0)) (hhi : hi ≤ w.heap.size) (hs : SlAt w hi kv sbK) (hA : IntsAt w A2 st) :
    Calls Tryz.prog 23 #[condV 1 4 0 0 [] 0 kv, .slice A2 2 c2] w fun e w' => e = .returned (.tuple #[.bool b, .int .i64 0]) ∧ Below w.heap.size w w' := by
  have h := evalP (q := 1) hi kv st A2 c2 hhi hs (by simp) (by decide) sb_check sb_own sb_okF sb_v sb_nd (by rw [sb_atoms]; decide) (by omega) hA
  rw [he, hst] at h
  exact h

theorem parseSb {w : World} (hE : Env w) : Calls Tryz.prog 17 #[.int .i64 1, .string ⟨#[101, 120, 105, 115, 116, 115, 32, 40, 48, 58, 69, 65, 88, 61, 48, 32, 47, 92, 32, 49, 58, 69, 65, 88, 61, 48, 41]⟩] w fun e w' => ∃ A cap, e = .returned (.tuple #[condV 1 4 0 0 [] 0 (.slice A 2 cap), .int .i64 0, .int .i64 0]) ∧ SlAt w' w'.heap.size (.slice A 2 cap) sbK ∧ Below w.heap.size w w' := by
  refine (parseP (a := 1) (s := ⟨#[101, 120, 105, 115, 116, 115, 32, 40, 48, 58, 69, 65, 88, 61, 48, 32, 47, 92, 32, 49, 58, 69, 65, 88, 61, 48, 41]⟩) (by decide) hE).mono ?_
  rintro e w' h
  unfold PPost at h
  rw [show (⟨#[101, 120, 105, 115, 116, 115, 32, 40, 48, 58, 69, 65, 88, 61, 48, 32, 47, 92, 32, 49, 58, 69, 65, 88, 61, 48, 41]⟩ : ByteArray).data.toList = sbT from rfl, parse_sb] at h
  obtain ⟨kv, rfl, _, hk, hb⟩ := h
  obtain ⟨A, cap, rfl⟩ := hk.shape
  exact ⟨A, cap, rfl, hk.sl (fun b hb => hb.2), hb⟩
theorem parseHf {w : World} (hE : Env w) : Calls Tryz.prog 17 #[.int .i64 1, .string ⟨#[101, 120, 105, 115, 116, 115, 32, 40, 120, 61, 49]⟩] w fun e w' => ∃ A cap, e = .returned (.tuple #[condV 0 0 0 0 [] 0 (.slice A 0 cap), .int .i64 80, .int .i64 11]) ∧ Below w.heap.size w w' := by
  refine (parseP (a := 1) (s := ⟨#[101, 120, 105, 115, 116, 115, 32, 40, 120, 61, 49]⟩) (by decide) hE).mono ?_
  rintro e w' h
  unfold PPost at h
  rw [show (⟨#[101, 120, 105, 115, 116, 115, 32, 40, 120, 61, 49]⟩ : ByteArray).data.toList = [101, 120, 105, 115, 116, 115, 32, 40, 120, 61, 49] from rfl, parse_half] at h
  obtain ⟨kv, rfl, _, hk, hb⟩ := h
  obtain ⟨A, cap, rfl⟩ := hk.shape
  exact ⟨A, cap, rfl, hb⟩
theorem printSb {w : World} (hE : Env w) (A : Option Addr) (cap : Nat) (hs : SlAt w w.heap.size (.slice A 2 cap) sbK) : Calls Tryz.prog 13 #[.int .i64 1, condV 1 4 0 0 [] 0 (.slice A 2 cap)] w fun e w' => e = .returned (.tuple #[.string ⟨#[101, 120, 105, 115, 116, 115, 32, 40, 48, 58, 69, 65, 88, 61, 48, 32, 47, 92, 32, 49, 58, 69, 65, 88, 61, 48, 41]⟩, .int .i64 0]) ∧ Below w.heap.size w w' := by
  have h := printP 1 1 4 0 0 [] 0 _ sbK w hE (by decide) hs
  rw [sb_print] at h
  exact h
theorem intsNew (x : World) (a b : Int) (t : TypeId) : IntsAt (x.alloc (.cells #[.int .i64 a, .int .i64 b] t (0, 0))) (some ⟨x.heap.size, 0, none⟩) [a, b] := by
  intro i v hv
  refine ⟨x.heap.size, 0, rfl, ?_⟩
  have h := (Blk.new x t #[.int .i64 a, .int .i64 b]).cell i
  rw [Nat.zero_add, h]
  match i, hv with
  | 0, hv => simp at hv; subst hv; rfl
  | 1, hv => simp at hv; subst hv; rfl
  | i + 2, hv => simp at hv
set_option maxHeartbeats 2000000 in
set_option maxRecDepth 100000 in
theorem awakeP {w : World} (hE : Env w) : Calls Tryz.prog 16 #[] w fun e w' => e = .returned (.bool true) ∧ Below w.heap.size w w' := by
  have HE := Lib.hid hE
  clear hE
  go_enter Tryz.func16, Tryz.ntmps16
  go_wp2_with (first
    | (go_at_call 17; refine (parseHf (HE1.out.mono HT4.out)).mono ?_; rintro e w5 ⟨A5, cap5, rfl, hb5⟩)
    | (go_at_call 17; refine (parseSb HE.out).mono ?_; rintro e w1 ⟨A, cap, rfl, hs, hb⟩; have HS1 := Lib.hid hs; have HB1 := Lib.hid hb; have HE1 := Lib.hid (HE.out.mono hb); clear hs hb)
    | (go_at_call 13; refine (printSb (HE1.out.mono (alloc_b _ _)) A cap ((HS1.out.below (Nat.le_refl _) (alloc_b _ _)).up (by simp))).mono ?_; rintro e w2 ⟨rfl, hb2⟩; have hB := (Blk.new w1 28 #[.int .i64 1, .int .i64 4, .int .i64 0, .int .i64 0, .string ⟨#[]⟩, .int .i64 0, .slice A 2 cap]).go hb2; have c0 := hB.cell 0; have c1 := hB.cell 1; have c2' := hB.cell 2; have c3 := hB.cell 3; have c4 := hB.cell 4; have c5 := hB.cell 5; have c6 := hB.cell 6; have HBN2 := Lib.hid hB; have hb12 := below_trans (alloc_b w1 (.cells #[.int .i64 1, .int .i64 4, .int .i64 0, .int .i64 0, .string ⟨#[]⟩, .int .i64 0, .slice A 2 cap] 28 (0, 0))) hb2; have HT2 := Lib.hid hb12; have HS2 := Lib.hid (HS1.out.below (Nat.le_refl _) hb12); have hz2 := hb12.size; clear hB hb12 hb2)
    | (go_at_call 23; refine (evalSb w1.heap.size _ [0, 1] (some ⟨w3.heap.size, 0, none⟩) 2 false rfl sb_eval1 ?_ (HS3.out.below (Nat.le_trans (Nat.le_refl _) hz3) (alloc_b _ _)) (intsNew _ _ _ _)).mono ?_; (rw [World.size_alloc]; exact Nat.le_succ_of_le hz3); rintro e w4 ⟨rfl, hbx⟩; have hB := (HBN3.out.alloc (.cells #[.int .i64 0, .int .i64 1] 3 (0, 0))).go hbx; have c0 := hB.cell 0; have c1 := hB.cell 1; have c2' := hB.cell 2; have c3 := hB.cell 3; have c4 := hB.cell 4; have c5 := hB.cell 5; have c6 := hB.cell 6; have HBN4 := Lib.hid hB; have hby := below_trans (alloc_b w3 (.cells #[.int .i64 0, .int .i64 1] 3 (0, 0))) hbx; have HS4 := Lib.hid (HS3.out.below hz3 hby); have hz4 := Nat.le_trans hz3 hby.size; have HT4 := Lib.hid (below_trans HT3.out hby); clear hB hbx hby)
    | (go_at_call 23; refine (evalSb w1.heap.size _ [0, 0] (some ⟨w2.heap.size, 0, none⟩) 2 true rfl sb_eval0 ?_ (HS2.out.below (Nat.le_trans (Nat.le_refl _) hz2) (alloc_b _ _)) (intsNew _ _ _ _)).mono ?_; (rw [World.size_alloc]; exact Nat.le_succ_of_le hz2); rintro e w3 ⟨rfl, hbx⟩; have hB := (HBN2.out.alloc (.cells #[.int .i64 0, .int .i64 0] 3 (0, 0))).go hbx; have c0 := hB.cell 0; have c1 := hB.cell 1; have c2' := hB.cell 2; have c3 := hB.cell 3; have c4 := hB.cell 4; have c5 := hB.cell 5; have c6 := hB.cell 6; have HBN3 := Lib.hid hB; have hby := below_trans (alloc_b w2 (.cells #[.int .i64 0, .int .i64 0] 3 (0, 0))) hbx; have HS3 := Lib.hid (HS2.out.below hz2 hby); have hz3 := Nat.le_trans hz2 hby.size; have HT3 := Lib.hid (below_trans HT2.out hby); clear hB hbx hby))
  go_ret
  exact ⟨rfl, below_alloc (below_trans HB1.out (below_trans HT4.out hb5)) _⟩
end Go.Proofs.YtmlnibjnacfanaaGreatDoor
