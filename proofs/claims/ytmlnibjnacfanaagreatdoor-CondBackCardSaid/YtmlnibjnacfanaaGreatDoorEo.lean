/- Layer 8: what must come, whatever the arguments are. -/
import Derived.Test.YtmlnibjnacfanaaGreatDoorDq
import Derived.Test.YtmlnibjnacfanaaGreatDoorCp
import Derived.Test.YtmlnibjnacfanaaGreatDoorEn
namespace Go.Proofs.YtmlnibjnacfanaaGreatDoor
open Go.RowKit

def sbK : Fr := .cons 2 0 0 [] 0 .nil (.cons 2 1 0 [] 0 .nil .nil)
theorem sb_print : printC 1 1 4 0 0 [] 0 sbK = .tuple #[.string ⟨sbT.toArray⟩, .int .i64 0] := by kernel_rfl
theorem sb_check : checkC 2 1 4 0 0 [] 0 sbK = 0 := by kernel_rfl
theorem sb_own : ownB 2 4 0 0 [] 0 sbK.len = true := by kernel_rfl
theorem sb_okF : okF 2 sbK := ⟨by kernel_rfl, trivial, by kernel_rfl, trivial, trivial⟩
theorem sb_atoms : atL 4 0 0 [] ++ atomsF sbK = [(0, 0, []), (1, 0, [])] := by kernel_rfl
theorem sb_v : ∀ x ∈ atL 4 0 0 [] ++ atomsF sbK, vthB x := by
  rw [sb_atoms]
  intro x hx
  simp only [List.mem_cons, List.not_mem_nil, or_false] at hx
  rcases hx with rfl | rfl <;> (show _ = true; kernel_rfl)
theorem sb_nd : (atL 4 0 0 [] ++ atomsF sbK).Nodup := by rw [sb_atoms]; decide
theorem sb_sort : sortT [(0, 0, []), (1, 0, [])] = [(0, 0, []), (1, 0, [])] := by
  unfold sortT
  refine List.mergeSort_of_pairwise ?_
  simp only [List.pairwise_cons, List.mem_cons, List.not_mem_nil, or_false, forall_eq, false_implies, implies_true, List.Pairwise.nil, and_true]
  kernel_rfl
theorem sb_eval (st : List Int) (r : Bool × Int) (h : (if numsB st 2 then (hOf (valG [(0, 0, []), (1, 0, [])] st (fun _ => 0)) 4 0 0 [] 0 (hL (valG [(0, 0, []), (1, 0, [])] st (fun _ => 0)) sbK), (0 : Int)) else (false, 1)) = r) : evalC 4 0 0 [] 0 sbK st = r := by
  unfold evalC
  rw [sb_atoms, sb_sort]
  exact h
theorem sb_eval0 : evalC 4 0 0 [] 0 sbK [0, 0] = (true, 0) := sb_eval _ _ (by kernel_rfl)
theorem sb_eval1 : evalC 4 0 0 [] 0 sbK [0, 1] = (false, 0) := sb_eval _ _ (by kernel_rfl)
theorem evalSb {w : World} (hi : Nat) (kv : Value) (st : List Int) (A2 : Option Addr) (c2 : Nat) (b : Bool) (hst : st.length = 2) (he : evalC 4 0 0 [] 0 sbK st = (b, 0)) (hhi : hi ≤ w.heap.size) (hs : SlAt w hi kv sbK) (hA : IntsAt w A2 st) :
    Calls Tryz.prog 23 #[condV 1 4 0 0 [] 0 kv, .slice A2 2 c2] w fun e w' => e = .returned (.tuple #[.bool b, .int .i64 0]) ∧ Below w.heap.size w w' := by
  have h := evalP (q := 1) hi kv st A2 c2 hhi hs (by simp) (by decide) sb_check sb_own sb_okF sb_v sb_nd (by rw [sb_atoms]; decide) (by omega) hA
  rw [he, hst] at h
  exact h
end Go.Proofs.YtmlnibjnacfanaaGreatDoor
