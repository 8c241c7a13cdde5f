/- Layer 8: slices.SortFunc at things. -/
import Derived.Test.YtmlnibjnacfanaaGreatDoorShelf2
import Derived.Test.YtmlnibjnacfanaaGreatDoorEc
namespace Go.Proofs.YtmlnibjnacfanaaGreatDoor
open Go.RowKit
open Go.Sort

instance instVTh : Inhabited VTh := ⟨⟨(0, 0, []), by decide⟩⟩
def encT (x : VTh) : List Value := thCs x.1
theorem lt_ltT : ltOf (fun x y : VTh => standC x.1 y.1) = ltT := rfl
theorem cmp_stand (blk off size : Nat) (w : World) : CmpLays Tryz.prog 89 #[] encT 3 (fun x y => standC x.1 y.1) blk off size w := fun m os dk _ x y => by
  obtain ⟨⟨t, r, l⟩, hx⟩ := x
  obtain ⟨⟨t', r', l'⟩, hy⟩ := y
  have px := vth_parts ⟨(t, r, l), hx⟩
  have py := vth_parts ⟨(t', r', l'), hy⟩
  simp only at px py
  exact standP (t := t) (r := r) (l := l) (t' := t') (r' := r') (l' := l') (by omega) (by omega) (by omega) (by omega) (by omega) (by omega) (by omega) (by omega)
theorem sortP (blk cap : Nat) (d : Array VTh) (w : World) (hH : HoldsK encT 3 w blk 0 d) (hblk : blk < w.heap.size) (hsz : d.size < 4611686018427387904) :
    Calls Tryz.prog 88 #[.slice (some ⟨blk, 0, none⟩) d.size cap, .func (.func 89) #[] #[]] w fun e w' =>
      e = .returned (.tuple #[]) ∧ ∃ d' n os, PermIn 0 d.size d d' ∧ SortedIn ltT 0 d.size d' ∧ w' = sortWorldK encT 3 w blk 0 n d' os := by
  have eg : ∀ args w, (callFunc 89 args).run Tryz.prog w = .ok (.enter 89 args) w := enters_of Tryz.func89 (by kernel_rfl) rfl
  exact AnyQ.slices_SortFunc Tryz.sortTh 3 Tryz.isAgg23 Tryz.sizeOf23 encT (fun _ => rfl) (fun x v hv => by simp [encT, thCs] at hv; rcases hv with rfl | rfl | rfl <;> rfl) (fun x y => standC x.1 y.1) ltT_swo 89 #[] blk 0 cap d w eg (cmp_stand blk 0 d.size w) hH hblk hsz
end Go.Proofs.YtmlnibjnacfanaaGreatDoor
