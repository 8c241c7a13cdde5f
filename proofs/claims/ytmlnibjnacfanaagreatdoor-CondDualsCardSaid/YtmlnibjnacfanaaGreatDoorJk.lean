/- Layer 8: the walk of CondDuals. -/
import Derived.Test.YtmlnibjnacfanaaGreatDoorJh
import Derived.Test.YtmlnibjnacfanaaGreatDoorEp
namespace Go.Proofs.YtmlnibjnacfanaaGreatDoor
open Go.RowKit
theorem checkC_q {q q' k t r v : Int} {l : List UInt8} {kids : Fr} (h : checkC 2 q k t r l v kids = 0) (h1 : 1 ≤ q') (h2 : q' ≤ 3) : checkC 2 q' k t r l v kids = 0 := by
  unfold checkC at h ⊢
  split at h
  · cases h
  · rename_i ha
    rw [if_neg ha, if_neg (by omega)]
    split at h
    · cases h
    · exact h
theorem countP_pos {α : Type} (p : α → Bool) (l : List α) : decide (0 < l.countP p) = l.any p := by
  rw [Bool.eq_iff_iff, decide_eq_true_iff, List.countP_pos_iff, List.any_eq_true]
theorem countP_all {α : Type} (p : α → Bool) (l : List α) : decide (l.countP p = l.length) = l.all p := by
  rw [Bool.eq_iff_iff, decide_eq_true_iff, List.countP_eq_length, List.all_eq_true]
theorem holds_not (k t r : Int) (l : List UInt8) (v : Int) (kids : Fr) (st : List Int) : holdsU 3 0 0 [] 0 (.cons k t r l v kids .nil) st = !holdsU k t r l v kids st := by
  unfold holdsU
  have e : atL 3 0 0 [] ++ atomsF (.cons k t r l v kids .nil) = atL k t r l ++ atomsF kids := by simp [atL, atomsF]
  rw [e]
  rfl
theorem judge_not {k t r v : Int} {l : List UInt8} {kids : Fr} {sts : List (List Int)} (h : checkC 2 2 3 0 0 [] 0 (.cons k t r l v kids .nil) = 0) (hn : sts.all (fun st => numsB st (thsU (atL k t r l ++ atomsF kids)).length) = true) :
    judgeU 2 3 0 0 [] 0 (.cons k t r l v kids .nil) sts = (sts.all (holdsU k t r l v kids), 0) := by
  unfold judgeU
  have e : atL 3 0 0 [] ++ atomsF (.cons k t r l v kids .nil) = atL k t r l ++ atomsF kids := by simp [atL, atomsF]
  rw [if_pos h, e, if_pos hn]
  have hf : holdsU 3 0 0 [] 0 (.cons k t r l v kids .nil) = fun st => !holdsU k t r l v kids st := funext (holds_not k t r l v kids)
  rw [hf]
  simp [List.all_eq_not_any_not]
theorem sl_one {wr : World} {hi cap n : Nat} {k t r v : Int} {l : List UInt8} {A : Option Addr} {kids : Fr} (hn : n = kids.len) (hs : SlAt wr hi (.slice A kids.len cap) kids) (hhi : hi ≤ wr.heap.size) (hl : l.length ≤ 9223372036854775807) (o : Obj) :
    SlAt ((wr.alloc (.cells #[.int .i64 k, .int .i64 t, .int .i64 r, .string ⟨l.toArray⟩, .int .i64 v, .slice A n cap] 26 (0, 0))).alloc o) (wr.heap.size + 1) (.slice (some ⟨wr.heap.size, 0, none⟩) 1 1) (.cons k t r l v kids .nil) := by
  subst hn
  have hb := below_alloc (alloc_b wr (.cells #[.int .i64 k, .int .i64 t, .int .i64 r, .string ⟨l.toArray⟩, .int .i64 v, .slice A kids.len cap] 26 (0, 0))) o
  have hB := (Blk.new wr 26 #[.int .i64 k, .int .i64 t, .int .i64 r, .string ⟨l.toArray⟩, .int .i64 v, .slice A kids.len cap]).alloc o
  obtain ⟨A', cap', e, h1, h2, h3⟩ := (hs.below hhi hb).up (show hi ≤ wr.heap.size + 1 by omega)
  refine ⟨some ⟨wr.heap.size, 0, none⟩, 1, rfl, Nat.le_refl _, ⟨by simp [Fr.len], by decide⟩, fun _ => ⟨wr.heap.size, 0, rfl, by omega, ?_⟩⟩
  exact ⟨hB.cell 0, hB.cell 1, hB.cell 2, hB.cell 3, hB.cell 4, hl, ⟨A', cap', (hB.cell 5).trans (by rw [← e]; rfl), h1, h2, h3⟩, trivial⟩
section
variable {q k t r v : Int} {l : List UInt8} {kids : Fr} {w : World}
set_option maxHeartbeats 4000000 in
set_option maxRecDepth 100000 in
theorem duals_bad (A : Option Addr) (cap : Nat) (As : Option Addr) (cs : Nat) (sts : List (List Int)) (hl : l.length ≤ 9223372036854775807) (hs : SlAt w w.heap.size (.slice A kids.len cap) kids) (hst : sts.length ≤ 9223372036854775806) (hA : StsAt w As sts) (hE : Env w) (hck : checkC 2 q k t r l v kids ≠ 0) :
    Calls Tryz.prog 11 #[condV q k t r l v (.slice A kids.len cap), .slice As sts.length cs] w fun e w' => e = .returned (.bool true) ∧ Below w.heap.size w w' := by
  have hb1 := alloc_b w (.cells #[.int .i64 q, .int .i64 k, .int .i64 t, .int .i64 r, .string ⟨l.toArray⟩, .int .i64 v, .slice A kids.len cap] 28 (0, 0))
  have HS := Lib.hid (hs.below (Nat.le_refl _) hb1)
  have HA := Lib.hid (hA.below hb1)
  have HBN := Lib.hid (Blk.new w 28 #[.int .i64 q, .int .i64 k, .int .i64 t, .int .i64 r, .string ⟨l.toArray⟩, .int .i64 v, .slice A kids.len cap])
  have HT := Lib.hid hb1
  have HE := Lib.hid (hE.mono hb1)
  have hz := HT.out.size
  clear hs hA hb1 hE
  have HJ := Lib.hid (show judgeU q k t r l v kids sts = (false, checkC 2 q k t r l v kids) by unfold judgeU; rw [if_neg hck])
  obtain ⟨E, hEc⟩ : ∃ E, checkC 2 q k t r l v kids = E := ⟨_, rfl⟩
  rw [hEc] at hck HJ
  have HCK := Lib.hid hEc
  have e1 : (E != 0) = true := by simpa using hck
  clear hEc hck
  go_enter Tryz.func11, Tryz.ntmps11
  go_wp2_with (first | (go_at_call 15; refine (checkR 2 q k t r l v _ kids _ hl (HS.out.up hz)).mono ?_; rw [HCK.out]; rintro e wx ⟨rfl, hbx⟩; have HBN := Lib.hid (HBN.out.go hbx); have HT := Lib.hid (below_trans HT.out hbx); have HS := Lib.hid (HS.out.below hz hbx); have HA := Lib.hid (HA.out.below hbx); have HE := Lib.hid (HE.out.mono hbx); have hz := HT.out.size; have c0 := HBN.out.cell 0; have c1 := HBN.out.cell 1; have c2 := HBN.out.cell 2; have c3 := HBN.out.cell 3; have c4 := HBN.out.cell 4; have c5 := HBN.out.cell 5; have c6 := HBN.out.cell 6; clear hbx) | (go_at_call 33; refine (judgeG w.heap.size _ sts As cs hz HS.out hl hst HA.out).mono ?_; rw [HJ.out]; rintro e wx ⟨rfl, hbx⟩; have HBN := Lib.hid (HBN.out.go hbx); have HT := Lib.hid (below_trans HT.out hbx); have HS := Lib.hid (HS.out.below hz hbx); have HA := Lib.hid (HA.out.below hbx); have HE := Lib.hid (HE.out.mono hbx); have hz := HT.out.size; have c0 := HBN.out.cell 0; have c1 := HBN.out.cell 1; have c2 := HBN.out.cell 2; have c3 := HBN.out.cell 3; have c4 := HBN.out.cell 4; have c5 := HBN.out.cell 5; have c6 := HBN.out.cell 6; clear hbx) | (go_at_call 16; refine (awakeP HE.out).mono ?_; rintro e wy ⟨rfl, hby⟩))
  go_ret
  exact ⟨by simp, below_trans HT.out hby⟩
set_option maxHeartbeats 4000000 in
set_option maxRecDepth 100000 in
theorem duals_arg (A : Option Addr) (cap : Nat) (As : Option Addr) (cs : Nat) (sts : List (List Int)) (hl : l.length ≤ 9223372036854775807) (hs : SlAt w w.heap.size (.slice A kids.len cap) kids) (hst : sts.length ≤ 9223372036854775806) (hA : StsAt w As sts) (hE : Env w) (hck : checkC 2 q k t r l v kids = 0) (hn : sts.all (fun st => numsB st (thsU (atL k t r l ++ atomsF kids)).length) = false) :
    Calls Tryz.prog 11 #[condV q k t r l v (.slice A kids.len cap), .slice As sts.length cs] w fun e w' => e = .returned (.bool true) ∧ Below w.heap.size w w' := by
  have hb1 := alloc_b w (.cells #[.int .i64 q, .int .i64 k, .int .i64 t, .int .i64 r, .string ⟨l.toArray⟩, .int .i64 v, .slice A kids.len cap] 28 (0, 0))
  have HS := Lib.hid (hs.below (Nat.le_refl _) hb1)
  have HA := Lib.hid (hA.below hb1)
  have HBN := Lib.hid (Blk.new w 28 #[.int .i64 q, .int .i64 k, .int .i64 t, .int .i64 r, .string ⟨l.toArray⟩, .int .i64 v, .slice A kids.len cap])
  have HT := Lib.hid hb1
  have HE := Lib.hid (hE.mono hb1)
  have hz := HT.out.size
  clear hs hA hb1 hE
  have HJ := Lib.hid (fun (q' : Int) (h1 : 1 ≤ q') (h2 : q' ≤ 3) => (show judgeU q' k t r l v kids sts = (false, 1) by unfold judgeU; rw [if_pos (checkC_q hck h1 h2), hn]; rfl))
  have HCK := Lib.hid hck
  clear hck hn
  go_enter Tryz.func11, Tryz.ntmps11
  go_wp2_with (first | (go_at_call 15; refine (checkR 2 q k t r l v _ kids _ hl (HS.out.up hz)).mono ?_; rw [HCK.out]; rintro e wx ⟨rfl, hbx⟩; have HBN := Lib.hid (HBN.out.go hbx); have HT := Lib.hid (below_trans HT.out hbx); have HS := Lib.hid (HS.out.below hz hbx); have HA := Lib.hid (HA.out.below hbx); have HE := Lib.hid (HE.out.mono hbx); have hz := HT.out.size; have c0 := HBN.out.cell 0; have c1 := HBN.out.cell 1; have c2 := HBN.out.cell 2; have c3 := HBN.out.cell 3; have c4 := HBN.out.cell 4; have c5 := HBN.out.cell 5; have c6 := HBN.out.cell 6; clear hbx) | (go_at_call 33; refine (judgeG w.heap.size _ sts As cs hz HS.out hl hst HA.out).mono ?_; rw [HJ.out _ (by decide) (by decide)]; rintro e wx ⟨rfl, hbx⟩; have HBN := Lib.hid (HBN.out.go hbx); have HT := Lib.hid (below_trans HT.out hbx); have HS := Lib.hid (HS.out.below hz hbx); have HA := Lib.hid (HA.out.below hbx); have HE := Lib.hid (HE.out.mono hbx); have hz := HT.out.size; have c0 := HBN.out.cell 0; have c1 := HBN.out.cell 1; have c2 := HBN.out.cell 2; have c3 := HBN.out.cell 3; have c4 := HBN.out.cell 4; have c5 := HBN.out.cell 5; have c6 := HBN.out.cell 6; clear hbx) | (go_at_call 16; refine (awakeP HE.out).mono ?_; rintro e wy ⟨rfl, hby⟩))
  go_ret
  exact ⟨by simp, below_trans HT.out hby⟩
set_option maxHeartbeats 4000000 in
set_option maxRecDepth 100000 in
theorem duals_go (A : Option Addr) (cap : Nat) (As : Option Addr) (cs : Nat) (sts : List (List Int)) (hl : l.length ≤ 9223372036854775807) (hs : SlAt w w.heap.size (.slice A kids.len cap) kids) (hst : sts.length ≤ 9223372036854775806) (hA : StsAt w As sts) (hE : Env w) (hck : checkC 2 q k t r l v kids = 0) (hn : sts.all (fun st => numsB st (thsU (atL k t r l ++ atomsF kids)).length) = true) (sa al : Bool) (hsa : sts.any (holdsU k t r l v kids) = sa) (hal : sts.all (holdsU k t r l v kids) = al) :
    Calls Tryz.prog 11 #[condV q k t r l v (.slice A kids.len cap), .slice As sts.length cs] w fun e w' => e = .returned (.bool true) ∧ Below w.heap.size w w' := by
  have hb1 := alloc_b w (.cells #[.int .i64 q, .int .i64 k, .int .i64 t, .int .i64 r, .string ⟨l.toArray⟩, .int .i64 v, .slice A kids.len cap] 28 (0, 0))
  have HS := Lib.hid (hs.below (Nat.le_refl _) hb1)
  have HA := Lib.hid (hA.below hb1)
  have HBN := Lib.hid (Blk.new w 28 #[.int .i64 q, .int .i64 k, .int .i64 t, .int .i64 r, .string ⟨l.toArray⟩, .int .i64 v, .slice A kids.len cap])
  have HT := Lib.hid hb1
  have HE := Lib.hid (hE.mono hb1)
  have hz := HT.out.size
  clear hs hA hb1 hE
  have hJ : ∀ q' : Int, 1 ≤ q' → q' ≤ 3 → judgeU q' k t r l v kids sts = ((if q' = 1 then sts.any (holdsU k t r l v kids) else if q' = 2 then !(sts.any (holdsU k t r l v kids)) else sts.all (holdsU k t r l v kids)), 0) := fun q' h1 h2 => by unfold judgeU; rw [if_pos (checkC_q hck h1 h2), hn]; rfl
  have HJ1 := Lib.hid (show judgeU 1 k t r l v kids sts = (sa, 0) by rw [hJ 1 (by decide) (by decide), if_pos rfl, hsa])
  have HJ2 := Lib.hid (show judgeU 2 k t r l v kids sts = (!sa, 0) by rw [hJ 2 (by decide) (by decide), if_neg (by decide), if_pos rfl, hsa])
  have HJ3 := Lib.hid (show judgeU 3 k t r l v kids sts = (al, 0) by rw [hJ 3 (by decide) (by decide), if_neg (by decide), if_neg (by decide), hal])
  have HJN := Lib.hid (fun (h : checkC 2 2 3 0 0 [] 0 (.cons k t r l v kids .nil) = 0) => (judge_not h hn).trans (by rw [hal]))
  have HEV := Lib.hid (fun (st : List Int) (h : st ∈ sts) => (show evalU q k t r l v kids st = (holdsU k t r l v kids st, 0) by unfold evalU; rw [if_pos hck, if_pos (List.all_eq_true.1 hn st h)]))
  have HCK := Lib.hid hck
  have hemp : sa = false → al = true → sts.length = 0 := fun h1 h2 => by
    cases sts with
    | nil => rfl
    | cons x r => rw [← hsa] at h1; rw [← hal] at h2; simp at h1 h2; rw [h1.1] at h2; exact absurd h2.1 (by simp)
  have hz0 : sts.length = 0 → sa = false ∧ al = true := fun h => by
    obtain rfl := List.eq_nil_of_length_eq_zero h
    exact ⟨by rw [← hsa]; rfl, by rw [← hal]; rfl⟩
  have hp1 := countP_pos (holdsU k t r l v kids) sts
  have hp2 := countP_all (holdsU k t r l v kids) sts
  rw [hsa] at hp1
  rw [hal] at hp2
  obtain ⟨hU, hhU⟩ : ∃ hU, holdsU k t r l v kids = hU := ⟨_, rfl⟩
  rw [hhU] at hp1 hp2 HEV
  have HP1 := Lib.hid hp1
  have HP2 := Lib.hid hp2
  have HEM := Lib.hid hemp
  clear hck hn hJ hsa hal hp1 hp2 hhU hemp
  have hg : decide (0 < sts.length) = true ∧ al = true ∧ sa = false → False := fun ⟨a, b, c⟩ => by have := HEM.out c b; simp at a; omega
  have HG := Lib.hid hg
  have hg0 : decide (0 < sts.length) = false → sa = false ∧ al = true := fun h => hz0 (by have := of_decide_eq_false h; omega)
  have HG0 := Lib.hid hg0
  clear hg hz0 hg0
  have hsl : sts.length ≤ 9223372036854775806 := hst
  obtain ⟨z, hzz⟩ : ∃ z, decide (0 < sts.length) = z := ⟨_, rfl⟩
  rw [hzz] at HG HG0
  cases sa <;> cases al <;> cases z <;> (try exact absurd trivial (fun _ => HG.out ⟨rfl, rfl, rfl⟩)) <;> (try exact absurd (HG0.out rfl).1 (by decide)) <;> (try exact absurd (HG0.out rfl).2 (by decide))
  all_goals
    go_enter Tryz.func11, Tryz.ntmps11
    go_wp2_with (first | (go_at_call 15; refine (checkR 2 q k t r l v _ kids _ hl (HS.out.up hz)).mono ?_; rw [HCK.out]; rintro e wx ⟨rfl, hbx⟩; have HBN := Lib.hid (HBN.out.go hbx); have HT := Lib.hid (below_trans HT.out hbx); have HS := Lib.hid (HS.out.below hz hbx); have HA := Lib.hid (HA.out.below hbx); have HE := Lib.hid (HE.out.mono hbx); have hz := HT.out.size; have c0 := HBN.out.cell 0; have c1 := HBN.out.cell 1; have c2 := HBN.out.cell 2; have c3 := HBN.out.cell 3; have c4 := HBN.out.cell 4; have c5 := HBN.out.cell 5; have c6 := HBN.out.cell 6; clear hbx) | (go_at_call 33; refine (judgeG w.heap.size _ sts As cs hz HS.out hl hst HA.out).mono ?_; (first | rw [HJ1.out] | rw [HJ2.out] | rw [HJ3.out]); rintro e wx ⟨rfl, hbx⟩; have HBN := Lib.hid (HBN.out.go hbx); have HT := Lib.hid (below_trans HT.out hbx); have HS := Lib.hid (HS.out.below hz hbx); have HA := Lib.hid (HA.out.below hbx); have HE := Lib.hid (HE.out.mono hbx); have hz := HT.out.size; have c0 := HBN.out.cell 0; have c1 := HBN.out.cell 1; have c2 := HBN.out.cell 2; have c3 := HBN.out.cell 3; have c4 := HBN.out.cell 4; have c5 := HBN.out.cell 5; have c6 := HBN.out.cell 6; clear hbx))
    go_loopw [14, 15] (fun n i wr => ∃ j m : Nat, j ≤ sts.length ∧ i = .int .i64 j ∧ n = .int .i64 m ∧ m = (sts.take j).countP hU ∧ Below wx.heap.size wx wr) (fun _ i _ => sts.length - (intOf i).toNat)
    case atStart => exact ⟨0, 0, Nat.zero_le _, rfl, rfl, by simp, Below.refl _ _⟩
    case round =>
      obtain ⟨j, m, hj, rfl, rfl, hm, hb⟩ := hrel
      have HM := Lib.hid hm
      have HTW := Lib.hid (below_trans HT.out hb)
      have HSW := Lib.hid (HS.out.below hz hb)
      have HAW := Lib.hid (HA.out.below hb)
      have HEW := Lib.hid (HE.out.mono hb)
      have HBW := Lib.hid (HBN.out.go hb)
      have HBB := Lib.hid hb
      have hml : m ≤ j := by rw [hm]; exact Nat.le_trans List.countP_le_length (List.length_take_le _ _)
      have hzw := HTW.out.size
      have c0 := HBW.out.cell 0
      have c1 := HBW.out.cell 1
      have c2 := HBW.out.cell 2
      have c3 := HBW.out.cell 3
      have c4 := HBW.out.cell 4
      have c5 := HBW.out.cell 5
      have c6 := HBW.out.cell 6
      clear hb hm
      by_cases hlt : j < sts.length
      · have ex := List.getElem?_eq_getElem hlt
        obtain ⟨st, hst'⟩ : ∃ st, sts[j] = st := ⟨_, rfl⟩
        rw [hst'] at ex
        obtain ⟨bs, os, A2, c2, rfl, hcs, hints, hsl⟩ := HAW.out j st ex
        have HIX := Lib.hid hints
        have HEVX := Lib.hid (HEV.out st (List.mem_of_getElem? ex))
        have HCT := Lib.hid (show (sts.take (j + 1)).countP hU = (sts.take j).countP hU + if hU st then 1 else 0 by rw [List.take_add_one, ex, List.countP_append]; simp [List.countP_cons])
        obtain ⟨b, hbb⟩ : ∃ b, hU st = b := ⟨_, rfl⟩
        rw [hbb] at HEVX HCT
        have i1 : (j : Int) < (sts.length : Int) := by omega
        have SS := Lib.hid (fun (y : World) (hy : Below wr.heap.size wr y) => (⟨(HBW.out.go hy).cell 0, (HBW.out.go hy).cell 1, (HBW.out.go hy).cell 2, (HBW.out.go hy).cell 3, (HBW.out.go hy).cell 4, (HBW.out.go hy).cell 5, (HBW.out.go hy).cell 6, cell_go hcs hy⟩ : (fun y => y.cell? ⟨w.heap.size, 0, none⟩ = some (.int .i64 q) ∧ y.cell? ⟨w.heap.size, 1, none⟩ = some (.int .i64 k) ∧ y.cell? ⟨w.heap.size, 2, none⟩ = some (.int .i64 t) ∧ y.cell? ⟨w.heap.size, 3, none⟩ = some (.int .i64 r) ∧ y.cell? ⟨w.heap.size, 4, none⟩ = some (.string ⟨l.toArray⟩) ∧ y.cell? ⟨w.heap.size, 5, none⟩ = some (.int .i64 v) ∧ y.cell? ⟨w.heap.size, 6, none⟩ = some (.slice A kids.len cap) ∧ y.cell? ⟨bs, os + j, none⟩ = some (.slice A2 st.length c2)) y))
        clear ex hst' hints hbb
        cases b
        all_goals
          go_wp2_with fail
          refine wp_region_held_drew (S := (fun y => y.cell? ⟨w.heap.size, 0, none⟩ = some (.int .i64 q) ∧ y.cell? ⟨w.heap.size, 1, none⟩ = some (.int .i64 k) ∧ y.cell? ⟨w.heap.size, 2, none⟩ = some (.int .i64 t) ∧ y.cell? ⟨w.heap.size, 3, none⟩ = some (.int .i64 r) ∧ y.cell? ⟨w.heap.size, 4, none⟩ = some (.string ⟨l.toArray⟩) ∧ y.cell? ⟨w.heap.size, 5, none⟩ = some (.int .i64 v) ∧ y.cell? ⟨w.heap.size, 6, none⟩ = some (.slice A kids.len cap) ∧ y.cell? ⟨bs, os + j, none⟩ = some (.slice A2 st.length c2))) (by kernel_rfl) (SS.out _ (Below.refl _ _).drew) (fun hHeld => ?_)
          refine wpAnyH_take (i := 0) (v := ?_) rfl (by kernel_rfl) (by kernel_rfl) (by kernel_rfl) (fun _ _ _ h => h) (Or.inl ⟨by rfl, ?_⟩) (by assumption) ?_
          rotate_left
          · intro x' hSx
            try dsimp only at hSx
            go_simp
            try with_reducible rfl
          try simp only [Act.put, List.setIfInBounds_toArray]
          refine wpAnyH_take (i := 1) (v := ?_) rfl (by kernel_rfl) (by kernel_rfl) (by kernel_rfl) (fun _ _ _ h => h) (Or.inl ⟨by rfl, ?_⟩) (by assumption) ?_
          rotate_left
          · intro x' hSx
            try dsimp only at hSx
            go_simp
            try with_reducible rfl
          try simp only [Act.put]
          refine wpAnyH_take (i := 2) (v := ?_) rfl (by kernel_rfl) (by kernel_rfl) (by kernel_rfl) (fun _ _ _ h => h) (Or.inl ⟨by rfl, ?_⟩) (by assumption) ?_
          rotate_left
          · intro x' hSx
            try dsimp only at hSx
            go_simp
            try with_reducible rfl
          try simp only [Act.put]
          refine wpAnyH_take (i := 3) (v := ?_) rfl (by kernel_rfl) (by kernel_rfl) (by kernel_rfl) (fun _ _ _ h => h) (Or.inl ⟨by rfl, ?_⟩) (by assumption) ?_
          rotate_left
          · intro x' hSx
            try dsimp only at hSx
            go_simp
            try with_reducible rfl
          try simp only [Act.put]
          refine wpAnyH_take (i := 4) (v := ?_) rfl (by kernel_rfl) (by kernel_rfl) (by kernel_rfl) (fun _ _ _ h => h) (Or.inl ⟨by rfl, ?_⟩) (by assumption) ?_
          rotate_left
          · intro x' hSx
            try dsimp only at hSx
            go_simp
            try with_reducible rfl
          try simp only [Act.put]
          refine wpAnyH_ready (rs := [5]) (by kernel_rfl) (by simp) ?_
          refine AllReadyH.cons rfl (fun K hK => ?_) AllReadyH.nil
          go_simp
          go_at_call 23
          refine (evalG (w := wr.drew) w.heap.size _ st A2 c2 hzw (SlAt.below HSW.out hzw (Below.refl _ _).drew) hl hsl HIX.out).mono ?_
          rw [HEVX.out]
          rintro e wv ⟨rfl, hbv⟩
          have HEV5 := Lib.hid hbv
          clear hbv
          refine hK.out _ _ (SS.out _ (below_of_drew HEV5.out)) (fun _ => ?_)
          clear hK K
          try simp only []
          refine wpAnyH_take (i := 6) (v := ?_) rfl (by kernel_rfl) (by kernel_rfl) (by kernel_rfl) (fun _ _ _ h => h) (Or.inl ⟨by rfl, ?_⟩) (by assumption) ?_
          rotate_left
          · intro x' hSx
            try dsimp only at hSx
            go_simp
            try with_reducible rfl
          try simp only [Act.put, List.setIfInBounds_toArray]
          refine wpAnyH_take (i := 7) (v := ?_) rfl (by kernel_rfl) (by kernel_rfl) (by kernel_rfl) (fun _ _ _ h => h) (Or.inl ⟨by rfl, ?_⟩) (by assumption) ?_
          rotate_left
          · intro x' hSx
            try dsimp only at hSx
            go_simp
            try with_reducible rfl
          try simp only [Act.put]
          refine wpAnyH_take (i := 8) (v := ?_) rfl (by kernel_rfl) (by kernel_rfl) (by kernel_rfl) (fun _ _ _ h => h) (Or.inl ⟨by rfl, ?_⟩) (by assumption) ?_
          rotate_left
          · intro x' hSx
            try dsimp only at hSx
            go_simp
            try with_reducible rfl
          try simp only [Act.put]
          refine wpAnyH_take (i := 9) (v := ?_) rfl (by kernel_rfl) (by kernel_rfl) (by kernel_rfl) (fun _ _ _ h => h) (Or.inl ⟨by rfl, ?_⟩) (by assumption) ?_
          rotate_left
          · intro x' hSx
            try dsimp only at hSx
            go_simp
            try with_reducible rfl
          try simp only [Act.put]
          refine wpAnyH_take (i := 10) (v := ?_) rfl (by kernel_rfl) (by kernel_rfl) (by kernel_rfl) (fun _ _ _ h => h) (Or.inl ⟨by rfl, ?_⟩) (by assumption) ?_
          rotate_left
          · intro x' hSx
            try dsimp only at hSx
            go_simp
            try with_reducible rfl
          try simp only [Act.put]
          refine wpAnyH_done (by kernel_rfl) ?_ _
          go_wp2_with fail
          go_roundw
          case rel => exact ⟨j + 1, _, by omega, by go_num, by first | rfl | go_num, by rw [HCT.out, ← HM.out]; simp, below_trans HBB.out (below_of_drew HEV5.out)⟩
          case measure => simp [intOf]; omega
      · have hje : j = sts.length := by omega
        have HMA := Lib.hid (show m = sts.countP hU by rw [HM.out, List.take_of_length_le (by omega)])
        have HQ1 := Lib.hid (HP1.out)
        have HQ2 := Lib.hid (HP2.out)
        rw [← HMA.out] at HQ1 HQ2
        have d1 := HQ1.out
        have d2 := HQ2.out
        have d3 : decide ((0 : Int) < (m : Int)) = decide (0 < m) := by simp
        have d4 : ((m : Int) == (sts.length : Int)) = decide (m = sts.length) := by rw [Bool.eq_iff_iff]; simp; omega
        rw [d1] at d3
        rw [d2] at d4
        have HD := Lib.hid (show True from trivial)
        clear hje
        go_wp2_with fail
        have hsn := sl_one (k := k) (t := t) (r := r) (v := v) rfl HSW.out hzw hl (.cells #[.int .i64 2, .int .i64 3, .int .i64 0, .int .i64 0, .string ⟨#[]⟩, .int .i64 0, .slice (some ⟨wr.heap.size, 0, none⟩) 1 1] 28 (0, 0))
        have HSN := Lib.hid hsn
        have HBQ := Lib.hid (below_alloc (alloc_b wr (.cells #[.int .i64 k, .int .i64 t, .int .i64 r, .string ⟨l.toArray⟩, .int .i64 v, .slice A kids.len cap] 26 (0, 0))) (.cells #[.int .i64 2, .int .i64 3, .int .i64 0, .int .i64 0, .string ⟨#[]⟩, .int .i64 0, .slice (some ⟨wr.heap.size, 0, none⟩) 1 1] 28 (0, 0)))
        have hbc := Blk.new (wr.alloc (.cells #[.int .i64 k, .int .i64 t, .int .i64 r, .string ⟨l.toArray⟩, .int .i64 v, .slice A kids.len cap] 26 (0, 0))) 28 #[.int .i64 2, .int .i64 3, .int .i64 0, .int .i64 0, .string ⟨#[]⟩, .int .i64 0, .slice (some ⟨wr.heap.size, 0, none⟩) 1 1]
        rw [show (wr.alloc (.cells #[.int .i64 k, .int .i64 t, .int .i64 r, .string ⟨l.toArray⟩, .int .i64 v, .slice A kids.len cap] 26 (0, 0))).heap.size = wr.heap.size + 1 by simp] at hbc
        have HBC := Lib.hid hbc
        have hzq : wr.heap.size + 1 ≤ ((wr.alloc (.cells #[.int .i64 k, .int .i64 t, .int .i64 r, .string ⟨l.toArray⟩, .int .i64 v, .slice A kids.len cap] 26 (0, 0))).alloc (.cells #[.int .i64 2, .int .i64 3, .int .i64 0, .int .i64 0, .string ⟨#[]⟩, .int .i64 0, .slice (some ⟨wr.heap.size, 0, none⟩) 1 1] 28 (0, 0))).heap.size := by simp
        have HAQ := Lib.hid (HAW.out.below HBQ.out)
        have HEQ := Lib.hid (HEW.out.mono HBQ.out)
        clear hsn hbc
        generalize hWQ : (wr.alloc (.cells #[.int .i64 k, .int .i64 t, .int .i64 r, .string ⟨l.toArray⟩, .int .i64 v, .slice A kids.len cap] 26 (0, 0))).alloc (.cells #[.int .i64 2, .int .i64 3, .int .i64 0, .int .i64 0, .string ⟨#[]⟩, .int .i64 0, .slice (some ⟨wr.heap.size, 0, none⟩) 1 1] 28 (0, 0)) = WQ at *
        clear hWQ
        by_cases hE2 : checkC 2 2 3 0 0 [] 0 (.cons k t r l v kids .nil) = 0
        · have HE2 := Lib.hid hE2
          have HJX := Lib.hid (HJN.out hE2)
          clear hE2
          refine (checkR 2 2 3 0 0 [] 0 _ _ _ (by simp) (HSN.out.up hzq)).mono ?_
          rw [HE2.out]
          rintro e wv ⟨rfl, hbv⟩
          have HBV := Lib.hid hbv
          have HBC2 := Lib.hid (HBC.out.go hbv)
          have HSV := Lib.hid (HSN.out.below hzq hbv)
          have HAV := Lib.hid (HAQ.out.below hbv)
          have HEV2 := Lib.hid (HEQ.out.mono hbv)
          have hzv : wr.heap.size + 1 ≤ wv.heap.size := Nat.le_trans hzq hbv.size
          have g0 := HBC2.out.cell 0
          have g1 := HBC2.out.cell 1
          have g2 := HBC2.out.cell 2
          have g3 := HBC2.out.cell 3
          have g4 := HBC2.out.cell 4
          have g5 := HBC2.out.cell 5
          have g6 := HBC2.out.cell 6
          clear hbv
          go_wp2_with (first
            | (go_at_call 33; refine (judgeG (l := []) (wr.heap.size + 1) _ sts As cs hzv HSV.out (by simp) hst HAV.out).mono ?_; rw [HJX.out]; rintro e wu ⟨rfl, hbu⟩; have HBU := Lib.hid hbu; have HEU := Lib.hid (HEV2.out.mono hbu); clear hbu)
            | (go_at_call 16; refine (awakeP HEU.out).mono ?_; rintro e wy ⟨rfl, hby⟩))
          go_ret
          exact ⟨by simp, below_trans HTW.out (below_trans HBQ.out (below_trans HBV.out (below_trans HBU.out hby)))⟩
        · obtain ⟨E2, hEE⟩ : ∃ E2, checkC 2 2 3 0 0 [] 0 (.cons k t r l v kids .nil) = E2 := ⟨_, rfl⟩
          rw [hEE] at hE2
          have HE2 := Lib.hid hEE
          have e2 : (E2 != 0) = true := by simpa using hE2
          clear hE2 hEE
          refine (checkR 2 2 3 0 0 [] 0 _ _ _ (by simp) (HSN.out.up hzq)).mono ?_
          rw [HE2.out]
          rintro e wv ⟨rfl, hbv⟩
          have HBV := Lib.hid hbv
          have HEV2 := Lib.hid (HEQ.out.mono hbv)
          clear hbv
          go_wp2_with (go_at_call 16; refine (awakeP HEV2.out).mono ?_; rintro e wy ⟨rfl, hby⟩)
          go_ret
          exact ⟨rfl, below_trans HTW.out (below_trans HBQ.out (below_trans HBV.out hby))⟩
theorem walkDuals (q k t r : Int) (l : List UInt8) (v : Int) (kv : Value) (kids : Fr) (As : Option Addr) (cs : Nat) (sts : List (List Int)) (w : World) (hl : l.length ≤ 9223372036854775807) (hs : SlAt w w.heap.size kv kids) (hst : sts.length ≤ 9223372036854775806) (hA : StsAt w As sts) (hE : Env w) :
    Calls Tryz.prog 11 #[condV q k t r l v kv, .slice As sts.length cs] w fun e w' => e = .returned (.bool true) ∧ Below w.heap.size w w' := by
  obtain ⟨A, cap, rfl, s'⟩ := hs
  have hs2 : SlAt w w.heap.size (.slice A kids.len cap) kids := ⟨A, cap, rfl, s'⟩
  by_cases hck : checkC 2 q k t r l v kids = 0
  · cases hn : sts.all (fun st => numsB st (thsU (atL k t r l ++ atomsF kids)).length) with
    | false => exact duals_arg A cap As cs sts hl hs2 hst hA hE hck hn
    | true => exact duals_go A cap As cs sts hl hs2 hst hA hE hck hn _ _ rfl rfl
  · exact duals_bad A cap As cs sts hl hs2 hst hA hE hck
end
end Go.Proofs.YtmlnibjnacfanaaGreatDoor
