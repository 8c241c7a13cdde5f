/- Layer 8: the condition that things have their values holds of these values alone: plain. -/
import Derived.Test.YtmlnibjnacfanaaGreatDoorJl
import Derived.Test.YtmlnibjnacfanaaGreatDoorJh
namespace Go.Proofs.YtmlnibjnacfanaaGreatDoor
open Go.RowKit

theorem frOf_atoms : ∀ (T : List Th) (vs : List Int), T.length = vs.length → atomsF (frOf ((T.zip vs).map atomN)) = T
  | [], [], _ => rfl
  | [], _ :: _, h => by simp at h
  | _ :: _, [], h => by simp at h
  | x :: T, v :: vs, h => by
    have := frOf_atoms T vs (by simpa using h)
    simp [frOf, Nd.on, atomN, atomsF, atL, this]
theorem all_atoms (T : List Th) (vs : List Int) (h : T.length = vs.length) : atL (allN ((T.zip vs).map atomN)).k (allN ((T.zip vs).map atomN)).t (allN ((T.zip vs).map atomN)).r (allN ((T.zip vs).map atomN)).l ++ atomsF (allN ((T.zip vs).map atomN)).kids = T := by
  match T, vs, h with
  | [], [], _ => rfl
  | [x], [v], _ => rfl
  | x :: y :: T, u :: v :: vs, h =>
    have := frOf_atoms (x :: y :: T) (u :: v :: vs) h
    rw [show allN (((x :: y :: T).zip (u :: v :: vs)).map atomN) = ⟨4, 0, 0, [], 0, frOf (((x :: y :: T).zip (u :: v :: vs)).map atomN)⟩ from rfl]
    show atL 4 0 0 [] ++ _ = _
    rw [this]; rfl
theorem walk_atoms : ∀ (Z : List (Th × Int)) (met : Nat), Z.all okP = true → met + Z.length ≤ 1024 → walkF 2 (frOf (Z.map atomN)) met 1 = (met + Z.length, 0)
  | [], met, _, _ => by simp [frOf, walkF]
  | p :: Z, met, h, hm => by
    simp only [List.all_cons, Bool.and_eq_true, List.length_cons] at h hm
    have ih := walk_atoms Z (met + 1) h.2 (by omega)
    have ho : ownB 2 2 p.1.1 p.1.2.1 p.1.2.2 p.2 0 = true := by unfold ownB; rw [if_pos rfl]; have := h.1; unfold okP at this; rw [this]; rfl
    show walkF 2 (.cons 2 p.1.1 p.1.2.1 p.1.2.2 p.2 .nil (frOf (Z.map atomN))) met 1 = _
    unfold walkF
    rw [if_neg (by omega), if_neg (by rw [show Fr.nil.len = 0 from rfl, ho]; simp)]
    simp only [walkF, if_true, ih, List.length_cons, Prod.mk.injEq, and_true]
    omega
theorem check_all (T : List Th) (vs : List Int) (h : T.length = vs.length) (hb : T.length ≤ 1023) (hok : (T.zip vs).all okP = true) :
    checkC 2 1 (allN ((T.zip vs).map atomN)).k (allN ((T.zip vs).map atomN)).t (allN ((T.zip vs).map atomN)).r (allN ((T.zip vs).map atomN)).l (allN ((T.zip vs).map atomN)).v (allN ((T.zip vs).map atomN)).kids = 0 := by
  unfold checkC
  rw [if_neg (by decide), if_neg (by decide)]
  match T, vs, h with
  | [], [], _ => decide
  | [x], [v], _ =>
    have ho : ownB 2 2 x.1 x.2.1 x.2.2 v 0 = true := by
      simp only [List.zip_cons_cons, List.zip_nil_right, List.all_cons, List.all_nil, Bool.and_true] at hok
      unfold ownB; rw [if_pos rfl]; unfold okP at hok; rw [hok]; rfl
    show (walkN 2 2 x.1 x.2.1 x.2.2 v .nil 0 0).2 = 0
    rw [walkN_go (by omega) ho]; rfl
  | x :: y :: T, u :: v :: vs, h =>
    have hz : ((x :: y :: T).zip (u :: v :: vs)).length = (x :: y :: T).length := by simp at h ⊢; omega
    rw [show allN (((x :: y :: T).zip (u :: v :: vs)).map atomN) = ⟨4, 0, 0, [], 0, frOf (((x :: y :: T).zip (u :: v :: vs)).map atomN)⟩ from rfl]
    show (walkN 2 4 0 0 [] 0 (frOf (((x :: y :: T).zip (u :: v :: vs)).map atomN)) 0 0).2 = 0
    have ho : ownB 2 4 0 0 [] 0 (frOf (((x :: y :: T).zip (u :: v :: vs)).map atomN)).len = true := by
      rw [frOf_len, List.length_map, hz]
      simp [ownB, zeroB]
    rw [walkN_go (by omega) ho, walk_atoms _ 1 hok (by rw [hz]; omega)]
theorem thsU_self {T : List Th} (hv : ∀ x ∈ T, vthB x) (hs : Str T) : thsU T = T :=
  str_unique (fun x hx => hv x (thsU_sub T x hx)) (thsU_str hv) hs (fun x => thsU_mem T x)
theorem hL_atoms (f : Th → Int) : ∀ Z : List (Th × Int), hL f (frOf (Z.map atomN)) = Z.map fun p => decide (f p.1 = p.2)
  | [] => rfl
  | p :: Z => by
    have := hL_atoms f Z
    show hOf f 2 p.1.1 p.1.2.1 p.1.2.2 p.2 [] :: hL f (frOf (Z.map atomN)) = _
    rw [this]
    rfl
theorem all_same (T : List Th) (st vs : List Int) (hn : T.Nodup) (h1 : T.length = vs.length) (h2 : st.length = T.length) : (T.zip vs).all (fun p => decide (valG T st (fun _ => 0) p.1 = p.2)) = decide (st = vs) := by
  rw [Bool.eq_iff_iff, List.all_eq_true, decide_eq_true_iff]
  constructor
  · intro h
    refine List.ext_getElem (by omega) fun i hi1 hi2 => ?_
    have hz : (T.zip vs)[i]? = some (T[i], vs[i]) := zip_at (List.getElem?_eq_getElem (by omega)) (List.getElem?_eq_getElem hi2)
    have := h _ (List.mem_of_getElem? hz)
    simp only [decide_eq_true_eq] at this
    rw [← this]
    exact (valG_at T st _ i T[i] st[i] hn (List.getElem?_eq_getElem (by omega)) (List.getElem?_eq_getElem hi1)).symm
  · rintro rfl p hp
    obtain ⟨i, hi, hpi⟩ := List.mem_iff_getElem.1 hp
    simp only [List.length_zip] at hi
    have hz : (T.zip st)[i]? = some (T[i], st[i]) := zip_at (List.getElem?_eq_getElem (by omega)) (List.getElem?_eq_getElem (by omega))
    have hp2 : p = (T[i], st[i]) := by
      have := List.getElem?_eq_getElem (l := T.zip st) (i := i) (by simp; omega)
      rw [hz] at this
      simp only [Option.some.injEq] at this
      rw [this]; exact hpi.symm
    subst hp2
    simp only [decide_eq_true_eq]
    exact valG_at T st _ i T[i] st[i] hn (List.getElem?_eq_getElem (by omega)) (List.getElem?_eq_getElem (by omega))
/-- What Eval answers at that condition. -/
theorem picks_eval (T : List Th) (vs st : List Int) (hv : ∀ x ∈ T, vthB x) (hs : Str T) (hn : T.Nodup) (h : T.length = vs.length) (hb : T.length ≤ 1023) (hok : (T.zip vs).all okP = true) :
    evalU 1 (allN ((T.zip vs).map atomN)).k (allN ((T.zip vs).map atomN)).t (allN ((T.zip vs).map atomN)).r (allN ((T.zip vs).map atomN)).l (allN ((T.zip vs).map atomN)).v (allN ((T.zip vs).map atomN)).kids st = if numsB st T.length then (decide (st = vs), 0) else (false, 1) := by
  unfold evalU
  rw [if_pos (check_all T vs h hb hok), all_atoms T vs h, thsU_self hv hs]
  split
  · rename_i hnb
    have hl : st.length = T.length := by
      unfold numsB at hnb
      simp only [Bool.and_eq_true, decide_eq_true_eq] at hnb
      exact hnb.1
    congr 1
    unfold holdsU
    rw [all_atoms T vs h, thsU_self hv hs, ← all_same T st vs hn h hl]
    match T, vs, h with
    | [], [], _ => rfl
    | [x], [v], _ =>
      show hOf _ 2 x.1 x.2.1 x.2.2 v [] = _
      simp [hOf]
    | x :: y :: T, u :: v :: vs, h =>
      rw [show allN (((x :: y :: T).zip (u :: v :: vs)).map atomN) = ⟨4, 0, 0, [], 0, frOf (((x :: y :: T).zip (u :: v :: vs)).map atomN)⟩ from rfl]
      show hOf _ 4 0 0 [] 0 (hL _ (frOf (((x :: y :: T).zip (u :: v :: vs)).map atomN))) = _
      rw [hL_atoms]
      simp [hOf]
  · rfl
end Go.Proofs.YtmlnibjnacfanaaGreatDoor
