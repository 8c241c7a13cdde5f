/- Layer 22: a machine at a test's beginning: the program's New. -/
import Derived.Test.YtjhafgnmahhacaaGreatDoorTe45
import Derived.Test.YtjhafgnmahhacaaGreatDoorTe46

namespace Go.Proofs.YtjhafgnmahhacaaGreatDoor
open Go.RowKit
section
theorem madeV (n : Nat) : madeCells #[.string ⟨#[]⟩, .int .i64 0] (n * 2) = (encV.flat (List.replicate n (([] : List UInt8), (0 : Int)))).toArray := by
  apply Array.ext'
  apply List.ext_getElem?
  intro m
  have hl : (encV.flat (List.replicate n (([] : List UInt8), (0 : Int)))).length = n * 2 := by rw [encV.flat_len, List.length_replicate]
  by_cases hm : m < n * 2
  · have h1 : m / 2 < n := by omega
    have h2 : (List.replicate n (([] : List UInt8), (0 : Int)))[m / 2]? = some ([], 0) := by simp [h1]
    have h3 := encV.flat_at h2 (show m % 2 < 2 by omega)
    rw [show m / 2 * encV.size + m % 2 = m by show m / 2 * 2 + m % 2 = m; omega] at h3
    show _ = (encV.flat (List.replicate n (([] : List UInt8), (0 : Int))))[m]?
    rw [h3]
    unfold madeCells
    have hc : m % 2 = 0 ∨ m % 2 = 1 := by omega
    rcases hc with hc | hc <;> simp [hc, hm]
  · rw [List.getElem?_eq_none (by simp [madeCells]; omega), List.getElem?_eq_none (by simp [hl]; omega)]
theorem infoVl : (Tryz.prog.info? 68).map (fun i => (i.zero, i.size, i.bytes)) = some (some (.agg #[.string ⟨#[]⟩, .int .i64 0]), 2, 24) := by kernel_rfl
theorem mk_vals (n : Nat) (hn : n ≤ 1000) (w : World) : (Instr.makeSlice 58 (.int .i64 (n : Int)) (.int .i64 (n : Int))).run Tryz.prog w = .ok (.slice (some ⟨w.heap.size, 0, none⟩) n n) (w.alloc (.cells (encV.flat (List.replicate n (([] : List UInt8), (0 : Int)))).toArray 68 (0, 0))) := by
  obtain ⟨i0, hi, hz0, hz1, hz2⟩ := info_partsM infoVl
  have h := run_make (P := Tryz.prog) w 58 68 i0 _ Tryz.underlying58 hi hz0 .i64 .i64 (n : Int) (n : Int) (by omega) (Int.le_refl _) (by rw [hz2]; omega) (by omega)
  rw [h, hz1]
  simp only [Int.toNat_natCast]
  rw [show (Value.agg #[.string ⟨#[]⟩, .int .i64 0]).cells = #[.string ⟨#[]⟩, .int .i64 0] from rfl, ← madeV]
theorem rowB_own {α : Type} {E : Enc α} {t : TypeId} {B : Nat} {w : World} {v : Value} {l : List α} (h : RowB E t B w v l) (hl : l.length ≤ 1000000) : E.Own t B w v l := by
  obtain ⟨q, rfl, hb, hq⟩ := h
  refine ⟨E.flat_len l, .inr ⟨q, l.length, (E.flat l).toArray, rfl, hq, hb, Nat.le_refl _, by unfold maxLen; omega, ?_, ?_⟩⟩
  · rw [List.size_toArray, E.flat_len]
  · rw [← E.flat_len, List.take_length]
theorem thCells_flat : ∀ l : List Th, thCells l = encTh.flat l
  | [] => rfl
  | x :: r => by
    rw [Enc.flat_cons, ← thCells_flat r]
    rfl
/-- A thread's registers at its beginning. -/
def initV (n : Nat) (k : Nat) (init : List Ini) : List (List UInt8 × Int) := init.foldl (fun l x => if x.th = (k : Int) then l.set x.rg.toNat (x.vl, x.vn) else l) (List.replicate n ([], 0))
def tdK (n : Nat) (init : List Ini) (k : Nat) : BTd := ⟨initV n k init, 0, []⟩
/-- The machine at a test's beginning. -/
def initM (T : Tst) : BMc := ⟨T.arch, T.code, locsT T, thsT T, firL (locsT T) T.init, (List.range T.code.length).map (tdK (nregs (isR T)) T.init)⟩
/-- The machine while it is made: j threads; i lines of the first state. -/
def mkM (T : Tst) (j i : Nat) : BMc := ⟨T.arch, T.code.take j, locsT T, thsT T, firL (locsT T) T.init, (List.range j).map (tdK (nregs (isR T)) (T.init.take i))⟩
theorem initV_len (n k : Nat) (init : List Ini) : (initV n k init).length = n := by
  unfold initV
  have key : ∀ (l : List Ini) (v : List (List UInt8 × Int)), (l.foldl (fun l x => if x.th = (k : Int) then l.set x.rg.toNat (x.vl, x.vn) else l) v).length = v.length := by
    intro l
    induction l with
    | nil => intro v; rfl
    | cons x l ih =>
      intro v
      rw [List.foldl_cons, ih]
      split <;> simp
  rw [key, List.length_replicate]
theorem initV_snoc (n k : Nat) (l : List Ini) (x : Ini) : initV n k (l ++ [x]) = if x.th = (k : Int) then (initV n k l).set x.rg.toNat (x.vl, x.vn) else initV n k l := by
  unfold initV
  rw [List.foldl_append]
  rfl
theorem tds_set (n N k : Nat) (l : List Ini) (x : Ini) (hk : x.th = (k : Int)) : (List.range N).map (tdK n (l ++ [x])) = ((List.range N).map (tdK n l)).set k { tdK n l k with vs := (tdK n l k).vs.set x.rg.toNat (x.vl, x.vn) } := by
  apply List.ext_getElem?
  intro j
  rw [List.getElem?_map, List.getElem?_set]
  by_cases hj : j < N
  · rw [List.getElem?_range hj]
    by_cases e : k = j
    · subst e
      rw [if_pos rfl, if_pos (by simpa using hj)]
      simp only [Option.map_some, tdK, initV_snoc, if_pos hk]
    · rw [if_neg e, List.getElem?_map, List.getElem?_range hj]
      simp only [Option.map_some, tdK, initV_snoc]
      rw [if_neg (by omega)]
  · rw [List.getElem?_eq_none (by simpa using hj)]
    by_cases e : k = j
    · subst e
      rw [if_pos rfl, if_neg (by simpa using hj)]
      rfl
    · rw [if_neg e, List.getElem?_eq_none (by simpa using hj)]
      rfl
theorem tds_same (n N : Nat) (l : List Ini) (x : Ini) (hk : x.th < 0) : (List.range N).map (tdK n (l ++ [x])) = (List.range N).map (tdK n l) := by
  apply List.map_congr_left
  intro j _
  simp only [tdK, initV_snoc]
  rw [if_neg (by omega)]
theorem firL_lenB (locs : List Nm) (init : List Ini) : (firL locs init).length = locs.length := by
  unfold firL
  have key : ∀ (l : List Ini) (m : List Int), (l.foldl (firS locs) m).length = m.length := by
    intro l
    induction l with
    | nil => intro m; rfl
    | cons x l ih =>
      intro m
      rw [List.foldl_cons, ih]
      unfold firS
      split <;> simp
  rw [key]
  simp
theorem mkM_end (T : Tst) : mkM T T.code.length T.init.length = initM T := by unfold mkM initM; rw [List.take_length, List.take_length]
theorem traceL_ok2 {T : Tst} {a : Tr} (h : traceL T = .ok a) : fileE T = 0 := by
  refine Decidable.byContradiction fun hE => ?_
  unfold traceL at h
  rw [if_pos hE] at h
  cases h
section
set_option maxHeartbeats 8000000
set_option maxRecDepth 100000
/-- What New answers of a test that traces. -/
def NewPo (T : Tst) (w : World) (e : Ending) (w' : World) : Prop := ∃ g V, e = .returned (.tuple #[.pointer (some ⟨g, 0, none⟩), .int .i64 0]) ∧ BufAt w' w.heap.size g (initM T) V ∧ Below w.heap.size w w'
theorem newP (T : Tst) (Ai Ac : Option Addr) (ci cc : Nat) (kv : Value) (w : World) (hT : TstAt w T Ai Ac kv) (a : Tr) (ha : traceL T = .ok a) :
    Calls Tryz.prog 37 #[testV T (.slice Ai T.init.length ci) (.slice Ac T.code.length cc) kv] w (NewPo T w) := by
  obtain ⟨A0, l0, q0, rfl⟩ : ∃ A n c, kv = .slice A n c := by obtain ⟨A, cap, e, _⟩ := hT.kids; exact ⟨A, _, cap, e⟩
  simp only [testV]
  have hB0 := alloc_b w (.cells #[.int .i64 T.arch, .string ⟨T.name.toArray⟩, .string ⟨T.cycle.toArray⟩, .slice Ai T.init.length ci, .slice Ac T.code.length cc, .int .i64 T.q, .int .i64 T.k, .int .i64 T.t, .int .i64 T.r, .string ⟨T.l.toArray⟩, .int .i64 T.v, .slice A0 l0 q0] 32 (0, 0))
  have HTB := Lib.hid (Blk.new w 32 #[.int .i64 T.arch, .string ⟨T.name.toArray⟩, .string ⟨T.cycle.toArray⟩, .slice Ai T.init.length ci, .slice Ac T.code.length cc, .int .i64 T.q, .int .i64 T.k, .int .i64 T.t, .int .i64 T.r, .string ⟨T.l.toArray⟩, .int .i64 T.v, .slice A0 l0 q0])
  have HT := Lib.hid (hT.below hB0)
  have HOf := Lib.hid (ofP T Ai Ac ci cc (.slice A0 l0 q0) (w.alloc (.cells #[.int .i64 T.arch, .string ⟨T.name.toArray⟩, .string ⟨T.cycle.toArray⟩, .slice Ai T.init.length ci, .slice Ac T.code.length cc, .int .i64 T.q, .int .i64 T.k, .int .i64 T.t, .int .i64 T.r, .string ⟨T.l.toArray⟩, .int .i64 T.v, .slice A0 l0 q0] 32 (0, 0))) (hT.below hB0))
  have hE := (traceL_ok2 ha)
  have HB0 := Lib.hid hB0
  have HA := Lib.hid ha
  have hz0 : (w.alloc (.cells #[.int .i64 T.arch, .string ⟨T.name.toArray⟩, .string ⟨T.cycle.toArray⟩, .slice Ai T.init.length ci, .slice Ac T.code.length cc, .int .i64 T.q, .int .i64 T.k, .int .i64 T.t, .int .i64 T.r, .string ⟨T.l.toArray⟩, .int .i64 T.v, .slice A0 l0 q0] 32 (0, 0))).heap.size = w.heap.size + 1 := by simp
  simp only [testV] at HOf
  have HT0 := Lib.hid hT
  clear hT hB0 ha
  go_enter Tryz.func37, Tryz.ntmps37
  go_wp2_with (go_at_call 15; refine HOf.out.mono ?_; rintro e w1 ⟨h1, hb1⟩; rw [HA.out] at h1; obtain ⟨O, V, rfl, hO⟩ := h1; refine Hid.out ?_)
  refine Lib.hid ?_
  obtain ⟨vlo, vini, vev, vbr, vad, vda, vct, vth, ven⟩ := V
  obtain ⟨A1, n1, c1, rfl⟩ : ∃ A n c, vlo = .slice A n c := own_shp3 hO.lo
  obtain ⟨A2, n2, c2, rfl⟩ : ∃ A n c, vini = .slice A n c := by obtain ⟨q, e, _⟩ := hO.ini; exact ⟨_, _, _, e⟩
  obtain ⟨A3, n3, c3, rfl⟩ : ∃ A n c, vev = .slice A n c := own_shp3 hO.ev
  obtain ⟨A4, n4, c4, rfl⟩ : ∃ A n c, vbr = .slice A n c := own_shp3 hO.br
  obtain ⟨A5, n5, c5, rfl⟩ : ∃ A n c, vad = .slice A n c := own_shp3 hO.ad
  obtain ⟨A6, n6, c6, rfl⟩ : ∃ A n c, vda = .slice A n c := own_shp3 hO.da
  obtain ⟨A7, n7, c7, rfl⟩ : ∃ A n c, vct = .slice A n c := own_shp3 hO.ct
  obtain ⟨A8, n8, c8, rfl⟩ : ∃ A n c, vth = .slice A n c := own_shp3 hO.th
  obtain ⟨A9, n9, c9, rfl⟩ : ∃ A n c, ven = .slice A n c := by obtain ⟨q, e, _⟩ := hO.en; exact ⟨_, _, _, e⟩
  have hbw1 := below_trans HB0.out hb1
  have hz1 := hb1.size
  obtain ⟨cs, hcs⟩ : ∃ cs : Array Value, cs = #[.slice A1 n1 c1, .slice A2 n2 c2, .slice A3 n3 c3, .slice A4 n4 c4, .slice A5 n5 c5, .slice A6 n6 c6, .slice A7 n7 c7, .slice A8 n8 c8, .slice A9 n9 c9] := ⟨_, rfl⟩
  have HW1 := Lib.hid hbw1
  have HTB1 := Lib.hid (HTB.out.go hb1)
  have HT1 := Lib.hid (HT.out.below hb1)
  have HLo := Lib.hid (show encS.Own 9 w.heap.size w1 (.slice A1 n1 c1) (locsT T) from own_lowE hO.lo (by omega))
  have HIn := Lib.hid (show encI.Own 3 w.heap.size w1 (.slice A2 n2 c2) (firL (locsT T) T.init) from own_lowE (rowB_own hO.ini (by show (firL (locsT T) T.init).length ≤ 1000000; rw [firL_lenB]; exact Nat.le_trans (fileE_small hE).2.1 (by decide))) (by omega))
  have HTh := Lib.hid (show encTh.Own 25 w.heap.size w1 (.slice A8 n8 c8) (thsT T) from own_lowE (thCells_flat (thsT T) ▸ hO.th) (by omega))
  have HTr := Lib.hid (Blk.new w1 41 #[.slice A1 n1 c1, .slice A2 n2 c2, .slice A3 n3 c3, .slice A4 n4 c4, .slice A5 n5 c5, .slice A6 n6 c6, .slice A7 n7 c7, .slice A8 n8 c8, .slice A9 n9 c9])
  have tb0 := HTB1.out.cl 0
  have tb3 := HTB1.out.cl 3
  have tb4 := HTB1.out.cl 4
  have tbz := HTB1.out.lt
  clear hO hb1 hbw1
  have hra := isR_eq (fileE_small hE).2.2.1
  have hks := (codE_zero (fileE_small hE).2.2.2.1)
  have HKs := Lib.hid hks
  have hkl := hks.1
  have HOI := Lib.hid (fun (x : Ini) (hx : x ∈ T.init) => okI_of hE hx)
  clear hks hE
  rcases hra with ⟨h1, h2⟩ | ⟨h1, h2⟩
  · have g1 : (T.arch == 2) = false := by rw [h1]; rfl
    obtain ⟨nr, hnr⟩ : ∃ nr : Nat, nr = 15 := ⟨_, rfl⟩
    have HNr := Lib.hid (show nregs (isR T) = nr by rw [h2, hnr]; rfl)
    have h15 : (15 : Int) = (nr : Int) := by rw [hnr]; rfl
    have hnm : nr ≤ 32 := by omega
    clear h1 h2 hnr
    go_wp2_with fail
    rw [h15]
    clear h15
    have HB2 := Lib.hid (below_2 w1 (.cells #[.slice A1 n1 c1, .slice A2 n2 c2, .slice A3 n3 c3, .slice A4 n4 c4, .slice A5 n5 c5, .slice A6 n6 c6, .slice A7 n7 c7, .slice A8 n8 c8, .slice A9 n9 c9] 41 (0, 0)) (.cells #[.int .i64 T.arch, .slice none 0 0, .slice A1 n1 c1, .slice A8 n8 c8, .slice A2 n2 c2, .slice none 0 0] 84 (0, 0)))
    have HM0 := Lib.hid (show BufAt ((w1.alloc (.cells #[.slice A1 n1 c1, .slice A2 n2 c2, .slice A3 n3 c3, .slice A4 n4 c4, .slice A5 n5 c5, .slice A6 n6 c6, .slice A7 n7 c7, .slice A8 n8 c8, .slice A9 n9 c9] 41 (0, 0))).alloc (.cells #[.int .i64 T.arch, .slice none 0 0, .slice A1 n1 c1, .slice A8 n8 c8, .slice A2 n2 c2, .slice none 0 0] 84 (0, 0))) w.heap.size (w1.heap.size + 1) (mkM T 0 0) ⟨.slice none 0 0, .slice A1 n1 c1, .slice A8 n8 c8, .slice A2 n2 c2, .slice none 0 0, [], [], fun _ => .slice none 0 0, fun _ => .slice none 0 0⟩ from
      ⟨blkN2 w1 _ _ _, by omega, Enc.Own.nil _ _ _, fun k c hc => by simp [mkM] at hc, own_below HLo.out HB2.out, own_below HTh.out HB2.out, own_below HIn.out HB2.out, Enc.Own.nil _ _ _, by simp [mkM], by simp [mkM], fun k t ht => by simp [mkM] at ht, fun i j bi bj _ hi => by simp at hi⟩)
    have HW2 := Lib.hid (below_trans HW1.out HB2.out)
    have HTB2 := Lib.hid (HTB1.out.go HB2.out)
    generalize (w1.alloc (.cells #[.slice A1 n1 c1, .slice A2 n2 c2, .slice A3 n3 c3, .slice A4 n4 c4, .slice A5 n5 c5, .slice A6 n6 c6, .slice A7 n7 c7, .slice A8 n8 c8, .slice A9 n9 c9] 41 (0, 0))).alloc (.cells #[.int .i64 T.arch, .slice none 0 0, .slice A1 n1 c1, .slice A8 n8 c8, .slice A2 n2 c2, .slice none 0 0] 84 (0, 0)) = W2 at *
    generalize w1.heap.size + 1 = g at *
    clear HLo HTh HIn HTr HB2 HTB1 tb0 tb3 tb4 tbz HOf HT HTB hcs cs HA
    go_loopw [38] (fun i wr => ∃ (j : Nat) (V : BMv), j ≤ T.code.length ∧ i = .int .i64 j ∧ BufAt wr w.heap.size g (mkM T j 0) V ∧ Below w.heap.size w wr ∧ Blk wr w.heap.size 32 #[.int .i64 T.arch, .string ⟨T.name.toArray⟩, .string ⟨T.cycle.toArray⟩, .slice Ai T.init.length ci, .slice Ac T.code.length cc, .int .i64 T.q, .int .i64 T.k, .int .i64 T.t, .int .i64 T.r, .string ⟨T.l.toArray⟩, .int .i64 T.v, .slice A0 l0 q0]) (fun i _ => T.code.length - (intOf i).toNat)
    case atStart => exact ⟨0, _, Nat.zero_le _, rfl, HM0.out, HW2.out, HTB2.out⟩
    case round =>
      obtain ⟨j, V, hj, rfl, hM, hbw, htb⟩ := hrel
      have HM := Lib.hid hM
      have HW := Lib.hid hbw
      have HTb := Lib.hid htb
      have hgr := hM.blk.lt
      have hzr := hbw.size
      have htr := htb.lt
      by_cases hjN : j < T.code.length
      · have hx := List.getElem?_eq_getElem hjN
        obtain ⟨c, hce⟩ : ∃ c, T.code[j] = c := ⟨_, rfl⟩
        rw [hce] at hx
        have HX := Lib.hid hx
        obtain ⟨cb, co, Ax, cx, rfl, d0, hins, hcl, hcx⟩ := (HT0.out.below hbw).code j c hx
        have hc256 := (HKs.out.2.2 j c hx).1
        have HIn := Lib.hid hins
        have HNext := Lib.hid (show (mkM T (j + 1) 0).code = (mkM T j 0).code ++ [c] ∧ (mkM T (j + 1) 0).tds = (mkM T j 0).tds ++ [⟨List.replicate nr ([], 0), 0, []⟩] from by
          refine ⟨?_, ?_⟩
          · show T.code.take (j + 1) = T.code.take j ++ [c]
            rw [List.take_succ_eq_append_getElem hjN, hce]
          · show (List.range (j + 1)).map _ = (List.range j).map _ ++ _
            rw [List.range_succ, List.map_append, HNr.out]
            rfl)
        have hcw := World.block_lt_of_cell? wr _ d0
        have y1 : (0 : Int) ≤ (j : Int) := by omega
        have y2 : (j : Int) < (T.code.length : Int) := by omega
        obtain ⟨Ac1, nc1, cc1, ecv⟩ : ∃ A n c, V.cv = .slice A n c := own_shp3 hM.code
        obtain ⟨Ap1, np1, cp1, epv⟩ : ∃ A n c, V.pv = .slice A n c := own_shp3 hM.ptr
        have k1 : wr.cell? ⟨g, 1, none⟩ = some (.slice Ac1 nc1 cc1) := by rw [← ecv]; exact hM.blk.cl 1
        have k5 : wr.cell? ⟨g, 5, none⟩ = some (.slice Ap1 np1 cp1) := by rw [← epv]; exact hM.blk.cl 5
        have HCl := Lib.hid (cloneNP Ax cx c wr.drew hins hc256)
        clear hM hbw htb hx hce hins
        go_wp2_with fail
        refine wz (fun y : World => y.cell? ⟨g, 1, none⟩ = some (.slice Ac1 nc1 cc1)) [4, 6, 7] k1 (fun hHeld => ?_)
        refine wq 0 ?_
        refine wq 1 ?_
        refine wq 2 ?_
        refine wq 3 ?_
        refine wq 5 ?_
        refine wt 4 (by assumption) ?_
        refine wpE_one (i := 6) (by kernel_rfl) rfl (fun K hK => ?_)
        go_simp
        refine HCl.out.mono ?_
        rintro e w3 ⟨Ar, cr, rfl, hrow, hb3⟩
        have hb3 : Below wr.heap.size wr w3 := below_of_drew hb3
        have k1 := cell_go k1 hb3
        refine hK.out _ _ k1 ?_
        clear hK K
        refine pu ?_
        refine wpE_one (i := 7) (by kernel_rfl) rfl (fun K hK => ?_)
        go_simp
        refine hK.out _ _ (cell_al k1 _) ?_
        clear hK K
        refine pu ?_
        refine wl 8 ?_
        have HB3 := Lib.hid (below_trans hb3 (alloc_b w3 (.cells #[.slice Ar c.length cr] 62 (0, 0))))
        have hcode : encA.Own 62 w.heap.size (w3.alloc (.cells #[.slice Ar c.length cr] 62 (0, 0))) (.slice Ac1 nc1 cc1) V.cr := by rw [← ecv]; exact own_below HM.out.code HB3.out
        have hcrl : V.cr.length = j := by rw [HM.out.crl]; show (T.code.take j).length = j; rw [List.length_take]; omega
        have hz3 := HB3.out.size
        have hrow2 := own_below hrow (alloc_b w3 (.cells #[.slice Ar c.length cr] 62 (0, 0)))
        refine Enc.appW elemA _ rfl (.tmp 46) (.tmp 49) rfl [(Ar, c.length, cr)] w.heap.size V.cr (.slice Ac1 nc1 cc1) w3.heap.size 0 1 rfl rfl (oneAt encA w3 _ _) hcode (by simp; omega) (by simp; omega) (by omega) ?_
        intro v' w4 hown hg
        obtain ⟨Ac2, nc2, cc2, rfl⟩ := own_shp3 hown
        have HM5 := Lib.hid ((HM.out.below HB3.out).addCode (ecv ▸ hg) hown (own_lowE hrow2 (by have : wr.drew.heap.size = wr.heap.size := rfl; omega)))
        have hb4 := blk_ty (own_tyf hcode) (grew_chg hg) (HM.out.below HB3.out).blk (by decide)
        have HW5 := Lib.hid ((HW.out.trans (HB3.out.mono hzr)).trans hg.below)
        have HTb4 := Lib.hid (blk_ty (own_tyf hcode) (grew_chg hg) (HTb.out.go HB3.out) (by decide))
        have d1 := hb4.cl 1
        have df := hb4.frozen 1
        have hg4 := hb4.lt
        have HTb5 := Lib.hid (HTb4.out.far (p := ⟨g, 1, none⟩) (blk_ne HTb4.out hb4 (by decide)) (.slice Ac2 nc2 cc2))
        have HW5b := Lib.hid (HW5.out.setCell (p := ⟨g, 1, none⟩) HM5.out.hg (.slice Ac2 nc2 cc2))
        clear hown hg hb4 hcode hrow hrow2 hb3 HTb4 HW5 HCl hcrl
        go_wp2_with fail
        generalize w4.setCell ⟨g, 1, none⟩ (.slice Ac2 nc2 cc2) = W5 at *
        have k5 : W5.cell? ⟨g, 5, none⟩ = some (.slice Ap1 np1 cp1) := by rw [← epv]; exact HM5.out.blk.cl 5
        have hmk := fun w => mk_vals nr (by omega) w
        clear k1 d1 df
        refine wz (fun y : World => y.cell? ⟨g, 5, none⟩ = some (.slice Ap1 np1 cp1)) [4, 6, 7, 8, 9, 10] k5 (fun hHeld => ?_)
        refine wq 0 ?_
        refine wq 1 ?_
        refine wq 2 ?_
        refine wq 3 ?_
        refine wq 5 ?_
        refine wt 4 (by assumption) ?_
        refine wpE_one (i := 6) (by kernel_rfl) rfl (fun K hK => ?_)
        go_simp
        refine hK.out _ _ (cell_al k5 _) ?_
        clear hK K
        refine pu ?_
        refine wpE_one (i := 7) (by kernel_rfl) rfl (fun K hK => ?_)
        go_simp
        refine hK.out _ _ (cell_al k5 _) ?_
        clear hK K
        refine pu ?_
        refine wpE_one (i := 8) (by kernel_rfl) rfl (fun K hK => ?_)
        go_simp
        refine hK.out _ _ (cell_al k5 _) ?_
        clear hK K
        refine pu ?_
        refine wpE_one (i := 9) (by kernel_rfl) rfl (fun K hK => ?_)
        go_simp
        refine hK.out _ _ (cell_al (cell_al k5 _) _) ?_
        clear hK K
        refine pu ?_
        refine wpE_one (i := 10) (by kernel_rfl) rfl (fun K hK => ?_)
        go_simp
        refine hK.out _ _ (cell_al (cell_al (cell_al k5 _) _) _) ?_
        clear hK K
        refine pu ?_
        refine wl 11 ?_
        have hX : Below W5.heap.size W5 (((W5.alloc (.cells (encV.flat (List.replicate nr (([] : List UInt8), (0 : Int)))).toArray 68 (0, 0))).alloc (.cells #[.slice (some ⟨W5.heap.size, 0, none⟩) nr nr, .int .i64 0, .slice none 0 0] 172 (0, 0))).alloc (.cells #[.pointer (some ⟨W5.heap.size + 1, 0, none⟩)] 167 (0, 0))).drew := (below_alloc (below_2 _ _ _) _).drew
        have hsx : ((W5.alloc (.cells (encV.flat (List.replicate nr (([] : List UInt8), (0 : Int)))).toArray 68 (0, 0))).alloc (.cells #[.slice (some ⟨W5.heap.size, 0, none⟩) nr nr, .int .i64 0, .slice none 0 0] 172 (0, 0))).heap.size = W5.heap.size + 1 + 1 := by simp
        have hAt := oneAt encQ ((W5.alloc (.cells (encV.flat (List.replicate nr (([] : List UInt8), (0 : Int)))).toArray 68 (0, 0))).alloc (.cells #[.slice (some ⟨W5.heap.size, 0, none⟩) nr nr, .int .i64 0, .slice none 0 0] 172 (0, 0))) 167 (W5.heap.size + 1)
        rw [hsx] at hAt
        have hzw5 := HW5b.out.size
        have hTd : TdAt (((W5.alloc (.cells (encV.flat (List.replicate nr (([] : List UInt8), (0 : Int)))).toArray 68 (0, 0))).alloc (.cells #[.slice (some ⟨W5.heap.size, 0, none⟩) nr nr, .int .i64 0, .slice none 0 0] 172 (0, 0))).alloc (.cells #[.pointer (some ⟨W5.heap.size + 1, 0, none⟩)] 167 (0, 0))).drew w.heap.size (W5.heap.size + 1) (.slice (some ⟨W5.heap.size, 0, none⟩) nr nr) (.slice none 0 0) ⟨List.replicate nr ([], 0), 0, []⟩ :=
          ⟨(blkN2 W5 _ _ _).alloc _, by omega, rowB_own ⟨W5.heap.size, by simp, (((Blk.new W5 _ _).alloc _).alloc _).drew, hzw5⟩ (by simp; omega), Enc.Own.nil _ _ _⟩
        have hptr : encQ.Own 167 w.heap.size W5 (.slice Ap1 np1 cp1) V.tb := by rw [← epv]; exact HM5.out.ptr
        have htl : V.tb.length = j := by
          have := HM5.out.tlen
          rw [show V.tb.length = _ from this]
          show ((List.range j).map _).length = j
          simp
        refine Enc.appW elemQ _ rfl (.tmp 57) (.tmp 63) rfl [W5.heap.size + 1] w.heap.size V.tb (.slice Ap1 np1 cp1) (W5.heap.size + 1 + 1) 0 1 rfl rfl hAt (own_below hptr hX) (by simp; omega) (by simp; omega) (by have := hX.size; omega) ?_
        intro v' w6 hown hg
        obtain ⟨Ap2, np2, cp2, rfl⟩ := own_shp3 hown
        have HM7 := Lib.hid ((HM5.out.below hX).addThread (epv ▸ hg) hown hTd (fun x hx j' bj hj' hy => by
          have hl := HM5.out.footLt hj' hy
          rcases hx with e | e | e
          · omega
          · simp [Value.ownBlock] at e; omega
          · cases e))
        have hown5 := own_below hptr hX
        have hb6 := blk_ty (own_tyf hown5) (grew_chg hg) (HM5.out.below hX).blk (by decide)
        have HTb6 := Lib.hid (blk_ty (own_tyf hown5) (grew_chg hg) (HTb5.out.go hX) (by decide))
        have HW6 := Lib.hid ((HW5b.out.trans (hX.mono hzw5)).trans hg.below)
        have d5 := hb6.cl 5
        have df := hb6.frozen 5
        have hg6 := hb6.lt
        have HTb7 := Lib.hid (HTb6.out.far (p := ⟨g, 5, none⟩) (blk_ne HTb6.out hb6 (by decide)) (.slice Ap2 np2 cp2))
        have HW7 := Lib.hid (HW6.out.setCell (p := ⟨g, 5, none⟩) HM5.out.hg (.slice Ap2 np2 cp2))
        have HMe := Lib.hid (show mkM T (j + 1) 0 = { mkM T j 0 with code := (mkM T j 0).code ++ [c], tds := (mkM T j 0).tds ++ [⟨List.replicate nr ([], 0), 0, []⟩] } from by rw [← HNext.out.1, ← HNext.out.2]; rfl)
        clear hX hsx hAt hTd hptr hown hg hown5 hb6 hmk
        go_wp2_with fail
        go_roundw
        case rel => exact ⟨j + 1, _, by omega, by go_num, by rw [HMe.out]; exact HM7.out, HW7.out, HTb7.out⟩
        case measure => simp [intOf]; omega
      · have hjN2 : j = T.code.length := by omega
        subst hjN2
        have tb3 := htb.cl 3
        have y3 : ¬ ((T.code.length : Int) < (T.code.length : Int)) := by omega
        go_wp2_with fail
        have hil := HT0.out.ilen
        have HMx := Lib.hid hM
        have HWx := Lib.hid hbw
        have HN := Lib.hid (show (mkM T T.code.length 0).tds.length = T.code.length from by simp [mkM])
        clear hM hbw htb HM HW HTb hgr hzr htr tb3 y3 hj hjN HW2 HM0 HTB2
        go_loopw [71] (fun v wr => ∃ (i : Nat) (V : BMv), i ≤ T.init.length ∧ v = .int .i64 i ∧ BufAt wr w.heap.size g (mkM T T.code.length i) V ∧ Below w.heap.size w wr) (fun v _ => T.init.length - (intOf v).toNat)
        case atStart => exact ⟨0, _, Nat.zero_le _, rfl, HMx.out, HWx.out⟩
        case round =>
          obtain ⟨i, V2, hi, rfl, hM, hbw⟩ := hrel
          have HM := Lib.hid hM
          have HW := Lib.hid hbw
          have hgr := hM.blk.lt
          have hzr := hbw.size
          by_cases hiN : i < T.init.length
          · have hx := List.getElem?_eq_getElem hiN
            obtain ⟨x, hxe⟩ : ∃ x, T.init[i] = x := ⟨_, rfl⟩
            rw [hxe] at hx
            obtain ⟨ib, io, rfl, e0, e1, e2, e3, e4, _⟩ := (HT0.out.below hbw).init i x hx
            have hok := HOI.out x (List.mem_of_getElem? hx)
            have HTk := Lib.hid (show T.init.take (i + 1) = T.init.take i ++ [x] from by rw [List.take_succ_eq_append_getElem hiN, hxe])
            have hiw := World.block_lt_of_cell? wr _ e0
            have y1 : (0 : Int) ≤ (i : Int) := by omega
            have y2 : (i : Int) < (T.init.length : Int) := by omega
            obtain ⟨th, rg, loc, vl, vn⟩ := x
            simp only at e0 e1 e2 e3 e4
            have HLx := Lib.hid (Blk.new wr 131 #[.int .i64 th, .int .i64 rg, .string ⟨loc.toArray⟩, .string ⟨vl.toArray⟩, .int .i64 vn])
            have HBx := Lib.hid (alloc_b wr (.cells #[.int .i64 th, .int .i64 rg, .string ⟨loc.toArray⟩, .string ⟨vl.toArray⟩, .int .i64 vn] 131 (0, 0)))
            clear hx hxe hM hbw
            by_cases hth : 0 ≤ th
            · obtain ⟨⟨_, hk2⟩, ⟨hr1, hr2⟩, _⟩ := hok.reg (by intro e; simp only at e; omega)
              simp only at hk2 hr1 hr2
              obtain ⟨k, rfl⟩ : ∃ k : Nat, th = (k : Int) := ⟨th.toNat, by omega⟩
              obtain ⟨r, rfl⟩ : ∃ r : Nat, rg = (r : Int) := ⟨rg.toNat, by omega⟩
              have hkN : k < T.code.length := by omega
              rw [HNr.out] at hr2
              have hk : (mkM T T.code.length i).tds[k]? = some (tdK nr (T.init.take i) k) := by
                show ((List.range T.code.length).map (tdK (nregs (isR T)) (T.init.take i)))[k]? = _
                rw [HNr.out, List.getElem?_map, List.getElem?_range hkN]
                rfl
              obtain ⟨b, hb, htd⟩ := HM.out.td k _ hk
              have hvl : (tdK nr (T.init.take i) k).vs.length = nr := initV_len _ _ _
              obtain ⟨rq, rc, erv, hrc⟩ := own_first htd.regs (List.getElem?_eq_getElem (show r < (tdK nr (T.init.take i) k).vs.length by omega))
              obtain ⟨pb, cp, ep, hp0⟩ := own_first HM.out.ptr hb
              have htl : V2.tb.length = T.code.length := by
                rw [show V2.tb.length = _ from HM.out.tlen]
                show ((List.range T.code.length).map _).length = _
                simp
              have k5 : wr.cell? ⟨g, 5, none⟩ = some (.slice (some ⟨pb, 0, none⟩) T.code.length cp) := by rw [← htl, ← ep]; exact HM.out.blk.cl 5
              have p0 : wr.cell? ⟨pb, k, none⟩ = some (.pointer (some ⟨b, 0, none⟩)) := by have := hp0 0 _ rfl; simpa using this
              have b0 : wr.cell? ⟨b, 0, none⟩ = some (.slice (some ⟨rq, 0, none⟩) nr rc) := by rw [← hvl, ← erv]; exact htd.blk.cl 0
              have HTd := Lib.hid htd
              have HBt := Lib.hid hb
              have HK := Lib.hid hk
              have HE := Lib.hid erv
              have HV := Lib.hid hvl
              have z1 : (0 : Int) ≤ (k : Int) := by omega
              have z2 : (k : Int) < (T.code.length : Int) := by omega
              have z3 : (0 : Int) ≤ (r : Int) := by omega
              have z4 : (r : Int) < (nr : Int) := by omega
              have HNx := Lib.hid (show mkM T T.code.length (i + 1) = { mkM T T.code.length i with tds := (mkM T T.code.length i).tds.set k { tdK nr (T.init.take i) k with vs := (tdK nr (T.init.take i) k).vs.set r (vl, vn) } } from by
                unfold mkM
                simp only
                rw [HTk.out, HNr.out, tds_set nr T.code.length k (T.init.take i) ⟨(k : Int), (r : Int), loc, vl, vn⟩ rfl]
                rfl)
              have k5 := cell_go k5 HBx.out
              have p0 := cell_go p0 HBx.out
              have b0 := cell_go b0 HBx.out
              have l0 := HLx.out.cl 0
              have l1 := HLx.out.cl 1
              have l3 := HLx.out.cl 3
              have l4 := HLx.out.cl 4
              clear hk2 hr1 hr2 hok htd hb hk erv hrc hvl hp0 ep htl
              go_wp2_with fail
              refine wz (fun y : World => y.cell? ⟨g, 5, none⟩ = some (.slice (some ⟨pb, 0, none⟩) T.code.length cp) ∧ y.cell? ⟨wr.heap.size, 0, none⟩ = some (.int .i64 (k : Int)) ∧ y.cell? ⟨pb, k, none⟩ = some (.pointer (some ⟨b, 0, none⟩)) ∧ y.cell? ⟨b, 0, none⟩ = some (.slice (some ⟨rq, 0, none⟩) nr rc) ∧ y.cell? ⟨wr.heap.size, 1, none⟩ = some (.int .i64 (r : Int)) ∧ y.cell? ⟨wr.heap.size, 3, none⟩ = some (.string ⟨vl.toArray⟩) ∧ y.cell? ⟨wr.heap.size, 4, none⟩ = some (.int .i64 vn)) [3, 5, 7, 11, 13, 15] ⟨k5, l0, p0, b0, l1, l3, l4⟩ (fun hHeld => ?_)
              refine wq 0 ?_
              refine wq 1 ?_
              refine wq 2 ?_
              refine wq 4 ?_
              refine wq 12 ?_
              refine wq 14 ?_
              refine wt 3 (by assumption) ?_
              refine wt 5 (by assumption) ?_
              refine wq 6 ?_
              refine wt 7 (by assumption) ?_
              refine wq 8 ?_
              refine wq 9 ?_
              refine wq 10 ?_
              refine wt 11 (by assumption) ?_
              refine wt 13 (by assumption) ?_
              refine wt 15 (by assumption) ?_
              refine wq 16 ?_
              refine wl 17 ?_
              have hX := HBx.out.drew
              have hTX := HTd.out.below hX
              have hrX : RegsG _ w.heap.size rq rc (tdK nr (T.init.take i) k).vs := HE.out ▸ hTX.regs
              have HTh := Lib.hid (RegsG.at_ hrX (List.getElem?_eq_getElem (show r < (tdK nr (T.init.take i) k).vs.length by rw [HV.out]; omega))).2.2.2
              refine wpList_store_mid rfl _ _ _ rfl rq (r * 2) #[.string ⟨vl.toArray⟩, .int .i64 vn] rfl rfl HTh.out (by kernel_rfl) (all_oneCell_toArray (cs := encV.enc (vl, vn)) (encV.one _)) ?_
              have hF : Foot b (V2.rv k) (V2.qv k) rq := .inr (.inl (by rw [HE.out]; rfl))
              have HM9 := Lib.hid ((HM.out.below hX).thread HK.out HBt.out (hTX.reg HE.out r (vl, vn)) (Chg.set (p := ⟨rq, r * 2 + 1, none⟩) (Chg.set (p := ⟨rq, r * 2, none⟩) Chg.refl hF (.string ⟨vl.toArray⟩)) hF (.int .i64 vn)) (fun x hx => .inl hx))
              have HW9 := Lib.hid (((HW.out.trans (hX.mono hzr)).setCell (p := ⟨rq, r * 2, none⟩) hrX.blk.1 (.string ⟨vl.toArray⟩)).setCell (p := ⟨rq, r * 2 + 1, none⟩) hrX.blk.1 (.int .i64 vn))
              clear hX hTX hrX hF
              go_wp2_with fail
              go_roundw
              case rel => exact ⟨i + 1, _, by omega, by go_num, by rw [HNx.out]; exact HM9.out, HW9.out⟩
              case measure => simp [intOf]; omega
            · have HNx := Lib.hid (show mkM T T.code.length (i + 1) = mkM T T.code.length i from by
                unfold mkM
                rw [HTk.out, tds_same _ _ _ _ (show (⟨th, rg, loc, vl, vn⟩ : Ini).th < 0 by simp only; omega)])
              have l0 := HLx.out.cl 0
              have g3 : decide (0 ≤ th) = false := by simpa using hth
              clear hok
              go_wp2_with fail
              go_roundw
              case rel => exact ⟨i + 1, V2, by omega, by go_num, by rw [HNx.out]; exact HM.out.below HBx.out, HW.out.trans (HBx.out.mono hzr)⟩
              case measure => simp [intOf]; omega
          · have hiN2 : i = T.init.length := by omega
            have HEn := Lib.hid (show mkM T T.code.length i = initM T from by rw [hiN2]; exact mkM_end T)
            have y3 : ¬ (i : Int) < (T.init.length : Int) := by omega
            clear hiN2 hiN hM hbw
            go_wp2_with fail
            go_ret2
            exact ⟨g, V2, rfl, by rw [← HEn.out]; exact HM.out, HW.out⟩
  · have g1 : (T.arch == 2) = true := by rw [h1]; rfl
    obtain ⟨nr, hnr⟩ : ∃ nr : Nat, nr = 32 := ⟨_, rfl⟩
    have HNr := Lib.hid (show nregs (isR T) = nr by rw [h2, hnr]; rfl)
    have h15 : (32 : Int) = (nr : Int) := by rw [hnr]; rfl
    have hnm : nr ≤ 32 := by omega
    clear h1 h2 hnr
    go_wp2_with fail
    rw [h15]
    clear h15
    have HB2 := Lib.hid (below_2 w1 (.cells #[.slice A1 n1 c1, .slice A2 n2 c2, .slice A3 n3 c3, .slice A4 n4 c4, .slice A5 n5 c5, .slice A6 n6 c6, .slice A7 n7 c7, .slice A8 n8 c8, .slice A9 n9 c9] 41 (0, 0)) (.cells #[.int .i64 T.arch, .slice none 0 0, .slice A1 n1 c1, .slice A8 n8 c8, .slice A2 n2 c2, .slice none 0 0] 84 (0, 0)))
    have HM0 := Lib.hid (show BufAt ((w1.alloc (.cells #[.slice A1 n1 c1, .slice A2 n2 c2, .slice A3 n3 c3, .slice A4 n4 c4, .slice A5 n5 c5, .slice A6 n6 c6, .slice A7 n7 c7, .slice A8 n8 c8, .slice A9 n9 c9] 41 (0, 0))).alloc (.cells #[.int .i64 T.arch, .slice none 0 0, .slice A1 n1 c1, .slice A8 n8 c8, .slice A2 n2 c2, .slice none 0 0] 84 (0, 0))) w.heap.size (w1.heap.size + 1) (mkM T 0 0) ⟨.slice none 0 0, .slice A1 n1 c1, .slice A8 n8 c8, .slice A2 n2 c2, .slice none 0 0, [], [], fun _ => .slice none 0 0, fun _ => .slice none 0 0⟩ from
      ⟨blkN2 w1 _ _ _, by omega, Enc.Own.nil _ _ _, fun k c hc => by simp [mkM] at hc, own_below HLo.out HB2.out, own_below HTh.out HB2.out, own_below HIn.out HB2.out, Enc.Own.nil _ _ _, by simp [mkM], by simp [mkM], fun k t ht => by simp [mkM] at ht, fun i j bi bj _ hi => by simp at hi⟩)
    have HW2 := Lib.hid (below_trans HW1.out HB2.out)
    have HTB2 := Lib.hid (HTB1.out.go HB2.out)
    generalize (w1.alloc (.cells #[.slice A1 n1 c1, .slice A2 n2 c2, .slice A3 n3 c3, .slice A4 n4 c4, .slice A5 n5 c5, .slice A6 n6 c6, .slice A7 n7 c7, .slice A8 n8 c8, .slice A9 n9 c9] 41 (0, 0))).alloc (.cells #[.int .i64 T.arch, .slice none 0 0, .slice A1 n1 c1, .slice A8 n8 c8, .slice A2 n2 c2, .slice none 0 0] 84 (0, 0)) = W2 at *
    generalize w1.heap.size + 1 = g at *
    clear HLo HTh HIn HTr HB2 HTB1 tb0 tb3 tb4 tbz HOf HT HTB hcs cs HA
    go_loopw [38] (fun i wr => ∃ (j : Nat) (V : BMv), j ≤ T.code.length ∧ i = .int .i64 j ∧ BufAt wr w.heap.size g (mkM T j 0) V ∧ Below w.heap.size w wr ∧ Blk wr w.heap.size 32 #[.int .i64 T.arch, .string ⟨T.name.toArray⟩, .string ⟨T.cycle.toArray⟩, .slice Ai T.init.length ci, .slice Ac T.code.length cc, .int .i64 T.q, .int .i64 T.k, .int .i64 T.t, .int .i64 T.r, .string ⟨T.l.toArray⟩, .int .i64 T.v, .slice A0 l0 q0]) (fun i _ => T.code.length - (intOf i).toNat)
    case atStart => exact ⟨0, _, Nat.zero_le _, rfl, HM0.out, HW2.out, HTB2.out⟩
    case round =>
      obtain ⟨j, V, hj, rfl, hM, hbw, htb⟩ := hrel
      have HM := Lib.hid hM
      have HW := Lib.hid hbw
      have HTb := Lib.hid htb
      have hgr := hM.blk.lt
      have hzr := hbw.size
      have htr := htb.lt
      by_cases hjN : j < T.code.length
      · have hx := List.getElem?_eq_getElem hjN
        obtain ⟨c, hce⟩ : ∃ c, T.code[j] = c := ⟨_, rfl⟩
        rw [hce] at hx
        have HX := Lib.hid hx
        obtain ⟨cb, co, Ax, cx, rfl, d0, hins, hcl, hcx⟩ := (HT0.out.below hbw).code j c hx
        have hc256 := (HKs.out.2.2 j c hx).1
        have HIn := Lib.hid hins
        have HNext := Lib.hid (show (mkM T (j + 1) 0).code = (mkM T j 0).code ++ [c] ∧ (mkM T (j + 1) 0).tds = (mkM T j 0).tds ++ [⟨List.replicate nr ([], 0), 0, []⟩] from by
          refine ⟨?_, ?_⟩
          · show T.code.take (j + 1) = T.code.take j ++ [c]
            rw [List.take_succ_eq_append_getElem hjN, hce]
          · show (List.range (j + 1)).map _ = (List.range j).map _ ++ _
            rw [List.range_succ, List.map_append, HNr.out]
            rfl)
        have hcw := World.block_lt_of_cell? wr _ d0
        have y1 : (0 : Int) ≤ (j : Int) := by omega
        have y2 : (j : Int) < (T.code.length : Int) := by omega
        obtain ⟨Ac1, nc1, cc1, ecv⟩ : ∃ A n c, V.cv = .slice A n c := own_shp3 hM.code
        obtain ⟨Ap1, np1, cp1, epv⟩ : ∃ A n c, V.pv = .slice A n c := own_shp3 hM.ptr
        have k1 : wr.cell? ⟨g, 1, none⟩ = some (.slice Ac1 nc1 cc1) := by rw [← ecv]; exact hM.blk.cl 1
        have k5 : wr.cell? ⟨g, 5, none⟩ = some (.slice Ap1 np1 cp1) := by rw [← epv]; exact hM.blk.cl 5
        have HCl := Lib.hid (cloneNP Ax cx c wr.drew hins hc256)
        clear hM hbw htb hx hce hins
        go_wp2_with fail
        refine wz (fun y : World => y.cell? ⟨g, 1, none⟩ = some (.slice Ac1 nc1 cc1)) [4, 6, 7] k1 (fun hHeld => ?_)
        refine wq 0 ?_
        refine wq 1 ?_
        refine wq 2 ?_
        refine wq 3 ?_
        refine wq 5 ?_
        refine wt 4 (by assumption) ?_
        refine wpE_one (i := 6) (by kernel_rfl) rfl (fun K hK => ?_)
        go_simp
        refine HCl.out.mono ?_
        rintro e w3 ⟨Ar, cr, rfl, hrow, hb3⟩
        have hb3 : Below wr.heap.size wr w3 := below_of_drew hb3
        have k1 := cell_go k1 hb3
        refine hK.out _ _ k1 ?_
        clear hK K
        refine pu ?_
        refine wpE_one (i := 7) (by kernel_rfl) rfl (fun K hK => ?_)
        go_simp
        refine hK.out _ _ (cell_al k1 _) ?_
        clear hK K
        refine pu ?_
        refine wl 8 ?_
        have HB3 := Lib.hid (below_trans hb3 (alloc_b w3 (.cells #[.slice Ar c.length cr] 62 (0, 0))))
        have hcode : encA.Own 62 w.heap.size (w3.alloc (.cells #[.slice Ar c.length cr] 62 (0, 0))) (.slice Ac1 nc1 cc1) V.cr := by rw [← ecv]; exact own_below HM.out.code HB3.out
        have hcrl : V.cr.length = j := by rw [HM.out.crl]; show (T.code.take j).length = j; rw [List.length_take]; omega
        have hz3 := HB3.out.size
        have hrow2 := own_below hrow (alloc_b w3 (.cells #[.slice Ar c.length cr] 62 (0, 0)))
        refine Enc.appW elemA _ rfl (.tmp 46) (.tmp 49) rfl [(Ar, c.length, cr)] w.heap.size V.cr (.slice Ac1 nc1 cc1) w3.heap.size 0 1 rfl rfl (oneAt encA w3 _ _) hcode (by simp; omega) (by simp; omega) (by omega) ?_
        intro v' w4 hown hg
        obtain ⟨Ac2, nc2, cc2, rfl⟩ := own_shp3 hown
        have HM5 := Lib.hid ((HM.out.below HB3.out).addCode (ecv ▸ hg) hown (own_lowE hrow2 (by have : wr.drew.heap.size = wr.heap.size := rfl; omega)))
        have hb4 := blk_ty (own_tyf hcode) (grew_chg hg) (HM.out.below HB3.out).blk (by decide)
        have HW5 := Lib.hid ((HW.out.trans (HB3.out.mono hzr)).trans hg.below)
        have HTb4 := Lib.hid (blk_ty (own_tyf hcode) (grew_chg hg) (HTb.out.go HB3.out) (by decide))
        have d1 := hb4.cl 1
        have df := hb4.frozen 1
        have hg4 := hb4.lt
        have HTb5 := Lib.hid (HTb4.out.far (p := ⟨g, 1, none⟩) (blk_ne HTb4.out hb4 (by decide)) (.slice Ac2 nc2 cc2))
        have HW5b := Lib.hid (HW5.out.setCell (p := ⟨g, 1, none⟩) HM5.out.hg (.slice Ac2 nc2 cc2))
        clear hown hg hb4 hcode hrow hrow2 hb3 HTb4 HW5 HCl hcrl
        go_wp2_with fail
        generalize w4.setCell ⟨g, 1, none⟩ (.slice Ac2 nc2 cc2) = W5 at *
        have k5 : W5.cell? ⟨g, 5, none⟩ = some (.slice Ap1 np1 cp1) := by rw [← epv]; exact HM5.out.blk.cl 5
        have hmk := fun w => mk_vals nr (by omega) w
        clear k1 d1 df
        refine wz (fun y : World => y.cell? ⟨g, 5, none⟩ = some (.slice Ap1 np1 cp1)) [4, 6, 7, 8, 9, 10] k5 (fun hHeld => ?_)
        refine wq 0 ?_
        refine wq 1 ?_
        refine wq 2 ?_
        refine wq 3 ?_
        refine wq 5 ?_
        refine wt 4 (by assumption) ?_
        refine wpE_one (i := 6) (by kernel_rfl) rfl (fun K hK => ?_)
        go_simp
        refine hK.out _ _ (cell_al k5 _) ?_
        clear hK K
        refine pu ?_
        refine wpE_one (i := 7) (by kernel_rfl) rfl (fun K hK => ?_)
        go_simp
        refine hK.out _ _ (cell_al k5 _) ?_
        clear hK K
        refine pu ?_
        refine wpE_one (i := 8) (by kernel_rfl) rfl (fun K hK => ?_)
        go_simp
        refine hK.out _ _ (cell_al k5 _) ?_
        clear hK K
        refine pu ?_
        refine wpE_one (i := 9) (by kernel_rfl) rfl (fun K hK => ?_)
        go_simp
        refine hK.out _ _ (cell_al (cell_al k5 _) _) ?_
        clear hK K
        refine pu ?_
        refine wpE_one (i := 10) (by kernel_rfl) rfl (fun K hK => ?_)
        go_simp
        refine hK.out _ _ (cell_al (cell_al (cell_al k5 _) _) _) ?_
        clear hK K
        refine pu ?_
        refine wl 11 ?_
        have hX : Below W5.heap.size W5 (((W5.alloc (.cells (encV.flat (List.replicate nr (([] : List UInt8), (0 : Int)))).toArray 68 (0, 0))).alloc (.cells #[.slice (some ⟨W5.heap.size, 0, none⟩) nr nr, .int .i64 0, .slice none 0 0] 172 (0, 0))).alloc (.cells #[.pointer (some ⟨W5.heap.size + 1, 0, none⟩)] 167 (0, 0))).drew := (below_alloc (below_2 _ _ _) _).drew
        have hsx : ((W5.alloc (.cells (encV.flat (List.replicate nr (([] : List UInt8), (0 : Int)))).toArray 68 (0, 0))).alloc (.cells #[.slice (some ⟨W5.heap.size, 0, none⟩) nr nr, .int .i64 0, .slice none 0 0] 172 (0, 0))).heap.size = W5.heap.size + 1 + 1 := by simp
        have hAt := oneAt encQ ((W5.alloc (.cells (encV.flat (List.replicate nr (([] : List UInt8), (0 : Int)))).toArray 68 (0, 0))).alloc (.cells #[.slice (some ⟨W5.heap.size, 0, none⟩) nr nr, .int .i64 0, .slice none 0 0] 172 (0, 0))) 167 (W5.heap.size + 1)
        rw [hsx] at hAt
        have hzw5 := HW5b.out.size
        have hTd : TdAt (((W5.alloc (.cells (encV.flat (List.replicate nr (([] : List UInt8), (0 : Int)))).toArray 68 (0, 0))).alloc (.cells #[.slice (some ⟨W5.heap.size, 0, none⟩) nr nr, .int .i64 0, .slice none 0 0] 172 (0, 0))).alloc (.cells #[.pointer (some ⟨W5.heap.size + 1, 0, none⟩)] 167 (0, 0))).drew w.heap.size (W5.heap.size + 1) (.slice (some ⟨W5.heap.size, 0, none⟩) nr nr) (.slice none 0 0) ⟨List.replicate nr ([], 0), 0, []⟩ :=
          ⟨(blkN2 W5 _ _ _).alloc _, by omega, rowB_own ⟨W5.heap.size, by simp, (((Blk.new W5 _ _).alloc _).alloc _).drew, hzw5⟩ (by simp; omega), Enc.Own.nil _ _ _⟩
        have hptr : encQ.Own 167 w.heap.size W5 (.slice Ap1 np1 cp1) V.tb := by rw [← epv]; exact HM5.out.ptr
        have htl : V.tb.length = j := by
          have := HM5.out.tlen
          rw [show V.tb.length = _ from this]
          show ((List.range j).map _).length = j
          simp
        refine Enc.appW elemQ _ rfl (.tmp 57) (.tmp 63) rfl [W5.heap.size + 1] w.heap.size V.tb (.slice Ap1 np1 cp1) (W5.heap.size + 1 + 1) 0 1 rfl rfl hAt (own_below hptr hX) (by simp; omega) (by simp; omega) (by have := hX.size; omega) ?_
        intro v' w6 hown hg
        obtain ⟨Ap2, np2, cp2, rfl⟩ := own_shp3 hown
        have HM7 := Lib.hid ((HM5.out.below hX).addThread (epv ▸ hg) hown hTd (fun x hx j' bj hj' hy => by
          have hl := HM5.out.footLt hj' hy
          rcases hx with e | e | e
          · omega
          · simp [Value.ownBlock] at e; omega
          · cases e))
        have hown5 := own_below hptr hX
        have hb6 := blk_ty (own_tyf hown5) (grew_chg hg) (HM5.out.below hX).blk (by decide)
        have HTb6 := Lib.hid (blk_ty (own_tyf hown5) (grew_chg hg) (HTb5.out.go hX) (by decide))
        have HW6 := Lib.hid ((HW5b.out.trans (hX.mono hzw5)).trans hg.below)
        have d5 := hb6.cl 5
        have df := hb6.frozen 5
        have hg6 := hb6.lt
        have HTb7 := Lib.hid (HTb6.out.far (p := ⟨g, 5, none⟩) (blk_ne HTb6.out hb6 (by decide)) (.slice Ap2 np2 cp2))
        have HW7 := Lib.hid (HW6.out.setCell (p := ⟨g, 5, none⟩) HM5.out.hg (.slice Ap2 np2 cp2))
        have HMe := Lib.hid (show mkM T (j + 1) 0 = { mkM T j 0 with code := (mkM T j 0).code ++ [c], tds := (mkM T j 0).tds ++ [⟨List.replicate nr ([], 0), 0, []⟩] } from by rw [← HNext.out.1, ← HNext.out.2]; rfl)
        clear hX hsx hAt hTd hptr hown hg hown5 hb6 hmk
        go_wp2_with fail
        go_roundw
        case rel => exact ⟨j + 1, _, by omega, by go_num, by rw [HMe.out]; exact HM7.out, HW7.out, HTb7.out⟩
        case measure => simp [intOf]; omega
      · have hjN2 : j = T.code.length := by omega
        subst hjN2
        have tb3 := htb.cl 3
        have y3 : ¬ ((T.code.length : Int) < (T.code.length : Int)) := by omega
        go_wp2_with fail
        have hil := HT0.out.ilen
        have HMx := Lib.hid hM
        have HWx := Lib.hid hbw
        have HN := Lib.hid (show (mkM T T.code.length 0).tds.length = T.code.length from by simp [mkM])
        clear hM hbw htb HM HW HTb hgr hzr htr tb3 y3 hj hjN HW2 HM0 HTB2
        go_loopw [71] (fun v wr => ∃ (i : Nat) (V : BMv), i ≤ T.init.length ∧ v = .int .i64 i ∧ BufAt wr w.heap.size g (mkM T T.code.length i) V ∧ Below w.heap.size w wr) (fun v _ => T.init.length - (intOf v).toNat)
        case atStart => exact ⟨0, _, Nat.zero_le _, rfl, HMx.out, HWx.out⟩
        case round =>
          obtain ⟨i, V2, hi, rfl, hM, hbw⟩ := hrel
          have HM := Lib.hid hM
          have HW := Lib.hid hbw
          have hgr := hM.blk.lt
          have hzr := hbw.size
          by_cases hiN : i < T.init.length
          · have hx := List.getElem?_eq_getElem hiN
            obtain ⟨x, hxe⟩ : ∃ x, T.init[i] = x := ⟨_, rfl⟩
            rw [hxe] at hx
            obtain ⟨ib, io, rfl, e0, e1, e2, e3, e4, _⟩ := (HT0.out.below hbw).init i x hx
            have hok := HOI.out x (List.mem_of_getElem? hx)
            have HTk := Lib.hid (show T.init.take (i + 1) = T.init.take i ++ [x] from by rw [List.take_succ_eq_append_getElem hiN, hxe])
            have hiw := World.block_lt_of_cell? wr _ e0
            have y1 : (0 : Int) ≤ (i : Int) := by omega
            have y2 : (i : Int) < (T.init.length : Int) := by omega
            obtain ⟨th, rg, loc, vl, vn⟩ := x
            simp only at e0 e1 e2 e3 e4
            have HLx := Lib.hid (Blk.new wr 131 #[.int .i64 th, .int .i64 rg, .string ⟨loc.toArray⟩, .string ⟨vl.toArray⟩, .int .i64 vn])
            have HBx := Lib.hid (alloc_b wr (.cells #[.int .i64 th, .int .i64 rg, .string ⟨loc.toArray⟩, .string ⟨vl.toArray⟩, .int .i64 vn] 131 (0, 0)))
            clear hx hxe hM hbw
            by_cases hth : 0 ≤ th
            · obtain ⟨⟨_, hk2⟩, ⟨hr1, hr2⟩, _⟩ := hok.reg (by intro e; simp only at e; omega)
              simp only at hk2 hr1 hr2
              obtain ⟨k, rfl⟩ : ∃ k : Nat, th = (k : Int) := ⟨th.toNat, by omega⟩
              obtain ⟨r, rfl⟩ : ∃ r : Nat, rg = (r : Int) := ⟨rg.toNat, by omega⟩
              have hkN : k < T.code.length := by omega
              rw [HNr.out] at hr2
              have hk : (mkM T T.code.length i).tds[k]? = some (tdK nr (T.init.take i) k) := by
                show ((List.range T.code.length).map (tdK (nregs (isR T)) (T.init.take i)))[k]? = _
                rw [HNr.out, List.getElem?_map, List.getElem?_range hkN]
                rfl
              obtain ⟨b, hb, htd⟩ := HM.out.td k _ hk
              have hvl : (tdK nr (T.init.take i) k).vs.length = nr := initV_len _ _ _
              obtain ⟨rq, rc, erv, hrc⟩ := own_first htd.regs (List.getElem?_eq_getElem (show r < (tdK nr (T.init.take i) k).vs.length by omega))
              obtain ⟨pb, cp, ep, hp0⟩ := own_first HM.out.ptr hb
              have htl : V2.tb.length = T.code.length := by
                rw [show V2.tb.length = _ from HM.out.tlen]
                show ((List.range T.code.length).map _).length = _
                simp
              have k5 : wr.cell? ⟨g, 5, none⟩ = some (.slice (some ⟨pb, 0, none⟩) T.code.length cp) := by rw [← htl, ← ep]; exact HM.out.blk.cl 5
              have p0 : wr.cell? ⟨pb, k, none⟩ = some (.pointer (some ⟨b, 0, none⟩)) := by have := hp0 0 _ rfl; simpa using this
              have b0 : wr.cell? ⟨b, 0, none⟩ = some (.slice (some ⟨rq, 0, none⟩) nr rc) := by rw [← hvl, ← erv]; exact htd.blk.cl 0
              have HTd := Lib.hid htd
              have HBt := Lib.hid hb
              have HK := Lib.hid hk
              have HE := Lib.hid erv
              have HV := Lib.hid hvl
              have z1 : (0 : Int) ≤ (k : Int) := by omega
              have z2 : (k : Int) < (T.code.length : Int) := by omega
              have z3 : (0 : Int) ≤ (r : Int) := by omega
              have z4 : (r : Int) < (nr : Int) := by omega
              have HNx := Lib.hid (show mkM T T.code.length (i + 1) = { mkM T T.code.length i with tds := (mkM T T.code.length i).tds.set k { tdK nr (T.init.take i) k with vs := (tdK nr (T.init.take i) k).vs.set r (vl, vn) } } from by
                unfold mkM
                simp only
                rw [HTk.out, HNr.out, tds_set nr T.code.length k (T.init.take i) ⟨(k : Int), (r : Int), loc, vl, vn⟩ rfl]
                rfl)
              have k5 := cell_go k5 HBx.out
              have p0 := cell_go p0 HBx.out
              have b0 := cell_go b0 HBx.out
              have l0 := HLx.out.cl 0
              have l1 := HLx.out.cl 1
              have l3 := HLx.out.cl 3
              have l4 := HLx.out.cl 4
              clear hk2 hr1 hr2 hok htd hb hk erv hrc hvl hp0 ep htl
              go_wp2_with fail
              refine wz (fun y : World => y.cell? ⟨g, 5, none⟩ = some (.slice (some ⟨pb, 0, none⟩) T.code.length cp) ∧ y.cell? ⟨wr.heap.size, 0, none⟩ = some (.int .i64 (k : Int)) ∧ y.cell? ⟨pb, k, none⟩ = some (.pointer (some ⟨b, 0, none⟩)) ∧ y.cell? ⟨b, 0, none⟩ = some (.slice (some ⟨rq, 0, none⟩) nr rc) ∧ y.cell? ⟨wr.heap.size, 1, none⟩ = some (.int .i64 (r : Int)) ∧ y.cell? ⟨wr.heap.size, 3, none⟩ = some (.string ⟨vl.toArray⟩) ∧ y.cell? ⟨wr.heap.size, 4, none⟩ = some (.int .i64 vn)) [3, 5, 7, 11, 13, 15] ⟨k5, l0, p0, b0, l1, l3, l4⟩ (fun hHeld => ?_)
              refine wq 0 ?_
              refine wq 1 ?_
              refine wq 2 ?_
              refine wq 4 ?_
              refine wq 12 ?_
              refine wq 14 ?_
              refine wt 3 (by assumption) ?_
              refine wt 5 (by assumption) ?_
              refine wq 6 ?_
              refine wt 7 (by assumption) ?_
              refine wq 8 ?_
              refine wq 9 ?_
              refine wq 10 ?_
              refine wt 11 (by assumption) ?_
              refine wt 13 (by assumption) ?_
              refine wt 15 (by assumption) ?_
              refine wq 16 ?_
              refine wl 17 ?_
              have hX := HBx.out.drew
              have hTX := HTd.out.below hX
              have hrX : RegsG _ w.heap.size rq rc (tdK nr (T.init.take i) k).vs := HE.out ▸ hTX.regs
              have HTh := Lib.hid (RegsG.at_ hrX (List.getElem?_eq_getElem (show r < (tdK nr (T.init.take i) k).vs.length by rw [HV.out]; omega))).2.2.2
              refine wpList_store_mid rfl _ _ _ rfl rq (r * 2) #[.string ⟨vl.toArray⟩, .int .i64 vn] rfl rfl HTh.out (by kernel_rfl) (all_oneCell_toArray (cs := encV.enc (vl, vn)) (encV.one _)) ?_
              have hF : Foot b (V2.rv k) (V2.qv k) rq := .inr (.inl (by rw [HE.out]; rfl))
              have HM9 := Lib.hid ((HM.out.below hX).thread HK.out HBt.out (hTX.reg HE.out r (vl, vn)) (Chg.set (p := ⟨rq, r * 2 + 1, none⟩) (Chg.set (p := ⟨rq, r * 2, none⟩) Chg.refl hF (.string ⟨vl.toArray⟩)) hF (.int .i64 vn)) (fun x hx => .inl hx))
              have HW9 := Lib.hid (((HW.out.trans (hX.mono hzr)).setCell (p := ⟨rq, r * 2, none⟩) hrX.blk.1 (.string ⟨vl.toArray⟩)).setCell (p := ⟨rq, r * 2 + 1, none⟩) hrX.blk.1 (.int .i64 vn))
              clear hX hTX hrX hF
              go_wp2_with fail
              go_roundw
              case rel => exact ⟨i + 1, _, by omega, by go_num, by rw [HNx.out]; exact HM9.out, HW9.out⟩
              case measure => simp [intOf]; omega
            · have HNx := Lib.hid (show mkM T T.code.length (i + 1) = mkM T T.code.length i from by
                unfold mkM
                rw [HTk.out, tds_same _ _ _ _ (show (⟨th, rg, loc, vl, vn⟩ : Ini).th < 0 by simp only; omega)])
              have l0 := HLx.out.cl 0
              have g3 : decide (0 ≤ th) = false := by simpa using hth
              clear hok
              go_wp2_with fail
              go_roundw
              case rel => exact ⟨i + 1, V2, by omega, by go_num, by rw [HNx.out]; exact HM.out.below HBx.out, HW.out.trans (HBx.out.mono hzr)⟩
              case measure => simp [intOf]; omega
          · have hiN2 : i = T.init.length := by omega
            have HEn := Lib.hid (show mkM T T.code.length i = initM T from by rw [hiN2]; exact mkM_end T)
            have y3 : ¬ (i : Int) < (T.init.length : Int) := by omega
            clear hiN2 hiN hM hbw
            go_wp2_with fail
            go_ret2
            exact ⟨g, V2, rfl, by rw [← HEn.out]; exact HM.out, HW.out⟩
end
end
end Go.Proofs.YtjhafgnmahhacaaGreatDoor
