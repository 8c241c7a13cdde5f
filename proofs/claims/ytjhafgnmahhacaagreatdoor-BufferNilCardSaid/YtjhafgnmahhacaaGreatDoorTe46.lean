/- Layer 15: the program's trace.Of. -/
import Derived.Test.YtjhafgnmahhacaaGreatDoorTe33
import Derived.Test.YtjhafgnmahhacaaGreatDoorTe37
import Derived.Test.YtjhafgnmahhacaaGreatDoorTe44

namespace Go.Proofs.YtjhafgnmahhacaaGreatDoor
open Go.RowKit
section
def OfP (T : Tst) (w : World) (e : Ending) (w' : World) : Prop := (match traceL T with
  | .error (c, k) => e = .returned (.tuple #[.agg #[.slice none 0 0, .slice none 0 0, .slice none 0 0, .slice none 0 0, .slice none 0 0, .slice none 0 0, .slice none 0 0, .slice none 0 0, .slice none 0 0], .int .i64 c, .int .i64 (k : Int)])
  | .ok a => ∃ O V, e = .returned (.tuple #[.agg #[V.lo, V.ini, V.ev, V.br, V.ad, V.da, V.ct, V.th, V.en], .int .i64 0, .int .i64 0]) ∧ OutAt w' w.heap.size O ⟨locsT T, firL (locsT T) T.init, thsT T, a⟩ V) ∧ Below w.heap.size w w'
section
set_option maxHeartbeats 100000000
set_option maxRecDepth 100000
theorem ofP (T : Tst) (Ai Ac : Option Addr) (ci cc : Nat) (kv : Value) (w : World) (hT : TstAt w T Ai Ac kv) :
    Calls Tryz.prog 15 #[testV T (.slice Ai T.init.length ci) (.slice Ac T.code.length cc) kv] w (OfP T w) := by
  obtain ⟨A0, l0, q0, rfl⟩ : ∃ A n c, kv = .slice A n c := by obtain ⟨A, cap, e, _⟩ := hT.kids; exact ⟨A, _, cap, e⟩
  simp only [testV]
  have HTB := Lib.hid ((Blk.new w 32 #[.int .i64 T.arch, .string ⟨T.name.toArray⟩, .string ⟨T.cycle.toArray⟩, .slice Ai T.init.length ci, .slice Ac T.code.length cc, .int .i64 T.q, .int .i64 T.k, .int .i64 T.t, .int .i64 T.r, .string ⟨T.l.toArray⟩, .int .i64 T.v, .slice A0 l0 q0]).alloc (.cells #[.slice none 0 0, .slice none 0 0, .slice none 0 0, .slice none 0 0, .slice none 0 0, .slice none 0 0, .slice none 0 0, .slice none 0 0, .slice none 0 0] 41 (0, 0)))
  have HRB := Lib.hid (Blk.new (w.alloc (.cells #[.int .i64 T.arch, .string ⟨T.name.toArray⟩, .string ⟨T.cycle.toArray⟩, .slice Ai T.init.length ci, .slice Ac T.code.length cc, .int .i64 T.q, .int .i64 T.k, .int .i64 T.t, .int .i64 T.r, .string ⟨T.l.toArray⟩, .int .i64 T.v, .slice A0 l0 q0] 32 (0, 0))) 41 #[.slice none 0 0, .slice none 0 0, .slice none 0 0, .slice none 0 0, .slice none 0 0, .slice none 0 0, .slice none 0 0, .slice none 0 0, .slice none 0 0])
  have HB0 := Lib.hid (below_2 w (.cells #[.int .i64 T.arch, .string ⟨T.name.toArray⟩, .string ⟨T.cycle.toArray⟩, .slice Ai T.init.length ci, .slice Ac T.code.length cc, .int .i64 T.q, .int .i64 T.k, .int .i64 T.t, .int .i64 T.r, .string ⟨T.l.toArray⟩, .int .i64 T.v, .slice A0 l0 q0] 32 (0, 0)) (.cells #[.slice none 0 0, .slice none 0 0, .slice none 0 0, .slice none 0 0, .slice none 0 0, .slice none 0 0, .slice none 0 0, .slice none 0 0, .slice none 0 0] 41 (0, 0)))
  have HT := Lib.hid (hT.below HB0.out)
  have hz0 : ((w.alloc (.cells #[.int .i64 T.arch, .string ⟨T.name.toArray⟩, .string ⟨T.cycle.toArray⟩, .slice Ai T.init.length ci, .slice Ac T.code.length cc, .int .i64 T.q, .int .i64 T.k, .int .i64 T.t, .int .i64 T.r, .string ⟨T.l.toArray⟩, .int .i64 T.v, .slice A0 l0 q0] 32 (0, 0))).alloc (.cells #[.slice none 0 0, .slice none 0 0, .slice none 0 0, .slice none 0 0, .slice none 0 0, .slice none 0 0, .slice none 0 0, .slice none 0 0, .slice none 0 0] 41 (0, 0))).heap.size = w.heap.size + 1 + 1 := by simp
  have HT0 := Lib.hid hT
  clear hT
  go_enter Tryz.func15, Tryz.ntmps15
  go_wp2_with fail
  refine (checkFP ci cc HT.out).mono ?_
  rintro e w2 ⟨rfl, hb⟩
  have HB2 := Lib.hid (below_trans HB0.out hb)
  have HT2 := Lib.hid (HT.out.below hb)
  have HTB2 := Lib.hid (HTB.out.go hb)
  have HRB2 := Lib.hid (HRB.out.go hb)
  have hz2 : w.heap.size + 1 < w2.heap.size := by have := hb.size; omega
  simp only [World.size_alloc] at HRB2
  clear hb HT HTB HRB HB0 hz0
  by_cases hE : fileE T = 0
  · have HE := Lib.hid hE
    have f1 : (fileE T != 0) = false := by simpa using hE
    have HSM := fileE_small hE
    have hil := HT2.out.ilen
    have hcl := HT2.out.clen
    have HB3 := Lib.hid (alloc_b w2 (.cells #[.slice none 0 0, .slice none 0 0, .slice none 0 0, .slice none 0 0, .slice none 0 0, .slice none 0 0, .slice none 0 0, .slice none 0 0, .slice none 0 0] 41 (0, 0)))
    have HOB := Lib.hid (Blk.new w2 41 #[.slice none 0 0, .slice none 0 0, .slice none 0 0, .slice none 0 0, .slice none 0 0, .slice none 0 0, .slice none 0 0, .slice none 0 0, .slice none 0 0])
    have HT3 := Lib.hid (HT2.out.below HB3.out)
    have HTB3 := Lib.hid (HTB2.out.go HB3.out)
    have HRB3 := Lib.hid (HRB2.out.go HB3.out)
    have hz3 : (w2.alloc (.cells #[.slice none 0 0, .slice none 0 0, .slice none 0 0, .slice none 0 0, .slice none 0 0, .slice none 0 0, .slice none 0 0, .slice none 0 0, .slice none 0 0] 41 (0, 0))).heap.size = w2.heap.size + 1 := by simp
    have b0 := HTB3.out.cell 0
    have b1 := HTB3.out.cell 1
    have b2 := HTB3.out.cell 2
    have b3 := HTB3.out.cell 3
    have b4 := HTB3.out.cell 4
    have b5 := HTB3.out.cell 5
    have b6 := HTB3.out.cell 6
    have b7 := HTB3.out.cell 7
    have b8 := HTB3.out.cell 8
    have b9 := HTB3.out.cell 9
    have b10 := HTB3.out.cell 10
    have b11 := HTB3.out.cell 11
    go_wp2_with fail
    refine (locsP ci cc HT3.out).mono ?_
    rintro e w3 ⟨hor, hb⟩
    rcases hor with ⟨hne, _⟩ | ⟨_, v3, rfl, hown⟩
    · exact absurd HE.out hne
    obtain ⟨Al, cl, rfl⟩ := own_shp hown
    obtain ⟨nl, hnl⟩ : ∃ n, (locsN (rawN T)).length = n := ⟨_, rfl⟩
    have HNL := Lib.hid hnl
    have HLW : Hid (encS.Own 9 w.heap.size w3 (.slice Al nl cl) (locsT T)) := by
      rw [← hnl]
      exact Lib.hid (own_lower hown (show w.heap.size ≤ (w2.alloc (.cells #[.slice none 0 0, .slice none 0 0, .slice none 0 0, .slice none 0 0, .slice none 0 0, .slice none 0 0, .slice none 0 0, .slice none 0 0, .slice none 0 0] 41 (0, 0))).heap.size by simp; omega))
    rw [hnl]
    have hnl64 : nl ≤ 64 := by have := HSM.2.1; omega
    have HT4 := Lib.hid (HT3.out.below hb)
    have HTB4 := Lib.hid (HTB3.out.go hb)
    have HRB4 := Lib.hid (HRB3.out.go hb)
    have HOB4 := Lib.hid (HOB.out.go hb)
    have HB4 := Lib.hid (below_trans HB2.out (below_trans HB3.out hb))
    have hz4 : w2.heap.size < w3.heap.size := by have := hb.size; omega
    clear hb hown hnl HT3 HTB3 HRB3 HOB HB3 HT2 HTB2 HRB2 b0 b1 b2 b3 b4 b5 b6 b7 b8 b9 b10 b11 hz3
    have o0 := HOB4.out.cell 0
    have o1 := HOB4.out.cell 1
    have fo := HOB4.out.frozen
    have b3 : w3.cell? ⟨w.heap.size, 3, none⟩ = some (.slice Ai T.init.length ci) := HTB4.out.cell 3
    have hmk := mk_ints nl (by omega)
    have hn1 : ¬ w.heap.size = w2.heap.size := by omega
    have hn2 : ¬ w2.heap.size = w.heap.size := by omega
    have hn3 : w.heap.size < w3.heap.size := by omega
    go_wp2_with fail
    have HOX := Lib.hid (show Blk (((w3.setCell ⟨w2.heap.size, 0, none⟩ (.slice Al nl cl)).setCell ⟨w2.heap.size, 1, none⟩ (.slice (some ⟨w3.heap.size, 0, none⟩) nl nl)).alloc (.cells (cellsI (List.replicate nl 0)) 3 (0, 0))) w2.heap.size 41 #[.slice Al nl cl, .slice (some ⟨w3.heap.size, 0, none⟩) nl nl, .slice none 0 0, .slice none 0 0, .slice none 0 0, .slice none 0 0, .slice none 0 0, .slice none 0 0, .slice none 0 0] from ((HOB4.out.set_ 0 (.slice Al nl cl)).set_ 1 (.slice (some ⟨w3.heap.size, 0, none⟩) nl nl)).alloc _)
    have HQX : Hid (Blk (((w3.setCell ⟨w2.heap.size, 0, none⟩ (.slice Al nl cl)).setCell ⟨w2.heap.size, 1, none⟩ (.slice (some ⟨w3.heap.size, 0, none⟩) nl nl)).alloc (.cells (cellsI (List.replicate nl 0)) 3 (0, 0))) w3.heap.size 3 (encI.flat (List.replicate nl 0)).toArray) := by
      have := Blk.new ((w3.setCell ⟨w2.heap.size, 0, none⟩ (.slice Al nl cl)).setCell ⟨w2.heap.size, 1, none⟩ (.slice (some ⟨w3.heap.size, 0, none⟩) nl nl)) 3 (cellsI (List.replicate nl 0))
      simp only [World.size_setCell] at this
      rw [cellsI_flat] at this ⊢
      exact Lib.hid this
    have HLX := Lib.hid (own_below (own_setO (own_setO HLW.out HOB4.out (by decide) 0 (.slice Al nl cl)) (HOB4.out.set_ 0 (.slice Al nl cl)) (by decide) 1 (.slice (some ⟨w3.heap.size, 0, none⟩) nl nl)) (alloc_b _ (.cells (cellsI (List.replicate nl 0)) 3 (0, 0))))
    have HTX := Lib.hid (((HTB4.out.far (p := ⟨w2.heap.size, 0, none⟩) (show w.heap.size ≠ w2.heap.size by omega) (.slice Al nl cl)).far (p := ⟨w2.heap.size, 1, none⟩) (show w.heap.size ≠ w2.heap.size by omega) (.slice (some ⟨w3.heap.size, 0, none⟩) nl nl)).alloc (.cells (cellsI (List.replicate nl 0)) 3 (0, 0)))
    have HRX := Lib.hid (((HRB4.out.far (p := ⟨w2.heap.size, 0, none⟩) (show w.heap.size + 1 ≠ w2.heap.size by omega) (.slice Al nl cl)).far (p := ⟨w2.heap.size, 1, none⟩) (show w.heap.size + 1 ≠ w2.heap.size by omega) (.slice (some ⟨w3.heap.size, 0, none⟩) nl nl)).alloc (.cells (cellsI (List.replicate nl 0)) 3 (0, 0)))
    have HBX := Lib.hid (below_alloc ((HB4.out.setCell (p := ⟨w2.heap.size, 0, none⟩) (show w.heap.size ≤ w2.heap.size by omega) (.slice Al nl cl)).setCell (p := ⟨w2.heap.size, 1, none⟩) (show w.heap.size ≤ w2.heap.size by omega) (.slice (some ⟨w3.heap.size, 0, none⟩) nl nl)) (.cells (cellsI (List.replicate nl 0)) 3 (0, 0)))
    generalize ((w3.setCell ⟨w2.heap.size, 0, none⟩ (.slice Al nl cl)).setCell ⟨w2.heap.size, 1, none⟩ (.slice (some ⟨w3.heap.size, 0, none⟩) nl nl)).alloc (.cells (cellsI (List.replicate nl 0)) 3 (0, 0)) = w4 at *
    have HSR : Hid (∀ (x : Nm) (y : World), x ∈ locsT T → encS.At y Al (locsT T) → Calls Tryz.prog 60 #[.slice Al nl cl, .string ⟨x.toArray⟩] y fun e y' => e = .returned (.tuple #[.int .i64 (((locsT T).idxOf x : Nat) : Int), .bool true]) ∧ Below y.heap.size y y') := Lib.hid (fun x y hx hy => by
      rw [← HNL.out]
      refine (searchP Al cl (locsT T) x y hy (by have := HNL.out; unfold locsT; omega) (locsN_str _) hx).mono ?_
      rintro e y' ⟨rfl, q, rfl⟩
      exact ⟨rfl, below_drewN (Below.refl _ _) q⟩)
    clear o0 o1 fo b3 hmk HOB4 HTB4 HRB4 HB4 HLW HT4
    go_loopw [41] (fun v wr => ∃ (i : Nat) (I : List Int), i ≤ T.init.length ∧ v = .int .i64 i ∧ I = (T.init.take i).foldl (firS (locsT T)) (List.replicate nl 0) ∧ I.length = nl ∧ Blk wr w2.heap.size 41 #[.slice Al nl cl, .slice (some ⟨w3.heap.size, 0, none⟩) nl nl, .slice none 0 0, .slice none 0 0, .slice none 0 0, .slice none 0 0, .slice none 0 0, .slice none 0 0, .slice none 0 0] ∧ Blk wr w3.heap.size 3 (encI.flat I).toArray ∧ encS.Own 9 w.heap.size wr (.slice Al nl cl) (locsT T) ∧ Blk wr w.heap.size 32 #[.int .i64 T.arch, .string ⟨T.name.toArray⟩, .string ⟨T.cycle.toArray⟩, .slice Ai T.init.length ci, .slice Ac T.code.length cc, .int .i64 T.q, .int .i64 T.k, .int .i64 T.t, .int .i64 T.r, .string ⟨T.l.toArray⟩, .int .i64 T.v, .slice A0 l0 q0] ∧ Blk wr (w.heap.size + 1) 41 #[.slice none 0 0, .slice none 0 0, .slice none 0 0, .slice none 0 0, .slice none 0 0, .slice none 0 0, .slice none 0 0, .slice none 0 0, .slice none 0 0] ∧ Below w.heap.size w wr) (fun v _ => T.init.length - (intOf v).toNat)
    case atStart => exact ⟨0, _, Nat.zero_le _, rfl, rfl, by simp, HOX.out, HQX.out, HLX.out, HTX.out, HRX.out, HBX.out⟩
    case round =>
      obtain ⟨i, I, hi, rfl, hI, hIl, ho, hq, hlo, ht, hr, hb⟩ := hrel
      have HII := Lib.hid hI
      have HO := Lib.hid ho
      have HQ := Lib.hid hq
      have HLO := Lib.hid hlo
      have HTB := Lib.hid ht
      have HRB := Lib.hid hr
      have HB := Lib.hid hb
      clear hI ho hq hlo ht hr hb HOX HQX HLX HTX HRX HBX
      by_cases hlt : i < T.init.length
      · have ex := List.getElem?_eq_getElem hlt
        obtain ⟨x, hx⟩ : ∃ x, T.init[i] = x := ⟨_, rfl⟩
        rw [hx] at ex
        have HNX := Lib.hid (show (T.init.take (i + 1)).foldl (firS (locsT T)) (List.replicate nl 0) = firS (locsT T) I x by
          obtain ⟨h1, h2⟩ := List.getElem?_eq_some_iff.1 ex
          rw [List.take_succ_eq_append_getElem h1, List.foldl_append, ← HII.out, h2]; rfl)
        have hok := okI_of HE.out (List.mem_of_getElem? ex)
        obtain ⟨b, o, hA, c0, c1, c2, c3, c4, _⟩ := (HT0.out.below HB.out).init i x ex
        subst hA
        have hii : (0 : Int) ≤ (i : Int) := by omega
        have hij : (i : Int) < (T.init.length : Int) := by omega
        clear ex hx
        by_cases hth : x.th = -1
        · obtain ⟨hm, _⟩ := hok.mem hth
          obtain ⟨k, hk⟩ : ∃ k, (locsT T).idxOf x.loc = k := ⟨_, rfl⟩
          have hkn : k < nl := by have h1 := List.idxOf_lt_length_of_mem hm; have h2 : (locsT T).length = nl := HNL.out; omega
          rw [hth] at c0
          have HSX : Hid (∀ y : World, encS.At y Al (locsT T) → Calls Tryz.prog 60 #[.slice Al nl cl, .string ⟨x.loc.toArray⟩] y fun e y' => e = .returned (.tuple #[.int .i64 (k : Int), .bool true]) ∧ Below y.heap.size y y') := Lib.hid (fun y hy => by rw [← hk]; exact HSR.out x.loc y hm hy)
          have HFS := Lib.hid (show firS (locsT T) I x = I.set k x.vn by unfold firS; rw [if_pos hth, hk])
          have HL0 := Lib.hid (alloc_b wr (.cells #[.int .i64 (-1), .int .i64 x.rg, .string ⟨x.loc.toArray⟩, .string ⟨x.vl.toArray⟩, .int .i64 x.vn] 131 (0, 0)))
          have HLB := Lib.hid (Blk.new wr 131 #[.int .i64 (-1), .int .i64 x.rg, .string ⟨x.loc.toArray⟩, .string ⟨x.vl.toArray⟩, .int .i64 x.vn])
          have HAT : Hid (encS.At (wr.alloc (.cells #[.int .i64 (-1), .int .i64 x.rg, .string ⟨x.loc.toArray⟩, .string ⟨x.vl.toArray⟩, .int .i64 x.vn] 131 (0, 0))) Al (locsT T)) := by
            obtain ⟨A', cap', e, hat, _⟩ := Enc.Own.at_ (E := encS) HLO.out
            simp only [Value.slice.injEq] at e
            obtain ⟨rfl, _⟩ := e
            exact Lib.hid (hat.below HL0.out)
          have o0 : wr.cell? ⟨w2.heap.size, 0, none⟩ = some (.slice Al nl cl) := HO.out.cell 0
          have hlo1 : w2.heap.size < wr.heap.size := HO.out.lt
          have hlq1 : w3.heap.size < wr.heap.size := HQ.out.lt
          clear hok hth hm hk
          go_wp2_with fail
          refine (HSX.out _ HAT.out).mono ?_
          rintro e w6 ⟨rfl, hb6⟩
          have HB6 := Lib.hid (below_trans HL0.out hb6)
          have n4 : w6.cell? ⟨wr.heap.size, 4, none⟩ = some (.int .i64 x.vn) := (HLB.out.go hb6).cell 4
          have o1 : w6.cell? ⟨w2.heap.size, 1, none⟩ = some (.slice (some ⟨w3.heap.size, 0, none⟩) nl nl) := (HO.out.go HB6.out).cell 1
          have HQ6 := Lib.hid (HQ.out.go HB6.out)
          have hki : (k : Int) < (nl : Int) := by omega
          have hki0 : (0 : Int) ≤ (k : Int) := by omega
          obtain ⟨n0, hn0⟩ : ∃ n0, I[k]? = some n0 := ⟨_, List.getElem?_eq_getElem (by omega)⟩
          have z0 : w6.cell? ⟨w3.heap.size, k, none⟩ = some (.int .i64 n0) := (by have h1 := encI.flat_at hn0 (show 0 < 1 by omega); rw [show k * encI.size + 0 = k by show k * 1 + 0 = k; omega] at h1; rw [HQ6.out.cell, List.getElem?_toArray]; exact h1)
          have f0 := HQ6.out.frozen k
          clear hb6 o0 hn0
          go_wp2_with fail
          have HW := Lib.hid (show Blk (w6.setCell ⟨w3.heap.size, k, none⟩ (.int .i64 x.vn)) w3.heap.size 3 (encI.flat (I.set k x.vn)).toArray by
            have := HQ6.out.set_ k (.int .i64 x.vn)
            rw [flatI_set _ _ _ (by omega)] at this
            exact this)
          go_roundw
          case rel => exact ⟨i + 1, I.set k x.vn, by omega, by go_num, by rw [HNX.out, HFS.out], by simp [hIl], (HO.out.go HB6.out).far (by simp; omega) _, HW.out, own_setO (own_below HLO.out HB6.out) HQ6.out (by decide) _ _, (HTB.out.go HB6.out).far (by simp; omega) _, (HRB.out.go HB6.out).far (by simp; omega) _, (below_trans HB.out HB6.out).setCell (p := ⟨w3.heap.size, k, none⟩) (show w.heap.size ≤ w3.heap.size by omega) _⟩
          case measure => simp [intOf]; omega
        · have HSM2 := Lib.hid (show firS (locsT T) I x = I from if_neg hth)
          have htf : (x.th == -1) = false := by simpa using hth
          clear hok
          go_wp2_with fail
          go_roundw
          case rel => exact ⟨i + 1, I, by omega, by go_num, by rw [HNX.out, HSM2.out], hIl, HO.out.alloc _, HQ.out.alloc _, own_below HLO.out (alloc_b _ _), HTB.out.alloc _, HRB.out.alloc _, below_alloc HB.out _⟩
          case measure => simp [intOf]; omega
      · have hie : i = T.init.length := by omega
        have hij : ¬ (i : Int) < (T.init.length : Int) := by omega
        have HFI := Lib.hid (show I = firL (locsT T) T.init by
          rw [HII.out, hie, List.take_length]; unfold firL; rw [show (locsT T).length = nl from HNL.out])
        have b5 := HTB.out.cell 5
        have b6 := HTB.out.cell 6
        have b7 := HTB.out.cell 7
        have b8 := HTB.out.cell 8
        have b9 := HTB.out.cell 9
        have b10 := HTB.out.cell 10
        have b11 := HTB.out.cell 11
        go_wp2_with fail
        have HK := Lib.hid (SlAt.below HT0.out.kids (Nat.le_refl _) HB.out)
        have HL := Lib.hid HT0.out.llen
        have hbz := HB.out.size
        refine (topG w.heap.size _ hbz HK.out HL.out).mono ?_
        rintro e w5 ⟨u, rfl, hown, hb⟩
        obtain ⟨At, ct, rfl⟩ := own_shp hown
        obtain ⟨nt, hnt⟩ : ∃ n, (thsT T).length = n := ⟨_, rfl⟩
        have HTO : Hid (w5.ownsRow w.heap.size 25 3 (.slice At nt ct) (thsT T).length (thCells (thsT T))) := by
          rw [← hnt]
          exact Lib.hid (own_lower hown hbz)
        have hnt2 : (topT T.q T.k T.t T.r T.l T.v T.kids).length = nt := hnt
        rw [hnt2]
        have HNT := Lib.hid hnt
        have hnt3 : nt ≤ 1024 := by rw [← hnt]; exact thsT_len T
        have HO5 := Lib.hid (HO.out.go hb)
        have HQ5 := Lib.hid (HQ.out.go hb)
        have HLO5 := Lib.hid (own_below HLO.out hb)
        have HTB5 := Lib.hid (HTB.out.go hb)
        have HRB5 := Lib.hid (HRB.out.go hb)
        have HB5 := Lib.hid (below_trans HB.out hb)
        have hqo := blk_ne HO.out HQ.out (by decide)
        have hwo : w2.heap.size < w5.heap.size := HO5.out.lt
        have hwt : w.heap.size < w5.heap.size := HTB5.out.lt
        clear hb hown hnt hnt2 b5 b6 b7 b8 b9 b10 b11 HO HQ HLO HTB HRB HB HK HL
        have o7 := HO5.out.cell 7
        have o8 := HO5.out.cell 8
        have fo := HO5.out.frozen
        have b4 : w5.cell? ⟨w.heap.size, 4, none⟩ = some (.slice Ac T.code.length cc) := HTB5.out.cell 4
        have hmk := mk_ends nt (by omega)
        go_wp2_with fail
        have HOS := Lib.hid (HO5.out.set_ 7 (.slice At nt ct))
        have HOA : Hid (OutAt (((w5.setCell ⟨w2.heap.size, 7, none⟩ (.slice At nt ct)).setCell ⟨w2.heap.size, 8, none⟩ (.slice (some ⟨w5.heap.size, 0, none⟩) nt nt)).alloc (.cells (encP.flat (List.replicate nt ((0 : Int), (0 : Int)))).toArray 75 (0, 0))) w.heap.size w2.heap.size ⟨locsT T, firL (locsT T) T.init, thsT T, tr0 (thsT T)⟩ ⟨.slice Al nl cl, .slice (some ⟨w3.heap.size, 0, none⟩) nl nl, .slice none 0 0, .slice none 0 0, .slice none 0 0, .slice none 0 0, .slice none 0 0, .slice At nt ct, .slice (some ⟨w5.heap.size, 0, none⟩) nt nt⟩) := by
          have hb := Blk.new ((w5.setCell ⟨w2.heap.size, 7, none⟩ (.slice At nt ct)).setCell ⟨w2.heap.size, 8, none⟩ (.slice (some ⟨w5.heap.size, 0, none⟩) nt nt)) 75 (encP.flat (List.replicate nt ((0 : Int), (0 : Int)))).toArray
          simp only [World.size_setCell] at hb
          have hq := ((HQ5.out.far (p := ⟨w2.heap.size, 7, none⟩) (Ne.symm hqo) (.slice At nt ct)).far (p := ⟨w2.heap.size, 8, none⟩) (Ne.symm hqo) (.slice (some ⟨w5.heap.size, 0, none⟩) nt nt)).alloc (.cells (encP.flat (List.replicate nt ((0 : Int), (0 : Int)))).toArray 75 (0, 0))
          rw [HFI.out] at hq
          refine Lib.hid ⟨(HOS.out.set_ 8 (.slice (some ⟨w5.heap.size, 0, none⟩) nt nt)).alloc _, by omega, own_below (own_setO (own_setO HLO5.out HO5.out (by decide) _ _) HOS.out (by decide) _ _) (alloc_b _ _), ⟨w3.heap.size, ?_, hq, by omega⟩, Enc.Own.nil _ _ _, Enc.Own.nil _ _ _, Enc.Own.nil _ _ _, Enc.Own.nil _ _ _, Enc.Own.nil _ _ _, own_below (own_setO (own_setO HTO.out HO5.out (by decide) _ _) HOS.out (by decide) _ _) (alloc_b _ _), ⟨w5.heap.size, ?_, ?_, by omega⟩, (fun x hx => by cases hx), (fun x hx => by cases hx), (fun x hx => by cases hx)⟩
          · rw [← HFI.out, hIl]
          · simp only [tr0, List.length_replicate, HNT.out]
          · simp only [tr0, HNT.out]; exact hb
        have HTX := Lib.hid (((HTB5.out.far (p := ⟨w2.heap.size, 7, none⟩) (show w.heap.size ≠ w2.heap.size by omega) (.slice At nt ct)).far (p := ⟨w2.heap.size, 8, none⟩) (show w.heap.size ≠ w2.heap.size by omega) (.slice (some ⟨w5.heap.size, 0, none⟩) nt nt)).alloc (.cells (encP.flat (List.replicate nt ((0 : Int), (0 : Int)))).toArray 75 (0, 0)))
        have HRX := Lib.hid (((HRB5.out.far (p := ⟨w2.heap.size, 7, none⟩) (show w.heap.size + 1 ≠ w2.heap.size by omega) (.slice At nt ct)).far (p := ⟨w2.heap.size, 8, none⟩) (show w.heap.size + 1 ≠ w2.heap.size by omega) (.slice (some ⟨w5.heap.size, 0, none⟩) nt nt)).alloc (.cells (encP.flat (List.replicate nt ((0 : Int), (0 : Int)))).toArray 75 (0, 0)))
        have HBX := Lib.hid (below_alloc ((HB5.out.setCell (p := ⟨w2.heap.size, 7, none⟩) (show w.heap.size ≤ w2.heap.size by omega) (.slice At nt ct)).setCell (p := ⟨w2.heap.size, 8, none⟩) (show w.heap.size ≤ w2.heap.size by omega) (.slice (some ⟨w5.heap.size, 0, none⟩) nt nt)) (.cells (encP.flat (List.replicate nt ((0 : Int), (0 : Int)))).toArray 75 (0, 0)))
        generalize ((w5.setCell ⟨w2.heap.size, 7, none⟩ (.slice At nt ct)).setCell ⟨w2.heap.size, 8, none⟩ (.slice (some ⟨w5.heap.size, 0, none⟩) nt nt)).alloc (.cells (encP.flat (List.replicate nt ((0 : Int), (0 : Int)))).toArray 75 (0, 0)) = w6 at *
        clear HO5 HQ5 HLO5 HTB5 HRB5 HB5 HTO HOS o7 o8 fo b4 hmk hqo hij
        obtain ⟨X, hX⟩ : ∃ X, thrsL (isR T) (locsT T) T.init (thsT T) 0 T.code (tr0 (thsT T)) = X := ⟨_, rfl⟩
        have HX := Lib.hid hX
        have HTR := Lib.hid (traceL_of HE.out hX)
        clear hX
        go_loopw [79] (fun v wr => ∃ (k : Nat) (a : Tr) (V : OutV), k ≤ T.code.length ∧ v = .int .i64 k ∧ thrsL (isR T) (locsT T) T.init (thsT T) k (T.code.drop k) a = X ∧ TrOK nt k a ∧ OutAt wr w.heap.size w2.heap.size ⟨locsT T, firL (locsT T) T.init, thsT T, a⟩ V ∧ V.lo = .slice Al nl cl ∧ V.th = .slice At nt ct ∧ Blk wr w.heap.size 32 #[.int .i64 T.arch, .string ⟨T.name.toArray⟩, .string ⟨T.cycle.toArray⟩, .slice Ai T.init.length ci, .slice Ac T.code.length cc, .int .i64 T.q, .int .i64 T.k, .int .i64 T.t, .int .i64 T.r, .string ⟨T.l.toArray⟩, .int .i64 T.v, .slice A0 l0 q0] ∧ Blk wr (w.heap.size + 1) 41 #[.slice none 0 0, .slice none 0 0, .slice none 0 0, .slice none 0 0, .slice none 0 0, .slice none 0 0, .slice none 0 0, .slice none 0 0, .slice none 0 0] ∧ Below w.heap.size w wr) (fun v _ => T.code.length - (intOf v).toNat)
        case atStart => exact ⟨0, _, _, Nat.zero_le _, rfl, by rw [List.drop_zero]; exact HX.out, by have := trOK0 T; rw [HNT.out] at this; exact this, HOA.out, rfl, rfl, HTX.out, HRX.out, HBX.out⟩
        case round =>
          obtain ⟨k, a, V, hk, rfl, hgo, hok, hoa, hvl, hvt, ht, hr, hb⟩ := hrel
          obtain ⟨wk, hwk⟩ : ∃ z : World, z = wr := ⟨_, rfl⟩
          subst hwk
          obtain ⟨vlo, vin, vev, vbr, vad, vda, vct, vth, ven⟩ := V
          simp only at hvl hvt
          subst hvl hvt
          obtain ⟨Ae, ce, hve⟩ := own_shp hoa.ev
          simp only at hve
          subst hve
          obtain ⟨qe, hve2, hqb, _⟩ := hoa.en
          simp only at hve2
          rw [hok.ends] at hve2
          subst hve2
          have hqe := hqb.lt
          clear hqb
          obtain ⟨f, hf⟩ : ∃ f, a.evs.length = f := ⟨_, rfl⟩
          have hf64 : f ≤ 64 := by have := hok.evs; omega
          have HF := Lib.hid hf
          rw [hf] at hoa
          have HGO := Lib.hid hgo
          have HTK := Lib.hid hok
          have HOA := Lib.hid hoa
          have HTB := Lib.hid ht
          have HRB := Lib.hid hr
          have HB := Lib.hid hb
          have hbz := hb.size
          have hww := hoa.blk.lt
          clear hgo hok hoa ht hr hb hf HTX HRX HBX
          by_cases hlt : k < T.code.length
          · obtain ⟨c, hc⟩ : ∃ c, T.code[k]? = some c := ⟨_, List.getElem?_eq_getElem hlt⟩
            have HC := Lib.hid hc
            have HDC := Lib.hid (show T.code.drop k = c :: T.code.drop (k + 1) from drop_cons hc)
            have HTW := Lib.hid (HT0.out.below HB.out)
            have hii : (0 : Int) ≤ (k : Int) := by omega
            have hij : (k : Int) < (T.code.length : Int) := by omega
            have b0 := HTB.out.cell 0
            have b1 := HTB.out.cell 1
            have b2 := HTB.out.cell 2
            have b3 := HTB.out.cell 3
            have b4 := HTB.out.cell 4
            have b5 := HTB.out.cell 5
            have b6 := HTB.out.cell 6
            have b7 := HTB.out.cell 7
            have b8 := HTB.out.cell 8
            have b9 := HTB.out.cell 9
            have b10 := HTB.out.cell 10
            have b11 := HTB.out.cell 11
            have o0 : wk.cell? ⟨w2.heap.size, 0, none⟩ = some (.slice Al nl cl) := HOA.out.blk.cell 0
            have o2 : wk.cell? ⟨w2.heap.size, 2, none⟩ = some (.slice Ae f ce) := HOA.out.blk.cell 2
            clear hc
            go_wp2_with fail
            refine (beginP T HE.out Ai Ac Al ci cc nl cl k f _ (locsT T) wk HTW.out).mono ?_
            rintro e w7 ⟨g, V7, rfl, hR7, hb7⟩
            have HR7 := Lib.hid hR7
            have HB7 := Lib.hid hb7
            clear hR7 hb7 b0 b1 b2 b3 b4 b5 b6 b7 b8 b9 b10 b11 o0 o2
            go_wp2_with fail
            have HAT : encS.At wk Al (locsT T) := by
              obtain ⟨A', cap', e, hat, _⟩ := Enc.Own.at_ (E := encS) HOA.out.lo
              simp only [Value.slice.injEq] at e
              obtain ⟨rfl, _⟩ := e
              exact hat
            refine (runP (w0 := wk) c ⟨⟨Ai, Ac, ci, cc, rfl, rfl, HTW.out⟩, ⟨Al, cl, by rw [show (locsT T).length = nl from HNL.out], HAT⟩, locsN_str _, HSM.2.1, rfl⟩ HB7.out HC.out (fun j x hx => valI_of HE.out rfl HC.out hx) ((codE_zero HSM.2.2.2.1).2.2 k c HC.out).1 (inv0 HE.out rfl hf64 k) HR7.out (by unfold nregs; split <;> omega)).mono ?_
            intro e w8 hpost
            cases hg : goL ⟨k, isR T, f, locsT T⟩ c 0 (rn0 (isR T) T.init k) with
            | none =>
              rw [hg] at hpost
              obtain ⟨r8, V8, rfl, _, hb8, _⟩ := hpost
              have HXE := Lib.hid (thrs_err HGO.out HDC.out (thrL_none HF.out hg))
              have HB8 := Lib.hid (HB7.out.trans hb8)
              have HRB8 := Lib.hid (HRB.out.go HB8.out)
              have HBW := Lib.hid (below_trans HB.out HB8.out)
              clear hb8 hg
              have r0 := HRB8.out.cell 0
              have r1 := HRB8.out.cell 1
              have r2 := HRB8.out.cell 2
              have r3 := HRB8.out.cell 3
              have r4 := HRB8.out.cell 4
              have r5 := HRB8.out.cell 5
              have r6 := HRB8.out.cell 6
              have r7 := HRB8.out.cell 7
              have r8' := HRB8.out.cell 8
              have fr := HRB8.out.frozen
              go_wp2_with fail
              refine bodyPost_ret (v := .tuple #[.agg #[.slice none 0 0, .slice none 0 0, .slice none 0 0, .slice none 0 0, .slice none 0 0, .slice none 0 0, .slice none 0 0, .slice none 0 0, .slice none 0 0], .int .i64 150, .int .i64 (k : Int)]) (by simp [results, Tryz.results15, go_sem, *]) rfl ?_
              refine ⟨?_, (below9 (HBW.out) (Nat.le_succ _) _ _ _ _ _ _ _ _ _)⟩
              rw [HTR.out, HXE.out]
              rfl
            | some r8 =>
              rw [hg] at hpost
              obtain ⟨V8, rfl, hR8, hb8, _⟩ := hpost
              have HB8 := Lib.hid (HB7.out.trans hb8)
              have HRB8 := Lib.hid (HRB.out.go HB8.out)
              have HBW := Lib.hid (below_trans HB.out HB8.out)
              have HR8 := Lib.hid hR8
              have HGL := Lib.hid hg
              have k25 : w8.cell? ⟨g, 25, none⟩ = some (.bool r8.full) := hR8.blk.cell 25
              clear hb8 hR8 hg
              cases hfl : r8.full with
              | true =>
                rw [hfl] at k25
                have HXE := Lib.hid (thrs_err HGO.out HDC.out (thrL_full HF.out HGL.out hfl))
                clear hfl
                have r0 := HRB8.out.cell 0
                have r1 := HRB8.out.cell 1
                have r2 := HRB8.out.cell 2
                have r3 := HRB8.out.cell 3
                have r4 := HRB8.out.cell 4
                have r5 := HRB8.out.cell 5
                have r6 := HRB8.out.cell 6
                have r7 := HRB8.out.cell 7
                have r8' := HRB8.out.cell 8
                have fr := HRB8.out.frozen
                go_wp2_with fail
                refine bodyPost_ret (v := .tuple #[.agg #[.slice none 0 0, .slice none 0 0, .slice none 0 0, .slice none 0 0, .slice none 0 0, .slice none 0 0, .slice none 0 0, .slice none 0 0, .slice none 0 0], .int .i64 2, .int .i64 (k : Int)]) (by simp [results, Tryz.results15, go_sem, *]) rfl ?_
                refine ⟨?_, (below9 (HBW.out) (Nat.le_succ _) _ _ _ _ _ _ _ _ _)⟩
                rw [HTR.out, HXE.out]
                rfl
              | false =>
                rw [hfl] at k25
                have HFL := Lib.hid hfl
                clear hfl
                have HOA8 := Lib.hid (HOA.out.below HB8.out)
                have HTB8 := Lib.hid (HTB.out.go HB8.out)
                have o7 : w8.cell? ⟨w2.heap.size, 7, none⟩ = some (.slice At nt ct) := HOA8.out.blk.cell 7
                have HI8 := Lib.hid (goL_inv (fun j x hx => valI_of HE.out rfl HC.out hx) c.length 0 _ _ (Nat.sub_le _ _) (Nat.zero_le _) (inv0 HE.out rfl hf64 k) HGL.out)
                obtain ⟨Y, hY⟩ : ∃ Y, endsL k f r8 0 (thsT T) a.ends = Y := ⟨_, rfl⟩
                have HY := Lib.hid hY
                clear hY
                go_wp2_with fail
                clear o7 k25
                go_loopw [105] (fun v wq => ∃ (i : Nat) (m : List (Int × Int)), i ≤ nt ∧ v = .int .i64 i ∧ endsL k f r8 i ((thsT T).drop i) m = Y ∧ m.length = nt ∧ EndSt w wk.heap.size wq w2.heap.size g ⟨T, .slice Ai T.init.length ci, .slice Ac T.code.length cc, .slice A0 l0 q0, .slice Al nl cl, ⟨k, isR T, f, locsT T⟩⟩ r8 V8 ⟨locsT T, firL (locsT T) T.init, thsT T, { a with ends := m }⟩ ⟨.slice Al nl cl, vin, .slice Ae f ce, vbr, vad, vda, vct, .slice At nt ct, .slice (some ⟨qe, 0, none⟩) nt nt⟩ #[.int .i64 T.arch, .string ⟨T.name.toArray⟩, .string ⟨T.cycle.toArray⟩, .slice Ai T.init.length ci, .slice Ac T.code.length cc, .int .i64 T.q, .int .i64 T.k, .int .i64 T.t, .int .i64 T.r, .string ⟨T.l.toArray⟩, .int .i64 T.v, .slice A0 l0 q0]) (fun v _ => nt - (intOf v).toNat)
                case atStart => exact ⟨0, a.ends, Nat.zero_le _, rfl, by rw [List.drop_zero]; exact HY.out, HTK.out.ends, HOA8.out, HR8.out, HTB8.out, HRB8.out, HBW.out, hz2, hww⟩
                case round =>
                  obtain ⟨i, m, hi, rfl, hend, hml, hes⟩ := hrel
                  have HEN := Lib.hid hend
                  have HES := Lib.hid hes
                  have hzq := hes.out.blk.lt
                  have hgq := hes.run.blk.lt
                  have hgg := hes.run.hg
                  clear hend hes HOA8 HTB8 HR8 HRB8 HBW
                  by_cases hlt2 : i < nt
                  · obtain ⟨x, hx⟩ : ∃ x, (thsT T)[i]? = some x := ⟨_, List.getElem?_eq_getElem (by rw [HNT.out]; exact hlt2)⟩
                    obtain ⟨A', cap', e', hth⟩ := own_thsB HES.out.out.th
                    simp only [Value.slice.injEq] at e'
                    have e1' := e'.1
                    subst e1'
                    clear e'
                    obtain ⟨tb, tq9, hA, c0, c1, c2⟩ := hth i x hx
                    subst hA
                    obtain ⟨xt, xr, xl⟩ := x
                    simp only at c0 c1 c2
                    have HXM := Lib.hid (List.mem_of_getElem? hx)
                    have HDX := Lib.hid (show (thsT T).drop i = (xt, xr, xl) :: (thsT T).drop (i + 1) from drop_cons hx)
                    clear hx hth
                    have hii2 : (0 : Int) ≤ (i : Int) := by omega
                    have hij2 : (i : Int) < (nt : Int) := by omega
                    by_cases hxt : xt = (k : Int)
                    · obtain ⟨_, hx1, hx2⟩ := thg_reg HE.out HXM.out (show xt ≠ -1 by omega)
                      simp only at hx1 hx2
                      obtain ⟨d, rfl⟩ := Int.eq_ofNat_of_zero_le hx1
                      have hdl : d < r8.regs.length := by have := HI8.out.rlen; omega
                      obtain ⟨y, hy⟩ : ∃ y, r8.regs[d]? = some y := ⟨_, List.getElem?_eq_getElem hdl⟩
                      have hy0 : ∀ j, y.h = .rd j → j ≤ 64 := fun j hj => by
                        have h1 := (HI8.out.regs y (List.mem_of_getElem? hy)).1
                        rw [hj] at h1
                        have h2 := RdAt.lt h1
                        have h3 := HI8.out.room
                        simp only at h3
                        omega
                      have HEP : Hid (∀ z, RunAt z wk.heap.size g ⟨T, .slice Ai T.init.length ci, .slice Ac T.code.length cc, .slice A0 l0 q0, .slice Al nl cl, ⟨k, isR T, f, locsT T⟩⟩ r8 V8 → Calls Tryz.prog 64 #[.pointer (some ⟨g, 0, none⟩), .int .i64 (d : Int), .int .i64 (f : Int)] z fun e w' => e = .returned (endV (endL f y.h)) ∧ Below z.heap.size z w') := Lib.hid (fun z hz => endP d f y hf64 hy0 hz hy)
                      subst hxt
                      have HST := Lib.hid (show endS k f r8 m i ((k : Int), (d : Int), xl) = (endL f y.h).map fun e => m.set i e by unfold endS; rw [if_pos rfl]; simp only [rgA_at hy])
                      have HEI := Lib.hid (show (endS k f r8 m i ((k : Int), (d : Int), xl)).bind (fun m' => endsL k f r8 (i + 1) ((thsT T).drop (i + 1)) m') = Y by
                        have := HEN.out
                        rw [HDX.out] at this
                        exact this)
                      obtain ⟨e9, he9⟩ : ∃ e9, m[i]? = some e9 := ⟨_, List.getElem?_eq_getElem (by omega)⟩
                      have HM9 := Lib.hid he9
                      have htk : ((k : Int) == (k : Int)) = true := by simp
                      clear hx1 hx2 hy hy0 hdl he9
                      cases hel : endL f y.h with
                      | none =>
                        rw [hel] at HST
                        rw [hel] at HEP
                        clear hel
                        have HL0 := Lib.hid (alloc_b wr (.cells #[.int .i64 (k : Int), .int .i64 (d : Int), .string ⟨xl.toArray⟩] 25 (0, 0)))
                        have HLB := Lib.hid (Blk.new wr 25 #[.int .i64 (k : Int), .int .i64 (d : Int), .string ⟨xl.toArray⟩])
                        go_wp2_with fail
                        generalize wr.alloc (.cells #[.int .i64 (k : Int), .int .i64 (d : Int), .string ⟨xl.toArray⟩] 25 (0, 0)) = w9 at *
                        have HE9 := Lib.hid (HES.out.below HL0.out)
                        have o8 : w9.cell? ⟨w2.heap.size, 8, none⟩ = some (.slice (some ⟨qe, 0, none⟩) nt nt) := HE9.out.out.blk.cell 8
                        have n1 : w9.cell? ⟨wr.heap.size, 1, none⟩ = some (.int .i64 (d : Int)) := HLB.out.cell 1
                        refine wz (fun y : World => y.cell? ⟨w2.heap.size, 8, none⟩ = some (.slice (some ⟨qe, 0, none⟩) nt nt) ∧ y.cell? ⟨wr.heap.size, 1, none⟩ = some (.int .i64 (d : Int))) [1, 5, 7, 8, 9, 10] ⟨o8, n1⟩ (fun hHeld => ?_)
                        refine wq 0 ?_
                        refine wq 2 ?_
                        refine wq 3 ?_
                        refine wq 4 ?_
                        refine wq 6 ?_
                        refine wt 1 (by assumption) ?_
                        refine wt 5 (by assumption) ?_
                        refine wpE_one (i := 7) (by kernel_rfl) rfl (fun K hK => ?_)
                        go_simp
                        go_at_call 64
                        refine (HEP.out _ HE9.out.run.drew).mono ?_
                        rintro e w10 ⟨rfl, hb10⟩
                        simp only [endV]
                        have hHeld10 := And.intro (cell_go hHeld.1 hb10) (cell_go hHeld.2 hb10)
                        have HB10 := Lib.hid hb10
                        have HE10 := Lib.hid (HE9.out.drew.below HB10.out)
                        have HEB := Lib.hid (HE10.out.en_blk rfl)
                        have hc := en_cells HEB.out HM9.out
                        have d0 := hc.1
                        have d1 := hc.2
                        have fz0 := HEB.out.frozen (i * 2)
                        have fz1 := HEB.out.frozen (i * 2 + 1)
                        have hq1 : ¬ qe = w2.heap.size := blk_ne HEB.out HE10.out.out.blk (by decide)
                        have hq2 : ¬ qe = wr.heap.size := by omega
                        have hq3 : ¬ qe = w.heap.size + 1 := blk_ne HEB.out HE10.out.nil (by decide)
                        have hq4 : ¬ w.heap.size + 1 = qe := fun e => hq3 e.symm
                        have HE12 := Lib.hid (HE10.out.put 0 0 hml hlt2 rfl hqe)
                        refine hK.out _ _ hHeld10 ?_
                        clear hK K hHeld hb10 hc n1 o8
                        refine pu ?_
                        refine wpE_one (i := 8) (by kernel_rfl) rfl (fun K hK => ?_)
                        go_simp
                        refine hK.out _ _ hHeld10 ?_
                        clear hK K
                        refine pu ?_
                        refine wt 9 (by assumption) ?_
                        refine wpE_two (i := 10) (j := 11) (by kernel_rfl) rfl rfl (fun K hK => ?_) (fun K hK => ?_)
                        · go_simp
                          refine hK.out _ _ hHeld10 ?_
                          clear hK K
                          refine pu ?_
                          refine wl 11 ?_
                          have HRB8 := Lib.hid HE10.out.nil
                          have HYN := Lib.hid (show Y = none by have := HEI.out; rw [HST.out] at this; rw [← this]; rfl)
                          have HXE := Lib.hid (thrs_err HGO.out HDC.out (thrL_ends HF.out HGL.out HFL.out (HY.out.trans HYN.out)))
                          have r0 := HRB8.out.cell 0
                          have r1 := HRB8.out.cell 1
                          have r2 := HRB8.out.cell 2
                          have r3 := HRB8.out.cell 3
                          have r4 := HRB8.out.cell 4
                          have r5 := HRB8.out.cell 5
                          have r6 := HRB8.out.cell 6
                          have r7 := HRB8.out.cell 7
                          have r8' := HRB8.out.cell 8
                          have fr := HRB8.out.frozen
                          go_wp2_with fail
                          refine bodyPost_ret (v := .tuple #[.agg #[.slice none 0 0, .slice none 0 0, .slice none 0 0, .slice none 0 0, .slice none 0 0, .slice none 0 0, .slice none 0 0, .slice none 0 0, .slice none 0 0], .int .i64 150, .int .i64 (k : Int)]) (by simp [results, Tryz.results15, go_sem, *]) rfl ?_
                          refine ⟨?_, ?_⟩
                          · rw [HTR.out, HXE.out]
                            rfl
                          · exact (below9 (HE12.out.bel) (Nat.le_succ _) _ _ _ _ _ _ _ _ _)
                        · go_simp
                          refine hK.out _ _ hHeld10 ?_
                          clear hK K
                          refine pu ?_
                          refine wpE_two (i := 10) (j := 12) (by kernel_rfl) rfl rfl (fun K hK => ?_) (fun K hK => ?_)
                          · go_simp
                            refine hK.out _ _ hHeld10 ?_
                            clear hK K
                            refine pu ?_
                            refine wl 12 ?_
                            have HRB8 := Lib.hid HE10.out.nil
                            have HYN := Lib.hid (show Y = none by have := HEI.out; rw [HST.out] at this; rw [← this]; rfl)
                            have HXE := Lib.hid (thrs_err HGO.out HDC.out (thrL_ends HF.out HGL.out HFL.out (HY.out.trans HYN.out)))
                            have r0 := HRB8.out.cell 0
                            have r1 := HRB8.out.cell 1
                            have r2 := HRB8.out.cell 2
                            have r3 := HRB8.out.cell 3
                            have r4 := HRB8.out.cell 4
                            have r5 := HRB8.out.cell 5
                            have r6 := HRB8.out.cell 6
                            have r7 := HRB8.out.cell 7
                            have r8' := HRB8.out.cell 8
                            have fr := HRB8.out.frozen
                            go_wp2_with fail
                            refine bodyPost_ret (v := .tuple #[.agg #[.slice none 0 0, .slice none 0 0, .slice none 0 0, .slice none 0 0, .slice none 0 0, .slice none 0 0, .slice none 0 0, .slice none 0 0, .slice none 0 0], .int .i64 150, .int .i64 (k : Int)]) (by simp [results, Tryz.results15, go_sem, *]) rfl ?_
                            refine ⟨?_, ?_⟩
                            · rw [HTR.out, HXE.out]
                              rfl
                            · exact (below9 (HE12.out.bel) (Nat.le_succ _) _ _ _ _ _ _ _ _ _)
                          · go_simp
                            have hHeld12 := And.intro (cell_set (cell_set hHeld10.1 (p := ⟨qe, i * 2, none⟩) hq1 (.int .i64 0)) (p := ⟨qe, i * 2 + 1, none⟩) hq1 (.int .i64 0)) (cell_set (cell_set hHeld10.2 (p := ⟨qe, i * 2, none⟩) hq2 (.int .i64 0)) (p := ⟨qe, i * 2 + 1, none⟩) hq2 (.int .i64 0))
                            refine hK.out _ _ hHeld12 ?_
                            clear hK K
                            refine pu ?_
                            refine wpE_one (i := 10) (by kernel_rfl) rfl (fun K hK => ?_)
                            go_simp
                            refine hK.out _ _ hHeld12 ?_
                            clear hK K
                            refine pu ?_
                            refine wl 13 ?_
                            have HRB8 := Lib.hid HE10.out.nil
                            have HYN := Lib.hid (show Y = none by have := HEI.out; rw [HST.out] at this; rw [← this]; rfl)
                            have HXE := Lib.hid (thrs_err HGO.out HDC.out (thrL_ends HF.out HGL.out HFL.out (HY.out.trans HYN.out)))
                            have r0 := HRB8.out.cell 0
                            have r1 := HRB8.out.cell 1
                            have r2 := HRB8.out.cell 2
                            have r3 := HRB8.out.cell 3
                            have r4 := HRB8.out.cell 4
                            have r5 := HRB8.out.cell 5
                            have r6 := HRB8.out.cell 6
                            have r7 := HRB8.out.cell 7
                            have r8' := HRB8.out.cell 8
                            have fr := HRB8.out.frozen
                            go_wp2_with fail
                            refine bodyPost_ret (v := .tuple #[.agg #[.slice none 0 0, .slice none 0 0, .slice none 0 0, .slice none 0 0, .slice none 0 0, .slice none 0 0, .slice none 0 0, .slice none 0 0, .slice none 0 0], .int .i64 150, .int .i64 (k : Int)]) (by simp [results, Tryz.results15, go_sem, *]) rfl ?_
                            refine ⟨?_, ?_⟩
                            · rw [HTR.out, HXE.out]
                              rfl
                            · exact (below9 (HE12.out.bel) (Nat.le_succ _) _ _ _ _ _ _ _ _ _)
                      | some p =>
                        obtain ⟨p1, p2⟩ := p
                        rw [hel] at HST
                        rw [hel] at HEP
                        clear hel
                        have HL0 := Lib.hid (alloc_b wr (.cells #[.int .i64 (k : Int), .int .i64 (d : Int), .string ⟨xl.toArray⟩] 25 (0, 0)))
                        have HLB := Lib.hid (Blk.new wr 25 #[.int .i64 (k : Int), .int .i64 (d : Int), .string ⟨xl.toArray⟩])
                        go_wp2_with fail
                        generalize wr.alloc (.cells #[.int .i64 (k : Int), .int .i64 (d : Int), .string ⟨xl.toArray⟩] 25 (0, 0)) = w9 at *
                        have HE9 := Lib.hid (HES.out.below HL0.out)
                        have o8 : w9.cell? ⟨w2.heap.size, 8, none⟩ = some (.slice (some ⟨qe, 0, none⟩) nt nt) := HE9.out.out.blk.cell 8
                        have n1 : w9.cell? ⟨wr.heap.size, 1, none⟩ = some (.int .i64 (d : Int)) := HLB.out.cell 1
                        refine wz (fun y : World => y.cell? ⟨w2.heap.size, 8, none⟩ = some (.slice (some ⟨qe, 0, none⟩) nt nt) ∧ y.cell? ⟨wr.heap.size, 1, none⟩ = some (.int .i64 (d : Int))) [1, 5, 7, 8, 9, 10] ⟨o8, n1⟩ (fun hHeld => ?_)
                        refine wq 0 ?_
                        refine wq 2 ?_
                        refine wq 3 ?_
                        refine wq 4 ?_
                        refine wq 6 ?_
                        refine wt 1 (by assumption) ?_
                        refine wt 5 (by assumption) ?_
                        refine wpE_one (i := 7) (by kernel_rfl) rfl (fun K hK => ?_)
                        go_simp
                        go_at_call 64
                        refine (HEP.out _ HE9.out.run.drew).mono ?_
                        rintro e w10 ⟨rfl, hb10⟩
                        simp only [endV]
                        have hHeld10 := And.intro (cell_go hHeld.1 hb10) (cell_go hHeld.2 hb10)
                        have HB10 := Lib.hid hb10
                        have HE10 := Lib.hid (HE9.out.drew.below HB10.out)
                        have HEB := Lib.hid (HE10.out.en_blk rfl)
                        have hc := en_cells HEB.out HM9.out
                        have d0 := hc.1
                        have d1 := hc.2
                        have fz0 := HEB.out.frozen (i * 2)
                        have fz1 := HEB.out.frozen (i * 2 + 1)
                        have hq1 : ¬ qe = w2.heap.size := blk_ne HEB.out HE10.out.out.blk (by decide)
                        have hq2 : ¬ qe = wr.heap.size := by omega
                        have hq3 : ¬ qe = w.heap.size + 1 := blk_ne HEB.out HE10.out.nil (by decide)
                        have hq4 : ¬ w.heap.size + 1 = qe := fun e => hq3 e.symm
                        have HE12 := Lib.hid (HE10.out.put p1 p2 hml hlt2 rfl hqe)
                        refine hK.out _ _ hHeld10 ?_
                        clear hK K hHeld hb10 hc n1 o8
                        refine pu ?_
                        refine wpE_one (i := 8) (by kernel_rfl) rfl (fun K hK => ?_)
                        go_simp
                        refine hK.out _ _ hHeld10 ?_
                        clear hK K
                        refine pu ?_
                        refine wt 9 (by assumption) ?_
                        refine wpE_two (i := 10) (j := 11) (by kernel_rfl) rfl rfl (fun K hK => ?_) (fun K hK => ?_)
                        · go_simp
                          refine hK.out _ _ hHeld10 ?_
                          clear hK K
                          refine pu ?_
                          refine wl 11 ?_
                          have HNS := Lib.hid (show endsL k f r8 (i + 1) ((thsT T).drop (i + 1)) (m.set i (p1, p2)) = Y by have := HEI.out; rw [HST.out] at this; exact this)
                          go_wp2_with fail
                          go_roundw
                          case rel => first | exact ⟨i + 1, m.set i (p1, p2), by omega, by go_num, HNS.out, by simp [hml], HE12.out⟩ | exact ⟨u3, u4, .int .i64 (i : Int), .pointer (some ⟨wr.heap.size, 0, none⟩), .bool true, .int .i64 ((i : Int) + 1), ⟨i + 1, by omega, by go_num, m.set i (p1, p2), HNS.out, by simp [hml], HE12.out⟩, rfl, rfl, rfl, rfl, rfl, rfl⟩
                          case measure => simp [intOf]; omega
                        · go_simp
                          refine hK.out _ _ hHeld10 ?_
                          clear hK K
                          refine pu ?_
                          refine wpE_two (i := 10) (j := 12) (by kernel_rfl) rfl rfl (fun K hK => ?_) (fun K hK => ?_)
                          · go_simp
                            refine hK.out _ _ hHeld10 ?_
                            clear hK K
                            refine pu ?_
                            refine wl 12 ?_
                            have HNS := Lib.hid (show endsL k f r8 (i + 1) ((thsT T).drop (i + 1)) (m.set i (p1, p2)) = Y by have := HEI.out; rw [HST.out] at this; exact this)
                            go_wp2_with fail
                            go_roundw
                            case rel => first | exact ⟨i + 1, m.set i (p1, p2), by omega, by go_num, HNS.out, by simp [hml], HE12.out⟩ | exact ⟨u3, u4, .int .i64 (i : Int), .pointer (some ⟨wr.heap.size, 0, none⟩), .bool true, .int .i64 ((i : Int) + 1), ⟨i + 1, by omega, by go_num, m.set i (p1, p2), HNS.out, by simp [hml], HE12.out⟩, rfl, rfl, rfl, rfl, rfl, rfl⟩
                            case measure => simp [intOf]; omega
                          · go_simp
                            have hHeld12 := And.intro (cell_set (cell_set hHeld10.1 (p := ⟨qe, i * 2, none⟩) hq1 (.int .i64 p1)) (p := ⟨qe, i * 2 + 1, none⟩) hq1 (.int .i64 p2)) (cell_set (cell_set hHeld10.2 (p := ⟨qe, i * 2, none⟩) hq2 (.int .i64 p1)) (p := ⟨qe, i * 2 + 1, none⟩) hq2 (.int .i64 p2))
                            refine hK.out _ _ hHeld12 ?_
                            clear hK K
                            refine pu ?_
                            refine wpE_one (i := 10) (by kernel_rfl) rfl (fun K hK => ?_)
                            go_simp
                            refine hK.out _ _ hHeld12 ?_
                            clear hK K
                            refine pu ?_
                            refine wl 13 ?_
                            have HNS := Lib.hid (show endsL k f r8 (i + 1) ((thsT T).drop (i + 1)) (m.set i (p1, p2)) = Y by have := HEI.out; rw [HST.out] at this; exact this)
                            go_wp2_with fail
                            go_roundw
                            case rel => first | exact ⟨i + 1, m.set i (p1, p2), by omega, by go_num, HNS.out, by simp [hml], HE12.out⟩ | exact ⟨u3, u4, .int .i64 (i : Int), .pointer (some ⟨wr.heap.size, 0, none⟩), .bool true, .int .i64 ((i : Int) + 1), ⟨i + 1, by omega, by go_num, m.set i (p1, p2), HNS.out, by simp [hml], HE12.out⟩, rfl, rfl, rfl, rfl, rfl, rfl⟩
                            case measure => simp [intOf]; omega
                    · have hxf : (xt == (k : Int)) = false := by simpa using hxt
                      have HNE := Lib.hid (show endsL k f r8 (i + 1) ((thsT T).drop (i + 1)) m = Y by
                        have := HEN.out
                        rw [HDX.out] at this
                        unfold endsL endS at this
                        rw [if_neg hxt] at this
                        exact this)
                      clear hxt
                      go_wp2_with fail
                      go_roundw
                      case rel => exact ⟨i + 1, m, by omega, by go_num, HNE.out, hml, HES.out.below (alloc_b _ _)⟩
                      case measure => simp [intOf]; omega
                  · have hie : i = nt := by omega
                    have hij2 : ¬ (i : Int) < (nt : Int) := by omega
                    have HYM := Lib.hid (show Y = some m by
                      have := HEN.out
                      rw [List.drop_eq_nil_of_le (by rw [HNT.out]; omega)] at this
                      rw [← this]; rfl)
                    have HXO := Lib.hid (thrL_ok HF.out HGL.out HFL.out (HY.out.trans HYM.out))
                    have HGN := Lib.hid (thrs_ok HGO.out HDC.out HXO.out)
                    have hcl2 := ((codE_zero HSM.2.2.2.1).2.2 k c HC.out).1
                    have HTJ := Lib.hid (HTK.out.join (C := ⟨k, isR T, f, locsT T⟩) HF.out.symm HI8.out hcl2 hml)
                    have HLT := Lib.hid HOA.out.lt
                    obtain ⟨rg8, ev8, br8, ad8, da8, hg8⟩ := V8
                    obtain ⟨A19, c19, hv19⟩ := own_shp HES.out.run.evs
                    obtain ⟨A20, c20, hv20⟩ := own_shp HES.out.run.bars
                    obtain ⟨A21, c21, hv21⟩ := own_shp HES.out.run.addr
                    obtain ⟨A22, c22, hv22⟩ := own_shp HES.out.run.data
                    obtain ⟨A23, c23, hv23⟩ := own_shp HES.out.run.hang
                    obtain ⟨Ab, cb, hvb⟩ := own_shp HES.out.out.br
                    obtain ⟨Aa, ca, hva⟩ := own_shp HES.out.out.ad
                    obtain ⟨Ad, cd, hvd⟩ := own_shp HES.out.out.da
                    obtain ⟨Ah, ch, hvh⟩ := own_shp HES.out.out.ct
                    simp only at hv19 hv20 hv21 hv22 hv23 hvb hva hvd hvh
                    subst hv19 hv20 hv21 hv22 hv23 hvb hva hvd hvh
                    have le1 : a.evs.length + r8.evs.length ≤ 64 := by have h1 := HI8.out.room; have h2 := HF.out; simp only at h1; omega
                    have hk16 : k ≤ 16 := by have := (codE_zero HSM.2.2.2.1).1; omega
                    have le2 : a.bars.length + r8.bars.length ≤ 8192 := by have h1 := HI8.out.bars; have h2 := HTK.out.bars; omega
                    have le3 := buck_len _ _ f _ HI8.out.addr (by have := HI8.out.room; simp only at this; omega)
                    have le4 := buck_len _ _ f _ HI8.out.data (by have := HI8.out.room; simp only at this; omega)
                    have le5 := buck_len _ _ f _ HI8.out.hang (by have := HI8.out.room; simp only at this; omega)
                    have le6 := HTK.out.addr
                    have le7 := HTK.out.data
                    have le8 := HTK.out.hang
                    clear hcl2
                    go_wp2_with fail
                    clear hzq hgq hgg HEN
                    have k1 : wr.cell? ⟨w2.heap.size, 2, none⟩ = some (.slice Ae f ce) := HES.out.out.blk.cell 2
                    have k2 : wr.cell? ⟨g, 19, none⟩ = some (.slice A19 r8.evs.length c19) := HES.out.run.blk.cell 19
                    refine wz (fun y : World => y.cell? ⟨w2.heap.size, 2, none⟩ = some (.slice Ae f ce) ∧ y.cell? ⟨g, 19, none⟩ = some (.slice A19 r8.evs.length c19)) [1, 5] ⟨k1, k2⟩ (fun hHeld => ?_)
                    refine wq 0 ?_
                    refine wq 2 ?_
                    refine wq 3 ?_
                    refine wq 4 ?_
                    refine wt 1 (by assumption) ?_
                    refine wt 5 (by assumption) ?_
                    refine wl 6 ?_
                    have HE2 := Lib.hid HES.out.drew
                    clear hHeld k1 k2 HES
                    generalize wr.drew = wd at *
                    go_wp2_with (at_builtin; refine Enc.appO elemE _ rfl (.tmp 132) (.tmp 136) rfl r8.evs w.heap.size _ a.evs _ _ rfl rfl HE2.out.run.evs HE2.out.out.ev (by omega) (by omega) HE2.out.bel.size ?_; intro v' w4 hown4 hg4; obtain ⟨A4, n4, c4, rfl⟩ := own_shp3 hown4; have HE5 := Lib.hid (HE2.out.ev_ HLT.out.1 hg4 hown4); have HB4 := Lib.hid (blk_grew HE2.out.out.blk HE2.out.out.ev (by decide) hg4); clear hown4 hg4; have k1 : w4.cell? ⟨w2.heap.size, 2, none⟩ = some (.slice Ae f ce) := HB4.out.cell 2; have f1 := HB4.out.frozen 2)
                    generalize w4.setCell ⟨w2.heap.size, 2, none⟩ (.slice A4 n4 c4) = wr at *
                    have HES := HE5
                    clear HE5 HE2 k1 f1 HB4
                    have k1 : wr.cell? ⟨w2.heap.size, 3, none⟩ = some (.slice Ab a.bars.length cb) := HES.out.out.blk.cell 3
                    have k2 : wr.cell? ⟨g, 20, none⟩ = some (.slice A20 r8.bars.length c20) := HES.out.run.blk.cell 20
                    refine wz (fun y : World => y.cell? ⟨w2.heap.size, 3, none⟩ = some (.slice Ab a.bars.length cb) ∧ y.cell? ⟨g, 20, none⟩ = some (.slice A20 r8.bars.length c20)) [1, 5] ⟨k1, k2⟩ (fun hHeld => ?_)
                    refine wq 0 ?_
                    refine wq 2 ?_
                    refine wq 3 ?_
                    refine wq 4 ?_
                    refine wt 1 (by assumption) ?_
                    refine wt 5 (by assumption) ?_
                    refine wl 6 ?_
                    have HE2 := Lib.hid HES.out.drew
                    clear hHeld k1 k2 HES
                    generalize wr.drew = wd at *
                    go_wp2_with (at_builtin; refine Enc.appO elemB _ rfl (.tmp 140) (.tmp 144) rfl r8.bars w.heap.size _ a.bars _ _ rfl rfl HE2.out.run.bars HE2.out.out.br (by omega) (by omega) HE2.out.bel.size ?_; intro v' w4 hown4 hg4; obtain ⟨A4, n4, c4, rfl⟩ := own_shp3 hown4; have HE5 := Lib.hid (HE2.out.br_ HLT.out.2.1 hg4 hown4); have HB4 := Lib.hid (blk_grew HE2.out.out.blk HE2.out.out.br (by decide) hg4); clear hown4 hg4; have k1 : w4.cell? ⟨w2.heap.size, 3, none⟩ = some (.slice Ab a.bars.length cb) := HB4.out.cell 3; have f1 := HB4.out.frozen 3)
                    generalize w4.setCell ⟨w2.heap.size, 3, none⟩ (.slice A4 n4 c4) = wr at *
                    have HES := HE5
                    clear HE5 HE2 k1 f1 HB4
                    obtain ⟨Am, cm, em, hat, _, hcm⟩ := HES.out.run.addr.at_
                    simp only [Value.slice.injEq, true_and] at em
                    obtain ⟨hA1, hA2⟩ := em
                    subst hA1 hA2
                    have HAT : Hid (encP.At wr.drew _ r8.addr) := Lib.hid hat
                    clear hat
                    have k1 : wr.cell? ⟨w2.heap.size, 4, none⟩ = some (.slice Aa a.addr.length ca) := HES.out.out.blk.cell 4
                    have k2 : wr.cell? ⟨g, 21, none⟩ = some (.slice A21 r8.addr.length c21) := HES.out.run.blk.cell 21
                    refine wz (fun y : World => y.cell? ⟨w2.heap.size, 4, none⟩ = some (.slice Aa a.addr.length ca) ∧ y.cell? ⟨g, 21, none⟩ = some (.slice A21 r8.addr.length c21)) [1, 5, 7] ⟨k1, k2⟩ (fun hHeld => ?_)
                    refine wq 0 ?_
                    refine wq 2 ?_
                    refine wq 3 ?_
                    refine wq 4 ?_
                    refine wq 6 ?_
                    refine wt 1 (by assumption) ?_
                    refine wt 5 (by assumption) ?_
                    refine wpE_one (i := 7) (by kernel_rfl) rfl (fun K hK => ?_)
                    go_simp
                    go_at_call 65
                    refine (movedP _ _ r8.evs.length f r8.evs r8.addr _ HAT.out HI8.out.addr (by have := HI8.out.room; simp only at this; omega) hcm).mono ?_
                    rintro e w10 ⟨v10, rfl, hown, hb10⟩
                    have hHeld10 := And.intro (cell_go hHeld.1 hb10) (cell_go hHeld.2 hb10)
                    have HE2 := Lib.hid (HES.out.drew.below hb10)
                    have HOWN : Hid (encP.Own 106 wr.drew.heap.size w10 v10 (buck (r8.addr.map (shP f)))) := Lib.hid hown
                    refine hK.out _ _ hHeld10 ?_
                    clear hK K hHeld hown hb10 HAT hcm k1 k2 HES hHeld10
                    refine pu ?_
                    refine wl 8 ?_
                    go_wp2_with (at_builtin; refine Enc.appO elemP _ rfl (.tmp 148) (.tmp 154) rfl (buck (r8.addr.map (shP f))) w.heap.size _ a.addr _ _ rfl rfl HOWN.out HE2.out.out.ad (by omega) (by omega) HE2.out.bel.size ?_; intro v' w4 hown4 hg4; obtain ⟨A4, n4, c4, rfl⟩ := own_shp3 hown4; have HE5 := Lib.hid (HE2.out.ad_ HLT.out.2.2.1 hg4 hown4); have HB4 := Lib.hid (blk_grew HE2.out.out.blk HE2.out.out.ad (by decide) hg4); clear hown4 hg4; have k1 : w4.cell? ⟨w2.heap.size, 4, none⟩ = some (.slice Aa a.addr.length ca) := HB4.out.cell 4; have f1 := HB4.out.frozen 4)
                    generalize w4.setCell ⟨w2.heap.size, 4, none⟩ (.slice A4 n4 c4) = wr at *
                    have HES := HE5
                    clear HE5 HE2 k1 f1 HB4
                    clear HOWN
                    obtain ⟨Am, cm, em, hat, _, hcm⟩ := HES.out.run.data.at_
                    simp only [Value.slice.injEq, true_and] at em
                    obtain ⟨hA1, hA2⟩ := em
                    subst hA1 hA2
                    have HAT : Hid (encP.At wr.drew _ r8.data) := Lib.hid hat
                    clear hat
                    have k1 : wr.cell? ⟨w2.heap.size, 5, none⟩ = some (.slice Ad a.data.length cd) := HES.out.out.blk.cell 5
                    have k2 : wr.cell? ⟨g, 22, none⟩ = some (.slice A22 r8.data.length c22) := HES.out.run.blk.cell 22
                    refine wz (fun y : World => y.cell? ⟨w2.heap.size, 5, none⟩ = some (.slice Ad a.data.length cd) ∧ y.cell? ⟨g, 22, none⟩ = some (.slice A22 r8.data.length c22)) [1, 5, 7] ⟨k1, k2⟩ (fun hHeld => ?_)
                    refine wq 0 ?_
                    refine wq 2 ?_
                    refine wq 3 ?_
                    refine wq 4 ?_
                    refine wq 6 ?_
                    refine wt 1 (by assumption) ?_
                    refine wt 5 (by assumption) ?_
                    refine wpE_one (i := 7) (by kernel_rfl) rfl (fun K hK => ?_)
                    go_simp
                    go_at_call 65
                    refine (movedP _ _ r8.evs.length f r8.evs r8.data _ HAT.out HI8.out.data (by have := HI8.out.room; simp only at this; omega) hcm).mono ?_
                    rintro e w10 ⟨v10, rfl, hown, hb10⟩
                    have hHeld10 := And.intro (cell_go hHeld.1 hb10) (cell_go hHeld.2 hb10)
                    have HE2 := Lib.hid (HES.out.drew.below hb10)
                    have HOWN : Hid (encP.Own 106 wr.drew.heap.size w10 v10 (buck (r8.data.map (shP f)))) := Lib.hid hown
                    refine hK.out _ _ hHeld10 ?_
                    clear hK K hHeld hown hb10 HAT hcm k1 k2 HES hHeld10
                    refine pu ?_
                    refine wl 8 ?_
                    go_wp2_with (at_builtin; refine Enc.appO elemP _ rfl (.tmp 158) (.tmp 164) rfl (buck (r8.data.map (shP f))) w.heap.size _ a.data _ _ rfl rfl HOWN.out HE2.out.out.da (by omega) (by omega) HE2.out.bel.size ?_; intro v' w4 hown4 hg4; obtain ⟨A4, n4, c4, rfl⟩ := own_shp3 hown4; have HE5 := Lib.hid (HE2.out.da_ HLT.out.2.2.2.1 hg4 hown4); have HB4 := Lib.hid (blk_grew HE2.out.out.blk HE2.out.out.da (by decide) hg4); clear hown4 hg4; have k1 : w4.cell? ⟨w2.heap.size, 5, none⟩ = some (.slice Ad a.data.length cd) := HB4.out.cell 5; have f1 := HB4.out.frozen 5)
                    generalize w4.setCell ⟨w2.heap.size, 5, none⟩ (.slice A4 n4 c4) = wr at *
                    have HES := HE5
                    clear HE5 HE2 k1 f1 HB4
                    clear HOWN
                    obtain ⟨Am, cm, em, hat, _, hcm⟩ := HES.out.run.hang.at_
                    simp only [Value.slice.injEq, true_and] at em
                    obtain ⟨hA1, hA2⟩ := em
                    subst hA1 hA2
                    have HAT : Hid (encP.At wr.drew _ r8.hang) := Lib.hid hat
                    clear hat
                    have k1 : wr.cell? ⟨w2.heap.size, 6, none⟩ = some (.slice Ah a.hang.length ch) := HES.out.out.blk.cell 6
                    have k2 : wr.cell? ⟨g, 23, none⟩ = some (.slice A23 r8.hang.length c23) := HES.out.run.blk.cell 23
                    refine wz (fun y : World => y.cell? ⟨w2.heap.size, 6, none⟩ = some (.slice Ah a.hang.length ch) ∧ y.cell? ⟨g, 23, none⟩ = some (.slice A23 r8.hang.length c23)) [1, 5, 7] ⟨k1, k2⟩ (fun hHeld => ?_)
                    refine wq 0 ?_
                    refine wq 2 ?_
                    refine wq 3 ?_
                    refine wq 4 ?_
                    refine wq 6 ?_
                    refine wt 1 (by assumption) ?_
                    refine wt 5 (by assumption) ?_
                    refine wpE_one (i := 7) (by kernel_rfl) rfl (fun K hK => ?_)
                    go_simp
                    go_at_call 65
                    refine (movedP _ _ r8.evs.length f r8.evs r8.hang _ HAT.out HI8.out.hang (by have := HI8.out.room; simp only at this; omega) hcm).mono ?_
                    rintro e w10 ⟨v10, rfl, hown, hb10⟩
                    have hHeld10 := And.intro (cell_go hHeld.1 hb10) (cell_go hHeld.2 hb10)
                    have HE2 := Lib.hid (HES.out.drew.below hb10)
                    have HOWN : Hid (encP.Own 106 wr.drew.heap.size w10 v10 (buck (r8.hang.map (shP f)))) := Lib.hid hown
                    refine hK.out _ _ hHeld10 ?_
                    clear hK K hHeld hown hb10 HAT hcm k1 k2 HES hHeld10
                    refine pu ?_
                    refine wl 8 ?_
                    go_wp2_with (at_builtin; refine Enc.appO elemP _ rfl (.tmp 168) (.tmp 174) rfl (buck (r8.hang.map (shP f))) w.heap.size _ a.hang _ _ rfl rfl HOWN.out HE2.out.out.ct (by omega) (by omega) HE2.out.bel.size ?_; intro v' w4 hown4 hg4; obtain ⟨A4, n4, c4, rfl⟩ := own_shp3 hown4; have HE5 := Lib.hid (HE2.out.ct_ HLT.out.2.2.2.2 hg4 hown4); have HB4 := Lib.hid (blk_grew HE2.out.out.blk HE2.out.out.ct (by decide) hg4); clear hown4 hg4; have k1 : w4.cell? ⟨w2.heap.size, 6, none⟩ = some (.slice Ah a.hang.length ch) := HB4.out.cell 6; have f1 := HB4.out.frozen 6)
                    generalize w4.setCell ⟨w2.heap.size, 6, none⟩ (.slice A4 n4 c4) = wr at *
                    have HES := HE5
                    clear HE5 HE2 k1 f1 HB4
                    clear HOWN
                    go_roundw
                    case rel => exact ⟨k + 1, joinL a r8 m, _, by omega, by go_num, HGN.out, HTJ.out, by have h := HES.out.out; unfold joinL; rw [HF.out]; exact h, rfl, rfl, HES.out.tst, HES.out.nil, HES.out.bel⟩
                    case measure => simp [intOf]; omega
          · have hke : k = T.code.length := by omega
            have hij : ¬ (k : Int) < (T.code.length : Int) := by omega
            have HXA := Lib.hid (show X = .ok a by have := HGO.out; rw [hke, List.drop_length] at this; rw [← this]; rfl)
            obtain ⟨Z, hZ⟩ : ∃ Z, finL (locsT T) 0 (thsT T) a.ends = Z := ⟨_, rfl⟩
            have HZ := Lib.hid hZ
            have o7 : wk.cell? ⟨w2.heap.size, 7, none⟩ = some (.slice At nt ct) := HOA.out.blk.cell 7
            clear hZ
            go_wp2_with fail
            clear o7
            go_loopw [181] (fun v wq => ∃ (i : Nat) (m : List (Int × Int)), i ≤ nt ∧ v = .int .i64 i ∧ finL (locsT T) i ((thsT T).drop i) m = Z ∧ m.length = nt ∧ OutAt wq w.heap.size w2.heap.size ⟨locsT T, firL (locsT T) T.init, thsT T, { a with ends := m }⟩ ⟨.slice Al nl cl, vin, .slice Ae f ce, vbr, vad, vda, vct, .slice At nt ct, .slice (some ⟨qe, 0, none⟩) nt nt⟩ ∧ Blk wq (w.heap.size + 1) 41 #[.slice none 0 0, .slice none 0 0, .slice none 0 0, .slice none 0 0, .slice none 0 0, .slice none 0 0, .slice none 0 0, .slice none 0 0, .slice none 0 0] ∧ Below w.heap.size w wq) (fun v _ => nt - (intOf v).toNat)
            case atStart => exact ⟨0, a.ends, Nat.zero_le _, rfl, by rw [List.drop_zero]; exact HZ.out, HTK.out.ends, HOA.out, HRB.out, HB.out⟩
            case round =>
              obtain ⟨i, m, hi, rfl, hfin, hml, hoq, hrq, hbq⟩ := hrel
              have HFN := Lib.hid hfin
              have HOQ := Lib.hid hoq
              have HRQ := Lib.hid hrq
              have HBQ := Lib.hid hbq
              have hzq := hoq.blk.lt
              clear hfin hoq hrq hbq HOA HRB HTB HB
              by_cases hlt2 : i < nt
              · obtain ⟨x, hx⟩ : ∃ x, (thsT T)[i]? = some x := ⟨_, List.getElem?_eq_getElem (by rw [HNT.out]; exact hlt2)⟩
                obtain ⟨A', cap', e', hth⟩ := own_thsB HOQ.out.th
                simp only [Value.slice.injEq] at e'
                have e1' := e'.1
                subst e1'
                clear e'
                obtain ⟨tb, tq9, hA, c0, c1, c2⟩ := hth i x hx
                subst hA
                obtain ⟨xt, xr, xl⟩ := x
                simp only at c0 c1 c2
                have HXM := Lib.hid (List.mem_of_getElem? hx)
                have HFX := Lib.hid (show finL (locsT T) (i + 1) ((thsT T).drop (i + 1)) (finS (locsT T) m i (xt, xr, xl)) = Z by
                  have := HFN.out
                  rw [drop_cons hx] at this
                  exact this)
                obtain ⟨e9, he9⟩ : ∃ e9, m[i]? = some e9 := ⟨_, List.getElem?_eq_getElem (by omega)⟩
                have HM9 := Lib.hid he9
                clear hx hth he9
                have hii2 : (0 : Int) ≤ (i : Int) := by omega
                have hij2 : (i : Int) < (nt : Int) := by omega
                by_cases hxt : xt = -1
                · have HLC := Lib.hid (thg_mem HE.out HXM.out hxt)
                  subst hxt
                  obtain ⟨j, hj⟩ : ∃ j, (locsT T).idxOf xl = j := ⟨_, rfl⟩
                  have HFY := Lib.hid (show finL (locsT T) (i + 1) ((thsT T).drop (i + 1)) (m.set i (3, (j : Int))) = Z by
                    have := HFX.out
                    unfold finS at this
                    rw [if_pos rfl, hj] at this
                    exact this)
                  have HS := Lib.hid (fun (y : World) (hy : encS.At y Al (locsT T)) => by have := HSR.out xl y HLC.out hy; rw [hj] at this; exact this)
                  have HL0 := Lib.hid (alloc_b wr (.cells #[.int .i64 (-1), .int .i64 xr, .string ⟨xl.toArray⟩] 25 (0, 0)))
                  have HLB := Lib.hid (Blk.new wr 25 #[.int .i64 (-1), .int .i64 xr, .string ⟨xl.toArray⟩])
                  have HO9 := Lib.hid (HOQ.out.below HL0.out)
                  have o0 : (wr.alloc (.cells #[.int .i64 (-1), .int .i64 xr, .string ⟨xl.toArray⟩] 25 (0, 0))).cell? ⟨w2.heap.size, 0, none⟩ = some (.slice Al nl cl) := HO9.out.blk.cell 0
                  have HAT : Hid (encS.At (wr.alloc (.cells #[.int .i64 (-1), .int .i64 xr, .string ⟨xl.toArray⟩] 25 (0, 0))) Al (locsT T)) := by
                    obtain ⟨A', cap', e, hat, _⟩ := Enc.Own.at_ (E := encS) HO9.out.lo
                    simp only [Value.slice.injEq] at e
                    obtain ⟨rfl, _⟩ := e
                    exact Lib.hid hat
                  clear hj
                  go_wp2_with (go_at_call 60; refine (HS.out _ HAT.out).mono ?_; rintro e w6 ⟨rfl, hb6⟩; have HB6 := Lib.hid (below_trans HL0.out hb6); clear hb6; have HO6 := Lib.hid (HOQ.out.below HB6.out); have o8 : w6.cell? ⟨w2.heap.size, 8, none⟩ = some (.slice (some ⟨qe, 0, none⟩) nt nt) := HO6.out.blk.cell 8; have HEB := Lib.hid (HO6.out.en_blk rfl).1; have hcc := en_cells HEB.out HM9.out; have d0 := hcc.1; have d1 := hcc.2; have fz0 := HEB.out.frozen (i * 2); have fz1 := HEB.out.frozen (i * 2 + 1); clear hcc)
                  have hqB := (HO6.out.en_blk rfl).2
                  have hq3 := blk_ne (HRQ.out.go HB6.out) HEB.out (by decide)
                  have HO7 := Lib.hid (HO6.out.en_ (x := (3, (j : Int))) (by rw [hml]; exact hlt2) (by rw [hml]))
                  have HR7 := Lib.hid (((HRQ.out.go HB6.out).far (p := ⟨qe, i * 2, none⟩) hq3 (.int .i64 3)).far (p := ⟨qe, i * 2 + 1, none⟩) hq3 (.int .i64 (j : Int)))
                  have HB7 := Lib.hid (((below_trans HBQ.out HB6.out).setCell (p := ⟨qe, i * 2, none⟩) hqB (.int .i64 3)).setCell (p := ⟨qe, i * 2 + 1, none⟩) hqB (.int .i64 (j : Int)))
                  go_roundw
                  case rel => exact ⟨i + 1, m.set i (3, (j : Int)), by omega, by go_num, HFY.out, by simp [hml], HO7.out, HR7.out, HB7.out⟩
                  case measure => simp [intOf]; omega
                · have hxf : (xt == -1) = false := by simpa using hxt
                  have HFY := Lib.hid (show finL (locsT T) (i + 1) ((thsT T).drop (i + 1)) m = Z by
                    have := HFX.out
                    unfold finS at this
                    rw [if_neg hxt] at this
                    exact this)
                  go_wp2_with fail
                  go_roundw
                  case rel => exact ⟨i + 1, m, by omega, by go_num, HFY.out, hml, HOQ.out.below (alloc_b _ _), HRQ.out.alloc _, below_alloc HBQ.out _⟩
                  case measure => simp [intOf]; omega
              · have hij2 : ¬ (i : Int) < (nt : Int) := by omega
                have HMZ := Lib.hid (show m = Z by
                  have := HFN.out
                  rw [List.drop_eq_nil_of_le (by rw [HNT.out]; omega)] at this
                  exact this)
                obtain ⟨q1, hv1, _, _⟩ := HOQ.out.ini
                obtain ⟨Ab, nb, cb, hvb⟩ := own_shp3 HOQ.out.br
                obtain ⟨Aa, na, ca, hva⟩ := own_shp3 HOQ.out.ad
                obtain ⟨Ad, nd, cd, hvd⟩ := own_shp3 HOQ.out.da
                obtain ⟨Ah, nh, ch, hvh⟩ := own_shp3 HOQ.out.ct
                simp only at hv1 hvb hva hvd hvh
                obtain ⟨n1, hn1⟩ : ∃ n, (firL (locsT T) T.init).length = n := ⟨_, rfl⟩
                rw [hn1] at hv1
                clear hn1
                subst hv1 hvb hva hvd hvh
                have o0 := HOQ.out.blk.cell 0
                have o1 := HOQ.out.blk.cell 1
                have o2 := HOQ.out.blk.cell 2
                have o3 := HOQ.out.blk.cell 3
                have o4 := HOQ.out.blk.cell 4
                have o5 := HOQ.out.blk.cell 5
                have o6 := HOQ.out.blk.cell 6
                have o7 := HOQ.out.blk.cell 7
                have o8 := HOQ.out.blk.cell 8
                have r0 := HRQ.out.cell 0
                have r1 := HRQ.out.cell 1
                have r2 := HRQ.out.cell 2
                have r3 := HRQ.out.cell 3
                have r4 := HRQ.out.cell 4
                have r5 := HRQ.out.cell 5
                have r6 := HRQ.out.cell 6
                have r7 := HRQ.out.cell 7
                have r8' := HRQ.out.cell 8
                have fr := HRQ.out.frozen
                go_wp2_with fail
                refine bodyPost_ret (v := .tuple #[.agg #[.slice Al nl cl, .slice (some ⟨q1, 0, none⟩) n1 n1, .slice Ae f ce, .slice Ab nb cb, .slice Aa na ca, .slice Ad nd cd, .slice Ah nh ch, .slice At nt ct, .slice (some ⟨qe, 0, none⟩) nt nt], .int .i64 0, .int .i64 0]) (by simp [results, Tryz.results15, go_sem, *]) rfl ?_
                refine ⟨?_, (below9 (HBQ.out) (Nat.le_succ _) _ _ _ _ _ _ _ _ _)⟩
                rw [HTR.out, HXA.out]
                refine ⟨w2.heap.size, ⟨.slice Al nl cl, .slice (some ⟨q1, 0, none⟩) n1 n1, .slice Ae f ce, .slice Ab nb cb, .slice Aa na ca, .slice Ad nd cd, .slice Ah nh ch, .slice At nt ct, .slice (some ⟨qe, 0, none⟩) nt nt⟩, rfl, ?_⟩
                rw [HZ.out, ← HMZ.out]
                exact HOQ.out.off9 HRQ.out (by omega) _ _ _ _ _ _ _ _ _
  · have HE := Lib.hid hE
    have f1 : (fileE T != 0) = true := by simpa using hE
    have r0 := HRB2.out.cell 0
    have r1 := HRB2.out.cell 1
    have r2 := HRB2.out.cell 2
    have r3 := HRB2.out.cell 3
    have r4 := HRB2.out.cell 4
    have r5 := HRB2.out.cell 5
    have r6 := HRB2.out.cell 6
    have r7 := HRB2.out.cell 7
    have r8 := HRB2.out.cell 8
    have fr := HRB2.out.frozen
    clear hE
    go_wp2_with fail
    refine bodyPost_ret (v := .tuple #[.agg #[.slice none 0 0, .slice none 0 0, .slice none 0 0, .slice none 0 0, .slice none 0 0, .slice none 0 0, .slice none 0 0, .slice none 0 0, .slice none 0 0], .int .i64 (fileE T), .int .i64 0]) (by simp [results, Tryz.results15, go_sem, *]) rfl ?_
    refine ⟨?_, (below9 (HB2.out) (Nat.le_succ _) _ _ _ _ _ _ _ _ _)⟩
    have ht : traceL T = .error (fileE T, 0) := by unfold traceL; rw [if_pos HE.out]
    rw [ht]
    rfl
end
end
end Go.Proofs.YtjhafgnmahhacaaGreatDoor
