/- Layer 15: pairs of events between which a fence stands, as a relation: the program's between, as Fenced calls it. -/
import Derived.Test.YtoegmdnfbemppaaGreatDoorKb45
import Derived.Test.YtoegmdnfbemppaaGreatDoorKb46

namespace Go.Proofs.YtoegmdnfbemppaaGreatDoor
open Go.RowKit

def FenPost (L : OutL) (w : World) (e : Ending) (w' : World) : Prop := ∃ q, e = .returned (.tuple #[.agg #[.int .i64 (L.a.evs.length : Int), .slice (some ⟨q, 0, none⟩) L.a.evs.length L.a.evs.length], .int .i64 0]) ∧ Blk w' q 110 (encW.flat (relL L.a.evs.length (btw (fenB fordB L.a.bars) L.a.evs 0 L.a.evs))).toArray ∧ Below w.heap.size w w'
section
set_option maxHeartbeats 4000000
set_option maxRecDepth 100000
theorem betweenF (L : OutL) (V : TrcV) (p : Nat) (w : World) (h : TrcAt w L V) (G : TrGood L) (hp0 : L.a.addr = []) (hp1 : L.a.data = []) (hp2 : L.a.hang = []) (hth : L.th.length ≤ 1) (hp : w.cell? ⟨p, 3, none⟩ = some V.br.v) :
    Calls Tryz.prog 55 #[trcV V, .func (.func 76) #[] #[.pointer (some ⟨p, 0, none⟩)]] w (FenPost L w) := by
  have HCK := Lib.hid (fun (z : World) (hz : TrcAt z L V) => checkP0 L V z hz G hp0 hp1 hp2 hth)
  have HB1 := Lib.hid (below_2 w (.cells (trcC V) 41 (0, 0)) (.cells #[.int .i64 0, .slice none 0 0] 58 (0, 0)))
  have hck := Lib.hid (HCK.out _ (h.below HB1.out))
  clear HCK
  have HFC := Lib.hid (fun (a b : Evt) (z : World) (hz : Below w.heap.size w z) => fenC L.a.bars V.br.A V.br.c p a b z (h.br.below hz) G.nbr (by rw [← h.nbr]; exact cell_go hp hz))
  have hlen : (btw (fenB fordB L.a.bars) L.a.evs 0 L.a.evs).length ≤ 1000000 := by
    have h1 := btw_len (fenB fordB L.a.bars) L.a.evs L.a.evs 0
    have h2 := G.nev
    have : L.a.evs.length * L.a.evs.length ≤ 64 * 64 := Nat.mul_le_mul h2 h2
    omega
  have hmem : ∀ q ∈ btw (fenB fordB L.a.bars) L.a.evs 0 L.a.evs, 0 ≤ q.1 ∧ q.1 < L.a.evs.length ∧ 0 ≤ q.2 ∧ q.2 < L.a.evs.length := fun q hq => by
    obtain ⟨m, n, a, b, h1, h2, rfl, _⟩ := (btw_mem _ _ _ _ _).1 hq
    have := (List.getElem?_eq_some_iff.1 h1).1
    have := (List.getElem?_eq_some_iff.1 h2).1
    simp only; omega
  have HMM := Lib.hid hmem
  clear hmem hp
  obtain ⟨X, hX⟩ : ∃ X, btw (fenB fordB L.a.bars) L.a.evs 0 L.a.evs = X := ⟨_, rfl⟩
  have HX := Lib.hid hX
  unfold FenPost
  rw [hX] at hlen HMM ⊢
  clear hX
  obtain ⟨⟨Al, nl, cl⟩, ⟨Ai, ni, ci⟩, ⟨Ae, ne, ce⟩, ⟨Ab, nb, cb⟩, ⟨Aa, na, ca⟩, ⟨Ad, nd, cd⟩, ⟨Ac, nc, cc⟩, ⟨At, nt, ct⟩, ⟨Ax, nx, cx⟩⟩ := V
  simp only [trcV, Sl.v]
  have HT := Lib.hid h
  have hn1 := Lib.hid (show nl = L.lo.length from h.nlo)
  have hn2 := Lib.hid (show ni = L.ini.length from h.nini)
  have hn3 := Lib.hid (show ne = L.a.evs.length from h.nev)
  have hn4 := Lib.hid (show nb = L.a.bars.length from h.nbr)
  have hn8 := Lib.hid (show nt = L.th.length from h.nth)
  have hn9 := Lib.hid (show nx = L.a.ends.length from h.nen)
  have HB0 := Lib.hid (alloc_b w (.cells #[.slice Al nl cl, .slice Ai ni ci, .slice Ae ne ce, .slice Ab nb cb, .slice Aa na ca, .slice Ad nd cd, .slice Ac nc cc, .slice At nt ct, .slice Ax nx cx] 41 (0, 0)))
  have HTB := Lib.hid (Blk.new w 41 #[.slice Al nl cl, .slice Ai ni ci, .slice Ae ne ce, .slice Ab nb cb, .slice Aa na ca, .slice Ad nd cd, .slice Ac nc cc, .slice At nt ct, .slice Ax nx cx])
  have hl1 : ne ≤ 64 := by rw [hn3.out]; exact G.nev
  rw [← hn3.out] at HMM ⊢
  clear h G HB0 HTB
  go_enter Tryz.func55, Tryz.ntmps55
  go_wp2_with (go_at_call 17; refine hck.out.mono ?_; rintro e w2 ⟨rfl, hb⟩; have HB2 := Lib.hid (below_trans HB1.out hb); have HK2 := Lib.hid ((Blk.alloc (Blk.new w 41 #[.slice Al nl cl, .slice Ai ni ci, .slice Ae ne ce, .slice Ab nb cb, .slice Aa na ca, .slice Ad nd cd, .slice Ac nc cc, .slice At nt ct, .slice Ax nx cx]) (.cells #[.int .i64 0, .slice none 0 0] 58 (0, 0))).go hb); have HR2 : Hid (Blk w2 (w.heap.size + 1) 58 #[.int .i64 0, .slice none 0 0]) := Lib.hid ((blk_new2 w (.cells #[.slice Al nl cl, .slice Ai ni ci, .slice Ae ne ce, .slice Ab nb cb, .slice Aa na ca, .slice Ad nd cd, .slice Ac nc cc, .slice At nt ct, .slice Ax nx cx] 41 (0, 0)) 58 #[.int .i64 0, .slice none 0 0]).go hb); clear hb; have k2 : w2.cell? ⟨w.heap.size, 2, none⟩ = some (.slice Ae ne ce) := HK2.out.cell 2)
  go_loopw [21, 7] (fun iv vv wr => ∃ (k : Nat) (s : Sl) (q : List (Int × Int)), k ≤ ne ∧ iv = .int .i64 k ∧ vv = s.v ∧ q ++ btw (fenB fordB L.a.bars) L.a.evs k (L.a.evs.drop k) = X ∧ encP.Own 52 w.heap.size wr s.v q ∧ Below w.heap.size w wr ∧ Blk wr w.heap.size 41 #[.slice Al nl cl, .slice Ai ni ci, .slice Ae ne ce, .slice Ab nb cb, .slice Aa na ca, .slice Ad nd cd, .slice Ac nc cc, .slice At nt ct, .slice Ax nx cx] ∧ Blk wr (w.heap.size + 1) 58 #[.int .i64 0, .slice none 0 0]) (fun iv _ _ => ne - (intOf iv).toNat)
  case atStart => exact ⟨0, ⟨none, 0, 0⟩, [], Nat.zero_le _, rfl, rfl, by rw [List.drop_zero]; exact HX.out, Enc.Own.nil _ _ _, HB2.out, HK2.out, HR2.out⟩
  case round =>
    obtain ⟨k, s, q, hk, rfl, rfl, hac, hown, hb, hkk, hr⟩ := hrel
    obtain ⟨wk, hwk⟩ : ∃ z : World, z = wr := ⟨_, rfl⟩
    subst hwk
    have HAC := Lib.hid hac
    have HOWN := Lib.hid hown
    have HB := Lib.hid hb
    have HK := Lib.hid hkk
    have HR := Lib.hid hr
    have hns := own_n hown
    have hql : q.length ≤ 1000000 := by rw [← hac] at hlen; simp at hlen; omega
    have hgr := hr.lt
    have hgv := hkk.lt
    have k2 : wk.cell? ⟨w.heap.size, 2, none⟩ = some (.slice Ae ne ce) := hkk.cell 2
    clear hac hown hb hkk hr HB2 HK2 HR2
    have hii : (0 : Int) ≤ (k : Int) := by omega
    by_cases hlt : k < ne
    · have hij : (k : Int) < (ne : Int) := by omega
      obtain ⟨x, hx⟩ : ∃ x, L.a.evs[k]? = some x := ⟨_, List.getElem?_eq_getElem (by rw [← hn3.out]; exact hlt)⟩
      obtain ⟨b, o, eA, c0, c1, c2, c3, c4, c5⟩ := evt_at (HT.out.ev.below HB.out) hx
      simp only at eA
      subst eA
      have HST := Lib.hid (show q ++ (btwI (fenB fordB L.a.bars) k x 0 L.a.evs ++ btw (fenB fordB L.a.bars) L.a.evs (k + 1) (L.a.evs.drop (k + 1))) = X by
        have := HAC.out
        rw [drop_cons hx] at this
        exact this)
      obtain ⟨at_, ap, ad, al, av, ar⟩ := x
      simp only at c0 c1 c2 c3 c4 c5
      have HE0 := Lib.hid (Blk.new wk 50 #[.int .i64 at_, .int .i64 ap, .int .i64 ad, .int .i64 al, .int .i64 av, .int .i64 ar])
      have HB3 := Lib.hid (below_alloc HB.out (.cells #[.int .i64 at_, .int .i64 ap, .int .i64 ad, .int .i64 al, .int .i64 av, .int .i64 ar] 50 (0, 0)))
      have HK3 := Lib.hid (HK.out.alloc (.cells #[.int .i64 at_, .int .i64 ap, .int .i64 ad, .int .i64 al, .int .i64 av, .int .i64 ar] 50 (0, 0)))
      have HR3 := Lib.hid (HR.out.alloc (.cells #[.int .i64 at_, .int .i64 ap, .int .i64 ad, .int .i64 al, .int .i64 av, .int .i64 ar] 50 (0, 0)))
      have HO3 := Lib.hid (HOWN.out.below (alloc_b wk (.cells #[.int .i64 at_, .int .i64 ap, .int .i64 ad, .int .i64 al, .int .i64 av, .int .i64 ar] 50 (0, 0))))
      clear hx HAC
      go_wp2_with fail
      clear c0 c1 c2 c3 c4 c5 k2
      go_loopw [29, 7] (fun iv vv wr => ∃ (m : Nat) (s : Sl) (acc : List (Int × Int)), m ≤ ne ∧ iv = .int .i64 m ∧ vv = s.v ∧ acc ++ (btwI (fenB fordB L.a.bars) k ⟨at_, ap, ad, al, av, ar⟩ m (L.a.evs.drop m) ++ btw (fenB fordB L.a.bars) L.a.evs (k + 1) (L.a.evs.drop (k + 1))) = X ∧ encP.Own 52 w.heap.size wr s.v acc ∧ Below w.heap.size w wr ∧ Blk wr w.heap.size 41 #[.slice Al nl cl, .slice Ai ni ci, .slice (some ⟨b, o, none⟩) ne ce, .slice Ab nb cb, .slice Aa na ca, .slice Ad nd cd, .slice Ac nc cc, .slice At nt ct, .slice Ax nx cx] ∧ Blk wr (w.heap.size + 1) 58 #[.int .i64 0, .slice none 0 0] ∧ Blk wr wk.heap.size 50 #[.int .i64 at_, .int .i64 ap, .int .i64 ad, .int .i64 al, .int .i64 av, .int .i64 ar]) (fun iv _ _ => ne - (intOf iv).toNat)
      case atStart => exact ⟨0, s, q, Nat.zero_le _, rfl, rfl, by rw [List.drop_zero]; exact HST.out, HO3.out, HB3.out, HK3.out, HR3.out, HE0.out⟩
      case round =>
        obtain ⟨m, s, acc, hm, rfl, rfl, hac, hown, hb, hkk, hr, he⟩ := hrel
        have HAC := Lib.hid hac
        have HOWN2 := Lib.hid hown
        have HB4 := Lib.hid hb
        have HK4 := Lib.hid hkk
        have HR4 := Lib.hid hr
        have HE4 := Lib.hid he
        have hacl : acc.length ≤ 1000000 := by rw [← hac] at hlen; simp at hlen; omega
        have g0 : wr.cell? ⟨wk.heap.size, 0, none⟩ = some (.int .i64 at_) := he.cell 0
        have g1 : wr.cell? ⟨wk.heap.size, 1, none⟩ = some (.int .i64 ap) := he.cell 1
        have g2 : wr.cell? ⟨wk.heap.size, 2, none⟩ = some (.int .i64 ad) := he.cell 2
        have g3 : wr.cell? ⟨wk.heap.size, 3, none⟩ = some (.int .i64 al) := he.cell 3
        have g4 : wr.cell? ⟨wk.heap.size, 4, none⟩ = some (.int .i64 av) := he.cell 4
        have g5 : wr.cell? ⟨wk.heap.size, 5, none⟩ = some (.int .i64 ar) := he.cell 5
        have hgw := he.lt
        have hgv2 := hkk.lt
        have hmm : (0 : Int) ≤ (m : Int) := by omega
        clear hac hown hb hkk hr he HST HO3 HB3 HK3 HR3 HE0 HOWN HB HK HR
        by_cases hlm : m < ne
        · have hml : (m : Int) < (ne : Int) := by omega
          obtain ⟨y, hy⟩ : ∃ y, L.a.evs[m]? = some y := ⟨_, List.getElem?_eq_getElem (by rw [← hn3.out]; exact hlm)⟩
          obtain ⟨b', o', eA, c0, c1, c2, c3, c4, c5⟩ := evt_at (HT.out.ev.below HB4.out) hy
          simp only at eA
          simp only [Option.some.injEq, Addr.mk.injEq, and_true] at eA
          obtain ⟨h1, h2⟩ := eA
          subst h1 h2
          have HDM := Lib.hid (drop_cons hy)
          obtain ⟨bt, bp, bd, bl, bv, br⟩ := y
          simp only at c0 c1 c2 c3 c4 c5
          have HBA := Lib.hid (below_alloc HB4.out (.cells #[.int .i64 bt, .int .i64 bp, .int .i64 bd, .int .i64 bl, .int .i64 bv, .int .i64 br] 50 (0, 0)))
          have HKA := Lib.hid (HK4.out.alloc (.cells #[.int .i64 bt, .int .i64 bp, .int .i64 bd, .int .i64 bl, .int .i64 bv, .int .i64 br] 50 (0, 0)))
          have HRA := Lib.hid (HR4.out.alloc (.cells #[.int .i64 bt, .int .i64 bp, .int .i64 bd, .int .i64 bl, .int .i64 bv, .int .i64 br] 50 (0, 0)))
          have HEA := Lib.hid (HE4.out.alloc (.cells #[.int .i64 bt, .int .i64 bp, .int .i64 bd, .int .i64 bl, .int .i64 bv, .int .i64 br] 50 (0, 0)))
          clear hy
          by_cases h1 : at_ = bt
          · by_cases h2 : ap < bp
            · obtain ⟨r, hr⟩ : ∃ r, fenB fordB L.a.bars ⟨at_, ap, ad, al, av, ar⟩ ⟨bt, bp, bd, bl, bv, br⟩ = r := ⟨_, rfl⟩
              have HF2 := Lib.hid (fun z (hz : Below w.heap.size w z) => HFC.out ⟨at_, ap, ad, al, av, ar⟩ ⟨bt, bp, bd, bl, bv, br⟩ z hz)
              rw [hr] at HF2
              simp only [evV] at HF2
              subst h1
              cases r
              · have HSN := Lib.hid (show acc ++ (btwI (fenB fordB L.a.bars) k ⟨at_, ap, ad, al, av, ar⟩ (m + 1) (L.a.evs.drop (m + 1)) ++ btw (fenB fordB L.a.bars) L.a.evs (k + 1) (L.a.evs.drop (k + 1))) = X by
                  have := HAC.out
                  rw [HDM.out] at this
                  unfold btwI at this
                  rw [if_neg (by simp [hr])] at this
                  exact this)
                clear hr HAC HDM
                go_wp2_with (go_at_call 76; refine (HF2.out _ HBA.out).mono ?_; rintro e w9 ⟨rfl, hb9⟩; have HB9 := Lib.hid hb9; clear hb9)
                go_roundw
                case rel => exact ⟨m + 1, s, acc, by omega, by go_num, rfl, HSN.out, (HOWN2.out.below (alloc_b _ _)).below HB9.out, below_trans HBA.out HB9.out, HKA.out.go HB9.out, HRA.out.go HB9.out, HEA.out.go HB9.out⟩
                case measure => simp [intOf]; omega
              · have HSN := Lib.hid (show (acc ++ [((k : Int), (m : Int))]) ++ (btwI (fenB fordB L.a.bars) k ⟨at_, ap, ad, al, av, ar⟩ (m + 1) (L.a.evs.drop (m + 1)) ++ btw (fenB fordB L.a.bars) L.a.evs (k + 1) (L.a.evs.drop (k + 1))) = X by
                  have := HAC.out
                  rw [HDM.out] at this
                  unfold btwI at this
                  rw [if_pos ⟨rfl, h2, hr⟩] at this
                  rw [← this]; simp)
                clear hr HAC HDM
                go_wp2_with first | (go_at_call 76; refine (HF2.out _ HBA.out).mono ?_; rintro e w9 ⟨rfl, hb9⟩; have HB9 := Lib.hid hb9; clear hb9; have HPA := Lib.hid (pair_at w9 ((k : Int), (m : Int))); have HBP := Lib.hid (alloc_b w9 (.cells #[.int .i64 (k : Int), .int .i64 (m : Int)] 52 (0, 0))); have HO9 := Lib.hid (((HOWN2.out.below (alloc_b _ _)).below HB9.out).below HBP.out); have hz9 := (below_trans HBA.out HB9.out).size) | (at_builtin; refine Enc.appW elemP _ rfl (.tmp 52) (.tmp 56) rfl [((k : Int), (m : Int))] w.heap.size acc _ w9.heap.size 0 1 rfl rfl HPA.out HO9.out (by simp; omega) (by simp; omega) (by simp; omega) ?_; intro v' w3 hown3 hg3; obtain ⟨s3, rfl, _⟩ := own_sl hown3; have HO5 := Lib.hid hown3; have HG5 := Lib.hid hg3; clear hown3 hg3)
                go_roundw
                case rel => exact ⟨m + 1, s3, acc ++ [((k : Int), (m : Int))], by omega, by go_num, rfl, HSN.out, HO5.out, (below_trans (below_trans HBA.out HB9.out) HBP.out).trans HG5.out.below, blk_grew ((HKA.out.go HB9.out).go HBP.out) HO9.out (by decide) HG5.out, blk_grew ((HRA.out.go HB9.out).go HBP.out) HO9.out (by decide) HG5.out, blk_grew ((HEA.out.go HB9.out).go HBP.out) HO9.out (by decide) HG5.out⟩
                case measure => simp [intOf]; omega
            · have HSN := Lib.hid (show acc ++ (btwI (fenB fordB L.a.bars) k ⟨at_, ap, ad, al, av, ar⟩ (m + 1) (L.a.evs.drop (m + 1)) ++ btw (fenB fordB L.a.bars) L.a.evs (k + 1) (L.a.evs.drop (k + 1))) = X by
                have := HAC.out
                rw [HDM.out] at this
                unfold btwI at this
                rw [if_neg (by simp [h2])] at this
                exact this)
              subst h1
              clear HAC HDM
              go_wp2_with fail
              go_roundw
              case rel => exact ⟨m + 1, s, acc, by omega, by go_num, rfl, HSN.out, HOWN2.out.below (alloc_b _ _), HBA.out, HKA.out, HRA.out, HEA.out⟩
              case measure => simp [intOf]; omega
          · have HSN := Lib.hid (show acc ++ (btwI (fenB fordB L.a.bars) k ⟨at_, ap, ad, al, av, ar⟩ (m + 1) (L.a.evs.drop (m + 1)) ++ btw (fenB fordB L.a.bars) L.a.evs (k + 1) (L.a.evs.drop (k + 1))) = X by
              have := HAC.out
              rw [HDM.out] at this
              unfold btwI at this
              rw [if_neg (by simp [h1])] at this
              exact this)
            have h1f : (at_ == bt) = false := by simpa using h1
            clear HAC HDM
            go_wp2_with fail
            go_roundw
            case rel => exact ⟨m + 1, s, acc, by omega, by go_num, rfl, HSN.out, HOWN2.out.below (alloc_b _ _), HBA.out, HKA.out, HRA.out, HEA.out⟩
            case measure => simp [intOf]; omega
        · have hml : ¬ (m : Int) < (ne : Int) := by omega
          have HSN := Lib.hid (show acc ++ btw (fenB fordB L.a.bars) L.a.evs (k + 1) (L.a.evs.drop (k + 1)) = X by
            have := HAC.out
            rw [List.drop_eq_nil_of_le (by rw [← hn3.out]; omega)] at this
            exact this)
          clear HAC g0 g1 g2 g3 g4 g5
          go_wp2_with fail
          go_roundw
          case rel => exact ⟨k + 1, s, acc, by omega, by go_num, rfl, HSN.out, HOWN2.out, HB4.out, HK4.out, HR4.out⟩
          case measure => simp [intOf]; omega
    · have hij : ¬ (k : Int) < (ne : Int) := by omega
      have HQX := Lib.hid (show q = X by
        have := HAC.out
        rw [List.drop_eq_nil_of_le (by rw [← hn3.out]; omega)] at this
        simpa [btw] using this)
      have HAT : Hid (encP.At wk s.A X) := by
        obtain ⟨A', cap', e1, hat, _⟩ := HOWN.out.at_
        simp only [Sl.v, Value.slice.injEq] at e1
        obtain ⟨e2, _, _⟩ := e1
        rw [e2, ← HQX.out]
        exact Lib.hid hat
      have HRO := Lib.hid (relOfP ne s X wk (by omega) hlen HAT.out (by rw [hns, HQX.out]) HMM.out)
      have r0 := HR.out.cell 0
      have r1 := HR.out.cell 1
      have fr := HR.out.frozen
      simp only [Sl.v] at HRO
      clear HAC
      go_wp2_with (go_at_call 77; refine HRO.out.mono ?_; rintro e w9 ⟨q9, rfl, hq9, hge, hb9⟩; have HQ9 := Lib.hid hq9; have HB9 := Lib.hid hb9; have HR9 := Lib.hid (HR.out.go hb9); clear hq9 hb9; have r0 := HR9.out.cell 0; have r1 := HR9.out.cell 1; have fr := HR9.out.frozen)
      refine bodyPost_ret (v := .tuple #[.agg #[.int .i64 (ne : Int), .slice (some ⟨q9, 0, none⟩) ne ne], .int .i64 0]) (by simp [results, Tryz.results55, go_sem, *]) rfl ?_
      refine ⟨q9, rfl, ?_, ?_⟩
      · exact (HQ9.out.far (p := ⟨w.heap.size + 1, 0, none⟩) (by simp only [ne_eq]; omega) _).far (p := ⟨w.heap.size + 1, 1, none⟩) (by simp only [ne_eq]; omega) _
      · exact ((below_trans HB.out HB9.out).setCell (p := ⟨w.heap.size + 1, 0, none⟩) (show w.heap.size ≤ w.heap.size + 1 by omega) _).setCell (p := ⟨w.heap.size + 1, 1, none⟩) (show w.heap.size ≤ w.heap.size + 1 by omega) _
end
end Go.Proofs.YtoegmdnfbemppaaGreatDoor
