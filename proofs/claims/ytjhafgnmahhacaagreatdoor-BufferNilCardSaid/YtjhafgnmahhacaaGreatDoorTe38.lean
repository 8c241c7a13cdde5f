/- Layer 22: a thread in memory, its buffer, its registers: the program's. -/
import Derived.Test.YtjhafgnmahhacaaGreatDoorTe35

namespace Go.Proofs.YtjhafgnmahhacaaGreatDoor
open Go.RowKit
section
/-- A thread: its registers and place, and what waits. -/
structure BTd where
  vs : List (List UInt8 × Int)
  at_ : Int
  q : List (Int × Int)
/-- Of what was there nothing outside F has turned. -/
structure Chg (F : Nat → Prop) (w w' : World) : Prop where
  os : w'.os = w.os
  tape : w'.tape = w.tape
  output : w'.output = w.output
  size : w.heap.size ≤ w'.heap.size
  keep : ∀ b, b < w.heap.size → ¬ F b → w'.heap[b]? = w.heap[b]?
namespace Chg
variable {F F' : Nat → Prop} {w w' w1 w2 : World}
theorem of_below (h : Below w.heap.size w w') : Chg F w w' := ⟨h.os, h.tape, h.output, h.size, fun b hb _ => h.block b hb⟩
theorem refl : Chg F w w := of_below (Below.refl _ _)
theorem trans (h : Chg F w w1) (k : Chg F' w1 w2) (hF : ∀ b, F' b → F b ∨ w.heap.size ≤ b) : Chg F w w2 :=
  ⟨k.os.trans h.os, k.tape.trans h.tape, k.output.trans h.output, Nat.le_trans h.size k.size, fun b hb hn =>
    (k.keep b (Nat.lt_of_lt_of_le hb h.size) (fun hf => (hF b hf).elim hn (fun e => Nat.lt_irrefl _ (Nat.lt_of_lt_of_le hb e)))).trans (h.keep b hb hn)⟩
theorem set (h : Chg F w w') {p : Addr} (hp : F p.block) (u : Value) : Chg F w (w'.setCell p u) :=
  ⟨h.os, h.tape, h.output, by simpa [World.setCell] using h.size, fun b hb hn => (Below.heap_setCell w' p u b (fun e => hn (e ▸ hp))).trans (h.keep b hb hn)⟩
theorem setN (h : Chg F w w') {p : Addr} (hp : w.heap.size ≤ p.block) (u : Value) : Chg F w (w'.setCell p u) :=
  ⟨h.os, h.tape, h.output, by simpa [World.setCell] using h.size, fun b hb hn => (Below.heap_setCell w' p u b (fun e => Nat.lt_irrefl _ (Nat.lt_of_lt_of_le hb (e ▸ hp)))).trans (h.keep b hb hn)⟩
theorem alloc (h : Chg F w w') (o : Obj) : Chg F w (w'.alloc o) := h.trans (F' := fun _ => False) (of_below (alloc_b _ _)) (fun _ h => h.elim)
theorem drew (h : Chg F w w') : Chg F w w'.drew := ⟨h.os, h.tape, h.output, h.size, h.keep⟩
theorem below (h : Chg F w w') {B : Nat} (hF : ∀ b, F b → B ≤ b) (hB : B ≤ w.heap.size) : Below B w w' :=
  ⟨h.os, h.tape, h.output, h.size, fun b hb => h.keep b (Nat.lt_of_lt_of_le hb hB) (fun hf => Nat.lt_irrefl _ (Nat.lt_of_lt_of_le hb (hF b hf)))⟩
theorem of_grew {B : Nat} {v v' : Value} (h : GrewS w w' B v v') (hF : ∀ b, v.ownBlock = some b → F b) : Chg F w w' :=
  ⟨h.below.os, h.below.tape, h.below.output, h.below.size, fun b hb hn => h.keep b hb (fun e => hn (hF b e))⟩
theorem far {t : TypeId} {cs : Array Value} {b : Nat} (h : Chg F w w') (hk : Blk w b t cs) (hn : ¬ F b) : Blk w' b t cs := (h.keep b hk.lt hn).trans hk
end Chg
def Foot (b : Nat) (rv qv : Value) (x : Nat) : Prop := x = b ∨ rv.ownBlock = some x ∨ qv.ownBlock = some x
structure TdAt (w : World) (B b : Nat) (rv qv : Value) (t : BTd) : Prop where
  blk : Blk w b 172 #[rv, .int .i64 t.at_, qv]
  hb : B ≤ b
  regs : encV.Own 68 B w rv t.vs
  q : encP.Own 106 B w qv t.q
namespace TdAt
variable {w w' w1 : World} {B b : Nat} {rv qv v' : Value} {t : BTd}
theorem keep (h : TdAt w B b rv qv t) (hk : ∀ x, Foot b rv qv x → w'.heap[x]? = w.heap[x]?) : TdAt w' B b rv qv t :=
  ⟨(hk b (.inl rfl)).trans h.blk, h.hb, own_hold h.regs (fun x hx => hk x (.inr (.inl hx))), own_hold h.q (fun x hx => hk x (.inr (.inr hx)))⟩
theorem foot (h : TdAt w B b rv qv t) {x : Nat} (hx : Foot b rv qv x) : B ≤ x ∧ x < w.heap.size := by
  rcases hx with rfl | hx | hx
  · exact ⟨h.hb, h.blk.lt⟩
  · obtain ⟨_, _, k⟩ := own_ty h.regs hx
    exact ⟨k, own_lt h.regs hx⟩
  · obtain ⟨_, _, k⟩ := own_ty h.q hx
    exact ⟨k, own_lt h.q hx⟩
theorem below (h : TdAt w B b rv qv t) (hb : Below w.heap.size w w') : TdAt w' B b rv qv t := h.keep fun x hx => hb.block x (h.foot hx).2
theorem far (h : TdAt w B b rv qv t) {F : Nat → Prop} (hc : Chg F w w') (hd : ∀ x, Foot b rv qv x → ¬ F x) : TdAt w' B b rv qv t := h.keep fun x hx => hc.keep x (h.foot hx).2 (hd x hx)
theorem drew (h : TdAt w B b rv qv t) : TdAt w.drew B b rv qv t := h.keep fun _ _ => rfl
theorem reg (h : TdAt w B b rv qv t) {g cap : Nat} (hr : rv = .slice (some ⟨g, 0, none⟩) t.vs.length cap) (i : Nat) (x : List UInt8 × Int) : TdAt ((w.setCell ⟨g, i * 2, none⟩ (.string ⟨x.1.toArray⟩)).setCell ⟨g, i * 2 + 1, none⟩ (.int .i64 x.2)) B b rv qv { t with vs := t.vs.set i x } := by
  subst hr
  have hg : RegsG w B g cap t.vs := h.regs
  obtain ⟨_, _, _, _, cur, hcur⟩ := hg.blk
  have hne := blk_ne h.blk hcur (by decide)
  have hc2 := hcur.set_ (i * 2) (.string ⟨x.1.toArray⟩)
  refine ⟨(h.blk.far hne _).far hne _, h.hb, ?_, own_setO (own_setO h.q hcur (by decide) _ _) hc2 (by decide) _ _⟩
  have k := hg.set i x
  exact k
theorem push (h : TdAt w B b rv qv t) {l : List (Int × Int)} (hg : GrewS w w1 B qv v') (ho : encP.Own 106 B w1 v' l) : TdAt (w1.setCell ⟨b, 2, none⟩ v') B b rv v' { t with q := l } := by
  have hb1 := blk_grew h.blk h.q (by decide) hg
  exact ⟨hb1.set_ 2 _, h.hb, own_setO (own_apartS h.regs h.q (by decide) hg) hb1 (by decide) _ _, own_setO ho hb1 (by decide) _ _⟩
theorem setF (h : TdAt w B b rv qv t) {p : Addr} (hp : ¬ Foot b rv qv p.block) (u : Value) : TdAt (w.setCell p u) B b rv qv t := h.keep fun x hx => Below.heap_setCell w p u x (fun e => hp (e ▸ hx))
theorem setq (h : TdAt w B b rv qv t) {l : List (Int × Int)} (ho : encP.Own 106 B w v' l) : TdAt (w.setCell ⟨b, 2, none⟩ v') B b rv v' { t with q := l } :=
  ⟨h.blk.set_ 2 _, h.hb, own_setO h.regs h.blk (by decide) _ _, own_setO ho h.blk (by decide) _ _⟩
theorem setl (h : TdAt w B b rv qv t) {l : List (List UInt8 × Int)} (ho : encV.Own 68 B w v' l) (n : Int) : TdAt ((w.setCell ⟨b, 0, none⟩ v').setCell ⟨b, 1, none⟩ (.int .i64 n)) B b v' qv { t with vs := l, at_ := n } :=
  ⟨(h.blk.set_ 0 _).set_ 1 _, h.hb, own_setO (own_setO ho h.blk (by decide) _ _) (h.blk.set_ 0 _) (by decide) _ _, own_setO (own_setO h.q h.blk (by decide) _ _) (h.blk.set_ 0 _) (by decide) _ _⟩
end TdAt
/-- A thread stands as t behind a call that returned v. -/
def TPost (B b : Nat) (rv qv : Value) (t : BTd) (v : Value) (w : World) (e : Ending) (w' : World) : Prop :=
  ∃ rv' qv', e = .returned v ∧ TdAt w' B b rv' qv' t ∧ Chg (Foot b rv qv) w w' ∧ ∀ x, Foot b rv' qv' x → Foot b rv qv x ∨ w.heap.size ≤ x
theorem at_dr {α : Type} {E : Enc α} {w : World} {A : Option Addr} {l : List α} (h : E.At w A l) : E.At w.drew A l := h
section
set_option maxHeartbeats 2000000
set_option maxRecDepth 100000
variable {w : World} {B b : Nat} {rv qv : Value} {t : BTd}
theorem emptyP (h : TdAt w B b rv qv t) : Calls Tryz.prog 97 #[.pointer (some ⟨b, 2, none⟩)] w fun e w' => e = .returned (.bool t.q.isEmpty) ∧ w' = w := by
  obtain ⟨A, cap, rfl⟩ := h.q.shp
  have c2 := h.blk.cl 2
  clear h
  have hq : ((t.q.length : Int) == 0) = t.q.isEmpty := by cases t.q <;> simp <;> omega
  go_enter Tryz.func97, Tryz.ntmps97
  go_wp2
  go_ret
  exact ⟨rfl, rfl⟩
theorem bputP (g : Nat) (arch : Int) (reg : Nat) (n : Int) (h : TdAt w B b rv qv t) (ha : w.cell? ⟨g, 0, none⟩ = some (.int .i64 arch)) (hr : reg < t.vs.length) :
    Calls Tryz.prog 174 #[.pointer (some ⟨g, 0, none⟩), .pointer (some ⟨b, 0, none⟩), .int .i64 (reg : Int), .int .i64 n] w (TPost B b rv qv (if arch = 1 ∨ reg ≠ 0 then { t with vs := t.vs.set reg ([], n) } else t) (.tuple #[]) w) := by
  have hb := h.blk
  have hgr := h.regs
  have HT := Lib.hid h
  have hp : 0 < t.vs.length := by omega
  obtain ⟨q, cap, rfl, hcp⟩ : ∃ q cap, rv = .slice (some ⟨q, 0, none⟩) t.vs.length cap ∧ t.vs.length ≤ cap := by
    rcases hgr.2 with ⟨_, e⟩ | ⟨q, cap, cur, e, _, _, hc, _⟩
    · omega
    · exact ⟨q, cap, e, hc⟩
  obtain ⟨c0, c1, fz, hth⟩ := RegsG.at_ hgr (List.getElem?_eq_getElem hr)
  have k0 := hb.cl 0
  have hi1 : (0 : Int) ≤ (reg : Int) := by omega
  have hi2 : (reg : Int) < (t.vs.length : Int) := by omega
  have hbw := hb.lt
  have hF : Foot b (.slice (some ⟨q, 0, none⟩) t.vs.length cap) qv q := .inr (.inl rfl)
  have HC := Lib.hid (Chg.set (Chg.set (Chg.refl (F := Foot b (.slice (some ⟨q, 0, none⟩) t.vs.length cap) qv) (w := w)) (p := ⟨q, reg * 2, none⟩) hF (.string ⟨#[]⟩)) (p := ⟨q, reg * 2 + 1, none⟩) hF (.int .i64 n))
  have HR := Lib.hid (HT.out.reg rfl reg ([], n))
  clear h hb hgr hth hF hp
  by_cases hor : arch = 1 ∨ reg ≠ 0
  · rw [if_pos hor]
    by_cases ha1 : arch = 1
    · subst ha1
      clear hor
      go_enter Tryz.func174, Tryz.ntmps174
      go_wp2_with fail
      go_end0
      exact ⟨_, _, rfl, HR.out, HC.out, fun x hx => .inl hx⟩
    · have hr0 : reg ≠ 0 := hor.resolve_left ha1
      have g1 : ((reg : Int) != 0) = true := by simp; omega
      have g2 : (arch == 1) = false := by simpa using ha1
      clear hor ha1 hr0
      go_enter Tryz.func174, Tryz.ntmps174
      go_wp2_with fail
      go_end0
      exact ⟨_, _, rfl, HR.out, HC.out, fun x hx => .inl hx⟩
  · rw [if_neg hor]
    have g1 : ((reg : Int) != 0) = false := by simp; omega
    have g2 : (arch == 1) = false := by simp; omega
    clear hor
    go_enter Tryz.func174, Tryz.ntmps174
    go_wp2_with fail
    go_end0
    exact ⟨_, _, rfl, HT.out, Chg.refl, fun x hx => .inl hx⟩
theorem pushP (p : Int × Int) (h : TdAt w B b rv qv t) (hl : t.q.length ≤ 1000000) (hB : B ≤ w.heap.size) :
    Calls Tryz.prog 171 #[.pointer (some ⟨b, 2, none⟩), .agg #[.int .i64 p.1, .int .i64 p.2]] w (TPost B b rv qv { t with q := t.q ++ [p] } (.tuple #[]) w) := by
  obtain ⟨x, y⟩ := p
  obtain ⟨A, cap, rfl⟩ := h.q.shp
  have HT := Lib.hid h
  have c2 := h.blk.cl 2
  have hbw := h.blk.lt
  clear h
  have HB0 := Lib.hid (alloc_b w (.cells #[.int .i64 x, .int .i64 y] 106 (0, 0)))
  have e2 := cell_go c2 HB0.out
  have p0 := cell_new w #[.int .i64 x, .int .i64 y] 106 (0, 0) 0
  have p1 := cell_new w #[.int .i64 x, .int .i64 y] 106 (0, 0) 1
  go_enter Tryz.func171, Tryz.ntmps171
  go_wp2_with fail
  refine wz (fun y' : World => y'.cell? ⟨b, 2, none⟩ = some (.slice A t.q.length cap) ∧ y'.cell? ⟨w.heap.size, 0, none⟩ = some (.int .i64 x) ∧ y'.cell? ⟨w.heap.size, 1, none⟩ = some (.int .i64 y)) [4, 5, 6] ⟨e2, p0, p1⟩ (fun hHeld => ?_)
  refine wq 0 ?_
  refine wq 1 ?_
  refine wq 2 ?_
  refine wq 3 ?_
  refine wt 4 (by assumption) ?_
  refine wt 5 (by assumption) ?_
  refine wpE_one (i := 6) (by kernel_rfl) rfl (fun K hK => ?_)
  go_simp
  refine hK.out _ _ ⟨cell_al hHeld.1 _, cell_al hHeld.2.1 _, cell_al hHeld.2.2 _⟩ ?_
  clear hK K
  refine pu ?_
  refine wl 7 ?_
  have hz := HB0.out.size
  have HT1 := Lib.hid (HT.out.below HB0.out)
  clear c2 e2 p0 p1 hHeld
  have hs1 : (w.alloc (.cells #[.int .i64 x, .int .i64 y] 106 (0, 0))).heap.size = w.heap.size + 1 := by simp
  generalize hW : w.alloc (.cells #[.int .i64 x, .int .i64 y] 106 (0, 0)) = W1 at *
  refine Enc.appW elemP _ rfl (.tmp 8) (.tmp 10) rfl [(x, y)] B t.q (.slice A t.q.length cap) (w.heap.size + 1) 0 1 rfl rfl (hs1 ▸ at_dr (pair_at _ _)) (own_below HT1.out.q (alloc_b _ _).drew) (by simp; omega) (by simp; omega) (by simp; omega) ?_
  intro v' w3 hown hg
  obtain ⟨A4, n4, c4, rfl⟩ := own_shp3 hown
  have HT3 := Lib.hid ((HT1.out.below (alloc_b _ _).drew).push hg hown)
  have HC := Lib.hid (Chg.set (((Chg.of_below HB0.out).trans (F' := Foot b rv (.slice A t.q.length cap)) (Chg.of_below (alloc_b _ _).drew) (fun x hx => .inl hx)).trans (F' := Foot b rv (.slice A t.q.length cap)) (Chg.of_grew hg (fun x hx => .inr (.inr hx))) (fun x hx => .inl hx)) (p := ⟨b, 2, none⟩) (.inl rfl) (.slice A4 n4 c4))
  have hb3 := blk_grew (HT1.out.blk.go (alloc_b _ _).drew) (own_below HT1.out.q (alloc_b _ _).drew) (by decide) hg
  have d2 := hb3.cl 2
  have df := hb3.frozen 2
  have hbw3 := hb3.lt
  have HW := Lib.hid hg.which
  have hz2 := hg.below.size
  clear hb3 hg hown hW
  go_wp2
  go_end0
  refine ⟨_, _, rfl, HT3.out, HC.out, ?_⟩
  rintro z (hz' | hz' | hz')
  · exact .inl (.inl hz')
  · exact .inl (.inr (.inl hz'))
  · rcases HW.out z hz' with e | e
    · exact .inl (.inr (.inr e))
    · exact .inr (by simp at e; omega)
theorem popP (p : Int × Int) (r : List (Int × Int)) (h : TdAt w B b rv qv t) (hq : t.q = p :: r) (hl : t.q.length ≤ 1000000) (hB : B ≤ w.heap.size) :
    Calls Tryz.prog 94 #[.pointer (some ⟨b, 2, none⟩)] w (TPost B b rv qv { t with q := r } (.agg #[.int .i64 p.1, .int .i64 p.2]) w) := by
  have hrl : r.length ≤ 1000000 := by rw [hq] at hl; simp at hl; omega
  obtain ⟨A, cap, hqv, hat, _, hcap⟩ := Enc.Own.at_ h.q
  subst hqv
  obtain ⟨x, y⟩ := p
  rw [hq] at hat
  obtain ⟨qb, o, rfl, hc⟩ := hat 0 (x, y) rfl
  have c0 := hc 0 _ rfl
  have c1 := hc 1 _ rfl
  have HA : Hid (encP.At w (some ⟨qb, o + 2, none⟩) r) := Lib.hid (hat.drop 1)
  have HA0 := Lib.hid hat
  have hlen : t.q.length = r.length + 1 := by rw [hq]; rfl
  have HT := Lib.hid h
  have c2 := h.blk.cl 2
  have hbw := h.blk.lt
  have d0 : w.cell? ⟨qb, o, none⟩ = some (.int .i64 x) := c0
  have d1 : w.cell? ⟨qb, o + 1, none⟩ = some (.int .i64 y) := c1
  have hqw : qb < w.heap.size := World.block_lt_of_cell? w _ d0
  rw [hlen] at c2
  clear h hc hat hq c0 c1
  have hi1 : (0 : Int) < ((r.length + 1 : Nat) : Int) := by omega
  have hc1 : r.length + 1 ≤ cap := by omega
  go_enter Tryz.func94, Tryz.ntmps94
  have HX := Lib.hid (below_2 w (.cells #[.int .i64 0, .int .i64 0] 106 (0, 0)) (.cells #[.int .i64 x, .int .i64 y] 106 (0, 0)))
  have HK := Lib.hid (show ∀ A' c', encP.At w A' r → ∀ oo, A' = some ⟨qb, oo, none⟩ → Calls Tryz.prog 99 #[.slice A' r.length c'] ((w.alloc (.cells #[.int .i64 0, .int .i64 0] 106 (0, 0))).alloc (.cells #[.int .i64 x, .int .i64 y] 106 (0, 0))) _ from
    fun A' c' hA oo e => e ▸ cloneE elemP Tryz.cloneP rfl Tryz.sizeOf106 qb oo c' r _ (e ▸ hA.below HX.out) hrl (by decide))
  go_wp2_with fail
  all_goals
    first
      | with_reducible refine (HK.out (some ⟨qb, o + 2, none⟩) _ HA.out _ rfl).mono ?_
      | with_reducible refine (HK.out (some ⟨qb, o, none⟩) _ (by obtain rfl : r = [] := List.length_eq_zero_iff.1 (by omega); exact Enc.At.nil _ _) _ rfl).mono ?_
    rintro e w3 ⟨g, cp, rfl, hown, hb3⟩
    have HT3 := Lib.hid ((HT.out.below HX.out).below hb3)
    have HR3 := Lib.hid (((Blk.new w 106 #[.int .i64 0, .int .i64 0]).alloc _).go hb3)
    have HP3 := Lib.hid ((blkN2 w _ 106 #[.int .i64 x, .int .i64 y]).go hb3)
    have HN := Lib.hid (HT3.out.setq (own_lowE hown (Nat.le_trans hB HX.out.size)))
    have HC := Lib.hid (Chg.set (Chg.of_below (F := Foot b rv (.slice (some ⟨qb, o, none⟩) t.q.length cap)) (HX.out.trans (hb3.mono HX.out.size))) (p := ⟨b, 2, none⟩) (.inl rfl) (.slice (some ⟨g, 0, none⟩) r.length cp))
    have hg1 := (hown.lt g rfl).1
    have d2 := HT3.out.blk.cl 2
    have df := HT3.out.blk.frozen 2
    have r0 := HR3.out.cl 0
    have r1 := HR3.out.cl 1
    have rf := HR3.out.frozen
    have p0 := HP3.out.cl 0
    have p1 := HP3.out.cl 1
    have z1 := HR3.out.lt
    have z2 := HP3.out.lt
    clear hown hb3
    have hnf : ¬ Foot b rv (.slice (some ⟨g, 0, none⟩) r.length cp) w.heap.size := by
      rintro (e | e | e)
      · omega
      · exact Nat.lt_irrefl _ (own_lt HT.out.regs e)
      · simp [Value.ownBlock] at e
        simp at hg1
        omega
    go_wp2
    refine bodyPost_ret (v := .agg #[.int .i64 x, .int .i64 y]) (by simp [results, Tryz.results94, go_sem, r0, r1]) rfl ⟨_, _, rfl, (HN.out.setF hnf _).setF hnf _, (HC.out.setN (Nat.le_refl _) _).setN (Nat.le_refl _) _, ?_⟩
    rintro z (e | e | e)
    · exact .inl (.inl e)
    · exact .inl (.inr (.inl e))
    · refine .inr ?_
      simp [Value.ownBlock] at e
      simp at hg1
      omega
end
end
end Go.Proofs.YtjhafgnmahhacaaGreatDoor
