/- Layer 15: the runner's run: the program's: one round's arms told plainly. -/
import Derived.Test.YtjhafgnmahhacaaGreatDoorTe27

namespace Go.Proofs.YtjhafgnmahhacaaGreatDoor
open Go.RowKit
section
/-- Behind a run: what has been put down, or that something is not known. -/
def GoPost (B g : Nat) (S : RunS) (V : RunV) (o : Option Rn) (w : World) (e : Ending) (w' : World) : Prop := match o with
  | some r' => RunPost B g S V r' (.bool true) w e w'
  | none => ∃ r', RunPost B g S V r' (.bool false) w e w'
theorem GoPost.yes {B g : Nat} {S : RunS} {V : RunV} {r' : Rn} {o : Option Rn} {w w' : World} {e : Ending} (h : o = some r') (p : RunPost B g S V r' (.bool true) w e w') : GoPost B g S V o w e w' := by subst h; exact p
theorem GoPost.no {B g : Nat} {S : RunS} {V : RunV} {r' : Rn} {o : Option Rn} {w w' : World} {e : Ending} (h : o = none) (p : RunPost B g S V r' (.bool false) w e w') : GoPost B g S V o w e w' := by subst h; exact ⟨r', p⟩
/-- What a round keeps. -/
structure Rnd (w0 w : World) (g nr : Nat) (S : RunS) (c : List Ins) (X : Option Rn) (V : RunV) (k : Nat) (r : Rn) (V' : RunV) (wr : World) : Prop where
  inv : Inv S.C nr k r
  run : RunAt wr w0.heap.size g S r V'
  go : goL S.C c k r = X
  below : Below w0.heap.size w wr
  fr : FrV w wr g V V'
theorem Rnd.step {w0 w wr w2 : World} {g nr k n : Nat} {S : RunS} {c : List Ins} {X : Option Rn} {V V1 V2 : RunV} {r r2 : Rn} {x : Ins} (h : Rnd w0 w g nr S c X V k r V1 wr) (hx : c[k]? = some x) (hf : r.full = false) (hv : ValI S.C nr c k x) (hs : stepL S.C r c k x = some (r2, n)) (hR : RunAt w2 w0.heap.size g S r2 V2) (hb : Below w0.heap.size wr w2) (hF : FrV wr w2 g V1 V2) : Rnd w0 w g nr S c X V n r2 V2 w2 :=
  ⟨h.inv.step hv hs, hR, by rw [← h.go, goL_some hx hf hs], h.below.trans hb, h.fr.trans hF⟩
theorem Rnd.fell {w0 w wr w2 : World} {g nr k : Nat} {S : RunS} {c : List Ins} {X : Option Rn} {V V1 V2 : RunV} {r r2 : Rn} {x : Ins} {e : Ending} (h : Rnd w0 w g nr S c X V k r V1 wr) (hx : c[k]? = some x) (hf : r.full = false) (hs : stepL S.C r c k x = none) (he : e = .returned (.bool false)) (hR : RunAt w2 w0.heap.size g S r2 V2) (hb : Below w0.heap.size wr w2) (hF : FrV wr w2 g V1 V2) : GoPost w0.heap.size g S V X w e w2 :=
  GoPost.no (by rw [← h.go, goL_none hx hf hs]) ⟨V2, he, hR, h.below.trans hb, h.fr.trans hF⟩
section
variable {C : Cx} {r : Rn} {c : List Ins} {k : Nat} {d a b imm fence : Int} {loc label : Nm}
theorem step_1 : stepL C r c k ⟨1, d, a, b, imm, loc, label, fence⟩ = (writeL C r k loc 0 ⟨.num imm, 0⟩).map (·, k + 1) := rfl
theorem step_2 : stepL C r c k ⟨2, d, a, b, imm, loc, label, fence⟩ = (writeL C r k loc 0 (rgA r a)).map (·, k + 1) := rfl
theorem step_3 : stepL C r c k ⟨3, d, a, b, imm, loc, label, fence⟩ = some (readL C r k loc 0 d, k + 1) := rfl
theorem step_4 : stepL C r c k ⟨4, d, a, b, imm, loc, label, fence⟩ = some (putL C r d ⟨.num imm, 0⟩, k + 1) := rfl
theorem step_5 : stepL C r c k ⟨5, d, a, b, imm, loc, label, fence⟩ = some (barL C r k 1, k + 1) := rfl
theorem step_13 : stepL C r c k ⟨13, d, a, b, imm, loc, label, fence⟩ = some (barL C r k fence, k + 1) := rfl
theorem step_6 : stepL C r c k ⟨6, d, a, b, imm, loc, label, fence⟩ = (memL C r k ⟨6, d, a, b, imm, loc, label, fence⟩).map (·, k + 1) := rfl
theorem step_7 : stepL C r c k ⟨7, d, a, b, imm, loc, label, fence⟩ = (memL C r k ⟨7, d, a, b, imm, loc, label, fence⟩).map (·, k + 1) := rfl
theorem step_8 : stepL C r c k ⟨8, d, a, b, imm, loc, label, fence⟩ = some (reckL C r ⟨8, d, a, b, imm, loc, label, fence⟩, k + 1) := rfl
theorem step_9 : stepL C r c k ⟨9, d, a, b, imm, loc, label, fence⟩ = some (reckL C r ⟨9, d, a, b, imm, loc, label, fence⟩, k + 1) := rfl
theorem step_10 : stepL C r c k ⟨10, d, a, b, imm, loc, label, fence⟩ = some (reckL C r ⟨10, d, a, b, imm, loc, label, fence⟩, k + 1) := rfl
theorem step_11 : stepL C r c k ⟨11, d, a, b, imm, loc, label, fence⟩ = brL r c k ⟨11, d, a, b, imm, loc, label, fence⟩ := rfl
theorem step_12 : stepL C r c k ⟨12, d, a, b, imm, loc, label, fence⟩ = some (r, k + 1) := rfl
end
section
set_option maxHeartbeats 4000000
set_option maxRecDepth 100000
variable {w0 w : World} {g nr k : Nat} {S : RunS} {r : Rn} {V : RunV}
theorem writeP0 (pl : Nat) (loc : Nm) (x : Rg) (HS : Stat w0 S) (hb : Below w0.heap.size w0 w) (hI : Inv S.C nr k r) (hf : r.full = false) (hR : RunAt w w0.heap.size g S r V) (hloc : loc ∈ S.C.locs) (hx : RgOK S.C r.evs x) :
    Calls Tryz.prog 135 #[.pointer (some ⟨g, 0, none⟩), .int .i64 (pl : Int), .string ⟨loc.toArray⟩, .agg #[.int .u64 0, .int .u64 0, .int .u64 0, .int .u64 0], rgV x] w (WritePost w0.heap.size g S V r (writeL S.C r pl loc 0 x) w) := writeP pl loc 0 x HS hb hI hf hR hloc (Rds.zero _) hx
theorem writePn (pl : Nat) (loc : Nm) (n : Int) (HS : Stat w0 S) (hb : Below w0.heap.size w0 w) (hI : Inv S.C nr k r) (hf : r.full = false) (hR : RunAt w w0.heap.size g S r V) (hloc : loc ∈ S.C.locs) (hn : in32 n) :
    Calls Tryz.prog 135 #[.pointer (some ⟨g, 0, none⟩), .int .i64 (pl : Int), .string ⟨loc.toArray⟩, .agg #[.int .u64 0, .int .u64 0, .int .u64 0, .int .u64 0], .agg #[.iface 213 (.int .i64 n), .int .u64 0, .int .u64 0, .int .u64 0, .int .u64 0]] w (WritePost w0.heap.size g S V r (writeL S.C r pl loc 0 ⟨.num n, 0⟩) w) := writeP pl loc 0 ⟨.num n, 0⟩ HS hb hI hf hR hloc (Rds.zero _) ⟨hn, Rds.zero _⟩
theorem readP0 (pl : Nat) (loc : Nm) (d : Nat) (HS : Stat w0 S) (hb : Below w0.heap.size w0 w) (hI : Inv S.C nr k r) (hf : r.full = false) (hR : RunAt w w0.heap.size g S r V) (hloc : loc ∈ S.C.locs) (hd : d < r.regs.length) (hl : r.regs.length ≤ 32) :
    Calls Tryz.prog 136 #[.pointer (some ⟨g, 0, none⟩), .int .i64 (pl : Int), .string ⟨loc.toArray⟩, .agg #[.int .u64 0, .int .u64 0, .int .u64 0, .int .u64 0], .int .i64 (d : Int)] w (RunPost w0.heap.size g S V (readL S.C r pl loc 0 (d : Int)) (.tuple #[]) w) := readP pl loc 0 d HS hb hI hf hR hloc (Rds.zero _) hd hl
theorem putPn (d : Nat) (n : Int) (HS : Stat w0 S) (hb : Below w0.heap.size w0 w) (hd : d < r.regs.length) (hl : r.regs.length ≤ 32) (hR : RunAt w w0.heap.size g S r V) :
    Calls Tryz.prog 137 #[.pointer (some ⟨g, 0, none⟩), .int .i64 (d : Int), .agg #[.iface 213 (.int .i64 n), .int .u64 0, .int .u64 0, .int .u64 0, .int .u64 0]] w (RunPost w0.heap.size g S V (putL S.C r (d : Int) ⟨.num n, 0⟩) (.tuple #[]) w) := putP d ⟨.num n, 0⟩ HS hb hd hl hR
/-- memory, in one form. -/
theorem memP (pl d a b : Nat) (op imm : Int) (hop : op = 6 ∨ op = 7) (loc label : List UInt8) (fence : Int) (HS : Stat w0 S) (hb : Below w0.heap.size w0 w) (hI : Inv S.C nr k r) (hf : r.full = false) (hR : RunAt w w0.heap.size g S r V) (hd : d < r.regs.length) (hl : r.regs.length ≤ 32) (ha : a < r.regs.length) (hb2 : b < r.regs.length) :
    Calls Tryz.prog 138 #[.pointer (some ⟨g, 0, none⟩), .int .i64 (pl : Int), insK op d a b imm loc label fence] w (WritePost w0.heap.size g S V r (memL S.C r pl ⟨op, d, a, b, imm, loc, label, fence⟩) w) := by
  have hae := List.getElem?_eq_getElem ha
  have hbe := List.getElem?_eq_getElem hb2
  obtain ⟨ra, hra⟩ : ∃ x, r.regs[a] = x := ⟨_, rfl⟩
  obtain ⟨rb, hrb⟩ : ∃ x, r.regs[b] = x := ⟨_, rfl⟩
  rw [hra] at hae
  rw [hrb] at hbe
  have oka := hI.regs ra (List.mem_of_getElem? hae)
  have okb := hI.regs rb (List.mem_of_getElem? hbe)
  have ga := rgA_at hae
  have gb := rgA_at hbe
  obtain ⟨ah, ao⟩ := ra
  cases ah with
  | adr s =>
    rcases hop with rfl | rfl
    · have hm : memL S.C r pl ⟨6, d, a, b, imm, loc, label, fence⟩ = some (readL S.C r pl s ao (d : Int)) := by unfold memL; simp only [ga]; rfl
      rw [hm]
      exact memP_r pl d a b 6 imm rfl loc label fence s ao HS hb hI hf hR hd hl hae oka
    · have hm : memL S.C r pl ⟨7, d, a, b, imm, loc, label, fence⟩ = writeL S.C r pl s ao rb := by unfold memL; simp only [ga, gb]; rfl
      rw [hm]
      exact memP_w pl d a b 7 imm rfl loc label fence s ao rb HS hb hI hf hR hae oka hbe okb
  | num n =>
    have hm : memL S.C r pl ⟨op, d, a, b, imm, loc, label, fence⟩ = none := by unfold memL; simp only [ga]
    rw [hm]
    exact memP_n pl op d a b imm loc label fence n ao hb hI hR hae
  | rd n =>
    have hm : memL S.C r pl ⟨op, d, a, b, imm, loc, label, fence⟩ = none := by unfold memL; simp only [ga]
    rw [hm]
    exact memP_t pl op d a b imm loc label fence n ao hb hI hR hae
  | non =>
    have hm : memL S.C r pl ⟨op, d, a, b, imm, loc, label, fence⟩ = none := by unfold memL; simp only [ga]
    rw [hm]
    exact memP_h pl op d a b imm loc label fence ao hb hI hR hae
/-- reckon, in one form. -/
theorem reckP (op : Int) (hop : op = 8 ∨ op = 9 ∨ op = 10) (d a b : Nat) (imm : Int) (loc label : List UInt8) (fence : Int) (HS : Stat w0 S) (hb : Below w0.heap.size w0 w) (hI : Inv S.C nr k r) (hR : RunAt w w0.heap.size g S r V) (hd : d < r.regs.length) (hl : r.regs.length ≤ 32) (ha : a < r.regs.length) (hb2 : b < r.regs.length) (himm : in32 imm) :
    Calls Tryz.prog 139 #[.pointer (some ⟨g, 0, none⟩), insK op d a b imm loc label fence] w (RunPost w0.heap.size g S V (reckL S.C r ⟨op, d, a, b, imm, loc, label, fence⟩) (.tuple #[]) w) := by
  have hae := List.getElem?_eq_getElem ha
  have hbe := List.getElem?_eq_getElem hb2
  obtain ⟨ra, hra⟩ : ∃ x, r.regs[a] = x := ⟨_, rfl⟩
  obtain ⟨rb, hrb⟩ : ∃ x, r.regs[b] = x := ⟨_, rfl⟩
  rw [hra] at hae
  rw [hrb] at hbe
  have oka := hI.regs ra (List.mem_of_getElem? hae)
  have okb := hI.regs rb (List.mem_of_getElem? hbe)
  have ga := rgA_at hae
  have gb := rgA_at hbe
  have hm : reckL S.C r ⟨op, d, a, b, imm, loc, label, fence⟩ = putL S.C r (d : Int) (reckX op a b ra (if op = 8 then ⟨.num imm, 0⟩ else rb)) := by
    rcases hop with rfl | rfl | rfl
    · unfold reckL reckX
      simp only [ga]
      simp
    · unfold reckL reckX
      simp only [ga, gb]
      by_cases hab : a = b
      · simp [hab]
      · have hab2 : ¬ (a : Int) = (b : Int) := by omega
        simp [hab, hab2]
    · unfold reckL reckX
      simp only [ga, gb]
      simp
  rw [hm]
  exact reckQ op d a b imm loc label fence ra rb _ rfl himm HS hb hI hR hd hae oka hbe okb hl
end
end
end Go.Proofs.YtjhafgnmahhacaaGreatDoor
