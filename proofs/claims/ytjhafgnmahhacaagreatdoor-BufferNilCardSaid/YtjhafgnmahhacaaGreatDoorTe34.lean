/- DERIVED: THE SHELF's CONTRACTS AT THIS DUMP, IN PLAIN WORDS (tools/lay-plain.mjs out of 'T -/
import Derived.Test.YtjhafgnmahhacaaGreatDoorTe32
import Derived.IntWalk
import Derived.Deep.MidRow
import Derived.Deep.CutBlock
import Derived.Deep.DeepCutAuto
namespace Go.Proofs
open Go.Shelf
def Tryz.cloneV_ren : Go.Shelf.Ren := ⟨fun | 41 => 101 | n => n, fun | 22 => 58 | 23 => 68 | 4 => 4 | n => n, fun | n => n⟩
theorem Tryz.cloneV : Go.Proofs.SlLaysE0.n41 Tryz.prog Tryz.cloneV_ren := {
  mixed := by kernel_rfl
  f41 := ⟨Tryz.f101.name, by decide, Tryz.func101.trans (congrArg some (by kernel_rfl))⟩
  t4 := Tryz.underlying4
  a4 := Tryz.isAgg4
  z4 := Tryz.sizeOf4
  v4 := Tryz.zeroValue4
  t22 := Tryz.underlying58
  a22 := Tryz.isAgg58
  z22 := Tryz.sizeOf58
  v22 := Tryz.zeroValue58 }
def Tryz.cloneN_ren : Go.Shelf.Ren := ⟨fun | 41 => 111 | n => n, fun | 22 => 62 | 23 => 70 | 4 => 4 | n => n, fun | n => n⟩
theorem Tryz.cloneN : Go.Proofs.SlLaysE0.n41 Tryz.prog Tryz.cloneN_ren := {
  mixed := by kernel_rfl
  f41 := ⟨Tryz.f111.name, by decide, Tryz.func111.trans (congrArg some (by kernel_rfl))⟩
  t4 := Tryz.underlying4
  a4 := Tryz.isAgg4
  z4 := Tryz.sizeOf4
  v4 := Tryz.zeroValue4
  t22 := Tryz.underlying62
  a22 := Tryz.isAgg62
  z22 := Tryz.sizeOf62
  v22 := Tryz.zeroValue62 }
def Tryz.cloneP_ren : Go.Shelf.Ren := ⟨fun | 41 => 99 | n => n, fun | 22 => 37 | 23 => 106 | 4 => 4 | n => n, fun | n => n⟩
theorem Tryz.cloneP : Go.Proofs.SlLaysE0.n41 Tryz.prog Tryz.cloneP_ren := {
  mixed := by kernel_rfl
  f41 := ⟨Tryz.f99.name, by decide, Tryz.func99.trans (congrArg some (by kernel_rfl))⟩
  t4 := Tryz.underlying4
  a4 := Tryz.isAgg4
  z4 := Tryz.sizeOf4
  v4 := Tryz.zeroValue4
  t22 := Tryz.underlying37
  a22 := Tryz.isAgg37
  z22 := Tryz.sizeOf37
  v22 := Tryz.zeroValue37 }
end Go.Proofs
namespace Go.Proofs.YtjhafgnmahhacaaGreatDoor
open Go.RowKit
section
abbrev encV : Enc (List UInt8 × Int) := ⟨2, fun x => [.string ⟨x.1.toArray⟩, .int .i64 x.2], fun _ => rfl, by omega, fun _ u h => by simp at h; rcases h with rfl | rfl <;> rfl⟩
theorem elemV : encV.Elem 68 58 24 := ⟨Tryz.underlying58, .agg #[.string ⟨#[]⟩, .int .i64 0], by kernel_rfl, rfl⟩
/-- What an instruction asks of the memory. -/
structure Ac where
  kind : Int
  loc : List UInt8
  val : Int
  reg : Int
  fence : Int
abbrev actV (x : Ac) : Value := .agg #[.int .i64 x.kind, .string ⟨x.loc.toArray⟩, .int .i64 x.val, .int .i64 x.reg, .int .i64 x.fence]
abbrev locV (v : Value) (at_ : Int) : Value := .agg #[v, .int .i64 at_]
def valB (x : List UInt8 × Int) : Bool := if x.1 = [] then numB x.2 else nameB x.1 && (x.2 == 0)
def threadB (n : Nat) (at_ : Int) (vs : List (List UInt8 × Int)) : Bool := decide (0 ≤ at_) && decide (at_ < 256) && decide (vs.length = n) && vs.all valB
theorem threadB_iff {n : Nat} {at_ : Int} {vs : List (List UInt8 × Int)} : threadB n at_ vs = true ↔ 0 ≤ at_ ∧ at_ < 256 ∧ vs.length = n ∧ ∀ x ∈ vs, valB x = true := by
  unfold threadB
  simp only [Bool.and_eq_true, decide_eq_true_eq, List.all_eq_true, and_assoc]
theorem nameB_len {l : List UInt8} (h : nameB l = true) : l.length ≤ 32 := by
  cases l with
  | nil => simp
  | cons c r =>
    simp only [nameB, Bool.and_eq_true, decide_eq_true_eq] at h
    simp only [List.length_cons]
    omega
/-- What Do does; none: an address where a number is wanted. -/
def doL (op d a imm : Int) (loc : List UInt8) (vs : List (List UInt8 × Int)) : Option (List (List UInt8 × Int) × Ac) :=
  if op = 1 then some (vs, ⟨3, loc, imm, 0, 0⟩)
  else if op = 2 then (if (vs.getD a.toNat ([], 0)).1 = [] then some (vs, ⟨3, loc, (vs.getD a.toNat ([], 0)).2, 0, 0⟩) else none)
  else if op = 3 then some (vs, ⟨2, loc, 0, d, 0⟩)
  else if op = 4 then some (vs.set d.toNat ([], imm), ⟨1, [], 0, 0, 0⟩)
  else some (vs, ⟨4, [], 0, 0, 1⟩)
section
set_option maxHeartbeats 2000000
set_option maxRecDepth 100000
theorem mayP (A : Option Addr) (cap : Nat) (at_ : Int) (vs : List (List UInt8 × Int)) (w : World) (hv : encV.At w A vs) (ht : threadB 15 at_ vs = true) :
    Calls Tryz.prog 165 #[locV (.slice A vs.length cap) at_] w fun e w' => e = .returned (.bool true) ∧ Below w.heap.size w w' := by
  obtain ⟨h0, h1, h2, hall⟩ := threadB_iff.1 ht
  have H4 := Lib.hid hv
  have HA := Lib.hid hall
  have H2 := Lib.hid h2
  have h0' : decide (at_ < 0) = false := by simpa using h0
  have h1' : decide (256 ≤ at_) = false := by simpa using h1
  have h2' : ((vs.length : Int) != 15) = false := by simp; omega
  have l2 : 15 ≤ vs.length := by omega
  have l3 : vs.length ≤ 15 := by omega
  clear hv hall ht h0 h1 h2
  go_enter Tryz.func165, Tryz.ntmps165
  go_wp2
  go_loopw [4, 22] (fun _ i wr => ∃ k : Nat, k ≤ 15 ∧ i = .int .i64 k ∧ Below w.heap.size w wr) (fun _ i _ => 15 - (intOf i).toNat)
  case atStart => exact ⟨0, Nat.zero_le _, rfl, below_alloc (Below.refl _ _) _⟩
  case round =>
    obtain ⟨k, hk, rfl, hbw⟩ := hrel
    by_cases hlt : k < vs.length
    · obtain ⟨b, o, rfl, hcell⟩ := H4.out k vs[k] (List.getElem?_eq_getElem hlt)
      have hV := HA.out vs[k] (List.getElem_mem _)
      obtain ⟨x, hx⟩ : ∃ x, vs[k] = x := ⟨_, rfl⟩
      rw [hx] at hcell hV
      clear hx
      obtain ⟨L, n⟩ := x
      have c1 := cell_go (hcell 0 _ rfl) hbw
      have c2 := cell_go (hcell 1 _ rfl) hbw
      simp only [Nat.add_zero] at c1
      have hlt' : k < 15 := by omega
      have hb2 := below_trans hbw (alloc_b wr (.cells #[.string ⟨L.toArray⟩, .int .i64 n] 68 (0, 0)))
      clear hcell
      unfold valB at hV
      by_cases hLn : L = []
      · subst hLn
        have hn : numB n = true := hV
        have HN := Lib.hid hn
        clear hn hV
        go_wp2_with (go_at_call 231; refine (numI _ _).mono ?_; rw [HN.out]; rintro e w' ⟨rfl, rfl⟩)
        go_roundw
        case rel => exact ⟨k + 1, by omega, by go_num, hb2⟩
        case measure => simp [intOf]; omega
      · have hLe : L.isEmpty = false := by simpa using hLn
        rw [if_neg hLn] at hV
        simp only [Bool.and_eq_true] at hV
        obtain ⟨hn, hz⟩ := hV
        have hs9 : (⟨L.toArray⟩ : ByteArray).size ≤ 9223372036854775807 := by
          rw [str_size]
          have := nameB_len hn
          omega
        have HN := Lib.hid hn
        have hz' : (n != 0) = false := by simpa using hz
        clear hLn hn
        go_wp2_with (go_at_call 230; refine (nameI _ _ hs9).mono ?_; rw [show (⟨L.toArray⟩ : ByteArray).data.toList = L from rfl, HN.out]; rintro e w' ⟨rfl, rfl⟩)
        go_roundw
        case rel => exact ⟨k + 1, by omega, by go_num, hb2⟩
        case measure => simp [intOf]; omega
    · have hge : ¬ k < 15 := by omega
      go_wp2
      go_ret
      exact ⟨rfl, hbw⟩
end
theorem flat_oneE {α : Type} {E : Enc α} {l : List α} : ∀ u ∈ E.flat l, u.oneCell' = true := by
  intro u hu
  unfold Enc.flat at hu
  obtain ⟨q, hq, huq⟩ := List.mem_flatten.1 hu
  obtain ⟨y, _, rfl⟩ := List.mem_map.1 hq
  exact E.one y u huq
theorem cloneE {α : Type} {E : Enc α} {T S : TypeId} {bytes : Nat} (hE : E.Elem T S bytes) {ρ : Go.Shelf.Ren} (L : SlLaysE0.n41 Tryz.prog ρ) (hT : ρ.t 23 = T) (hs : ∀ w, (Go.sizeOf T).run Tryz.prog w = .ok E.size w) (b o cap : Nat) (l : List α) (w : World)
    (hv : E.At w (some ⟨b, o, none⟩) l) (hm : l.length ≤ 1000000) (hb : bytes ≤ 1000) :
    Calls Tryz.prog (ρ.f 41) #[.slice (some ⟨b, o, none⟩) l.length cap] w fun e w' => ∃ g cp, e = .returned (.slice (some ⟨g, 0, none⟩) l.length cp) ∧ E.Own T w.heap.size w' (.slice (some ⟨g, 0, none⟩) l.length cp) l ∧ Below w.heap.size w w' := by
  subst hT
  obtain ⟨z, hz, hzs⟩ := hE.info
  obtain ⟨i0, hi, hz0, hz1, hz2⟩ := info_partsM hz
  have hmul : l.length * bytes ≤ 1000000 * 1000 := Nat.mul_le_mul hm hb
  refine (AnyE.slices_Clone L i0 z E.size bytes hi hz0 hz1 hz2 hzs E.pos hs b o l.length cap (E.flat l) w (E.flat_len l) (by unfold maxLen; omega) (by omega) (fun j u hu => hv.cells j u hu) flat_oneE).mono ?_
  rintro e w' ⟨v', rfl, hown, hne, hb⟩
  rcases hown.2 with ⟨rfl, _⟩ | ⟨g, cp, cur, rfl, _⟩
  · exact absurd rfl hne
  · exact ⟨g, cp, rfl, hown, hb⟩
theorem cloneVP (A : Option Addr) (cap : Nat) (vs : List (List UInt8 × Int)) (w : World) (hv : encV.At w A vs) (hl : 0 < vs.length) (hm : vs.length ≤ 32) :
    Calls Tryz.prog 101 #[.slice A vs.length cap] w fun e w' => ∃ g cp, e = .returned (.slice (some ⟨g, 0, none⟩) vs.length cp) ∧ encV.Own 68 w.heap.size w' (.slice (some ⟨g, 0, none⟩) vs.length cp) vs ∧ Below w.heap.size w w' := by
  obtain ⟨b, o, rfl, _⟩ := hv 0 vs[0] (List.getElem?_eq_getElem hl)
  exact cloneE elemV Tryz.cloneV rfl Tryz.sizeOf68 b o cap vs w hv (by omega) (by decide)
end
section
theorem own_setE {w : World} {B b : Nat} {t : TypeId} {z n cap : Nat} {xs : List Value} (h : w.ownsRow B t z (.slice (some ⟨b, 0, none⟩) n cap) n xs) (i : Nat) (u : Value) : (w.setCell ⟨b, i, none⟩ u).ownsRow B t z (.slice (some ⟨b, 0, none⟩) n cap) n (xs.set i u) := by
  obtain ⟨h1, h2⟩ := h
  refine ⟨by rw [List.length_set]; exact h1, ?_⟩
  rcases h2 with ⟨e, _⟩ | ⟨g, cap', cur, e, hg, hh, hnc, hcm, hcs, ht⟩
  · cases e
  · simp only [Value.slice.injEq, Option.some.injEq, Addr.mk.injEq, and_true, true_and] at e
    obtain ⟨rfl, rfl⟩ := e
    refine Or.inr ⟨b, cap, cur.setIfInBounds i u, rfl, hg, Blk.set_ hh i u, hnc, hcm, by simpa using hcs, ?_⟩
    rw [Array.toList_setIfInBounds, ← ht, List.take_set]
theorem own_farE {w : World} {B b : Nat} {t : TypeId} {z n m cap : Nat} {xs : List Value} (h : w.ownsRow B t z (.slice (some ⟨b, 0, none⟩) n cap) m xs) {p : Addr} (hp : p.block ≠ b) (u : Value) : (w.setCell p u).ownsRow B t z (.slice (some ⟨b, 0, none⟩) n cap) m xs :=
  own_hold h fun q hq => by
    simp only [Value.ownBlock, Option.some.injEq] at hq
    subst hq
    exact Below.heap_setCell w p u b (fun e => hp e.symm)
theorem own_lowE {w : World} {B B' : Nat} {t : TypeId} {z n : Nat} {v : Value} {xs : List Value} (h : w.ownsRow B t z v n xs) (hB : B' ≤ B) : w.ownsRow B' t z v n xs :=
  ⟨h.1, h.2.imp id (fun ⟨g, cap, cur, e, h1, r⟩ => ⟨g, cap, cur, e, Nat.le_trans hB h1, r⟩)⟩
theorem blkNe {w : World} {g q : Nat} {t t2 : TypeId} {cs ds : Array Value} (h : Blk w g t cs) (k : Blk w q t2 ds) (hne : t ≠ t2) : g ≠ q := fun e => by
  subst e
  unfold Blk at h k
  rw [h] at k
  simp only [Option.some.injEq, Obj.cells.injEq] at k
  exact hne k.2.1
theorem flatV_set : ∀ (l : List (List UInt8 × Int)) (i : Nat) (x : List UInt8 × Int), ((encV.flat l).set (i * 2) (.string ⟨x.1.toArray⟩)).set (i * 2 + 1) (.int .i64 x.2) = encV.flat (l.set i x)
  | [], _, _ => rfl
  | _ :: _, 0, _ => rfl
  | y :: l, i + 1, x => by
    have ih := flatV_set l i x
    rw [List.set_cons_succ, Enc.flat_cons, Enc.flat_cons, ← ih, show (i + 1) * 2 = i * 2 + 1 + 1 by omega]
    rfl
/-- A row of registers in block g. -/
abbrev RegsG (w : World) (B g cap : Nat) (vs : List (List UInt8 × Int)) : Prop := encV.Own 68 B w (.slice (some ⟨g, 0, none⟩) vs.length cap) vs
section
variable {w w' : World} {B g cap : Nat} {vs : List (List UInt8 × Int)}
theorem RegsG.set (h : RegsG w B g cap vs) (i : Nat) (x : List UInt8 × Int) : encV.Own 68 B ((w.setCell ⟨g, i * 2, none⟩ (.string ⟨x.1.toArray⟩)).setCell ⟨g, i * 2 + 1, none⟩ (.int .i64 x.2)) (.slice (some ⟨g, 0, none⟩) vs.length cap) (vs.set i x) := by
  have := own_setE (own_setE h (i * 2) (.string ⟨x.1.toArray⟩)) (i * 2 + 1) (.int .i64 x.2)
  unfold Enc.Own
  rw [List.length_set, ← flatV_set]
  exact this
theorem RegsG.blk (h : RegsG w B g cap vs) : B ≤ g ∧ g < w.heap.size ∧ vs.length ≤ cap ∧ cap ≤ 9223372036854775807 ∧ ∃ cur, Blk w g 68 cur := by
  rcases h.2 with ⟨e, _⟩ | ⟨g', cap', cur, e, hg, hh, hnc, hcm, hcs, ht⟩
  · cases e
  · simp only [Value.slice.injEq, Option.some.injEq, Addr.mk.injEq, and_true, true_and] at e
    obtain ⟨rfl, rfl⟩ := e
    have hb : Blk w g 68 cur := hh
    exact ⟨hg, hb.lt, hnc, by unfold maxLen at hcm; exact hcm, cur, hb⟩
theorem RegsG.at_ (h : RegsG w B g cap vs) {i : Nat} {x : List UInt8 × Int} (hx : vs[i]? = some x) : w.cell? ⟨g, i * 2, none⟩ = some (.string ⟨x.1.toArray⟩) ∧ w.cell? ⟨g, i * 2 + 1, none⟩ = some (.int .i64 x.2) ∧ (∀ o, w.frozen? ⟨g, o, none⟩ = false) ∧ w.there g (i * 2) 2 := by
  obtain ⟨_, _, _, _, cur, hb⟩ := h.blk
  obtain ⟨A, cp, e, hat, _⟩ := Enc.Own.at_ h
  simp only [Value.slice.injEq] at e
  obtain ⟨b, o, e2, hc⟩ := hat i x hx
  rw [← e.1] at e2
  simp only [Option.some.injEq, Addr.mk.injEq, and_true] at e2
  obtain ⟨rfl, rfl⟩ := e2
  have c0 := hc 0 _ rfl
  have c1 := hc 1 _ rfl
  simp only [Nat.zero_add, Nat.add_zero] at c0 c1
  refine ⟨c0, c1, hb.frozen, fun j hj => ⟨?_, hb.frozen _⟩⟩
  rcases (by omega : j = 0 ∨ j = 1) with rfl | rfl
  · rw [Nat.add_zero, c0]; rfl
  · rw [c1]; rfl
theorem RegsG.below (h : RegsG w B g cap vs) (hb : Below w.heap.size w w') : RegsG w' B g cap vs := own_below h hb
end
/-- A thread of Do's own lies in block o. -/
def DoneC (B g cap : Nat) (vs : List (List UInt8 × Int)) (ac : Ac) (w : World) (e : Ending) (w' : World) : Prop :=
  e = .returned (.tuple #[actV ac, .int .i64 0]) ∧ encV.Own 68 B w' (.slice (some ⟨g, 0, none⟩) vs.length cap) vs ∧ Only g w w'
def tabF : Nat → FuncId
  | 0 => 233
  | 1 => 234
  | 2 => 235
  | 3 => 236
  | _ => 237
def tabCells : Array Value := #[.int .i64 1, .func (.func 233) #[] #[], .int .i64 2, .func (.func 234) #[] #[], .int .i64 3, .func (.func 235) #[] #[], .int .i64 4, .func (.func 236) #[] #[], .int .i64 5, .func (.func 237) #[] #[]]
theorem tableP (w : World) : Calls Tryz.prog 166 #[] w fun e w' => e = .returned (.slice (some ⟨w.heap.size, 0, none⟩) 5 5) ∧ w' = w.alloc (.cells tabCells 244 (0, 0)) := by
  go_enter Tryz.func166, Tryz.ntmps166
  go_wp2
  go_ret
  exact ⟨rfl, rfl⟩
theorem blkN2 (w : World) (o : Obj) (t : TypeId) (cs : Array Value) : Blk ((w.alloc o).alloc (.cells cs t (0, 0))) (w.heap.size + 1) t cs := by
  have := Blk.new (w.alloc o) t cs
  rwa [show (w.alloc o).heap.size = w.heap.size + 1 by simp] at this
theorem b3 (w : World) (a b c : Obj) : Below w.heap.size w (((w.alloc a).alloc b).alloc c).drew := (below_alloc (below_2 w a b) c).drew
section
set_option maxHeartbeats 2000000
set_option maxRecDepth 100000
/-- What the table's function of an operation does to Do's own thread, which lies in block o, its registers in block g. -/
theorem closP (B g cap o : Nat) (vs vs' : List (List UInt8 × Int)) (ac : Ac) (op d a b imm : Int) (loc : List UInt8) (at_ : Int) (w : World) (h : insB op d a b imm ⟨loc.toArray⟩ ⟨#[]⟩ 0 = true) (hd : doL op d a imm loc vs = some (vs', ac)) (h15 : vs.length = 15)
    (hr : RegsG w B g cap vs) (ho : Blk w o 60 #[.slice (some ⟨g, 0, none⟩) vs.length cap, .int .i64 at_]) (k : Nat) (hop : op = (k : Int) + 1) (hk : k < 5) :
    Calls Tryz.prog (tabF k) #[insV op d a b imm ⟨loc.toArray⟩ ⟨#[]⟩ 0, .pointer (some ⟨o, 0, none⟩)] w (DoneC B g cap vs' ac w) := by
  have HR := Lib.hid hr
  have HO := Lib.hid ho
  have hlen := hr.blk.2.2.1
  have hcap := hr.blk.2.2.2.1
  have hgw := hr.blk.2.1
  have how := ho.lt
  clear hr ho
  match k, hk with
  | 0, hk =>
    obtain rfl : op = 1 := by omega
    clear hop hk
    cases hd
    clear h h15 hlen
    go_enter Tryz.func233, Tryz.ntmps233
    go_wp2
    exact bodyPost_ret (v := .tuple #[actV ⟨3, loc, imm, 0, 0⟩, .int .i64 0]) (by simp [results, Tryz.results233, go_sem]) rfl ⟨rfl, HR.out.below (below_2 _ _ _), Only.of_below (below_2 _ _ _)⟩
  | 1, hk =>
    obtain rfl : op = 2 := by omega
    clear hop hk
    have ha : 0 ≤ a ∧ a < 15 := by
      unfold insB at h
      simp [regB] at h
      omega
    obtain ⟨j, rfl⟩ : ∃ j : Nat, a = (j : Int) := ⟨a.toNat, by omega⟩
    have hj : j < vs.length := by omega
    have hx := List.getElem?_eq_getElem hj
    obtain ⟨x, hxe⟩ : ∃ x, vs[j] = x := ⟨_, rfl⟩
    rw [hxe] at hx
    clear hxe
    obtain ⟨L, n⟩ := x
    simp only [doL, show ¬ ((2 : Int) = 1) by decide, if_false, if_true, Int.toNat_natCast, List.getD_eq_getElem?_getD, hx, Option.getD_some] at hd
    split at hd
    · rename_i hL
      cases hd
      have hL : L = [] := hL
      subst hL
      obtain ⟨c0, c1, _, _⟩ := HR.out.at_ hx
      have q0 : w.cell? ⟨o, 0, none⟩ = some (.slice (some ⟨g, 0, none⟩) vs.length cap) := HO.out.cell 0
      have hk0 : (0 : Int) ≤ (j : Int) := by omega
      have hk1 : (j : Int) < (vs.length : Int) := by omega
      have hB2 := Lib.hid (below_2 w (.cells #[.int .i64 2, .int .i64 d, .int .i64 (j : Int), .int .i64 b, .int .i64 imm, .string ⟨loc.toArray⟩, .string ⟨#[]⟩, .int .i64 0] 70 (0, 0)) (.cells #[.int .i64 0, .string ⟨#[]⟩, .int .i64 0, .int .i64 0, .int .i64 0] 64 (0, 0)))
      have i2 := cell_al (cell_new w #[.int .i64 2, .int .i64 d, .int .i64 (j : Int), .int .i64 b, .int .i64 imm, .string ⟨loc.toArray⟩, .string ⟨#[]⟩, .int .i64 0] 70 (0, 0) 2) (.cells #[.int .i64 0, .string ⟨#[]⟩, .int .i64 0, .int .i64 0, .int .i64 0] 64 (0, 0))
      have e0 := cell_go q0 hB2.out
      have e1 := cell_go c0 hB2.out
      have e2 := cell_go c1 hB2.out
      clear h h15 hlen hx
      go_enter Tryz.func234, Tryz.ntmps234
      go_wp2_with fail
      refine wz (fun y : World => y.cell? ⟨o, 0, none⟩ = some (.slice (some ⟨g, 0, none⟩) vs.length cap) ∧ y.cell? ⟨w.heap.size, 2, none⟩ = some (.int .i64 (j : Int)) ∧ y.cell? ⟨g, j * 2, none⟩ = some (.string ⟨#[]⟩) ∧ y.cell? ⟨g, j * 2 + 1, none⟩ = some (.int .i64 n)) [3, 5, 7, 8] ⟨e0, i2, e1, e2⟩ (fun hHeld => ?_)
      refine wq 0 ?_
      refine wq 1 ?_
      refine wq 2 ?_
      refine wq 4 ?_
      refine wt 3 (by assumption) ?_
      refine wt 5 (by assumption) ?_
      refine wq 6 ?_
      refine wt 7 (by assumption) ?_
      refine wpE_one (i := 8) (by kernel_rfl) rfl (fun K hK => ?_)
      go_simp
      refine hK.out _ _ ⟨cell_al hHeld.1 _, cell_al hHeld.2.1 _, cell_al hHeld.2.2.1 _, cell_al hHeld.2.2.2 _⟩ ?_
      clear hK K
      refine pu ?_
      refine wl 9 ?_
      go_wp2
      exact bodyPost_ret (v := .tuple #[actV ⟨3, loc, n, 0, 0⟩, .int .i64 0]) (by simp [results, Tryz.results234, go_sem]) rfl ⟨rfl, HR.out.below (b3 _ _ _ _), Only.of_below (b3 _ _ _ _)⟩
    · cases hd
  | 2, hk =>
    obtain rfl : op = 3 := by omega
    clear hop hk
    cases hd
    clear h h15 hlen
    go_enter Tryz.func235, Tryz.ntmps235
    go_wp2
    exact bodyPost_ret (v := .tuple #[actV ⟨2, loc, 0, d, 0⟩, .int .i64 0]) (by simp [results, Tryz.results235, go_sem]) rfl ⟨rfl, HR.out.below (below_2 _ _ _), Only.of_below (below_2 _ _ _)⟩
  | 3, hk =>
    obtain rfl : op = 4 := by omega
    clear hop hk
    have ha : 0 ≤ d ∧ d < 15 := by
      unfold insB at h
      simp [regB] at h
      omega
    obtain ⟨j, rfl⟩ : ∃ j : Nat, d = (j : Int) := ⟨d.toNat, by omega⟩
    have hj : j < vs.length := by omega
    have hd2 : vs.set j ([], imm) = vs' ∧ ac = ⟨1, [], 0, 0, 0⟩ := by cases hd; exact ⟨rfl, rfl⟩
    obtain ⟨rfl, rfl⟩ := hd2
    obtain ⟨_, _, fz, _⟩ := HR.out.at_ (List.getElem?_eq_getElem hj)
    have hk0 : (0 : Int) ≤ (j : Int) := by omega
    have hk1 : (j : Int) < (vs.length : Int) := by omega
    have q0 : w.cell? ⟨o, 0, none⟩ = some (.slice (some ⟨g, 0, none⟩) vs.length cap) := HO.out.cell 0
    have hB2 := Lib.hid (below_2 w (.cells #[.int .i64 4, .int .i64 (j : Int), .int .i64 a, .int .i64 b, .int .i64 imm, .string ⟨loc.toArray⟩, .string ⟨#[]⟩, .int .i64 0] 70 (0, 0)) (.cells #[.int .i64 0, .string ⟨#[]⟩, .int .i64 0, .int .i64 0, .int .i64 0] 64 (0, 0)))
    have i1 := cell_al (cell_new w #[.int .i64 4, .int .i64 (j : Int), .int .i64 a, .int .i64 b, .int .i64 imm, .string ⟨loc.toArray⟩, .string ⟨#[]⟩, .int .i64 0] 70 (0, 0) 1) (.cells #[.int .i64 0, .string ⟨#[]⟩, .int .i64 0, .int .i64 0, .int .i64 0] 64 (0, 0))
    have i4 := cell_al (cell_new w #[.int .i64 4, .int .i64 (j : Int), .int .i64 a, .int .i64 b, .int .i64 imm, .string ⟨loc.toArray⟩, .string ⟨#[]⟩, .int .i64 0] 70 (0, 0) 4) (.cells #[.int .i64 0, .string ⟨#[]⟩, .int .i64 0, .int .i64 0, .int .i64 0] 64 (0, 0))
    have e0 := cell_go q0 hB2.out
    have HR2 := Lib.hid (HR.out.below hB2.out)
    obtain ⟨x0, x1, fz, hth⟩ := HR2.out.at_ (List.getElem?_eq_getElem hj)
    clear h h15 hlen hd fz x0 x1
    have HT := Lib.hid hth
    clear hth
    go_enter Tryz.func236, Tryz.ntmps236
    go_wp2_with fail
    refine wz (fun y : World => y.cell? ⟨o, 0, none⟩ = some (.slice (some ⟨g, 0, none⟩) vs.length cap) ∧ y.cell? ⟨w.heap.size, 1, none⟩ = some (.int .i64 (j : Int)) ∧ y.cell? ⟨w.heap.size, 4, none⟩ = some (.int .i64 imm)) [3, 5, 7, 8] ⟨e0, i1, i4⟩ (fun hHeld => ?_)
    refine wq 0 ?_
    refine wq 1 ?_
    refine wq 2 ?_
    refine wq 4 ?_
    refine wq 6 ?_
    refine wt 3 (by assumption) ?_
    refine wt 5 (by assumption) ?_
    refine wt 7 (by assumption) ?_
    refine wt 8 (by assumption) ?_
    refine wq 9 ?_
    refine wl 10 ?_
    refine wpList_store_mid rfl _ _ _ rfl g (j * 2) #[.string ⟨#[]⟩, .int .i64 imm] rfl rfl HT.out (by kernel_rfl) (all_oneCell_toArray (cs := encV.enc ([], imm)) (encV.one _)) ?_
    have HO3 := Lib.hid (RegsG.set (HR2.out : RegsG _ B g cap vs) j ([], imm))
    have HA3 := Lib.hid (((blkN2 w (.cells #[.int .i64 4, .int .i64 (j : Int), .int .i64 a, .int .i64 b, .int .i64 imm, .string ⟨loc.toArray⟩, .string ⟨#[]⟩, .int .i64 0] 70 (0, 0)) 64 #[.int .i64 0, .string ⟨#[]⟩, .int .i64 0, .int .i64 0, .int .i64 0]).far (p := ⟨g, j * 2, none⟩) (by simp; omega) (.string ⟨#[]⟩)).far (p := ⟨g, j * 2 + 1, none⟩) (by simp; omega) (.int .i64 imm))
    have HN3 := Lib.hid (Only.set (Only.set (only_drew (Only.of_below (g := g) hB2.out)) (j * 2) (.string ⟨#[]⟩)) (j * 2 + 1) (.int .i64 imm))
    generalize hW : (World.setCells _ _ _ _ : World) = W3
    replace HO3 : Hid (encV.Own 68 B W3 (.slice (some ⟨g, 0, none⟩) vs.length cap) (vs.set j ([], imm))) := Lib.hid (hW ▸ HO3.out)
    replace HA3 : Hid (Blk W3 (w.heap.size + 1) 64 #[.int .i64 0, .string ⟨#[]⟩, .int .i64 0, .int .i64 0, .int .i64 0]) := Lib.hid (hW ▸ HA3.out)
    replace HN3 : Hid (Only g w W3) := Lib.hid (hW ▸ HN3.out)
    clear hW
    have a0 := HA3.out.cl 0
    have a1 := HA3.out.cl 1
    have a2 := HA3.out.cl 2
    have a3 := HA3.out.cl 3
    have a4 := HA3.out.cl 4
    have af := HA3.out.frozen
    clear i1 i4 e0 HT HR2 q0
    go_wp2
    refine bodyPost_ret (v := .tuple #[actV ⟨1, [], 0, 0, 0⟩, .int .i64 0]) (by simp [results, Tryz.results236, go_sem, a0, a1, a2, a3, a4]) rfl ⟨rfl, ?_, ?_⟩
    · rw [List.length_set]
      repeat (first | with_reducible exact HO3.out | with_reducible refine own_farE ?_ (by simp <;> omega) _)
    · repeat (first | with_reducible exact HN3.out | with_reducible refine only_setCell ?_ (.inr (by simp)) _)
  | 4, hk =>
    obtain rfl : op = 5 := by omega
    clear hop hk
    have hd2 : vs = vs' ∧ ac = ⟨4, [], 0, 0, 1⟩ := by cases hd; exact ⟨rfl, rfl⟩
    obtain ⟨rfl, rfl⟩ := hd2
    clear h h15 hlen hd
    go_enter Tryz.func237, Tryz.ntmps237
    go_wp2
    exact bodyPost_ret (v := .tuple #[actV ⟨4, [], 0, 0, 1⟩, .int .i64 0]) (by simp [results, Tryz.results237, go_sem]) rfl ⟨rfl, HR.out.below (below_2 _ _ _), Only.of_below (below_2 _ _ _)⟩
end
end
/-- A row of the call's own at the end of another one. -/
theorem Enc.appO {α : Type} {E : Enc α} {T S : TypeId} {bytes : Nat} (hE : E.Elem T S bytes) {ops : Array Oper} {rest : List Oper} {o : Oper} {a : Act} {Q : Exit → Act → World → Prop} (V : World)
    (hg : o.guard = none) (s x : Operand) (hop : o.op = Op.call { callee := Callee.builtin Builtin.append, args := #[s, x], argTypes := #[S, S] })
    (ys : List α) (B B2 : Nat) (l : List α) (v vx : Value) (hs : a.eval s = v) (hx : a.eval x = vx)
    (hys : E.Own T B2 V vx ys) (hown : E.Own T B V v l) (b1 : l.length + ys.length ≤ 1152921504606846976) (b3 : (l.length + ys.length) * bytes ≤ 140737488355328) (hB : B ≤ V.heap.size)
    (hK : ∀ v' w1, E.Own T B w1 v' (l ++ ys) → GrewS V w1 B v v' → wpList Tryz.prog ops Q rest (a.put o.dst v') w1) :
    wpList Tryz.prog ops Q (o :: rest) a V := by
  obtain ⟨A, cap, e1, hat, _, _⟩ := hys.at_
  rcases hys.2 with ⟨e, h0⟩ | ⟨g, c, cur, e, _⟩
  · have hy : ys = [] := List.length_eq_zero_iff.1 h0
    subst hy
    obtain ⟨z, hz, hzs⟩ := hE.info
    obtain ⟨i0, hi, hz0, hz1, hz2⟩ := info_partsM hz
    refine wpList_append_own_none hg s x S hop B T i0 E.size hE.sl hi v l.length (E.flat l) hs hown (by rw [hx, e]) (hK v V ?_ (GrewS.refl _ _ _))
    rw [List.append_nil]; exact hown
  · rw [e1] at e
    simp only [Value.slice.injEq, true_and] at e
    obtain ⟨rfl, _⟩ := e
    exact Enc.appW hE V hg s x hop ys B l v g 0 cap hs (by rw [hx, e1]) hat hown b1 b3 hB hK
theorem en_cells {w : World} {q i : Nat} {m : List (Int × Int)} {x : Int × Int} (h : Blk w q 75 (encP.flat m).toArray) (hx : m[i]? = some x) : w.cell? ⟨q, i * 2, none⟩ = some (.int .i64 x.1) ∧ w.cell? ⟨q, i * 2 + 1, none⟩ = some (.int .i64 x.2) := by
  have h0 := encP.flat_at hx (show 0 < encP.size by show 0 < 2; omega)
  have h1 := encP.flat_at hx (show 1 < encP.size by show 1 < 2; omega)
  refine ⟨?_, ?_⟩
  · rw [h.cell]
    rw [show i * encP.size + 0 = i * 2 by show i * 2 + 0 = i * 2; omega] at h0
    simpa using h0
  · rw [h.cell]
    rw [show i * encP.size + 1 = i * 2 + 1 from rfl] at h1
    simpa using h1
theorem OutAt.en_blk {w : World} {B O : Nat} {L : OutL} {V : OutV} (h : OutAt w B O L V) {q n : Nat} (hq : V.en = .slice (some ⟨q, 0, none⟩) n n) : Blk w q 75 (encP.flat L.a.ends).toArray ∧ B ≤ q := by
  obtain ⟨q', e, hb, hB⟩ := h.en
  rw [hq] at e
  simp only [Value.slice.injEq, Option.some.injEq, Addr.mk.injEq, and_true] at e
  obtain ⟨rfl, _⟩ := e
  exact ⟨hb, hB⟩
/-- Another trace's cells. -/
theorem OutAt.off {w : World} {B O q : Nat} {L : OutL} {V : OutV} {cs : Array Value} (h : OutAt w B O L V) (hq : Blk w q 41 cs) (hne : O ≠ q) (i : Nat) (u : Value) : OutAt (w.setCell ⟨q, i, none⟩ u) B O L V :=
  ⟨h.blk.far hne u, h.hO, own_setO h.lo hq (by decide) _ _, h.ini.keep (fun _ hq2 => Below.heap_setCell w _ _ _ (blk_ne hq2 hq (by decide))), own_setO h.ev hq (by decide) _ _, own_setO h.br hq (by decide) _ _, own_setO h.ad hq (by decide) _ _, own_setO h.da hq (by decide) _ _, own_setO h.ct hq (by decide) _ _, own_setO h.th hq (by decide) _ _, h.en.keep (fun _ hq2 => Below.heap_setCell w _ _ _ (blk_ne hq2 hq (by decide))), h.a1, h.a2, h.a3⟩
theorem OutAt.off9 {w : World} {B O q : Nat} {L : OutL} {V : OutV} {cs : Array Value} (h : OutAt w B O L V) (hq : Blk w q 41 cs) (hne : O ≠ q) (u0 u1 u2 u3 u4 u5 u6 u7 u8 : Value) :
    OutAt (((((((((w.setCell ⟨q, 0, none⟩ u0).setCell ⟨q, 1, none⟩ u1).setCell ⟨q, 2, none⟩ u2).setCell ⟨q, 3, none⟩ u3).setCell ⟨q, 4, none⟩ u4).setCell ⟨q, 5, none⟩ u5).setCell ⟨q, 6, none⟩ u6).setCell ⟨q, 7, none⟩ u7).setCell ⟨q, 8, none⟩ u8) B O L V := by
  have k1 := hq.set_ 0 u0
  have k2 := k1.set_ 1 u1
  have k3 := k2.set_ 2 u2
  have k4 := k3.set_ 3 u3
  have k5 := k4.set_ 4 u4
  have k6 := k5.set_ 5 u5
  have k7 := k6.set_ 6 u6
  have k8 := k7.set_ 7 u7
  exact ((((((((h.off hq hne 0 u0).off k1 hne 1 u1).off k2 hne 2 u2).off k3 hne 3 u3).off k4 hne 4 u4).off k5 hne 5 u5).off k6 hne 6 u6).off k7 hne 7 u7).off k8 hne 8 u8
/-- What stands while a thread's things and events are put down. -/
structure EndSt (w : World) (Bk : Nat) (wq : World) (O g : Nat) (S : RunS) (r : Rn) (V8 : RunV) (L : OutL) (V : OutV) (tc : Array Value) : Prop where
  out : OutAt wq w.heap.size O L V
  run : RunAt wq Bk g S r V8
  tst : Blk wq w.heap.size 32 tc
  nil : Blk wq (w.heap.size + 1) 41 #[.slice none 0 0, .slice none 0 0, .slice none 0 0, .slice none 0 0, .slice none 0 0, .slice none 0 0, .slice none 0 0, .slice none 0 0, .slice none 0 0]
  bel : Below w.heap.size w wq
  hO : w.heap.size + 1 < O
  hk : O < Bk
namespace EndSt
variable {w wq w1 : World} {Bk O g : Nat} {S : RunS} {r : Rn} {V8 : RunV} {L : OutL} {V : OutV} {tc : Array Value} {v' : Value}
theorem below (h : EndSt w Bk wq O g S r V8 L V tc) (hb : Below wq.heap.size wq w1) : EndSt w Bk w1 O g S r V8 L V tc :=
  ⟨h.out.below hb, h.run.below hb, h.tst.go hb, h.nil.go hb, below_trans h.bel hb, h.hO, h.hk⟩
theorem drew (h : EndSt w Bk wq O g S r V8 L V tc) : EndSt w Bk wq.drew O g S r V8 L V tc := ⟨h.out.drew, h.run.drew, h.tst, h.nil, h.bel.drew, h.hO, h.hk⟩
theorem put (h : EndSt w Bk wq O g S r V8 L V tc) {i q n : Nat} (x y : Int) (hn : L.a.ends.length = n) (hi : i < n) (hq : V.en = .slice (some ⟨q, 0, none⟩) n n) (hqk : q < Bk) :
    EndSt w Bk ((wq.setCell ⟨q, i * 2, none⟩ (.int .i64 x)).setCell ⟨q, i * 2 + 1, none⟩ (.int .i64 y)) O g S r V8 { L with a := { L.a with ends := L.a.ends.set i (x, y) } } V tc := by
  subst hn
  obtain ⟨q', e, hb, hB⟩ := h.out.en
  rw [hq] at e
  simp only [Value.slice.injEq, Option.some.injEq, Addr.mk.injEq, and_true] at e
  obtain ⟨rfl, _⟩ := e
  have hbel := h.bel
  exact ⟨h.out.en_ (x := (x, y)) hi hq, h.run.above ((Above.set wq _ _ hqk).trans (Above.set _ _ _ hqk)), (h.tst.far (blk_ne h.tst hb (by decide)) _).far (blk_ne h.tst hb (by decide)) _, (h.nil.far (blk_ne h.nil hb (by decide)) _).far (blk_ne h.nil hb (by decide)) _,
    (hbel.setCell (p := ⟨q, i * 2, none⟩) hB _).setCell (p := ⟨q, i * 2 + 1, none⟩) hB _, h.hO, h.hk⟩
theorem en_blk (h : EndSt w Bk wq O g S r V8 L V tc) {q n : Nat} (hq : V.en = .slice (some ⟨q, 0, none⟩) n n) : Blk wq q 75 (encP.flat L.a.ends).toArray := by
  obtain ⟨q', e, hb, hB⟩ := h.out.en
  rw [hq] at e
  simp only [Value.slice.injEq, Option.some.injEq, Addr.mk.injEq, and_true] at e
  obtain ⟨rfl, _⟩ := e
  exact hb
theorem ev_ (h : EndSt w Bk wq O g S r V8 L V tc) (hlt : ∀ b, V.ev.ownBlock = some b → b < Bk) {l : List Evt} (hg : GrewS wq w1 w.heap.size V.ev v') (ho : encE.Own 54 w.heap.size w1 v' l) : EndSt w Bk (w1.setCell ⟨O, 2, none⟩ v') O g S r V8 { L with a := { L.a with evs := l } } { V with ev := v' } tc :=
  ⟨h.out.ev_ hg ho, h.run.above ((Above.grew hg hlt).trans (Above.set w1 2 v' h.hk)), (blk_grew h.tst h.out.ev (by decide) hg).far (p := ⟨O, 2, none⟩) (by have := h.hO; simp only [ne_eq]; omega) v', (blk_grew h.nil h.out.ev (by decide) hg).far (p := ⟨O, 2, none⟩) (by have := h.hO; simp only [ne_eq]; omega) v', (h.bel.trans hg.below).setCell (p := ⟨O, 2, none⟩) (by have := h.hO; show w.heap.size ≤ O; omega) v', h.hO, h.hk⟩
theorem br_ (h : EndSt w Bk wq O g S r V8 L V tc) (hlt : ∀ b, V.br.ownBlock = some b → b < Bk) {l : List Br} (hg : GrewS wq w1 w.heap.size V.br v') (ho : encB.Own 72 w.heap.size w1 v' l) : EndSt w Bk (w1.setCell ⟨O, 3, none⟩ v') O g S r V8 { L with a := { L.a with bars := l } } { V with br := v' } tc :=
  ⟨h.out.br_ hg ho, h.run.above ((Above.grew hg hlt).trans (Above.set w1 3 v' h.hk)), (blk_grew h.tst h.out.br (by decide) hg).far (p := ⟨O, 3, none⟩) (by have := h.hO; simp only [ne_eq]; omega) v', (blk_grew h.nil h.out.br (by decide) hg).far (p := ⟨O, 3, none⟩) (by have := h.hO; simp only [ne_eq]; omega) v', (h.bel.trans hg.below).setCell (p := ⟨O, 3, none⟩) (by have := h.hO; show w.heap.size ≤ O; omega) v', h.hO, h.hk⟩
theorem ad_ (h : EndSt w Bk wq O g S r V8 L V tc) (hlt : ∀ b, V.ad.ownBlock = some b → b < Bk) {l : List (Int × Int)} (hg : GrewS wq w1 w.heap.size V.ad v') (ho : encP.Own 106 w.heap.size w1 v' l) : EndSt w Bk (w1.setCell ⟨O, 4, none⟩ v') O g S r V8 { L with a := { L.a with addr := l } } { V with ad := v' } tc :=
  ⟨h.out.ad_ hg ho, h.run.above ((Above.grew hg hlt).trans (Above.set w1 4 v' h.hk)), (blk_grew h.tst h.out.ad (by decide) hg).far (p := ⟨O, 4, none⟩) (by have := h.hO; simp only [ne_eq]; omega) v', (blk_grew h.nil h.out.ad (by decide) hg).far (p := ⟨O, 4, none⟩) (by have := h.hO; simp only [ne_eq]; omega) v', (h.bel.trans hg.below).setCell (p := ⟨O, 4, none⟩) (by have := h.hO; show w.heap.size ≤ O; omega) v', h.hO, h.hk⟩
theorem da_ (h : EndSt w Bk wq O g S r V8 L V tc) (hlt : ∀ b, V.da.ownBlock = some b → b < Bk) {l : List (Int × Int)} (hg : GrewS wq w1 w.heap.size V.da v') (ho : encP.Own 106 w.heap.size w1 v' l) : EndSt w Bk (w1.setCell ⟨O, 5, none⟩ v') O g S r V8 { L with a := { L.a with data := l } } { V with da := v' } tc :=
  ⟨h.out.da_ hg ho, h.run.above ((Above.grew hg hlt).trans (Above.set w1 5 v' h.hk)), (blk_grew h.tst h.out.da (by decide) hg).far (p := ⟨O, 5, none⟩) (by have := h.hO; simp only [ne_eq]; omega) v', (blk_grew h.nil h.out.da (by decide) hg).far (p := ⟨O, 5, none⟩) (by have := h.hO; simp only [ne_eq]; omega) v', (h.bel.trans hg.below).setCell (p := ⟨O, 5, none⟩) (by have := h.hO; show w.heap.size ≤ O; omega) v', h.hO, h.hk⟩
theorem ct_ (h : EndSt w Bk wq O g S r V8 L V tc) (hlt : ∀ b, V.ct.ownBlock = some b → b < Bk) {l : List (Int × Int)} (hg : GrewS wq w1 w.heap.size V.ct v') (ho : encP.Own 106 w.heap.size w1 v' l) : EndSt w Bk (w1.setCell ⟨O, 6, none⟩ v') O g S r V8 { L with a := { L.a with hang := l } } { V with ct := v' } tc :=
  ⟨h.out.ct_ hg ho, h.run.above ((Above.grew hg hlt).trans (Above.set w1 6 v' h.hk)), (blk_grew h.tst h.out.ct (by decide) hg).far (p := ⟨O, 6, none⟩) (by have := h.hO; simp only [ne_eq]; omega) v', (blk_grew h.nil h.out.ct (by decide) hg).far (p := ⟨O, 6, none⟩) (by have := h.hO; simp only [ne_eq]; omega) v', (h.bel.trans hg.below).setCell (p := ⟨O, 6, none⟩) (by have := h.hO; show w.heap.size ≤ O; omega) v', h.hO, h.hk⟩
end EndSt
end Go.Proofs.YtjhafgnmahhacaaGreatDoor
