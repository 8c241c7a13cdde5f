/- Rows of the call's own: a list of several is put behind. -/
import Derived.Test.YtjhafgnmahhacaaGreatDoorTe12
import Derived.Laws.AppendOwnNone
import Derived.Laws.Entries
import Derived.Sort.LotA
namespace Go.Proofs.YtjhafgnmahhacaaGreatDoor
open Go.RowKit
namespace Enc
variable {α : Type} {E : Enc α}
theorem At.cells {w : World} {b o : Nat} {l : List α} (h : E.At w (some ⟨b, o, none⟩) l) (j : Nat) (u : Value) (hj : (E.flat l)[j]? = some u) : w.cell? ⟨b, o + j, none⟩ = some u := by
  have hp := E.pos
  have hlt := (List.getElem?_eq_some_iff.1 hj).1
  rw [E.flat_len] at hlt
  have hq : j / E.size < l.length := Nat.div_lt_of_lt_mul (by rw [Nat.mul_comm]; exact hlt)
  obtain ⟨b', o', e, hc⟩ := h (j / E.size) _ (List.getElem?_eq_getElem hq)
  simp only [Option.some.injEq, Addr.mk.injEq, and_true] at e
  obtain ⟨rfl, rfl⟩ := e
  have hm := Nat.mod_lt j hp
  have hd := Nat.div_add_mod' j E.size
  have h2 := E.flat_at (List.getElem?_eq_getElem hq) hm
  rw [hd] at h2
  have := hc (j % E.size) u (by rw [← h2]; exact hj)
  rwa [show o + j / E.size * E.size + j % E.size = o + j by rw [Nat.add_assoc, hd]] at this
theorem addr_add (b o j : Nat) : (⟨b, o, none⟩ : Addr).add j = ⟨b, o + j, none⟩ := by
  unfold Addr.add
  split
  · rename_i h; subst h; rfl
  · rfl
theorem appL {T S : TypeId} {bytes : Nat} (hE : E.Elem T S bytes) {ops : Array Oper} {rest : List Oper} {o : Oper} {a : Act} {Q : Exit → Act → World → Prop} (V : World)
    (hg : o.guard = none) (s x : Operand) (hop : o.op = Op.call { callee := Callee.builtin Builtin.append, args := #[s, x], argTypes := #[S, S] })
    (ys : List α) (B : Nat) (l : List α) (v : Value) (b2 o2 c2 : Nat) (hs : a.eval s = v) (hx : a.eval x = .slice (some ⟨b2, o2, none⟩) ys.length c2)
    (hys : E.At V (some ⟨b2, o2, none⟩) ys) (hown : E.Own T B V v l) (b1 : l.length + ys.length ≤ 1152921504606846976) (b3 : (l.length + ys.length) * bytes ≤ 140737488355328) (hB : B ≤ V.heap.size)
    (hK : ∀ v' w1, E.Own T B w1 v' (l ++ ys) → Grew V w1 B v → wpList Tryz.prog ops Q rest (a.put o.dst v') w1) :
    wpList Tryz.prog ops Q (o :: rest) a V := by
  obtain ⟨z, hz, hzs⟩ := hE.info
  obtain ⟨i0, hi, hz0, hz1, hz2⟩ := info_partsM hz
  refine wpList_append_own _ hg s x S hop B T i0 z E.size bytes hE.sl hi hz0 hz1 hz2 hzs E.pos v l.length (E.flat l) hs hown ⟨b2, o2, none⟩ ys.length c2 (E.flat ys) hx (E.flat_len ys) (fun j u hj => by rw [addr_add]; exact hys.cells j u hj) ?_ (by unfold maxLen; omega) b3 hB ?_
  · intro u hu
    unfold flat at hu
    obtain ⟨q, hq, huq⟩ := List.mem_flatten.1 hu
    obtain ⟨y, _, rfl⟩ := List.mem_map.1 hq
    exact E.one y u huq
  · intro v' w1 hown' hgrow _
    refine hK v' w1 ?_ ⟨?_, fun i hi hne => ?_⟩
    · show w1.ownsRow B T E.size v' (l ++ ys).length (E.flat (l ++ ys))
      rw [E.flat_append, List.length_append]
      exact hown'
    · exact (Below.refl _ _).grown hgrow hB (fun j hj => (hown.lt j hj).1)
    · exact hgrow.block i hi (fun e => hne e.symm)
end Enc
theorem own_whichE {P : Program} (w : World) (base : Nat) (t ty e : TypeId) (i : TypeInfo) (z : Value) (size bytes : Nat) (ht : P.underlying t = some (.slice e)) (hi : P.info? e = some i) (hz : i.zero = some z)
    (hsize : i.size = size) (hby : i.bytes = bytes) (hzs : z.cells.size = size) (hsz : 0 < size) (v : Value) (n : Nat) (xs : List Value) (hown : w.ownsRow base e size v n xs)
    (a : Addr) (m c : Nat) (news : List Value) (hl : news.length = m * size) (hnews : ∀ j u, news[j]? = some u → w.cell? (a.add j) = some u) (h1 : ∀ u ∈ news, u.oneCell' = true)
    (h63 : n + m ≤ maxLen) (hbytes : (n + m) * bytes ≤ 140737488355328) (hbase : base ≤ w.heap.size) :
    ∃ v' w', (Builtin.append_ #[t, t] ty #[v, .slice (some a) m c]).run P w = .ok v' w' ∧ w'.ownsRow base e size v' (n + m) (xs ++ news) ∧ w.grownBy w' v.ownBlock ∧ ∀ b, v'.ownBlock = some b → v.ownBlock = some b ∨ w.heap.size ≤ b := by
  obtain ⟨v', w', hr, h2, h3, _⟩ := run_append_own (P := P) w base t ty e i z size bytes ht hi hz hsize hby hzs hsz v n xs hown a m c news hl hnews h1 h63 hbytes hbase
  refine ⟨v', w', hr, h2, h3, ?_⟩
  rcases hown.2 with ⟨rfl, rfl⟩ | ⟨g, cap, cur, rfl, hbg, hg, hnc, hcm, hcs, htake⟩
  · have hx : xs = [] := List.eq_nil_of_length_eq_zero (by simpa using hown.1)
    subst hx
    obtain ⟨v2, w2, hr2, h22, _, _⟩ := run_append_own (P := P) w w.heap.size t ty e i z size bytes ht hi hz hsize hby hzs hsz (.slice none 0 0) 0 [] (World.ownsRow_nil _ _ _ _) a m c news hl hnews h1 h63 hbytes (Nat.le_refl _)
    have he := hr.symm.trans hr2
    injection he with he1 he2
    subst he1 he2
    exact fun b hb => .inr (h22.lt b hb).1
  · by_cases hroom : n + m ≤ cap
    · obtain ⟨w2, hr2, _, _⟩ := run_append_fits (P := P) w base t ty e i size ht hi hsize g n cap xs hown a m c news hl hnews h1 hroom
      have he := hr.symm.trans hr2
      injection he with he1 he2
      subst he1
      exact fun b hb => .inl hb
    · subst hsize
      subst hby
      have holds : ∀ j u, xs[j]? = some u → w.cell? ((⟨g, 0, none⟩ : Addr).add j) = some u := hown.cells (g := g) rfl
      have hr2 := run_append_grow (P := P) w t ty e i z ht hi hz ⟨g, 0, none⟩ n cap xs hown.1 holds a m c news hl hnews (by omega) (by simp only [maxLen] at h63; omega) (growslice_fits (by omega) hbytes)
      have he := hr.symm.trans hr2
      injection he with he1 he2
      subst he1
      exact fun b hb => .inr (by simp only [Value.ownBlock, Option.some.injEq] at hb; omega)
/-- A row v became v': the rest of the old memory stands; the row stays where it was or lies in a new block. -/
structure GrewS (W w1 : World) (B : Nat) (v v' : Value) : Prop where
  below : Below B W w1
  keep : ∀ i, i < W.heap.size → v.ownBlock ≠ some i → w1.heap[i]? = W.heap[i]?
  which : ∀ b, v'.ownBlock = some b → v.ownBlock = some b ∨ W.heap.size ≤ b
theorem GrewS.refl (W : World) (B : Nat) (v : Value) : GrewS W W B v v := ⟨Below.refl _ _, fun _ _ _ => rfl, fun _ h => Or.inl h⟩
theorem GrewS.trans {W w1 w2 : World} {B : Nat} {v v1 v2 : Value} (h : GrewS W w1 B v v1) (k : GrewS w1 w2 B v1 v2) : GrewS W w2 B v v2 :=
  ⟨h.below.trans k.below, fun i hi hne => by
    rw [k.keep i (Nat.lt_of_lt_of_le hi h.below.size) (fun e => by
      rcases h.which i e with e2 | e2
      · exact hne e2
      · omega), h.keep i hi hne], fun b hb => by
    rcases k.which b hb with e | e
    · exact h.which b e
    · exact Or.inr (Nat.le_trans h.below.size e)⟩
theorem GrewS.of_below {W w1 : World} {B : Nat} {v : Value} (h : Below W.heap.size W w1) (hB : B ≤ W.heap.size) : GrewS W w1 B v v :=
  ⟨h.mono hB, fun i hi _ => h.block i hi, fun _ hb => Or.inl hb⟩
namespace Enc
variable {α : Type} {E : Enc α}
theorem appW {T S : TypeId} {bytes : Nat} (hE : E.Elem T S bytes) {ops : Array Oper} {rest : List Oper} {o : Oper} {a : Act} {Q : Exit → Act → World → Prop} (V : World)
    (hg : o.guard = none) (s x : Operand) (hop : o.op = Op.call { callee := Callee.builtin Builtin.append, args := #[s, x], argTypes := #[S, S] })
    (ys : List α) (B : Nat) (l : List α) (v : Value) (b2 o2 c2 : Nat) (hs : a.eval s = v) (hx : a.eval x = .slice (some ⟨b2, o2, none⟩) ys.length c2)
    (hys : E.At V (some ⟨b2, o2, none⟩) ys) (hown : E.Own T B V v l) (b1 : l.length + ys.length ≤ 1152921504606846976) (b3 : (l.length + ys.length) * bytes ≤ 140737488355328) (hB : B ≤ V.heap.size)
    (hK : ∀ v' w1, E.Own T B w1 v' (l ++ ys) → GrewS V w1 B v v' → wpList Tryz.prog ops Q rest (a.put o.dst v') w1) :
    wpList Tryz.prog ops Q (o :: rest) a V := by
  obtain ⟨z, hz, hzs⟩ := hE.info
  obtain ⟨i0, hi, hz0, hz1, hz2⟩ := info_partsM hz
  have hone : ∀ u ∈ E.flat ys, u.oneCell' = true := fun u hu => by
    unfold flat at hu
    obtain ⟨q, hq, huq⟩ := List.mem_flatten.1 hu
    obtain ⟨y, _, rfl⟩ := List.mem_map.1 hq
    exact E.one y u huq
  obtain ⟨v', w1, hr, hown', hgrow, hwh⟩ := own_whichE (P := Tryz.prog) V B S o.type T i0 z E.size bytes hE.sl hi hz0 hz1 hz2 hzs E.pos v l.length (E.flat l) hown ⟨b2, o2, none⟩ ys.length c2 (E.flat ys) (E.flat_len ys) (fun j u hj => by rw [addr_add]; exact hys.cells j u hj) hone (by unfold maxLen; omega) b3 hB
  refine wpList_plain hg fun K hKK => ?_
  unfold Oper.wp execOp
  simp only [hop, resolve, invoke, builtin, Sem.run_bind, Sem.run_pure, Result.andThen_ok, List.map_toArray, List.map_cons, List.map_nil, hs, hx, hr]
  refine hKK _ _ (hK v' w1 ?_ ⟨?_, fun i hi hne => ?_, hwh⟩)
  · show w1.ownsRow B T E.size v' (l ++ ys).length (E.flat (l ++ ys))
    rw [E.flat_append, List.length_append]
    exact hown'
  · exact (Below.refl _ _).grown hgrow hB (fun j hj => (hown.lt j hj).1)
  · exact hgrow.block i hi (fun e => hne e.symm)
end Enc
theorem wrap_u64 {a : Nat} (h : a < 18446744073709551616) : IntKind.u64.wrap (a : Int) = (a : Int) := by
  unfold IntKind.wrap
  simp [IntKind.bits, IntKind.signed]
  omega
theorem bits_or64 {a b : Nat} (ha : a < 18446744073709551616) (hb : b < 18446744073709551616) : bits .or .u64 (a : Int) (b : Int) = ((a ||| b : Nat) : Int) := by
  have hab : a ||| b < 2 ^ 64 := Nat.or_lt_two_pow (by simpa using ha) (by simpa using hb)
  unfold bits
  have e : ((BitVec.ofInt IntKind.u64.bits (a : Int)) ||| (BitVec.ofInt IntKind.u64.bits (b : Int))).toNat = a ||| b := by
    rw [BitVec.toNat_or, BitVec.ofInt_natCast, BitVec.ofInt_natCast, BitVec.toNat_ofNat, BitVec.toNat_ofNat]
    show a % 2 ^ 64 ||| b % 2 ^ 64 = _
    rw [Nat.mod_eq_of_lt (by simpa using ha), Nat.mod_eq_of_lt (by simpa using hb)]
  simp only [e]
  exact wrap_u64 (by simpa using hab)
theorem bits_and1 {a : Nat} (ha : a < 18446744073709551616) : bits .and .u64 (a : Int) 1 = ((a % 2 : Nat) : Int) := by
  unfold bits
  have e : ((BitVec.ofInt IntKind.u64.bits (a : Int)) &&& (BitVec.ofInt IntKind.u64.bits (1 : Int))).toNat = a % 2 := by
    rw [show (1 : Int) = ((1 : Nat) : Int) from rfl, BitVec.toNat_and, BitVec.ofInt_natCast, BitVec.ofInt_natCast, BitVec.toNat_ofNat, BitVec.toNat_ofNat]
    show a % 2 ^ 64 &&& 1 % 2 ^ 64 = _
    rw [Nat.mod_eq_of_lt (by simpa using ha)]
    simp [Nat.and_one_is_mod]
  simp only [e]
  exact wrap_u64 (by omega)
theorem shl_one {i : Nat} (h : i < 64) : IntKind.u64.wrap (1 * 2 ^ i) = ((2 ^ i : Nat) : Int) := by
  have : 2 ^ i < 2 ^ 64 := Nat.pow_lt_pow_right (by omega) h
  rw [Int.one_mul, show ((2 : Int) ^ i) = ((2 ^ i : Nat) : Int) by simp]
  exact wrap_u64 (by simpa using this)
theorem bit_mod (a i : Nat) : (a / 2 ^ i % 2 = 1) = (a.testBit i = true) := by
  rw [Nat.testBit_eq_decide_div_mod_eq]; simp
/-- An instruction; a line of an initial state; a test. -/
structure Ins where
  op : Int
  d : Int
  a : Int
  b : Int
  imm : Int
  loc : List UInt8
  label : List UInt8
  fence : Int
structure Ini where
  th : Int
  rg : Int
  loc : List UInt8
  vl : List UInt8
  vn : Int
structure Tst where
  arch : Int
  name : List UInt8
  cycle : List UInt8
  init : List Ini
  code : List (List Ins)
  q : Int
  k : Int
  t : Int
  r : Int
  l : List UInt8
  v : Int
  kids : Fr
/-- The instructions of a thread, from A on. -/
def InsAt (w : World) (A : Option Addr) (c : List Ins) : Prop := ∀ i x, c[i]? = some x → ∃ b o, A = some ⟨b, o, none⟩ ∧ w.cell? ⟨b, o + i * 8, none⟩ = some (.int .i64 x.op) ∧ w.cell? ⟨b, o + i * 8 + 1, none⟩ = some (.int .i64 x.d) ∧ w.cell? ⟨b, o + i * 8 + 2, none⟩ = some (.int .i64 x.a) ∧ w.cell? ⟨b, o + i * 8 + 3, none⟩ = some (.int .i64 x.b) ∧
    w.cell? ⟨b, o + i * 8 + 4, none⟩ = some (.int .i64 x.imm) ∧ w.cell? ⟨b, o + i * 8 + 5, none⟩ = some (.string ⟨x.loc.toArray⟩) ∧ w.cell? ⟨b, o + i * 8 + 6, none⟩ = some (.string ⟨x.label.toArray⟩) ∧ w.cell? ⟨b, o + i * 8 + 7, none⟩ = some (.int .i64 x.fence) ∧ x.loc.length ≤ 9223372036854775807 ∧ x.label.length ≤ 9223372036854775807
def CodeAt (w : World) (A : Option Addr) (cs : List (List Ins)) : Prop := ∀ i c, cs[i]? = some c → ∃ b o A2 c2, A = some ⟨b, o, none⟩ ∧ w.cell? ⟨b, o + i, none⟩ = some (.slice A2 c.length c2) ∧ InsAt w A2 c ∧ c.length ≤ 9223372036854775806 ∧ c.length ≤ c2
def IniAt (w : World) (A : Option Addr) (c : List Ini) : Prop := ∀ i x, c[i]? = some x → ∃ b o, A = some ⟨b, o, none⟩ ∧ w.cell? ⟨b, o + i * 5, none⟩ = some (.int .i64 x.th) ∧ w.cell? ⟨b, o + i * 5 + 1, none⟩ = some (.int .i64 x.rg) ∧ w.cell? ⟨b, o + i * 5 + 2, none⟩ = some (.string ⟨x.loc.toArray⟩) ∧ w.cell? ⟨b, o + i * 5 + 3, none⟩ = some (.string ⟨x.vl.toArray⟩) ∧
    w.cell? ⟨b, o + i * 5 + 4, none⟩ = some (.int .i64 x.vn) ∧ x.loc.length ≤ 9223372036854775807 ∧ x.vl.length ≤ 9223372036854775807 ∧ (-9223372036854775808 ≤ x.th ∧ x.th ≤ 9223372036854775807) ∧ -9223372036854775808 ≤ x.rg ∧ x.rg ≤ 9223372036854775807
theorem InsAt.below {w w' : World} {A : Option Addr} {c : List Ins} (h : InsAt w A c) (hb : Below w.heap.size w w') : InsAt w' A c := fun i x hx => by
  obtain ⟨b, o, e, h0, h1, h2, h3, h4, h5, h6, h7, h8, h9⟩ := h i x hx
  exact ⟨b, o, e, cell_go h0 hb, cell_go h1 hb, cell_go h2 hb, cell_go h3 hb, cell_go h4 hb, cell_go h5 hb, cell_go h6 hb, cell_go h7 hb, h8, h9⟩
theorem CodeAt.below {w w' : World} {A : Option Addr} {c : List (List Ins)} (h : CodeAt w A c) (hb : Below w.heap.size w w') : CodeAt w' A c := fun i x hx => by
  obtain ⟨b, o, A2, c2, e, h0, h1, h2⟩ := h i x hx
  exact ⟨b, o, A2, c2, e, cell_go h0 hb, h1.below hb, h2⟩
theorem IniAt.below {w w' : World} {A : Option Addr} {c : List Ini} (h : IniAt w A c) (hb : Below w.heap.size w w') : IniAt w' A c := fun i x hx => by
  obtain ⟨b, o, e, h0, h1, h2, h3, h4, h5, h6⟩ := h i x hx
  exact ⟨b, o, e, cell_go h0 hb, cell_go h1 hb, cell_go h2 hb, cell_go h3 hb, cell_go h4 hb, h5, h6⟩
abbrev testV (T : Tst) (iv cv kv : Value) : Value := .agg #[.int .i64 T.arch, .string ⟨T.name.toArray⟩, .string ⟨T.cycle.toArray⟩, iv, cv, .int .i64 T.q, .int .i64 T.k, .int .i64 T.t, .int .i64 T.r, .string ⟨T.l.toArray⟩, .int .i64 T.v, kv]
/-- A test in memory. -/
structure TstAt (w : World) (T : Tst) (Ai Ac : Option Addr) (kv : Value) : Prop where
  init : IniAt w Ai T.init
  code : CodeAt w Ac T.code
  kids : SlAt w w.heap.size kv T.kids
  ilen : T.init.length ≤ 9223372036854775806
  clen : T.code.length ≤ 9223372036854775806
  nlen : T.name.length ≤ 9223372036854775807
  ylen : T.cycle.length ≤ 9223372036854775807
  llen : T.l.length ≤ 9223372036854775807
theorem TstAt.below {w w' : World} {T : Tst} {Ai Ac : Option Addr} {kv : Value} (h : TstAt w T Ai Ac kv) (hb : Below w.heap.size w w') : TstAt w' T Ai Ac kv :=
  ⟨h.init.below hb, h.code.below hb, (SlAt.below h.kids (Nat.le_refl _) hb).up hb.size, h.ilen, h.clen, h.nlen, h.ylen, h.llen⟩
end Go.Proofs.YtjhafgnmahhacaaGreatDoor
namespace Go.Proofs
open Go.Shelf
def Tryz.sortTh_ren : Go.Shelf.Ren := ⟨fun | 6 => 203 | 15 => 213 | 14 => 268 | 28 => 279 | 29 => 280 | 20 => 318 | 21 => 319 | 22 => 320 | 23 => 321 | 24 => 322 | 25 => 323 | 26 => 324 | 27 => 325 | 46 => 356 | 47 => 328 | 48 => 329 | 49 => 357 | 50 => 358 | 57 => 370 | n => n, fun | 22 => 38 | 24 => 25 | 25 => 287 | 3 => 3 | 39 => 208 | 0 => 0 | 53 => 340 | 55 => 139 | 4 => 4 | 46 => 334 | 45 => 333 | 50 => 132 | 5 => 5 | 9 => 9 | 66 => 369 | 70 => 373 | 76 => 390 | 77 => 391 | n => n, fun | n => n⟩
theorem Tryz.sortTh : Go.Proofs.SlLaysF0.n6 Tryz.prog Tryz.sortTh_ren := {
  mixed := by kernel_rfl
  f6 := ⟨Tryz.f203.name, by decide, Tryz.func203.trans (congrArg some (by kernel_rfl))⟩
  f14 := ⟨Tryz.f268.name, by decide, Tryz.func268.trans (congrArg some (by kernel_rfl))⟩
  f15 := Tryz.func213.trans (congrArg some (by kernel_rfl))
  f20 := ⟨Tryz.f318.name, by decide, Tryz.func318.trans (congrArg some (by kernel_rfl))⟩
  f21 := ⟨Tryz.f319.name, by decide, Tryz.func319.trans (congrArg some (by kernel_rfl))⟩
  f22 := ⟨Tryz.f320.name, by decide, Tryz.func320.trans (congrArg some (by kernel_rfl))⟩
  f23 := ⟨Tryz.f321.name, by decide, Tryz.func321.trans (congrArg some (by kernel_rfl))⟩
  f24 := ⟨Tryz.f322.name, by decide, Tryz.func322.trans (congrArg some (by kernel_rfl))⟩
  f25 := ⟨Tryz.f323.name, by decide, Tryz.func323.trans (congrArg some (by kernel_rfl))⟩
  f26 := ⟨Tryz.f324.name, by decide, Tryz.func324.trans (congrArg some (by kernel_rfl))⟩
  f27 := ⟨Tryz.f325.name, by decide, Tryz.func325.trans (congrArg some (by kernel_rfl))⟩
  f28 := Tryz.func279.trans (congrArg some (by kernel_rfl))
  f29 := Tryz.func280.trans (congrArg some (by kernel_rfl))
  f46 := ⟨Tryz.f356.name, by decide, Tryz.func356.trans (congrArg some (by kernel_rfl))⟩
  f47 := Tryz.func328.trans (congrArg some (by kernel_rfl))
  f48 := Tryz.func329.trans (congrArg some (by kernel_rfl))
  f49 := ⟨Tryz.f357.name, by decide, Tryz.func357.trans (congrArg some (by kernel_rfl))⟩
  f50 := ⟨Tryz.f358.name, by decide, Tryz.func358.trans (congrArg some (by kernel_rfl))⟩
  f57 := ⟨Tryz.f370.name, by decide, Tryz.func370.trans (congrArg some (by kernel_rfl))⟩
  t0 := Tryz.underlying0
  a0 := Tryz.isAgg0
  z0 := Tryz.sizeOf0
  v0 := Tryz.zeroValue0
  t3 := Tryz.underlying3
  a3 := Tryz.isAgg3
  z3 := Tryz.sizeOf3
  v3 := Tryz.zeroValue3
  t4 := Tryz.underlying4
  a4 := Tryz.isAgg4
  z4 := Tryz.sizeOf4
  v4 := Tryz.zeroValue4
  t5 := Tryz.underlying5
  a5 := Tryz.isAgg5
  z5 := Tryz.sizeOf5
  v5 := Tryz.zeroValue5
  t9 := Tryz.underlying9
  a9 := Tryz.isAgg9
  z9 := Tryz.sizeOf9
  v9 := Tryz.zeroValue9
  t22 := Tryz.underlying38
  a22 := Tryz.isAgg38
  z22 := Tryz.sizeOf38
  v22 := Tryz.zeroValue38
  t25 := Tryz.underlying287
  a25 := Tryz.isAgg287
  z25 := Tryz.sizeOf287
  v25 := Tryz.zeroValue287
  t39 := Tryz.underlying208
  a39 := Tryz.isAgg208
  z39 := Tryz.sizeOf208
  v39 := Tryz.zeroValue208
  t45 := Tryz.underlying333
  a45 := Tryz.isAgg333
  z45 := Tryz.sizeOf333
  v45 := Tryz.zeroValue333
  t46 := Tryz.underlying334
  a46 := Tryz.isAgg334
  z46 := Tryz.sizeOf334
  v46 := Tryz.zeroValue334
  t50 := Tryz.underlying132
  a50 := Tryz.isAgg132
  z50 := Tryz.sizeOf132
  v50 := Tryz.zeroValue132
  t53 := Tryz.underlying340
  a53 := Tryz.isAgg340
  z53 := Tryz.sizeOf340
  v53 := Tryz.zeroValue340
  t55 := Tryz.underlying139
  a55 := Tryz.isAgg139
  z55 := Tryz.sizeOf139
  v55 := Tryz.zeroValue139
  t66 := Tryz.underlying369
  a66 := Tryz.isAgg369
  z66 := Tryz.sizeOf369
  v66 := Tryz.zeroValue369
  t70 := Tryz.underlying373
  a70 := Tryz.isAgg373
  z70 := Tryz.sizeOf373
  v70 := Tryz.zeroValue373
  t76 := Tryz.underlying390
  a76 := Tryz.isAgg390
  z76 := Tryz.sizeOf390
  v76 := Tryz.zeroValue390
  t77 := Tryz.underlying391
  a77 := Tryz.isAgg391
  z77 := Tryz.sizeOf391
  v77 := Tryz.zeroValue391 }
def Tryz.cloneTh_ren : Go.Shelf.Ren := ⟨fun | 41 => 133 | n => n, fun | 22 => 38 | 23 => 25 | 4 => 4 | n => n, fun | n => n⟩
theorem Tryz.cloneTh : Go.Proofs.SlLaysE0.n41 Tryz.prog Tryz.cloneTh_ren := {
  mixed := by kernel_rfl
  f41 := ⟨Tryz.f133.name, by decide, Tryz.func133.trans (congrArg some (by kernel_rfl))⟩
  t4 := Tryz.underlying4
  a4 := Tryz.isAgg4
  z4 := Tryz.sizeOf4
  v4 := Tryz.zeroValue4
  t22 := Tryz.underlying38
  a22 := Tryz.isAgg38
  z22 := Tryz.sizeOf38
  v22 := Tryz.zeroValue38 }
end Go.Proofs
namespace Go.Proofs.YtjhafgnmahhacaaGreatDoor
open Go.RowKit
open Go.Sort
open Go.Sort (sorted_unique_holds flatK size_flatK get_flatK HoldsK)
instance instVTh : Inhabited VTh := ⟨⟨(0, 0, []), by decide⟩⟩
def encT (x : VTh) : List Value := thCs x.1
theorem cmp_stand (blk off size : Nat) (w : World) : CmpLays Tryz.prog 204 #[] encT 3 (fun x y => standC x.1 y.1) blk off size w := fun m os dk _ x y => by
  obtain ⟨⟨t, r, l⟩, hx⟩ := x
  obtain ⟨⟨t', r', l'⟩, hy⟩ := y
  have px := vth_parts ⟨(t, r, l), hx⟩
  have py := vth_parts ⟨(t', r', l'), hy⟩
  simp only at px py
  exact standP (t := t) (r := r) (l := l) (t' := t') (r' := r') (l' := l') (by omega) (by omega) (by omega) (by omega) (by omega) (by omega) (by omega) (by omega)
theorem sortP (blk cap : Nat) (d : Array VTh) (w : World) (hH : HoldsK encT 3 w blk 0 d) (hblk : blk < w.heap.size) (hsz : d.size < 4611686018427387904) :
    Calls Tryz.prog 203 #[.slice (some ⟨blk, 0, none⟩) d.size cap, .func (.func 204) #[] #[]] w fun e w' =>
      e = .returned (.tuple #[]) ∧ ∃ d' n os, PermIn 0 d.size d d' ∧ SortedIn ltT 0 d.size d' ∧ w' = sortWorldK encT 3 w blk 0 n d' os := by
  have eg : ∀ args w, (callFunc 204 args).run Tryz.prog w = .ok (.enter 204 args) w := enters_of Tryz.func204 (by kernel_rfl) rfl
  exact AnyQ.slices_SortFunc Tryz.sortTh 3 Tryz.isAgg25 Tryz.sizeOf25 encT (fun _ => rfl) (fun x v hv => by simp [encT, thCs] at hv; rcases hv with rfl | rfl | rfl <;> rfl) (fun x y => standC x.1 y.1) ltT_swo 204 #[] blk 0 cap d w eg (cmp_stand blk 0 d.size w) hH hblk hsz
def leT (x y : Th) : Bool := !decide (standC y x < 0)
/-- The things in order. -/
def sortT (L : List Th) : List Th := L.mergeSort leT
def vthB (x : Th) : Prop := thingB 2 x.1 x.2.1 x.2.2 = true
def toV : (L : List Th) → (∀ x ∈ L, vthB x) → List VTh
  | [], _ => []
  | x :: r, h => ⟨x, h x (by simp)⟩ :: toV r (fun y hy => h y (by simp [hy]))
def valV (x : VTh) : Th := x.1
theorem toV_map : ∀ (L : List Th) (h : ∀ x ∈ L, vthB x), (toV L h).map valV = L
  | [], _ => rfl
  | x :: r, h => by
    show valV _ :: (toV r _).map valV = x :: r
    rw [toV_map r]
    rfl
theorem toV_len (L : List Th) (h : ∀ x ∈ L, vthB x) : (toV L h).length = L.length := by
  have := congrArg List.length (toV_map L h)
  simpa using this
theorem toV_sort (L : List Th) (h : ∀ x ∈ L, vthB x) : ((toV L h).mergeSort (fun x y => !ltT y x)).map valV = sortT L := by
  rw [List.map_mergeSort (r := fun x y => !ltT y x) (s := leT) (f := valV) (fun a _ b _ => rfl), toV_map]
  rfl
theorem thCells_at : ∀ (L : List Th) (i : Nat) (x : Th), L[i]? = some x → (thCells L)[i * 3]? = some (.int .i64 x.1) ∧ (thCells L)[i * 3 + 1]? = some (.int .i64 x.2.1) ∧ (thCells L)[i * 3 + 2]? = some (.string ⟨x.2.2.toArray⟩)
  | [], _, _, h => by simp at h
  | y :: r, 0, x, h => by simp at h; subst h; simp [thCells, thCs]
  | y :: r, i + 1, x, h => by
    have := thCells_at r i x (by simpa using h)
    rw [show (i + 1) * 3 = i * 3 + 3 by omega]
    simpa [thCells, thCs] using this
theorem sort_other {w : World} {blk n : Nat} {d : Array VTh} {os : Array Obj} {i : Nat} (hi : i < w.heap.size) (hne : i ≠ blk) : (sortWorldK encT 3 w blk 0 n d os).heap[i]? = w.heap[i]? := by
  have h1 : (Sort.mapBlock (Sort.ahead w n) blk (Sort.putCells id 0 (flatK encT 3 d))).heap[i]? = w.heap[i]? := by
    simp only [Sort.mapBlock, Array.getElem?_modify]
    rw [if_neg (fun e => hne e.symm)]
    rfl
  have h2 : (Sort.grow (Sort.mapBlock (Sort.ahead w n) blk (Sort.putCells id 0 (flatK encT 3 d))) os).heap[i]? = (Sort.mapBlock (Sort.ahead w n) blk (Sort.putCells id 0 (flatK encT 3 d))).heap[i]? := Sort.heap_grow_old _ _ (by simp [Sort.mapBlock]; exact hi)
  exact h2.trans h1
theorem sort_below {w : World} {blk n B : Nat} {d : Array VTh} {os : Array Obj} (hB : B ≤ blk) (hblk : blk < w.heap.size) : Below B w (sortWorldK encT 3 w blk 0 n d os) :=
  ⟨rfl, rfl, rfl, by show w.heap.size ≤ ((w.heap.modify blk _) ++ os).size; simp, fun i hi => sort_other (by omega) (by omega)⟩
theorem thCells_get : ∀ (L : List Th) (j : Nat), j < L.length * 3 → (thCells L)[j]? = (thCs (L.getD (j / 3) (0, 0, [])))[j % 3]?
  | [], _, h => by simp at h
  | y :: r, 0, _ => by simp [thCells, thCs]
  | y :: r, 1, _ => by simp [thCells, thCs]
  | y :: r, 2, _ => by simp [thCells, thCs]
  | y :: r, j + 3, h => by
    have := thCells_get r j (by simp at h; omega)
    rw [show (j + 3) / 3 = j / 3 + 1 by omega, show (j + 3) % 3 = j % 3 by omega]
    simpa [thCells, thCs] using this
theorem arr_succ {α : Type} [Inhabited α] (a : α) (l : List α) (i : Nat) : (a :: l).toArray[i + 1]! = l.toArray[i]! := by simp
theorem toV_get : ∀ (L : List Th) (h : ∀ x ∈ L, vthB x) (i : Nat), i < L.length → ((toV L h).toArray[i]!).1 = L.getD i (0, 0, [])
  | [], _, _, hi => by simp at hi
  | x :: r, h, 0, _ => rfl
  | x :: r, h, i + 1, hi => by
    have := toV_get r (fun y hy => h y (by simp [hy])) i (by simpa using hi)
    exact (congrArg Subtype.val (arr_succ (α := VTh) _ _ i)).trans this
theorem holds_own {w : World} {B g cap : Nat} {L : List Th} (hv : ∀ x ∈ L, vthB x) (ho : w.ownsRow B 25 3 (.slice (some ⟨g, 0, none⟩) L.length cap) L.length (thCells L)) : HoldsK encT 3 w g 0 (toV L hv).toArray := by
  intro j hj
  rw [size_flatK] at hj
  have hsz : (toV L hv).toArray.size = L.length := by simp [toV_len]
  rw [hsz] at hj
  rw [Nat.zero_add, ho.cellAt j hj, get_flatK _ _ _ _ (by rw [hsz]; exact hj), thCells_get L j hj]
  refine ⟨?_, ho.frozenAt j⟩
  show _ = some ((thCs ((toV L hv).toArray[j / 3]!).1)[j % 3]!)
  rw [toV_get L hv (j / 3) (by omega)]
  have h3 : j % 3 < (thCs (L.getD (j / 3) (0, 0, []))).length := by simp [thCs]; omega
  rw [List.getElem?_eq_getElem h3]
  exact congrArg some (getElem!_pos (thCs (L.getD (j / 3) (0, 0, []))) (j % 3) h3).symm
/-- A row of things lies at a block. -/
def ThsAt (w : World) (g : Nat) (T : List Th) : Prop := ∀ i x, T[i]? = some x → w.cell? ⟨g, i * 3, none⟩ = some (.int .i64 x.1) ∧ w.cell? ⟨g, i * 3 + 1, none⟩ = some (.int .i64 x.2.1) ∧ w.cell? ⟨g, i * 3 + 2, none⟩ = some (.string ⟨x.2.2.toArray⟩)
theorem map_get {d : Array VTh} {T : List Th} (h : d.toList.map valV = T) {i : Nat} {x : Th} (hx : T[i]? = some x) : i < d.size ∧ (d[i]!).1 = x := by
  subst h
  simp only [List.getElem?_map, Option.map_eq_some_iff] at hx
  obtain ⟨y, hy, rfl⟩ := hx
  obtain ⟨h1, rfl⟩ := List.getElem?_eq_some_iff.1 hy
  have h2 : i < d.size := by simpa using h1
  exact ⟨h2, by rw [getElem!_pos d i h2]; rfl⟩
theorem holds_cells {w : World} {g : Nat} {d : Array VTh} {T : List Th} (hH : HoldsK encT 3 w g 0 d) (hT : d.toList.map valV = T) : ThsAt w g T := by
  intro i x hx
  obtain ⟨hi, hv⟩ := map_get hT hx
  have key : ∀ j, j < 3 → w.cell? ⟨g, i * 3 + j, none⟩ = some ((thCs x)[j]!) := by
    intro j hj
    have h1 := (hH (i * 3 + j) (by rw [size_flatK]; omega)).1
    rw [Nat.zero_add, get_flatK _ _ _ _ (by omega)] at h1
    rw [show (i * 3 + j) / 3 = i by omega, show (i * 3 + j) % 3 = j by omega] at h1
    rw [h1]
    show some ((thCs (d[i]!).1)[j]!) = _
    rw [hv]
  exact ⟨key 0 (by omega), key 1 (by omega), key 2 (by omega)⟩
theorem sortT_perm (L : List Th) : (sortT L).Perm L := List.mergeSort_perm _ _
theorem sortT_len (L : List Th) : (sortT L).length = L.length := (sortT_perm L).length_eq
theorem own_some {w : World} {B : Nat} {t : TypeId} {z n : Nat} {v : Value} {cs : List Value} (h : w.ownsRow B t z v n cs) (hn : 0 < n) : ∃ g cap, v = .slice (some ⟨g, 0, none⟩) n cap := by
  rcases h.2 with ⟨_, rfl⟩ | ⟨g, cap, cur, rfl, _⟩
  · omega
  · exact ⟨g, cap, rfl⟩
theorem thCells_of {w : World} {g : Nat} {T : List Th} (h : ThsAt w g T) (j : Nat) (u : Value) (hu : (thCells T)[j]? = some u) : w.cell? ⟨g, 0 + j, none⟩ = some u := by
  have hj : j < T.length * 3 := by
    obtain ⟨h1, _⟩ := List.getElem?_eq_some_iff.1 hu
    rwa [thCells_len] at h1
  rw [thCells_get T j hj] at hu
  have h3 : j / 3 < T.length := by omega
  obtain ⟨x, hx⟩ : ∃ x, T[j / 3]? = some x := ⟨_, List.getElem?_eq_getElem h3⟩
  rw [show T.getD (j / 3) (0, 0, []) = x by simp [List.getD, hx]] at hu
  obtain ⟨c0, c1, c2⟩ := h _ _ hx
  have hjm : j % 3 < 3 := by omega
  rw [Nat.zero_add]
  by_cases m0 : j % 3 = 0
  · rw [m0] at hu
    rw [show j / 3 * 3 = j by omega] at c0
    exact c0.trans (by simpa [thCs] using hu)
  by_cases m1 : j % 3 = 1
  · rw [m1] at hu
    rw [show j / 3 * 3 + 1 = j by omega] at c1
    exact c1.trans (by simpa [thCs] using hu)
  have m2 : j % 3 = 2 := by omega
  rw [m2] at hu
  rw [show j / 3 * 3 + 2 = j by omega] at c2
  exact c2.trans (by simpa [thCs] using hu)
theorem ths_own {w : World} {B g cap : Nat} {T : List Th} (h : w.ownsRow B 25 3 (.slice (some ⟨g, 0, none⟩) T.length cap) T.length (thCells T)) : ThsAt w g T := by
  intro i x hx
  obtain ⟨h1, _⟩ := List.getElem?_eq_some_iff.1 hx
  obtain ⟨a, b, c⟩ := thCells_at T i x hx
  exact ⟨(h.cellAt (i * 3) (by omega)).trans a, (h.cellAt (i * 3 + 1) (by omega)).trans b, (h.cellAt (i * 3 + 2) (by omega)).trans c⟩
theorem oneTh : ∀ (T : List Th) (u : Value), u ∈ thCells T → u.oneCell' = true
  | [], _, h => by simp [thCells] at h
  | x :: r, u, h => by
    simp only [thCells, List.mem_append] at h
    rcases h with h | h
    · simp [thCs] at h
      rcases h with rfl | rfl | rfl <;> rfl
    · exact oneTh r u h
theorem cloneP {w : World} (g cap : Nat) (T : List Th) (hlen : T.length ≤ 1000000) (hpos : 0 < T.length) (h : ThsAt w g T) :
    Calls Tryz.prog 133 #[.slice (some ⟨g, 0, none⟩) T.length cap] w fun e w' => ∃ g' cap', e = .returned (.slice (some ⟨g', 0, none⟩) T.length cap') ∧ w.heap.size ≤ g' ∧ ThsAt w' g' T ∧ Below w.heap.size w w' := by
  obtain ⟨i0, hi, hz0, hz1, hz2⟩ := info_parts infoThing
  refine (AnyE.slices_Clone Tryz.cloneTh i0 _ 3 32 hi hz0 hz1 hz2 rfl (by decide) Tryz.sizeOf25 g 0 T.length cap (thCells T) w (thCells_len T) (by unfold maxLen; omega) (by omega) (thCells_of h) (oneTh T)).mono ?_
  rintro e w' ⟨v', rfl, ho, _, hb⟩
  obtain ⟨g', cap', rfl⟩ := own_some ho hpos
  exact ⟨g', cap', rfl, (ho.lt g' rfl).1, ths_own ho, hb⟩
end Go.Proofs.YtjhafgnmahhacaaGreatDoor
