/- Layer 8: Twin, walked: a node in memory of its own. -/
import Derived.Test.YtmlnibjnacfanaaGreatDoorQb
import Derived.Test.YtmlnibjnacfanaaGreatDoorJl
import Derived.Test.YtmlnibjnacfanaaGreatDoorDk
namespace Go.Proofs.YtmlnibjnacfanaaGreatDoor
open Go.RowKit

/-- An append puts the row where it was, or into a new block. -/
theorem own_which {P : Program} (w : World) (base : Nat) (t ty e : TypeId) (i : TypeInfo) (z : Value) (size bytes : Nat) (ht : P.underlying t = some (.slice e)) (hi : P.info? e = some i) (hz : i.zero = some z)
    (hsize : i.size = size) (hby : i.bytes = bytes) (hzs : z.cells.size = size) (hsz : 0 < size) (v : Value) (n : Nat) (xs : List Value) (hown : w.ownsRow base e size v n xs)
    (a : Addr) (m c : Nat) (news : List Value) (hl : news.length = m * size) (hnews : ∀ j u, news[j]? = some u → w.cell? (a.add j) = some u) (h1 : ∀ u ∈ news, u.oneCell' = true)
    (h63 : n + m ≤ maxLen) (hbytes : (n + m) * bytes ≤ 140737488355328) (hbase : base ≤ w.heap.size) :
    ∃ v' w', (Builtin.append_ #[t, t] ty #[v, .slice (some a) m c]).run P w = .ok v' w' ∧ w'.ownsRow base e size v' (n + m) (xs ++ news) ∧ w.grownBy w' v.ownBlock ∧ ∀ b, v'.ownBlock = some b → v.ownBlock = some b ∨ w.heap.size ≤ b := by
  obtain ⟨v', w', hr, h2, h3, _⟩ := run_append_own (P := P) w base t ty e i z size bytes ht hi hz hsize hby hzs hsz v n xs hown a m c news hl hnews h1 h63 hbytes hbase
  refine ⟨v', w', hr, h2, h3, ?_⟩
  rcases hown.2 with ⟨rfl, rfl⟩ | ⟨g, cap, cur, rfl, hbg, hg, hnc, hcm, hcs, htake⟩
  · have hx : xs = [] := List.eq_nil_of_length_eq_zero (by simpa using hown.1)
    subst hx
    obtain ⟨v2, w2, hr2, h22, _, _⟩ := run_append_own (P := P) w w.heap.size t ty e i z size bytes ht hi hz hsize hby hzs hsz (.slice none 0 0) 0 [] (World.ownsRow_nil _ _ _ _) a m c news hl hnews h1 h63 hbytes (Nat.le_refl _)
    have he := hr.symm.trans hr2
    injection he with he1 he2
    subst he1 he2
    exact fun b hb => .inr (h22.lt b hb).1
  · by_cases hroom : n + m ≤ cap
    · obtain ⟨w2, hr2, _, _⟩ := run_append_fits (P := P) w base t ty e i size ht hi hsize g n cap xs hown a m c news hl hnews h1 hroom
      have he := hr.symm.trans hr2
      injection he with he1 he2
      subst he1
      exact fun b hb => .inl hb
    · subst hsize
      subst hby
      have holds : ∀ j u, xs[j]? = some u → w.cell? ((⟨g, 0, none⟩ : Addr).add j) = some u := hown.cells (g := g) rfl
      have hr2 := run_append_grow (P := P) w t ty e i z ht hi hz ⟨g, 0, none⟩ n cap xs hown.1 holds a m c news hl hnews (by omega) (by simp only [maxLen] at h63; omega) (growslice_fits (by omega) hbytes)
      have he := hr.symm.trans hr2
      injection he with he1 he2
      subst he1
      exact fun b hb => .inr (by simp only [Value.ownBlock, Option.some.injEq] at hb; omega)
theorem app_wp2 {P : Program} {o : Oper} {a : Act} {K : Act → World → Prop} {Q : Exit → Act → World → Prop} (W V : World)
    (s x : Operand) (T E : TypeId) (hop : o.op = Op.call { callee := Callee.builtin Builtin.append, args := #[s, x], argTypes := #[T, T] })
    (z : Value) (size bytes : Nat) (h1 : P.underlying T = some (.slice E)) (hinfo : (P.info? E).map (fun i => (i.zero, i.size, i.bytes)) = some (some z, size, bytes)) (h6 : z.cells.size = size) (h7 : 0 < size)
    (news : List Value) (hn : news.length = size) (hone : ∀ u ∈ news, u.oneCell' = true) (B n : Nat) (xs : List Value) (v : Value) (hs : a.eval s = v) (hx : a.eval x = .slice (some ⟨W.heap.size, 0, none⟩) 1 1)
    (hV : Below W.heap.size W V) (hcell : ∀ j u, news[j]? = some u → V.cell? ⟨W.heap.size, j, none⟩ = some u)
    (hown : W.ownsRow B E size v n xs) (b1 : n + 1 ≤ 1152921504606846976) (b2 : (n + 1) * bytes ≤ 140737488355328) (hB : B ≤ W.heap.size)
    (hK : ∀ v' w1, w1.ownsRow B E size v' (n + 1) (xs ++ news) → Grew W w1 B v → (∀ b, v'.ownBlock = some b → v.ownBlock = some b ∨ W.heap.size ≤ b) → K (a.put o.dst v') w1) : o.wp P a V K Q := by
  obtain ⟨i0, hi, hz0, hz1, hz2⟩ := info_parts hinfo
  have how2 := own_below hown hV
  obtain ⟨v', w1, hr, hown', hgrow, hwh⟩ := own_which (P := P) V B T o.type E i0 z size bytes h1 hi hz0 hz1 hz2 h6 h7 v n xs how2 ⟨W.heap.size, 0, none⟩ 1 1 news (by omega) (fun j u hj => by
    rw [show (⟨W.heap.size, 0, none⟩ : Addr).add j = ⟨W.heap.size, j, none⟩ by simp [Addr.add]; intro e; exact e.symm]
    exact hcell j u hj) hone (by unfold maxLen; omega) b2 (Nat.le_trans hB hV.size)
  unfold Oper.wp execOp
  simp only [hop, resolve, invoke, builtin, Sem.run_bind, Sem.run_pure, Result.andThen_ok, List.map_toArray, List.map_cons, List.map_nil, hs, hx, hr]
  refine hK v' w1 hown' ⟨?_, fun i hi hne => ?_⟩ (fun b hb => (hwh b hb).imp id (fun h => Nat.le_trans hV.size h))
  · exact (hV.mono hB).grown hgrow (Nat.le_trans hB hV.size) (fun j hj => (hown.lt j hj).1)
  · exact (hgrow.block i (Nat.lt_of_lt_of_le hi hV.size) (fun e => hne e.symm)).trans (hV.block i hi)
theorem below_of_drew2 {B : Nat} (w : World) : Below B w w.drew := (Below.refl _ _).drew
theorem size_drew' (w : World) : w.drew.heap.size = w.heap.size := rfl
theorem SlS.one {w : World} {S : Nat → Prop} {kv : Value} {f : Fr} (h : SlS w S kv f) : kv.oneCell' = true := by
  obtain ⟨A, cap, rfl, _⟩ := h
  rfl
theorem ret_nodeE {fn : Func} (hfn : fn.results = #[.cell 4 26]) {a : Act} {W : World} {R : Ending → World → Prop} {b : Nat} {k t r v : Int} {l : List UInt8} {kv : Value}
    (hB : Blk W b 26 #[.int .i64 k, .int .i64 t, .int .i64 r, .string ⟨l.toArray⟩, .int .i64 v, kv]) (h4 : a.tmps[4]? = some (.pointer (some ⟨b, 0, none⟩))) (hd : a.defers = [])
    (hR : R (.returned (nodeV k t r l v kv)) W) : bodyPost Tryz.prog fn R .ret a W := by
  have a0 : W.cell? ⟨b, 0, none⟩ = some (.int .i64 k) := hB.cell 0
  have a1 : W.cell? ⟨b, 1, none⟩ = some (.int .i64 t) := hB.cell 1
  have a2 : W.cell? ⟨b, 2, none⟩ = some (.int .i64 r) := hB.cell 2
  have a3 : W.cell? ⟨b, 3, none⟩ = some (.string ⟨l.toArray⟩) := hB.cell 3
  have a4 : W.cell? ⟨b, 4, none⟩ = some (.int .i64 v) := hB.cell 4
  have a5 : W.cell? ⟨b, 5, none⟩ = some kv := hB.cell 5
  exact bodyPost_ret (by simp [results, hfn, h4, go_sem, a0, a1, a2, a3, a4, a5]) hd hR
abbrev put6 (W : World) (b : Nat) (u0 u1 u2 u3 u4 u5 : Value) : World := (((((W.setCell ⟨b, 0, none⟩ u0).setCell ⟨b, 1, none⟩ u1).setCell ⟨b, 2, none⟩ u2).setCell ⟨b, 3, none⟩ u3).setCell ⟨b, 4, none⟩ u4).setCell ⟨b, 5, none⟩ u5
theorem blk_put6 {W : World} {b : Nat} {cs : Array Value} (h : Blk W b 26 cs) (hs : cs.size = 6) (u0 u1 u2 u3 u4 u5 : Value) : Blk (put6 W b u0 u1 u2 u3 u4 u5) b 26 #[u0, u1, u2, u3, u4, u5] := by
  obtain ⟨l⟩ := cs
  match l, hs with
  | [a0, a1, a2, a3, a4, a5], _ =>
    have := (((((h.set_ 0 u0).set_ 1 u1).set_ 2 u2).set_ 3 u3).set_ 4 u4).set_ 5 u5
    simpa using this
theorem heap_put6 {W : World} {b i : Nat} (hi : i ≠ b) (u0 u1 u2 u3 u4 u5 : Value) : (put6 W b u0 u1 u2 u3 u4 u5).heap[i]? = W.heap[i]? := by
  rw [Below.heap_setCell _ _ _ _ hi, Below.heap_setCell _ _ _ _ hi, Below.heap_setCell _ _ _ _ hi, Below.heap_setCell _ _ _ _ hi, Below.heap_setCell _ _ _ _ hi, Below.heap_setCell _ _ _ _ hi]
theorem below_put6 {W0 W : World} {B b : Nat} (h : Below B W0 W) (hb : B ≤ b) (u0 u1 u2 u3 u4 u5 : Value) : Below B W0 (put6 W b u0 u1 u2 u3 u4 u5) :=
  (((((h.setCell (p := ⟨b, 0, none⟩) hb _).setCell (p := ⟨b, 1, none⟩) hb _).setCell (p := ⟨b, 2, none⟩) hb _).setCell (p := ⟨b, 3, none⟩) hb _).setCell (p := ⟨b, 4, none⟩) hb _).setCell (p := ⟨b, 5, none⟩) hb _
theorem size_put6 (W : World) (b : Nat) (u0 u1 u2 u3 u4 u5 : Value) : (put6 W b u0 u1 u2 u3 u4 u5).heap.size = W.heap.size := by simp [put6]
theorem blk_new1 (w : World) (o : Obj) (t : TypeId) (cs : Array Value) : Blk ((w.alloc o).alloc (.cells cs t (0, 0))) (w.heap.size + 1) t cs := by
  have h := Blk.new (w.alloc o) t cs
  rwa [show (w.alloc o).heap.size = w.heap.size + 1 by simp] at h
theorem blk_new2 (w : World) (o o' : Obj) (t : TypeId) (cs : Array Value) : Blk (((w.alloc o).alloc o').alloc (.cells cs t (0, 0))) (w.heap.size + 1 + 1) t cs := by
  have h := Blk.new ((w.alloc o).alloc o') t cs
  rwa [show ((w.alloc o).alloc o').heap.size = w.heap.size + 1 + 1 by simp] at h
theorem three_b (w : World) (o1 o2 o3 : Obj) : Below w.heap.size w (((w.alloc o1).alloc o2).alloc o3) := below_alloc (below_alloc (alloc_b w o1) o2) o3
def TwPost (k t r : Int) (l : List UInt8) (v : Int) (kids : Fr) (w : World) (e : Ending) (w' : World) : Prop :=
  ∃ kv, e = .returned (nodeV k t r l v kv) ∧ SlS w' (fun b => w.heap.size ≤ b ∧ b < w'.heap.size) kv kids ∧ Below w.heap.size w w'
def TwinR (kids : Fr) : Prop :=
  ∀ (w : World) (hi : Nat) (k t r v : Int) (l : List UInt8) (kv : Value) (x : Int) (D : Nat), x = D → hi ≤ w.heap.size → D ≤ 70 → kids.len ≤ 1024 → smallF kids D → SlAt w hi kv kids →
    Calls Tryz.prog 24 #[nodeV k t r l v kv, .int .i64 x] w (TwPost k t r l v kids w)
def AllTw : Fr → Prop
  | .nil => True
  | .cons _ _ _ _ _ kids rest => TwinR kids ∧ AllTw rest
theorem AllTw.at_ : ∀ (f : Fr) (j : Nat) {k t r : Int} {l : List UInt8} {v : Int} {kids rest : Fr}, AllTw f → f.drop j = .cons k t r l v kids rest → TwinR kids
  | .nil, 0, _, _, _, _, _, _, _, _, h => by cases h
  | .nil, _ + 1, _, _, _, _, _, _, _, _, h => by cases h
  | .cons _ _ _ _ _ _ _, 0, _, _, _, _, _, _, _, h, e => by cases e; exact h.1
  | .cons _ _ _ _ _ _ rest, j + 1, _, _, _, _, _, _, _, h, e => AllTw.at_ rest j h.2 e
/-- What holds at the head of Twin's loop. -/
def TwInv (w : World) (k t r : Int) (l : List UInt8) (v : Int) (kv : Value) (kids : Fr) (wr : World) (j : Nat) : Prop :=
  ∃ Av cv cs, Blk wr w.heap.size 26 #[.int .i64 k, .int .i64 t, .int .i64 r, .string ⟨l.toArray⟩, .int .i64 v, kv] ∧ Blk wr (w.heap.size + 1) 26 zeroNode ∧
    Blk wr (w.heap.size + 1 + 1) 26 #[.int .i64 k, .int .i64 t, .int .i64 r, .string ⟨l.toArray⟩, .int .i64 v, .slice Av j cv] ∧ wr.ownsRow (w.heap.size + 3) 26 6 (.slice Av j cv) j cs ∧
    RowD wr (fun b => w.heap.size + 3 ≤ b ∧ b < wr.heap.size ∧ (Value.slice Av j cv).ownBlock ≠ some b) (kids.take j) cs ∧ Below w.heap.size w wr
theorem TwInv.step {w wr x2 w2 : World} {k t r v : Int} {l : List UInt8} {kv : Value} {kids : Fr} {j : Nat} {Av : Option Addr} {cv : Nat} {cs : List Value} {k' t' r' v' : Int} {l' : List UInt8} {kids' rest' : Fr} {kv2 : Value} {Av1 : Option Addr} {cv1 : Nat}
    (h0 : Blk wr w.heap.size 26 #[.int .i64 k, .int .i64 t, .int .i64 r, .string ⟨l.toArray⟩, .int .i64 v, kv]) (hz : Blk wr (w.heap.size + 1) 26 zeroNode)
    (hm : Blk wr (w.heap.size + 1 + 1) 26 #[.int .i64 k, .int .i64 t, .int .i64 r, .string ⟨l.toArray⟩, .int .i64 v, .slice Av j cv]) (ho : wr.ownsRow (w.heap.size + 3) 26 6 (.slice Av j cv) j cs)
    (hr : RowD wr (fun b => w.heap.size + 3 ≤ b ∧ b < wr.heap.size ∧ (Value.slice Av j cv).ownBlock ≠ some b) (kids.take j) cs) (hb : Below w.heap.size w wr)
    (hbx : Below wr.heap.size wr x2) (hsx : SlS x2 (fun b => wr.heap.size ≤ b ∧ b < x2.heap.size) kv2 kids') (hl' : l'.length ≤ 9223372036854775807) (_hnx : kids.drop (j + 1) = rest')
    (ho9 : w2.ownsRow (w.heap.size + 3) 26 6 (.slice Av1 (j + 1) cv1) (j + 1) (cs ++ nodeCs ⟨k', t', r', l', v', kids'⟩ kv2)) (hg9 : Grew x2 w2 (w.heap.size + 3) (.slice Av j cv)) (j0 : Nat) (_hlt : j < kids.len)
    (hdr : kids.drop j = .cons k' t' r' l' v' kids' rest') (_ : j0 = j) (hfr : ∀ b, (Value.slice Av1 (j + 1) cv1).ownBlock = some b → (Value.slice Av j cv).ownBlock = some b ∨ x2.heap.size ≤ b) :
    TwInv w k t r l v kv kids (w2.setCell ⟨w.heap.size + 1 + 1, 5, none⟩ (.slice Av1 (j + 1) cv1)) (j + 1) := by
  have hz1 := hm.lt
  have hz2 := hbx.size
  have hz3 := hg9.below.size
  have hs : ∀ (W : World) u, (W.setCell ⟨w.heap.size + 1 + 1, 5, none⟩ u).heap.size = W.heap.size := fun W u => by simp
  have hk : ∀ b, b < wr.heap.size → (Value.slice Av j cv).ownBlock ≠ some b → w2.heap[b]? = wr.heap[b]? := fun b h1 h2 => (hg9.keep b (by omega) h2).trans (hbx.block b h1)
  have hnb : ∀ b, b < w.heap.size + 3 → (Value.slice Av j cv).ownBlock ≠ some b := fun b h1 e => by have := (ho.lt b e).1; omega
  refine ⟨Av1, cv1, _, ?_, ?_, ?_, ownsRow_setCell_below ho9 (by simp) _, ?_, ?_⟩
  · exact Blk.far ((hk _ (by omega) (hnb _ (by omega))).trans h0) (by dsimp only; omega) _
  · exact Blk.far ((hk _ (by omega) (hnb _ (by omega))).trans hz) (by dsimp only; omega) _
  · have : Blk w2 (w.heap.size + 1 + 1) 26 #[.int .i64 k, .int .i64 t, .int .i64 r, .string ⟨l.toArray⟩, .int .i64 v, .slice Av j cv] := (hk _ hz1 (hnb _ (by omega))).trans hm
    have h9 := this.set_ 5 (.slice Av1 (j + 1) cv1)
    simpa using h9
  · rw [kids.take_step j hdr]
    have hS : ∀ b, (Value.slice Av1 (j + 1) cv1).ownBlock = some b → ∀ c, c < x2.heap.size → (Value.slice Av j cv).ownBlock ≠ some c → b ≠ c := fun b hb' c h1 h2 e => by
      rcases hfr b hb' with h3 | h3
      · rw [e] at h3; exact h2 h3
      · omega
    refine RowD.app _ _ _ _ ?_ ?_
    · refine RowD.mono (S := fun b => w.heap.size + 3 ≤ b ∧ b < wr.heap.size ∧ (Value.slice Av j cv).ownBlock ≠ some b) (fun b h1 => ⟨h1.1, by rw [hs]; have := h1.2.1; omega, fun e => hS b e b (by have := h1.2.1; omega) h1.2.2 rfl⟩) _ _ (RowD.keep (fun b h1 => ?_) _ _ hr)
      rw [Below.heap_setCell _ _ _ _ (by have := h1.1; dsimp only; omega)]
      exact hk b h1.2.1 h1.2.2
    · have hkx : ∀ b, wr.heap.size ≤ b → (Value.slice Av j cv).ownBlock ≠ some b := fun b h1 e => by have := (ho.lt b e).2; omega
      refine ⟨kv2, [], rfl, hl', ?_, rfl⟩
      refine (hsx.keep (fun b h1 => ?_)).mono (fun b h1 => ⟨by have := h1.1; omega, by rw [hs]; have := h1.2; omega, fun e => hS b e b h1.2 (hkx b h1.1) rfl⟩)
      rw [Below.heap_setCell _ _ _ _ (by have := h1.1; dsimp only; omega)]
      exact hg9.keep b h1.2 (hkx b h1.1)
  · exact ((hb.trans (hbx.mono hb.size)).trans (hg9.below.mono (by omega))).setCell (p := ⟨w.heap.size + 1 + 1, 5, none⟩) (by dsimp only; omega) _
theorem TwInv.done {w wr : World} {k t r v : Int} {l : List UInt8} {kids : Fr} {j : Nat} {Av : Option Addr} {cv : Nat} {cs : List Value} (htk : kids.take j = kids) (ho : wr.ownsRow (w.heap.size + 3) 26 6 (.slice Av j cv) j cs)
    (hr : RowD wr (fun b => w.heap.size + 3 ≤ b ∧ b < wr.heap.size ∧ (Value.slice Av j cv).ownBlock ≠ some b) (kids.take j) cs) (hb : Below w.heap.size w wr) (_hz : w.heap.size + 1 + 1 < wr.heap.size) (hlen : kids.len ≤ 1024) (hj : j = kids.len) (u0 u1 u2 u3 u4 u5 : Value) :
    TwPost k t r l v kids w (.returned (nodeV k t r l v (.slice Av j cv))) (put6 wr (w.heap.size + 1) u0 u1 u2 u3 u4 u5) := by
  rw [htk] at hr
  subst hj
  have h1 : RowD wr (fun b => w.heap.size + 1 + 1 ≤ b ∧ b < wr.heap.size) kids cs := hr.mono (fun b h => ⟨by have := h.1; omega, h.2.1⟩) _ _
  have h2 := h1.own ho hlen (fun b hb' => ⟨by have := (ho.lt b hb').1; omega, (ho.lt b hb').2⟩)
  refine ⟨_, rfl, (h2.keep (fun b h => heap_put6 (by have := h.1; omega) _ _ _ _ _ _)).mono (fun b h => ⟨by have := h.1; omega, by rw [size_put6]; exact h.2⟩), below_put6 hb (by omega) _ _ _ _ _ _⟩
section
variable {kids : Fr}
set_option maxHeartbeats 8000000 in
set_option maxRecDepth 100000 in
theorem twinR_step (hk : AllTw kids) : TwinR kids := by
  intro w hi k t r v l kv x D hx hh hD hlen hsm hs
  obtain ⟨A, cap, rfl, s1, s2, s3⟩ := hs
  have S3 := Lib.hid s3
  have HK := Lib.hid hk
  have HSM := Lib.hid hsm
  clear s3 hk hsm
  have a0 := cell_new w #[.int .i64 k, .int .i64 t, .int .i64 r, .string ⟨l.toArray⟩, .int .i64 v, .slice A kids.len cap] 26 (0, 0)
  have n0 := a0 0
  have n1 := a0 1
  have n2 := a0 2
  have n3 := a0 3
  have n4 := a0 4
  clear a0
  by_cases hd : D = 0
  · have i1 : x ≤ 0 := by omega
    have HN := Lib.hid (show kids = .nil by
      subst hd
      match kids, HSM.out with
      | .nil, _ => rfl
      | .cons _ _ _ _ _ _ _, h => exact absurd h.1 (by omega))
    go_enter Tryz.func24, Tryz.ntmps24
    go_wp2_with fail
    refine ret_nodeE rfl (b := w.heap.size + 1) ((blk_new1 _ _ _ _).alloc _) rfl rfl ?_
    have e := HN.out
    subst e
    exact ⟨_, rfl, SlS.nil _ _, three_b _ _ _ _⟩
  have i1 : decide (x ≤ 0) = false := by simp; omega
  obtain ⟨d, rfl⟩ : ∃ d, D = d + 1 := ⟨D - 1, by omega⟩
  have hwr : IntKind.i64.wrap (x - 1) = x - 1 := by rw [IntKind.wrap_i64]; omega
  have HXX := Lib.hid (show x - 1 = (d : Int) by omega)
  clear hx
  go_enter Tryz.func24, Tryz.ntmps24
  go_wp2_with fail
  clear n0 n1 n2 n3 n4
  go_loopw [6] (fun i wr => ∃ j : Nat, j ≤ kids.len ∧ i = .int .i64 j ∧ TwInv w k t r l v (.slice A kids.len cap) kids wr j) (fun i _ => kids.len - (intOf i).toNat)
  case atStart => exact ⟨0, Nat.zero_le _, rfl, none, 0, [], ((Blk.new _ _ _).alloc _).alloc _, (blk_new1 _ _ _ _).alloc _, blk_new2 _ _ _ _ _, World.ownsRow_nil _ _ _ _, rfl, three_b _ _ _ _⟩
  case round =>
    obtain ⟨j, hj, rfl, Av, cv, cs, h0, hz, hm, ho, hr, hb⟩ := hrel
    have HN0 := Lib.hid h0
    have HZ := Lib.hid hz
    have HM := Lib.hid hm
    have HOW := Lib.hid ho
    have HROW := Lib.hid hr
    have HBEL := Lib.hid hb
    have hzr : w.heap.size + 1 ≤ wr.heap.size := by have := hm.lt; omega
    have hzr3 : w.heap.size + 3 ≤ wr.heap.size := by have := hm.lt; omega
    have n5 := h0.cell 5
    clear h0 hz hm ho hr hb
    by_cases hlt : j < kids.len
    · obtain ⟨b, o, rfl, hb, hrow⟩ := S3.out (by omega)
      obtain ⟨k', t', r', l', v', kids', rest', hdr⟩ := kids.drop_lt j hlt
      have hrow' := RowAt.keep (w' := wr) (fun b o hb => HBEL.out.cell (p := ⟨b, o, none⟩) (show b < w.heap.size by omega)) kids b o hb hrow
      have hat := RowAt.at_ kids b o j hrow'
      rw [hdr] at hat
      obtain ⟨kv', q0, q1, q2, q3, q4, q5, hl', hsl'⟩ := hat.head
      obtain ⟨A', cap', rfl, hsl''⟩ := hsl'
      have HSLD := Lib.hid ((show SlAt wr hi (.slice A' kids'.len cap') kids' from ⟨A', cap', rfl, hsl''⟩).below (by omega) ((Below.refl _ _).drew))
      have HC := Lib.hid (AllTw.at_ kids j HK.out hdr)
      have HNX := Lib.hid (kids.drop_next j hdr)
      obtain ⟨_, hs1, hs2⟩ := HSM.out.at_ kids j hdr
      rw [Nat.add_sub_cancel] at hs2
      have HS2 := Lib.hid hs2
      have HDR := Lib.hid hdr
      have SS : Hid (∀ y, Below (w.heap.size + 1) wr y → (fun y : World => y.cell? ⟨w.heap.size, 5, none⟩ = some (.slice (some ⟨b, o, none⟩) kids.len cap) ∧ y.cell? ⟨b, o + j * 6, none⟩ = some (.int .i64 k') ∧ y.cell? ⟨b, o + j * 6 + 1, none⟩ = some (.int .i64 t') ∧ y.cell? ⟨b, o + j * 6 + 2, none⟩ = some (.int .i64 r') ∧ y.cell? ⟨b, o + j * 6 + 3, none⟩ = some (.string ⟨l'.toArray⟩) ∧ y.cell? ⟨b, o + j * 6 + 4, none⟩ = some (.int .i64 v') ∧ y.cell? ⟨b, o + j * 6 + 5, none⟩ = some (.slice A' kids'.len cap')) y) := Lib.hid (fun y hy => ⟨(HN0.out.below hy (by omega)).cell 5, (hy.cell (p := ⟨b, o + j * 6, none⟩) (by dsimp only; omega)).trans q0, (hy.cell (p := ⟨b, o + j * 6 + 1, none⟩) (by dsimp only; omega)).trans q1, (hy.cell (p := ⟨b, o + j * 6 + 2, none⟩) (by dsimp only; omega)).trans q2, (hy.cell (p := ⟨b, o + j * 6 + 3, none⟩) (by dsimp only; omega)).trans q3, (hy.cell (p := ⟨b, o + j * 6 + 4, none⟩) (by dsimp only; omega)).trans q4, (hy.cell (p := ⟨b, o + j * 6 + 5, none⟩) (by dsimp only; omega)).trans q5⟩)
      clear hrow hrow' hat hsl'' hdr hs2 q0 q1 q2 q3 q4 q5
      go_wp2_with fail
      have m5 := HM.out.cell 5
      refine wp_region_held_drew (S := (fun y : World => y.cell? ⟨w.heap.size, 5, none⟩ = some (.slice (some ⟨b, o, none⟩) kids.len cap) ∧ y.cell? ⟨b, o + j * 6, none⟩ = some (.int .i64 k') ∧ y.cell? ⟨b, o + j * 6 + 1, none⟩ = some (.int .i64 t') ∧ y.cell? ⟨b, o + j * 6 + 2, none⟩ = some (.int .i64 r') ∧ y.cell? ⟨b, o + j * 6 + 3, none⟩ = some (.string ⟨l'.toArray⟩) ∧ y.cell? ⟨b, o + j * 6 + 4, none⟩ = some (.int .i64 v') ∧ y.cell? ⟨b, o + j * 6 + 5, none⟩ = some (.slice A' kids'.len cap'))) (by kernel_rfl) (SS.out _ (below_of_drew2 wr)) (fun hHeld => ?_)
      refine wpAnyH_take (i := 2) (v := ?_) rfl (by kernel_rfl) (by kernel_rfl) (by kernel_rfl) (fun _ _ _ h => h) (Or.inl ⟨by rfl, ?_⟩) (by assumption) ?_
      rotate_left
      · intro x' hSx
        try dsimp only at hSx
        go_simp
        try with_reducible rfl
      try simp only [Act.put, List.setIfInBounds_toArray]
      refine wpAnyH_take (i := 3) (v := ?_) rfl (by kernel_rfl) (by kernel_rfl) (by kernel_rfl) (fun _ _ _ h => h) (Or.inl ⟨by rfl, ?_⟩) (by assumption) ?_
      rotate_left
      · intro x' hSx
        try dsimp only at hSx
        go_simp
        try with_reducible rfl
      try simp only [Act.put]
      refine wpAnyH_take (i := 4) (v := ?_) rfl (by kernel_rfl) (by kernel_rfl) (by kernel_rfl) (fun _ _ _ h => h) (Or.inl ⟨by rfl, ?_⟩) (by assumption) ?_
      rotate_left
      · intro x' hSx
        try dsimp only at hSx
        go_simp
        try with_reducible rfl
      try simp only [Act.put]
      refine wpAnyH_take (i := 5) (v := ?_) rfl (by kernel_rfl) (by kernel_rfl) (by kernel_rfl) (fun _ _ _ h => h) (Or.inl ⟨by rfl, ?_⟩) (by assumption) ?_
      rotate_left
      · intro x' hSx
        try dsimp only at hSx
        go_simp
        try with_reducible rfl
      try simp only [Act.put]
      refine wpAnyH_take (i := 6) (v := ?_) rfl (by kernel_rfl) (by kernel_rfl) (by kernel_rfl) (fun _ _ _ h => h) (Or.inl ⟨by rfl, ?_⟩) (by assumption) ?_
      rotate_left
      · intro x' hSx
        try dsimp only at hSx
        go_simp
        try with_reducible rfl
      try simp only [Act.put]
      refine wpAnyH_take (i := 7) (v := ?_) rfl (by kernel_rfl) (by kernel_rfl) (by kernel_rfl) (fun _ _ _ h => h) (Or.inl ⟨by rfl, ?_⟩) (by assumption) ?_
      rotate_left
      · intro x' hSx
        try dsimp only at hSx
        go_simp
        try with_reducible rfl
      try simp only [Act.put]
      refine wpAnyH_take (i := 8) (v := ?_) rfl (by kernel_rfl) (by kernel_rfl) (by kernel_rfl) (fun _ _ _ h => h) (Or.inl ⟨by rfl, ?_⟩) (by assumption) ?_
      rotate_left
      · intro x' hSx
        try dsimp only at hSx
        go_simp
        try with_reducible rfl
      try simp only [Act.put]
      refine wpAnyH_take (i := 0) (v := ?_) rfl (by kernel_rfl) (by kernel_rfl) (by kernel_rfl) (fun _ _ _ h => h) (Or.inl ⟨by rfl, ?_⟩) (by assumption) ?_
      rotate_left
      · intro x' hSx
        try dsimp only at hSx
        go_simp
        try with_reducible rfl
      try simp only [Act.put]
      refine wpAnyH_ready (rs := [1, 9]) (by kernel_rfl) (by simp) ?_
      refine AllReadyH.cons rfl (fun K hK => ?_) (AllReadyH.cons rfl (fun K hK => ?_) (AllReadyH.nil))
      · go_simp
        refine hK.out _ _ (SS.out _ (below_of_drew2 wr)) (fun _ => ?_)
        clear hK K
        try simp only [Act.put, List.setIfInBounds_toArray, List.set_cons_zero, List.set_cons_succ]
        refine wpAnyH_ready (rs := [9]) (by kernel_rfl) (by simp) ?_
        refine AllReadyH.cons rfl (fun K hK => ?_) AllReadyH.nil
        go_simp
        go_at_call 24
        refine (HC.out _ hi _ _ _ _ _ _ _ d HXX.out (by simp only [size_drew']; omega) (by omega) hs1 HS2.out HSLD.out).mono ?_
        rintro e x2 ⟨kv2, rfl, hsx, hbx⟩
        obtain ⟨A2, cp2, rfl⟩ : ∃ A cap, kv2 = .slice A kids'.len cap := by obtain ⟨A, cap, e, _⟩ := hsx; exact ⟨A, cap, e⟩
        have HSX := Lib.hid hsx
        have HBX := Lib.hid (below_of_drew hbx)
        have hz2 := HBX.out.size
        clear hsx hbx
        refine hK.out _ _ (SS.out _ (HBX.out.mono hzr)) (fun _ => ?_)
        clear hK K
        try simp only [Act.put, List.setIfInBounds_toArray, List.set_cons_zero, List.set_cons_succ]
        refine wpAnyH_ready (rs := [10]) (by kernel_rfl) (by simp) ?_
        refine AllReadyH.cons rfl (fun K hK => ?_) AllReadyH.nil
        go_simp
        refine hK.out _ _ (SS.out _ ((HBX.out.mono hzr).trans ((alloc_b x2 _).mono (by omega)))) (fun _ => ?_)
        clear hK K
        try simp only [Act.put, List.setIfInBounds_toArray, List.set_cons_zero, List.set_cons_succ]
        have hown2 := Lib.hid (own_keep HOW.out (w' := x2) (fun b hb => HBX.out.block b (HOW.out.lt b hb).2))
        have hx2 : Below (w.heap.size + 1) wr x2 := HBX.out.mono hzr
        refine wpAnyH_ready (rs := [11]) (by kernel_rfl) (by simp) ?_
        refine AllReadyH.cons rfl (fun K hK => ?_) AllReadyH.nil
        rw [if_pos (by kernel_rfl)]
        refine app_wp2 x2 _ _ _ 24 26 rfl _ 6 72 Tryz.underlying24 infoNode rfl (by decide) (nodeCs ⟨k', t', r', l', v', kids'⟩ (.slice A2 kids'.len cp2)) rfl (ndCs_one _ _ HSX.out.one) (w.heap.size + 3) _ _ _ rfl rfl (alloc_b x2 _) (fun jj u hj => by show (x2.alloc (.cells (nodeCs ⟨k', t', r', l', v', kids'⟩ (.slice A2 kids'.len cp2)).toArray 26 (0, 0))).cell? _ = _; rw [cell_new]; simpa using hj) hown2.out (by omega) (by omega) (by omega) ?_
        intro v9 w2 hown9 hg9 hwh9
        obtain ⟨Av1, cv1, rfl⟩ := own_shp hown9
        have HO9 := Lib.hid hown9
        have HG9 := Lib.hid hg9
        have HWH := Lib.hid hwh9
        have hz9 := hg9.below.size
        clear hown9 hg9 hwh9
        have HW9 := Lib.hid (show Below (w.heap.size + 1) wr w2 from hx2.trans (HG9.out.below.mono (by omega)))
        have HM9 := Lib.hid (show Blk w2 (w.heap.size + 1 + 1) 26 #[.int .i64 k, .int .i64 t, .int .i64 r, .string ⟨l.toArray⟩, .int .i64 v, .slice Av j cv] from (HM.out.go HBX.out).below HG9.out.below (by omega))
        have g5 := HM9.out.cell 5
        have g6 := HM9.out.frozen 5
        refine hK.out _ _ (SS.out _ HW9.out) (fun _ => ?_)
        clear hK K
        try simp only [Act.put, List.setIfInBounds_toArray]
        refine wpAnyH_take (i := 12) (v := ?_) rfl (by kernel_rfl) (by kernel_rfl) (by kernel_rfl) (fun _ _ _ h => h) (Or.inl ⟨by rfl, ?_⟩) (by assumption) ?_
        rotate_left
        · intro x' hSx
          try dsimp only at hSx
          go_simp
          try with_reducible rfl
        try simp only [Act.put]
        refine wpAnyH_ready (rs := [13]) (by kernel_rfl) (by simp) ?_
        refine AllReadyH.cons rfl (fun K hK => ?_) AllReadyH.nil
        go_simp
        refine hK.out _ _ (SS.out _ (HW9.out.setCell (p := ⟨w.heap.size + 1 + 1, 5, none⟩) (by simp) _)) (fun _ => ?_)
        clear hK K
        try simp only [Act.put, List.setIfInBounds_toArray, List.set_cons_zero, List.set_cons_succ]
        refine wpAnyH_done (by kernel_rfl) ?_ _
        go_wp2
        go_roundw
        case rel =>
          exact ⟨j + 1, by omega, by go_num, TwInv.step HN0.out HZ.out HM.out HOW.out HROW.out HBEL.out HBX.out HSX.out hl' HNX.out HO9.out HG9.out j hlt HDR.out rfl HWH.out⟩
        case measure => simp [intOf]; omega
      · go_simp
        go_at_call 24
        refine (HC.out _ hi _ _ _ _ _ _ _ d HXX.out (by simp only [size_drew']; omega) (by omega) hs1 HS2.out HSLD.out).mono ?_
        rintro e x2 ⟨kv2, rfl, hsx, hbx⟩
        obtain ⟨A2, cp2, rfl⟩ : ∃ A cap, kv2 = .slice A kids'.len cap := by obtain ⟨A, cap, e, _⟩ := hsx; exact ⟨A, cap, e⟩
        have HSX := Lib.hid hsx
        have HBX := Lib.hid (below_of_drew hbx)
        have hz2 := HBX.out.size
        clear hsx hbx
        refine hK.out _ _ (SS.out _ (HBX.out.mono hzr)) (fun _ => ?_)
        clear hK K
        try simp only [Act.put, List.setIfInBounds_toArray, List.set_cons_zero, List.set_cons_succ]
        refine wpAnyH_ready (rs := [1, 10]) (by kernel_rfl) (by simp) ?_
        refine AllReadyH.cons rfl (fun K hK => ?_) (AllReadyH.cons rfl (fun K hK => ?_) (AllReadyH.nil))
        · have m5 := (HM.out.go HBX.out).cell 5
          go_simp
          refine hK.out _ _ (SS.out _ (HBX.out.mono hzr)) (fun _ => ?_)
          clear hK K
          try simp only [Act.put, List.setIfInBounds_toArray, List.set_cons_zero, List.set_cons_succ]
          refine wpAnyH_ready (rs := [10]) (by kernel_rfl) (by simp) ?_
          refine AllReadyH.cons rfl (fun K hK => ?_) AllReadyH.nil
          go_simp
          refine hK.out _ _ (SS.out _ ((HBX.out.mono hzr).trans ((alloc_b x2 _).mono (by omega)))) (fun _ => ?_)
          clear hK K
          try simp only [Act.put, List.setIfInBounds_toArray, List.set_cons_zero, List.set_cons_succ]
          have hown2 := Lib.hid (own_keep HOW.out (w' := x2) (fun b hb => HBX.out.block b (HOW.out.lt b hb).2))
          have hx2 : Below (w.heap.size + 1) wr x2 := HBX.out.mono hzr
          refine wpAnyH_ready (rs := [11]) (by kernel_rfl) (by simp) ?_
          refine AllReadyH.cons rfl (fun K hK => ?_) AllReadyH.nil
          rw [if_pos (by kernel_rfl)]
          refine app_wp2 x2 _ _ _ 24 26 rfl _ 6 72 Tryz.underlying24 infoNode rfl (by decide) (nodeCs ⟨k', t', r', l', v', kids'⟩ (.slice A2 kids'.len cp2)) rfl (ndCs_one _ _ HSX.out.one) (w.heap.size + 3) _ _ _ rfl rfl (alloc_b x2 _) (fun jj u hj => by show (x2.alloc (.cells (nodeCs ⟨k', t', r', l', v', kids'⟩ (.slice A2 kids'.len cp2)).toArray 26 (0, 0))).cell? _ = _; rw [cell_new]; simpa using hj) hown2.out (by omega) (by omega) (by omega) ?_
          intro v9 w2 hown9 hg9 hwh9
          obtain ⟨Av1, cv1, rfl⟩ := own_shp hown9
          have HO9 := Lib.hid hown9
          have HG9 := Lib.hid hg9
          have HWH := Lib.hid hwh9
          have hz9 := hg9.below.size
          clear hown9 hg9 hwh9
          have HW9 := Lib.hid (show Below (w.heap.size + 1) wr w2 from hx2.trans (HG9.out.below.mono (by omega)))
          have HM9 := Lib.hid (show Blk w2 (w.heap.size + 1 + 1) 26 #[.int .i64 k, .int .i64 t, .int .i64 r, .string ⟨l.toArray⟩, .int .i64 v, .slice Av j cv] from (HM.out.go HBX.out).below HG9.out.below (by omega))
          have g5 := HM9.out.cell 5
          have g6 := HM9.out.frozen 5
          refine hK.out _ _ (SS.out _ HW9.out) (fun _ => ?_)
          clear hK K
          try simp only [Act.put, List.setIfInBounds_toArray]
          refine wpAnyH_take (i := 12) (v := ?_) rfl (by kernel_rfl) (by kernel_rfl) (by kernel_rfl) (fun _ _ _ h => h) (Or.inl ⟨by rfl, ?_⟩) (by assumption) ?_
          rotate_left
          · intro x' hSx
            try dsimp only at hSx
            go_simp
            try with_reducible rfl
          try simp only [Act.put]
          refine wpAnyH_ready (rs := [13]) (by kernel_rfl) (by simp) ?_
          refine AllReadyH.cons rfl (fun K hK => ?_) AllReadyH.nil
          go_simp
          refine hK.out _ _ (SS.out _ (HW9.out.setCell (p := ⟨w.heap.size + 1 + 1, 5, none⟩) (by simp) _)) (fun _ => ?_)
          clear hK K
          try simp only [Act.put, List.setIfInBounds_toArray, List.set_cons_zero, List.set_cons_succ]
          refine wpAnyH_done (by kernel_rfl) ?_ _
          go_wp2
          go_roundw
          case rel =>
            exact ⟨j + 1, by omega, by go_num, TwInv.step HN0.out HZ.out HM.out HOW.out HROW.out HBEL.out HBX.out HSX.out hl' HNX.out HO9.out HG9.out j hlt HDR.out rfl HWH.out⟩
          case measure => simp [intOf]; omega
        · go_simp
          refine hK.out _ _ (SS.out _ ((HBX.out.mono hzr).trans ((alloc_b x2 _).mono (by omega)))) (fun _ => ?_)
          clear hK K
          try simp only [Act.put, List.setIfInBounds_toArray, List.set_cons_zero, List.set_cons_succ]
          refine wpAnyH_ready (rs := [1]) (by kernel_rfl) (by simp) ?_
          refine AllReadyH.cons rfl (fun K hK => ?_) AllReadyH.nil
          have m5 := ((HM.out.go HBX.out).alloc (.cells #[.int .i64 k', .int .i64 t', .int .i64 r', .string ⟨l'.toArray⟩, .int .i64 v', .slice A2 kids'.len cp2] 26 (0, 0))).cell 5
          go_simp
          refine hK.out _ _ (SS.out _ ((HBX.out.mono hzr).trans ((alloc_b x2 _).mono (by omega)))) (fun _ => ?_)
          clear hK K
          try simp only [Act.put, List.setIfInBounds_toArray, List.set_cons_zero, List.set_cons_succ]
          have hown2 := Lib.hid (own_keep HOW.out (w' := x2) (fun b hb => HBX.out.block b (HOW.out.lt b hb).2))
          have hx2 : Below (w.heap.size + 1) wr x2 := HBX.out.mono hzr
          refine wpAnyH_ready (rs := [11]) (by kernel_rfl) (by simp) ?_
          refine AllReadyH.cons rfl (fun K hK => ?_) AllReadyH.nil
          rw [if_pos (by kernel_rfl)]
          refine app_wp2 x2 _ _ _ 24 26 rfl _ 6 72 Tryz.underlying24 infoNode rfl (by decide) (nodeCs ⟨k', t', r', l', v', kids'⟩ (.slice A2 kids'.len cp2)) rfl (ndCs_one _ _ HSX.out.one) (w.heap.size + 3) _ _ _ rfl rfl (alloc_b x2 _) (fun jj u hj => by show (x2.alloc (.cells (nodeCs ⟨k', t', r', l', v', kids'⟩ (.slice A2 kids'.len cp2)).toArray 26 (0, 0))).cell? _ = _; rw [cell_new]; simpa using hj) hown2.out (by omega) (by omega) (by omega) ?_
          intro v9 w2 hown9 hg9 hwh9
          obtain ⟨Av1, cv1, rfl⟩ := own_shp hown9
          have HO9 := Lib.hid hown9
          have HG9 := Lib.hid hg9
          have HWH := Lib.hid hwh9
          have hz9 := hg9.below.size
          clear hown9 hg9 hwh9
          have HW9 := Lib.hid (show Below (w.heap.size + 1) wr w2 from hx2.trans (HG9.out.below.mono (by omega)))
          have HM9 := Lib.hid (show Blk w2 (w.heap.size + 1 + 1) 26 #[.int .i64 k, .int .i64 t, .int .i64 r, .string ⟨l.toArray⟩, .int .i64 v, .slice Av j cv] from (HM.out.go HBX.out).below HG9.out.below (by omega))
          have g5 := HM9.out.cell 5
          have g6 := HM9.out.frozen 5
          refine hK.out _ _ (SS.out _ HW9.out) (fun _ => ?_)
          clear hK K
          try simp only [Act.put, List.setIfInBounds_toArray]
          refine wpAnyH_take (i := 12) (v := ?_) rfl (by kernel_rfl) (by kernel_rfl) (by kernel_rfl) (fun _ _ _ h => h) (Or.inl ⟨by rfl, ?_⟩) (by assumption) ?_
          rotate_left
          · intro x' hSx
            try dsimp only at hSx
            go_simp
            try with_reducible rfl
          try simp only [Act.put]
          refine wpAnyH_ready (rs := [13]) (by kernel_rfl) (by simp) ?_
          refine AllReadyH.cons rfl (fun K hK => ?_) AllReadyH.nil
          go_simp
          refine hK.out _ _ (SS.out _ (HW9.out.setCell (p := ⟨w.heap.size + 1 + 1, 5, none⟩) (by simp) _)) (fun _ => ?_)
          clear hK K
          try simp only [Act.put, List.setIfInBounds_toArray, List.set_cons_zero, List.set_cons_succ]
          refine wpAnyH_done (by kernel_rfl) ?_ _
          go_wp2
          go_roundw
          case rel =>
            exact ⟨j + 1, by omega, by go_num, TwInv.step HN0.out HZ.out HM.out HOW.out HROW.out HBEL.out HBX.out HSX.out hl' HNX.out HO9.out HG9.out j hlt HDR.out rfl HWH.out⟩
          case measure => simp [intOf]; omega
    · obtain rfl : j = kids.len := by omega
      have HTK := Lib.hid (kids.take_all kids.len (Nat.le_refl _))
      have m0 := HM.out.cell 0
      have m1 := HM.out.cell 1
      have m2 := HM.out.cell 2
      have m3 := HM.out.cell 3
      have m4 := HM.out.cell 4
      have m5 := HM.out.cell 5
      have z0 : wr.cell? ⟨w.heap.size + 1, 0, none⟩ = some (.int .i64 0) := HZ.out.cell 0
      have z1 : wr.cell? ⟨w.heap.size + 1, 1, none⟩ = some (.int .i64 0) := HZ.out.cell 1
      have z2 : wr.cell? ⟨w.heap.size + 1, 2, none⟩ = some (.int .i64 0) := HZ.out.cell 2
      have z3 : wr.cell? ⟨w.heap.size + 1, 3, none⟩ = some (.string ⟨#[]⟩) := HZ.out.cell 3
      have z4 : wr.cell? ⟨w.heap.size + 1, 4, none⟩ = some (.int .i64 0) := HZ.out.cell 4
      have z5 : wr.cell? ⟨w.heap.size + 1, 5, none⟩ = some (.slice none 0 0) := HZ.out.cell 5
      have y0 := HZ.out.frozen 0
      have y1 := HZ.out.frozen 1
      have y2 := HZ.out.frozen 2
      have y3 := HZ.out.frozen 3
      have y4 := HZ.out.frozen 4
      have y5 := HZ.out.frozen 5
      go_wp2_with fail
      refine ret_nodeE rfl (blk_put6 HZ.out rfl _ _ _ _ _ _) rfl rfl ?_
      exact TwInv.done HTK.out HOW.out HROW.out HBEL.out HM.out.lt hlen rfl _ _ _ _ _ _
theorem allTw : ∀ f, AllTw f
  | .nil => trivial
  | .cons _ _ _ _ _ kids rest => ⟨twinR_step (allTw kids), allTw rest⟩
theorem twinR : TwinR kids := twinR_step (allTw kids)
end
end Go.Proofs.YtmlnibjnacfanaaGreatDoor
