/- Layer 8: the reference's list, walked. -/
import Derived.Test.YtmlnibjnacfanaaGreatDoorTe
namespace Go.Proofs.YtmlnibjnacfanaaGreatDoor
open Go.RowKit

/-- What a node's reading answers: any node where it went wrong. -/
def NdPost (w : World) (g : Nat) (a : Int) (s : ByteArray) (L0 : List Tok) (res : Rs Nd) (e : Ending) (w' : World) : Prop :=
  ∃ (n : Nd) (v : Value), e = .returned v ∧ NV w n w' v ∧ Only g w w' ∧ match res with
    | .ok m L => n = m ∧ RdR w' g a s L (-1) ∧ L.length ≤ L0.length
    | .bad p => BadR w' g p
/-- What a function that reads a node does. -/
def OneQ (fid : Nat) (args : Array Value) (one : List Tok → Rs Nd) (g : Nat) (a : Int) (s : ByteArray) (N : Nat) : Prop :=
  ∀ (w : World) (L : List Tok), RdR w g a s L (-1) → Env w → L.length < N → Calls Tryz.prog fid args w (NdPost w g a s L (one L))
theorem app_oneX {P : Program} {ops : Array Oper} {rest : List Oper} {o : Oper} {a : Act} {Q : Exit → Act → World → Prop} (W : World)
    (hg : o.guard = none) (s x : Operand) (T E : TypeId) (hop : o.op = Op.call { callee := Callee.builtin Builtin.append, args := #[s, x], argTypes := #[T, T] })
    (z : Value) (size bytes : Nat) (h1 : P.underlying T = some (.slice E)) (hinfo : (P.info? E).map (fun i => (i.zero, i.size, i.bytes)) = some (some z, size, bytes)) (h6 : z.cells.size = size) (h7 : 0 < size)
    (news : List Value) (hn : news.length = size) (hone : ∀ u ∈ news, u.oneCell' = true) (B n : Nat) (xs : List Value) (v : Value) (hs : a.eval s = v) (hx : a.eval x = .slice (some ⟨W.heap.size, 0, none⟩) 1 1)
    (hown : W.ownsRow B E size v n xs) (b1 : n + 1 ≤ 1152921504606846976) (b2 : (n + 1) * bytes ≤ 140737488355328) (hB : B ≤ W.heap.size)
    (hK : ∀ v' w1, w1.ownsRow B E size v' (n + 1) (xs ++ news) → Grew W w1 B v → (∀ b, v'.ownBlock = some b → v.ownBlock = some b ∨ W.heap.size ≤ b) → wpList P ops Q rest (a.put o.dst v') w1) :
    wpList P ops Q (o :: rest) a (W.alloc (.cells news.toArray E (0, 0))) :=
  wpList_plain hg fun _ hK' => app_wp2 W _ s x T E hop z size bytes h1 hinfo h6 h7 news hn hone B n xs v hs hx (alloc_b _ _) (fun j u hj => by rw [cell_new]; simpa using hj) hown b1 b2 hB fun v' w1 a1 a2 a3 => hK' _ _ (hK v' w1 a1 a2 a3)
theorem heap_cellQ {w w' : World} {b : Nat} (h : w'.heap[b]? = w.heap[b]?) (o : Nat) : w'.cell? ⟨b, o, none⟩ = w.cell? ⟨b, o, none⟩ := by
  unfold World.cell?
  simp only [h]
theorem RdR.heap {w w' : World} {g : Nat} {a : Int} {s : ByteArray} {L : List Tok} {bd : Int} (h : RdR w g a s L bd) (he : w'.heap[g]? = w.heap[g]?) : RdR w' g a s L bd := ⟨he.trans h.blk, h.nle, h.nxt, h.txt, h.size⟩
theorem BadR.heap {w w' : World} {g p : Nat} (h : BadR w g p) (he : w'.heap[g]? = w.heap[g]?) : BadR w' g p := (heap_cellQ he _).trans h
theorem own_someQ {w : World} {B : Nat} {t : TypeId} {z n c : Nat} {A : Option Addr} {cs : List Value} (h : w.ownsRow B t z (.slice A (n + 1) c) (n + 1) cs) : ∃ g, A = some ⟨g, 0, none⟩ := by
  rcases h.2 with ⟨e, h0⟩ | ⟨g, cap', cur, e, _⟩
  · omega
  · simp only [Value.slice.injEq, true_and] at e
    exact ⟨g, e.1⟩
def lenR (w : World) (g : Nat) (s : ByteArray) : Nat := match w.cell? ⟨g, 2, none⟩, w.cell? ⟨g, 5, none⟩ with
  | some (.int _ k), some (.int _ n) => (if k = 0 then 0 else 1) + (toks n.toNat (s.data.toList.drop n.toNat)).length
  | _, _ => 0
theorem kind_zero {x : List UInt8} (h : x ≠ []) : kindT x ≠ 0 := by
  cases x with
  | nil => exact absurd rfl h
  | cons c r =>
    show (if letterB c then (1 : Int) else if digitB c || (c == 45 && !r.isEmpty) then 2 else 3) ≠ 0
    split
    · decide
    · split <;> decide
theorem RdR.lenR {w : World} {g : Nat} {a : Int} {s : ByteArray} {L : List Tok} {bd : Int} (h : RdR w g a s L bd) : lenR w g s = L.length := by
  have c2 : w.cell? ⟨g, 2, none⟩ = some (.int .i64 (kindT (hd L))) := h.blk.cell 2
  have c5 : w.cell? ⟨g, 5, none⟩ = some (.int .i64 (nx s.size L)) := h.blk.cell 5
  have hn := h.nxt
  unfold Go.Proofs.YtmlnibjnacfanaaGreatDoor.lenR
  rw [c2, c5]
  simp only [Int.toNat_natCast, hn]
  cases L with
  | nil => simp [hd, kindT]
  | cons t r =>
    have := kind_zero (h.txt t (List.mem_cons_self ..)).1
    rw [if_neg (show ¬ kindT (hd (t :: r)) = 0 from this)]
    simp only [List.tail_cons, List.length_cons]
    omega
def SetL (w W : World) (v : Value) (b : Nat) : Prop := w.heap.size + 1 ≤ b ∧ b < W.heap.size ∧ v.ownBlock ≠ some b
theorem only_below {g B : Nat} {w x y : World} (h : Only g w x) (hb : Below B x y) (hB : w.heap.size ≤ B) : Only g w y :=
  ⟨hb.os.trans h.os, hb.tape.trans h.tape, hb.output.trans h.output, Nat.le_trans h.size hb.size, fun i hi hne => (hb.block i (by omega)).trans (h.block i hi hne)⟩
theorem only_put6 {w W : World} {g b : Nat} (h : Only g w W) (hb : w.heap.size ≤ b) (u0 u1 u2 u3 u4 u5 : Value) : Only g w (put6 W b u0 u1 u2 u3 u4 u5) :=
  only_setCell (only_setCell (only_setCell (only_setCell (only_setCell (only_setCell h (p := ⟨b, 0, none⟩) (.inr hb) u0) (p := ⟨b, 1, none⟩) (.inr hb) u1) (p := ⟨b, 2, none⟩) (.inr hb) u2) (p := ⟨b, 3, none⟩) (.inr hb) u3) (p := ⟨b, 4, none⟩) (.inr hb) u4) (p := ⟨b, 5, none⟩) (.inr hb) u5
section
variable {w wr w2 w4 : World} {g : Nat} {v v' kv : Value} {acc : List Nd} {n : Nd} {cells : List Value}
theorem ls_grow {o : Obj} {u0 u1 u2 u3 u4 u5 : Value} (hown : wr.ownsRow (w.heap.size + 1) 26 6 v acc.length cells) (hfr : FrC wr (SetL w wr v) (frOf acc) cells) (hor : Only g w wr) (hbk : Blk wr w.heap.size 26 zeroNode)
    (hE : Env w) (hg : 6 ≤ g) (hgl : g < w.heap.size) (ho : Only g (wr.alloc o) w2) (hkc : KidC w2 (fun b => (wr.alloc o).heap.size ≤ b ∧ b < w2.heap.size) kv n.kids) (hnl : n.l.length ≤ 262144)
    (hg4 : Grew (put6 w2 wr.heap.size u0 u1 u2 u3 u4 u5) w4 (w.heap.size + 1) v) (hw4 : ∀ b, v'.ownBlock = some b → v.ownBlock = some b ∨ (put6 w2 wr.heap.size u0 u1 u2 u3 u4 u5).heap.size ≤ b) :
    FrC w4 (SetL w w4 v') (frOf (acc ++ [n])) (cells ++ nodeCs n kv) ∧ Only g w w4 ∧ Blk w4 w.heap.size 26 zeroNode ∧ Env w4 ∧ w4.heap[g]? = w2.heap[g]? ∧ w2.heap.size ≤ w4.heap.size := by
  have hsz : (wr.alloc o).heap.size = wr.heap.size + 1 := by simp
  have hz2 := ho.size
  have hz4 := hg4.below.size
  rw [size_put6] at hz4
  rw [hsz] at hz2
  have hzr := hor.size
  have hzb := hbk.lt
  have hol : ∀ b, v.ownBlock = some b → w.heap.size + 1 ≤ b ∧ b < wr.heap.size := fun b hb => hown.lt b hb
  have hk : ∀ b, b < w2.heap.size → b ≠ wr.heap.size → v.ownBlock ≠ some b → w4.heap[b]? = w2.heap[b]? := fun b h1 h2 h3 => (hg4.keep b (by rw [size_put6]; exact h1) h3).trans (heap_put6 h2 _ _ _ _ _ _)
  have hk0 : ∀ b, b < wr.heap.size → b ≠ g → w2.heap[b]? = wr.heap[b]? := fun b h1 h2 => (ho.block b (by omega) (fun e => h2 (by injection e))).trans (Below.heap_alloc wr _ b h1)
  have hnv : ∀ b, b < w2.heap.size → v.ownBlock ≠ some b → v'.ownBlock ≠ some b := fun b h1 h2 e => by
    rcases hw4 b e with h | h
    · exact h2 h
    · rw [size_put6] at h; omega
  have hon : Only g w w4 := only_below (only_put6 (hor.trans ((Only.of_below (alloc_b wr o)).trans ho)) (by omega) _ _ _ _ _ _) hg4.below (by omega)
  have hvg : ∀ b, b < w.heap.size + 1 → v.ownBlock ≠ some b := fun b h e => by have := (hol b e).1; omega
  refine ⟨FrC.snoc hnl ?_ acc cells ?_, hon, ?_, hE.only hon hg, hk g (by omega) (by omega) (hvg g (by omega)), hz4⟩
  · refine (hkc.keep fun b hb => hk b hb.2 (by have := hb.1; omega) (fun e => by have := (hol b e).2; have := hb.1; omega)).mono fun b hb => ⟨by have := hb.1; omega, by have := hb.2; omega, hnv b hb.2 (fun e => by have := (hol b e).2; have := hb.1; omega)⟩
  · refine (FrC.keep (fun b hb => ?_) (frOf acc) cells hfr).mono (fun b hb => ⟨hb.1, by have := hb.2.1; omega, hnv b (by have := hb.2.1; omega) hb.2.2⟩) (frOf acc) cells
    exact (hk b (by have := hb.2.1; omega) (by have := hb.2.1; omega) hb.2.2).trans (hk0 b hb.2.1 (by have := hb.1; omega))
  · exact ((hk _ (by omega) (by omega) (hvg _ (by omega))).trans (hk0 _ hzb (by omega))).trans hbk
theorem ls_fin1 {u0 u1 u2 u3 u4 u5 : Value} (hfr : FrC w4 (SetL w w4 v') (frOf [n]) (nodeCs n kv)) (_hz : w.heap.size < w4.heap.size) : NV w n (put6 w4 w.heap.size u0 u1 u2 u3 u4 u5) (nodeV n.k n.t n.r n.l n.v kv) := by
  obtain ⟨hnl, kv', e, hk⟩ := hfr.one
  have : kv = kv' := by simp [nodeCs] at e; exact e
  subst this
  exact ⟨hnl, kv, rfl, (hk.keep fun b hb => heap_put6 (by have := hb.1; omega) _ _ _ _ _ _).mono fun b hb => ⟨by have := hb.1; omega, by rw [size_put6]; exact hb.2.1⟩⟩
theorem ls_fin2 {kind : Int} {u0 u1 u2 u3 u4 u5 : Value} (ho4 : w4.ownsRow (w.heap.size + 1) 26 6 v' acc.length cells) (hfr : FrC w4 (SetL w w4 v') (frOf acc) cells) (hlen : acc.length ≤ 300000) :
    NV w ⟨kind, 0, 0, [], 0, frOf acc⟩ (put6 w4 w.heap.size u0 u1 u2 u3 u4 u5) (nodeV kind 0 0 [] 0 v') := by
  refine ⟨by simp, v', rfl, cells, ?_, by dsimp only; rw [frOf_len]; exact hlen, fun b hb => ?_, ?_⟩
  · dsimp only
    rw [frOf_len]
    exact own_keep (own_zero ho4) fun b hb => heap_put6 (by have := (ho4.lt b hb).1; omega) _ _ _ _ _ _
  · have := ho4.lt b hb
    exact ⟨by omega, by rw [size_put6]; exact this.2⟩
  · exact (FrC.keep (fun b hb => heap_put6 (by have := hb.1; omega) _ _ _ _ _ _) _ _ hfr).mono (fun b hb => ⟨by have := hb.1; omega, by rw [size_put6]; exact hb.2.1⟩) _ _
end
/-- What holds at the head of list's loop. -/
def LsInv (w : World) (g : Nat) (a : Int) (s : ByteArray) (L0 : List Tok) (one : List Tok → Rs Nd) (sign : List UInt8) (R : Rs (List Nd)) (v : Value) (wr : World) : Prop :=
  ∃ (acc : List Nd) (Lc : List Tok) (f : Nat) (cells : List Value) (Av : Option Addr) (cv : Nat), v = .slice Av acc.length cv ∧ wr.ownsRow (w.heap.size + 1) 26 6 (.slice Av acc.length cv) acc.length cells ∧ FrC wr (SetL w wr (.slice Av acc.length cv)) (frOf acc) cells ∧
    RdR wr g a s Lc (-1) ∧ Only g w wr ∧ Blk wr w.heap.size 26 zeroNode ∧ R = (one Lc).go (fun n L' => rowA one sign f (acc ++ [n]) L') ∧ Lc.length < f ∧ acc.length + Lc.length ≤ L0.length
section
variable {w : World} {g : Nat} {a : Int} {s : ByteArray} {L : List Tok} {one : List Tok → Rs Nd} {N : Nat}
set_option maxHeartbeats 8000000 in
set_option maxRecDepth 100000 in
theorem listQ_and (hone : OneQ 85 #[.pointer (some ⟨g, 0, none⟩)] one g a s N) (h : RdR w g a s L (-1)) (hE : Env w) (hg : 6 ≤ g) (hN : L.length < N) (hN2 : N ≤ 262145) :
    Calls Tryz.prog 50 #[.pointer (some ⟨g, 0, none⟩), .bool false] w (NdPost w g a s L (rowN 4 [47, 92] one N L)) := by
  obtain ⟨R, hR⟩ : ∃ R, (one L).go (fun n L' => rowA one [47, 92] N ([] ++ [n]) L') = R := ⟨_, rfl⟩
  have HRW := Lib.hid (show rowN 4 [47, 92] one N L = R.go fun l L => .ok (rowE 4 l) L by
    rw [← hR, rowN]
    cases one L with
    | bad p => rfl
    | ok n L' => rfl)
  have HR0 := Lib.hid hR
  have HON := Lib.hid hone
  have HE0 := Lib.hid hE
  have hglt := h.lt
  have HST := Lib.hid (show LsInv w g a s L one [47, 92] R (.slice none 0 0) (w.alloc (.cells #[.int .i64 0, .int .i64 0, .int .i64 0, .string ⟨#[]⟩, .int .i64 0, .slice none 0 0] 26 (0, 0))) from ⟨[], L, N, [], none, 0, rfl, World.ownsRow_nil _ _ _ _, rfl, h.below (alloc_b w _), Only.of_below (alloc_b w _), Blk.new w _ _, HR0.out.symm, hN, by simp⟩)
  clear hR hone hE h
  go_enter Tryz.func50, Tryz.ntmps50
  go_wp2_with fail
  go_loopw [5] (fun v wr => LsInv w g a s L one [47, 92] R v wr) (fun _ wr => lenR wr g s)
  case atStart => exact HST.out
  case round =>
    obtain ⟨acc, Lc, f, cells, Av, cv, rfl, hown, hfr, hrd, hor, hbk, hRc, hf, hsum⟩ := hrel
    clear HST
    have HLN := Lib.hid hrd.lenR
    have c6 := hrd.blk.cell 6
    have HD := Lib.hid hrd
    have HO := Lib.hid hor
    have HB := Lib.hid hbk
    have HOW := Lib.hid hown
    have HFR := Lib.hid hfr
    have HRC := Lib.hid hRc
    have hzr := hor.size
    have hzb := hbk.lt
    have HD1 := Lib.hid (hrd.below (alloc_b wr (.cells #[.int .i64 0, .int .i64 0, .int .i64 0, .string ⟨#[]⟩, .int .i64 0, .slice none 0 0] 26 (0, 0))))
    have HE1 := Lib.hid ((HE0.out.only hor hg).mono (alloc_b wr (.cells #[.int .i64 0, .int .i64 0, .int .i64 0, .string ⟨#[]⟩, .int .i64 0, .slice none 0 0] 26 (0, 0))))
    have HN1 := Lib.hid (Blk.new wr 26 zeroNode)
    obtain ⟨r1, hr1⟩ : ∃ r, one Lc = r := ⟨_, rfl⟩
    have HR1 := Lib.hid hr1
    obtain ⟨f', rfl⟩ : ∃ f', f = f' + 1 := ⟨f - 1, by omega⟩
    clear hrd hor hbk hown hfr hRc hr1
    cases r1 with
    | bad p =>
      have HRES := Lib.hid (show rowN 4 [47, 92] one N L = .bad p by rw [HRW.out, HRC.out, HR1.out]; rfl)
      go_wp2_with fail
      refine (HON.out _ Lc HD1.out HE1.out (by omega)).mono ?_
      rw [HR1.out]
      rintro e w2 ⟨n, v2, rfl, ⟨hnl, kv, rfl, hkc⟩, ho, hm⟩
      obtain ⟨Ak, ck, rfl⟩ := hkc.shape
      have hz2 : wr.heap.size + 1 ≤ w2.heap.size := by have := ho.size; simpa using this
      have hN2 := HN1.out.only ho (by omega)
      have z0 : w2.cell? ⟨wr.heap.size, 0, none⟩ = some (Value.int .i64 0) := hN2.cell 0
      have y0 := hN2.frozen 0
      have z1 : w2.cell? ⟨wr.heap.size, 1, none⟩ = some (Value.int .i64 0) := hN2.cell 1
      have y1 := hN2.frozen 1
      have z2 : w2.cell? ⟨wr.heap.size, 2, none⟩ = some (Value.int .i64 0) := hN2.cell 2
      have y2 := hN2.frozen 2
      have z3 : w2.cell? ⟨wr.heap.size, 3, none⟩ = some (Value.string ⟨#[]⟩) := hN2.cell 3
      have y3 := hN2.frozen 3
      have z4 : w2.cell? ⟨wr.heap.size, 4, none⟩ = some (Value.int .i64 0) := hN2.cell 4
      have y4 := hN2.frozen 4
      have z5 : w2.cell? ⟨wr.heap.size, 5, none⟩ = some (Value.slice none 0 0) := hN2.cell 5
      have y5 := hN2.frozen 5
      have HKC := Lib.hid hkc
      have HO2 := Lib.hid ho
      have HM := Lib.hid hm
      have HNL := Lib.hid hnl
      have HOW3 := Lib.hid (own_keep HOW.out (w' := put6 w2 wr.heap.size (.int .i64 n.k) (.int .i64 n.t) (.int .i64 n.r) (.string ⟨n.l.toArray⟩) (.int .i64 n.v) (.slice Ak n.kids.len ck)) (fun b hb => by
        have h9 := HOW.out.lt b hb
        rw [heap_put6 (by omega)]
        exact (ho.block b (by simp; omega) (fun e => by injection e with e; omega)).trans (Below.heap_alloc wr _ b h9.2)))
      clear hkc ho hm hnl hN2 c6
      by_cases h0 : acc.length = 0
      · have HAC0 := Lib.hid (List.eq_nil_of_length_eq_zero h0)
        have HCL := Lib.hid (show cells = [] by have h := HFR.out; rw [HAC0.out] at h; exact h)
        have h1f : ((acc.length : Int) + 1 == 1) = true := by rw [beq_iff_eq]; omega
        clear h0
        go_wp2_with (at_builtin; refine app_oneX (put6 w2 wr.heap.size (.int .i64 n.k) (.int .i64 n.t) (.int .i64 n.r) (.string ⟨n.l.toArray⟩) (.int .i64 n.v) (.slice Ak n.kids.len ck)) rfl _ _ 24 26 rfl _ 6 72 Tryz.underlying24 infoNode rfl (by decide) (nodeCs n (.slice Ak n.kids.len ck)) rfl (ndCs_one _ _ rfl) (w.heap.size + 1) _ _ (.slice Av acc.length cv) (by kernel_rfl) (by rw [size_put6]; kernel_rfl) HOW3.out (by omega) (by omega) (by rw [size_put6]; omega) ?_; intro v' w4 hown' hg' hw'; obtain ⟨Ay, cy, rfl⟩ := own_shp hown'; have HO4 := Lib.hid hown'; obtain ⟨hfr4, hon4, hz4, hE4, hgg, hsz4⟩ := ls_grow HOW.out HFR.out HO.out HB.out HE0.out hg hglt HO2.out HKC.out HNL.out hg' hw'; have HFR4 := Lib.hid hfr4; have HON4 := Lib.hid hon4; have HZ4 := Lib.hid hz4; have z0 : w4.cell? ⟨w.heap.size, 0, none⟩ = some (Value.int .i64 0) := HZ4.out.cell 0; have y0 := HZ4.out.frozen 0; have z1 : w4.cell? ⟨w.heap.size, 1, none⟩ = some (Value.int .i64 0) := HZ4.out.cell 1; have y1 := HZ4.out.frozen 1; have z2 : w4.cell? ⟨w.heap.size, 2, none⟩ = some (Value.int .i64 0) := HZ4.out.cell 2; have y2 := HZ4.out.frozen 2; have z3 : w4.cell? ⟨w.heap.size, 3, none⟩ = some (Value.string ⟨#[]⟩) := HZ4.out.cell 3; have y3 := HZ4.out.frozen 3; have z4 : w4.cell? ⟨w.heap.size, 4, none⟩ = some (Value.int .i64 0) := HZ4.out.cell 4; have y4 := HZ4.out.frozen 4; have z5 : w4.cell? ⟨w.heap.size, 5, none⟩ = some (Value.slice none 0 0) := HZ4.out.cell 5; have y5 := HZ4.out.frozen 5; have hm := HM.out; clear hown' hg' hw' hfr4 hon4 hz4 hE4; have HB4 := Lib.hid (BadR.heap hm hgg); have c6 : w4.cell? ⟨g, 6, none⟩ = some (.int .i64 p) := HB4.out; clear hm hgg; obtain ⟨gy, rfl⟩ := own_someQ HO4.out; have q0 : w4.cell? ⟨gy, 0, none⟩ = some (.int .i64 n.k) := (HO4.out.cellAt 0 (by omega)).trans (by rw [HCL.out]; rfl); have q1 : w4.cell? ⟨gy, 1, none⟩ = some (.int .i64 n.t) := (HO4.out.cellAt 1 (by omega)).trans (by rw [HCL.out]; rfl); have q2 : w4.cell? ⟨gy, 2, none⟩ = some (.int .i64 n.r) := (HO4.out.cellAt 2 (by omega)).trans (by rw [HCL.out]; rfl); have q3 : w4.cell? ⟨gy, 3, none⟩ = some (.string ⟨n.l.toArray⟩) := (HO4.out.cellAt 3 (by omega)).trans (by rw [HCL.out]; rfl); have q4 : w4.cell? ⟨gy, 4, none⟩ = some (.int .i64 n.v) := (HO4.out.cellAt 4 (by omega)).trans (by rw [HCL.out]; rfl); have q5 : w4.cell? ⟨gy, 5, none⟩ = some (.slice Ak n.kids.len ck) := (HO4.out.cellAt 5 (by omega)).trans (by rw [HCL.out]; rfl); have HFR1 := Lib.hid (ls_fin1 (u0 := .int .i64 n.k) (u1 := .int .i64 n.t) (u2 := .int .i64 n.r) (u3 := .string ⟨n.l.toArray⟩) (u4 := .int .i64 n.v) (u5 := .slice Ak n.kids.len ck) (w := w) (n := n) (by have h := HFR4.out; rw [HAC0.out, HCL.out] at h; exact h) HZ4.out.lt))
        refine ret_nodeE rfl (blk_put6 HZ4.out rfl _ _ _ _ _ _) rfl rfl ?_
        rw [HRES.out]
        exact ⟨n, _, rfl, HFR1.out, only_put6 HON4.out (Nat.le_refl _) _ _ _ _ _ _, BadR.heap HB4.out (heap_put6 (by omega) _ _ _ _ _ _)⟩
      · have h1f : ((acc.length : Int) + 1 == 1) = false := beq_eq_false_iff_ne.2 (by omega)
        go_wp2_with (at_builtin; refine app_oneX (put6 w2 wr.heap.size (.int .i64 n.k) (.int .i64 n.t) (.int .i64 n.r) (.string ⟨n.l.toArray⟩) (.int .i64 n.v) (.slice Ak n.kids.len ck)) rfl _ _ 24 26 rfl _ 6 72 Tryz.underlying24 infoNode rfl (by decide) (nodeCs n (.slice Ak n.kids.len ck)) rfl (ndCs_one _ _ rfl) (w.heap.size + 1) _ _ (.slice Av acc.length cv) (by kernel_rfl) (by rw [size_put6]; kernel_rfl) HOW3.out (by omega) (by omega) (by rw [size_put6]; omega) ?_; intro v' w4 hown' hg' hw'; obtain ⟨Ay, cy, rfl⟩ := own_shp hown'; have HO4 := Lib.hid hown'; obtain ⟨hfr4, hon4, hz4, hE4, hgg, hsz4⟩ := ls_grow HOW.out HFR.out HO.out HB.out HE0.out hg hglt HO2.out HKC.out HNL.out hg' hw'; have HFR4 := Lib.hid hfr4; have HON4 := Lib.hid hon4; have HZ4 := Lib.hid hz4; have z0 : w4.cell? ⟨w.heap.size, 0, none⟩ = some (Value.int .i64 0) := HZ4.out.cell 0; have y0 := HZ4.out.frozen 0; have z1 : w4.cell? ⟨w.heap.size, 1, none⟩ = some (Value.int .i64 0) := HZ4.out.cell 1; have y1 := HZ4.out.frozen 1; have z2 : w4.cell? ⟨w.heap.size, 2, none⟩ = some (Value.int .i64 0) := HZ4.out.cell 2; have y2 := HZ4.out.frozen 2; have z3 : w4.cell? ⟨w.heap.size, 3, none⟩ = some (Value.string ⟨#[]⟩) := HZ4.out.cell 3; have y3 := HZ4.out.frozen 3; have z4 : w4.cell? ⟨w.heap.size, 4, none⟩ = some (Value.int .i64 0) := HZ4.out.cell 4; have y4 := HZ4.out.frozen 4; have z5 : w4.cell? ⟨w.heap.size, 5, none⟩ = some (Value.slice none 0 0) := HZ4.out.cell 5; have y5 := HZ4.out.frozen 5; have hm := HM.out; clear hown' hg' hw' hfr4 hon4 hz4 hE4; have HB4 := Lib.hid (BadR.heap hm hgg); have c6 : w4.cell? ⟨g, 6, none⟩ = some (.int .i64 p) := HB4.out; clear hm hgg; have HFR2 := Lib.hid (ls_fin2 (kind := 4) (u0 := .int .i64 4) (u1 := .int .i64 0) (u2 := .int .i64 0) (u3 := .string ⟨#[]⟩) (u4 := .int .i64 0) (u5 := .slice Ay (acc.length + 1) cy) (w := w) (acc := acc ++ [n]) (by rw [List.length_append]; exact HO4.out) HFR4.out (by simp; omega)))
        refine ret_nodeE rfl (blk_put6 HZ4.out rfl _ _ _ _ _ _) rfl rfl ?_
        rw [HRES.out]
        exact ⟨_, _, rfl, HFR2.out, only_put6 HON4.out (Nat.le_refl _) _ _ _ _ _ _, BadR.heap HB4.out (heap_put6 (by omega) _ _ _ _ _ _)⟩
    | ok m L' =>
      go_wp2_with fail
      refine (HON.out _ Lc HD1.out HE1.out (by omega)).mono ?_
      rw [HR1.out]
      rintro e w2 ⟨n, v2, rfl, ⟨hnl, kv, rfl, hkc⟩, ho, hm⟩
      obtain ⟨Ak, ck, rfl⟩ := hkc.shape
      have hz2 : wr.heap.size + 1 ≤ w2.heap.size := by have := ho.size; simpa using this
      have hN2 := HN1.out.only ho (by omega)
      have z0 : w2.cell? ⟨wr.heap.size, 0, none⟩ = some (Value.int .i64 0) := hN2.cell 0
      have y0 := hN2.frozen 0
      have z1 : w2.cell? ⟨wr.heap.size, 1, none⟩ = some (Value.int .i64 0) := hN2.cell 1
      have y1 := hN2.frozen 1
      have z2 : w2.cell? ⟨wr.heap.size, 2, none⟩ = some (Value.int .i64 0) := hN2.cell 2
      have y2 := hN2.frozen 2
      have z3 : w2.cell? ⟨wr.heap.size, 3, none⟩ = some (Value.string ⟨#[]⟩) := hN2.cell 3
      have y3 := hN2.frozen 3
      have z4 : w2.cell? ⟨wr.heap.size, 4, none⟩ = some (Value.int .i64 0) := hN2.cell 4
      have y4 := hN2.frozen 4
      have z5 : w2.cell? ⟨wr.heap.size, 5, none⟩ = some (Value.slice none 0 0) := hN2.cell 5
      have y5 := hN2.frozen 5
      have HKC := Lib.hid hkc
      have HO2 := Lib.hid ho
      have HM := Lib.hid hm
      have HNL := Lib.hid hnl
      have HOW3 := Lib.hid (own_keep HOW.out (w' := put6 w2 wr.heap.size (.int .i64 n.k) (.int .i64 n.t) (.int .i64 n.r) (.string ⟨n.l.toArray⟩) (.int .i64 n.v) (.slice Ak n.kids.len ck)) (fun b hb => by
        have h9 := HOW.out.lt b hb
        rw [heap_put6 (by omega)]
        exact (ho.block b (by simp; omega) (fun e => by injection e with e; omega)).trans (Below.heap_alloc wr _ b h9.2)))
      clear hkc ho hm hnl hN2 c6
      go_wp2_with (at_builtin; refine app_oneX (put6 w2 wr.heap.size (.int .i64 n.k) (.int .i64 n.t) (.int .i64 n.r) (.string ⟨n.l.toArray⟩) (.int .i64 n.v) (.slice Ak n.kids.len ck)) rfl _ _ 24 26 rfl _ 6 72 Tryz.underlying24 infoNode rfl (by decide) (nodeCs n (.slice Ak n.kids.len ck)) rfl (ndCs_one _ _ rfl) (w.heap.size + 1) _ _ (.slice Av acc.length cv) (by kernel_rfl) (by rw [size_put6]; kernel_rfl) HOW3.out (by omega) (by omega) (by rw [size_put6]; omega) ?_; intro v' w4 hown' hg' hw'; obtain ⟨Ay, cy, rfl⟩ := own_shp hown'; have HO4 := Lib.hid hown'; obtain ⟨hfr4, hon4, hz4, hE4, hgg, hsz4⟩ := ls_grow HOW.out HFR.out HO.out HB.out HE0.out hg hglt HO2.out HKC.out HNL.out hg' hw'; have HFR4 := Lib.hid hfr4; have HON4 := Lib.hid hon4; have HZ4 := Lib.hid hz4; have z0 : w4.cell? ⟨w.heap.size, 0, none⟩ = some (Value.int .i64 0) := HZ4.out.cell 0; have y0 := HZ4.out.frozen 0; have z1 : w4.cell? ⟨w.heap.size, 1, none⟩ = some (Value.int .i64 0) := HZ4.out.cell 1; have y1 := HZ4.out.frozen 1; have z2 : w4.cell? ⟨w.heap.size, 2, none⟩ = some (Value.int .i64 0) := HZ4.out.cell 2; have y2 := HZ4.out.frozen 2; have z3 : w4.cell? ⟨w.heap.size, 3, none⟩ = some (Value.string ⟨#[]⟩) := HZ4.out.cell 3; have y3 := HZ4.out.frozen 3; have z4 : w4.cell? ⟨w.heap.size, 4, none⟩ = some (Value.int .i64 0) := HZ4.out.cell 4; have y4 := HZ4.out.frozen 4; have z5 : w4.cell? ⟨w.heap.size, 5, none⟩ = some (Value.slice none 0 0) := HZ4.out.cell 5; have y5 := HZ4.out.frozen 5; have hm := HM.out; clear hown' hg' hw' hfr4 hon4 hz4 hE4; obtain ⟨rfl, hrd2, hll⟩ := hm; have HD4 := Lib.hid (hrd2.heap hgg); have c6 := HD4.out.blk.cell 6; have HLL0 := Lib.hid hll; clear hrd2 hgg)
      have HRA := Lib.hid (show R = rowA one [47, 92] (f' + 1) (acc ++ [n]) L' by rw [HRC.out, HR1.out]; rfl)
      by_cases hsg : hd L' = [47, 92]
      · have HIS := Lib.hid (decide_eq_true hsg)
        have hne : L' ≠ [] := by intro e; rw [e] at hsg; cases hsg
        have hlt9 : L'.tail.length + 1 = L'.length := by cases L' with
          | nil => exact absurd rfl hne
          | cons t r => rfl
        have HRB := Lib.hid (HRA.out.trans (rowA_go hsg))
        clear hsg hne
        go_wp2_with fail
        refine (isR HD4.out [47, 92] 3 rfl).mono ?_
        rw [HIS.out]
        rintro e wn ⟨rfl, rfl⟩
        go_wp2_with fail
        refine (onR HD4.out).mono ?_
        rintro e w5 ⟨rfl, hrd5, ho5⟩
        have HNEW := Lib.hid (show LsInv w g a s L one [47, 92] R (.slice Ay (acc.length + 1) cy) w5 from ⟨acc ++ [n], L'.tail, f', cells ++ nodeCs n (.slice Ak n.kids.len ck), Ay, cy, by simp, by
            rw [List.length_append]
            exact own_keep HO4.out (fun b hb => ho5.block b (HO4.out.lt b hb).2 (fun e => by have := (HO4.out.lt b hb).1; injection e with e; omega)), by
            rw [List.length_append]
            exact (FrC.keep (fun b hb => ho5.block b hb.2.1 (fun e => by have := hb.1; injection e with e; omega)) _ _ HFR4.out).mono (fun b hb => ⟨hb.1, Nat.lt_of_lt_of_le hb.2.1 ho5.size, hb.2.2⟩) _ _, hrd5, HON4.out.trans ho5, HZ4.out.only ho5 (by omega), HRB.out, by omega, by simp; omega⟩)
        have HMS := Lib.hid (show lenR w5 g s < lenR wr g s by rw [hrd5.lenR, HLN.out]; omega)
        clear hrd5 ho5
        go_wp2_with fail
        go_roundw
        case rel => exact HNEW.out
        case measure => exact HMS.out
      · have HIS := Lib.hid (decide_eq_false hsg)
        have HRES := Lib.hid (show rowN 4 [47, 92] one N L = .ok (rowE 4 (acc ++ [n])) L' by rw [HRW.out, HRA.out, rowA_stop hsg]; rfl)
        have HLL := Lib.hid (show L'.length ≤ L.length by omega)
        clear hsg
        by_cases h0 : acc.length = 0
        · have HAC0 := Lib.hid (List.eq_nil_of_length_eq_zero h0)
          have HCL := Lib.hid (show cells = [] by have h := HFR.out; rw [HAC0.out] at h; exact h)
          have h1f : ((acc.length : Int) + 1 == 1) = true := by rw [beq_iff_eq]; omega
          clear h0
          obtain ⟨gy, rfl⟩ := own_someQ HO4.out; have q0 : w4.cell? ⟨gy, 0, none⟩ = some (.int .i64 n.k) := (HO4.out.cellAt 0 (by omega)).trans (by rw [HCL.out]; rfl); have q1 : w4.cell? ⟨gy, 1, none⟩ = some (.int .i64 n.t) := (HO4.out.cellAt 1 (by omega)).trans (by rw [HCL.out]; rfl); have q2 : w4.cell? ⟨gy, 2, none⟩ = some (.int .i64 n.r) := (HO4.out.cellAt 2 (by omega)).trans (by rw [HCL.out]; rfl); have q3 : w4.cell? ⟨gy, 3, none⟩ = some (.string ⟨n.l.toArray⟩) := (HO4.out.cellAt 3 (by omega)).trans (by rw [HCL.out]; rfl); have q4 : w4.cell? ⟨gy, 4, none⟩ = some (.int .i64 n.v) := (HO4.out.cellAt 4 (by omega)).trans (by rw [HCL.out]; rfl); have q5 : w4.cell? ⟨gy, 5, none⟩ = some (.slice Ak n.kids.len ck) := (HO4.out.cellAt 5 (by omega)).trans (by rw [HCL.out]; rfl)
          have HFR1 := Lib.hid (ls_fin1 (u0 := .int .i64 n.k) (u1 := .int .i64 n.t) (u2 := .int .i64 n.r) (u3 := .string ⟨n.l.toArray⟩) (u4 := .int .i64 n.v) (u5 := .slice Ak n.kids.len ck) (w := w) (n := n) (by have h := HFR4.out; rw [HAC0.out, HCL.out] at h; exact h) HZ4.out.lt)
          have HAC := Lib.hid (show rowE 4 (acc ++ [n]) = n by rw [HAC0.out]; rfl)
          go_wp2_with (go_at_call 47; refine (isR HD4.out [47, 92] 3 rfl).mono ?_; rw [HIS.out]; rintro e wn ⟨rfl, rfl⟩)
          refine ret_nodeE rfl (blk_put6 HZ4.out rfl _ _ _ _ _ _) rfl rfl ?_
          rw [HRES.out]
          exact ⟨n, _, rfl, HFR1.out, only_put6 HON4.out (Nat.le_refl _) _ _ _ _ _ _, ⟨HAC.out.symm, RdR.heap HD4.out (heap_put6 (by omega) _ _ _ _ _ _), HLL.out⟩⟩
        · have h1f : ((acc.length : Int) + 1 == 1) = false := beq_eq_false_iff_ne.2 (by omega)
          have HFR2 := Lib.hid (ls_fin2 (kind := 4) (u0 := .int .i64 4) (u1 := .int .i64 0) (u2 := .int .i64 0) (u3 := .string ⟨#[]⟩) (u4 := .int .i64 0) (u5 := .slice Ay (acc.length + 1) cy) (w := w) (acc := acc ++ [n]) (by rw [List.length_append]; exact HO4.out) HFR4.out (by simp; omega))
          have HAC := Lib.hid (show rowE 4 (acc ++ [n]) = ⟨4, 0, 0, [], 0, frOf (acc ++ [n])⟩ from rowE_many (by simp; omega))
          go_wp2_with (go_at_call 47; refine (isR HD4.out [47, 92] 3 rfl).mono ?_; rw [HIS.out]; rintro e wn ⟨rfl, rfl⟩)
          refine ret_nodeE rfl (blk_put6 HZ4.out rfl _ _ _ _ _ _) rfl rfl ?_
          rw [HRES.out]
          exact ⟨_, _, rfl, HFR2.out, only_put6 HON4.out (Nat.le_refl _) _ _ _ _ _ _, ⟨HAC.out.symm, RdR.heap HD4.out (heap_put6 (by omega) _ _ _ _ _ _), HLL.out⟩⟩
set_option maxHeartbeats 8000000 in
set_option maxRecDepth 100000 in
theorem listQ_or (hone : OneQ 50 #[.pointer (some ⟨g, 0, none⟩), .bool false] one g a s N) (h : RdR w g a s L (-1)) (hE : Env w) (hg : 6 ≤ g) (hN : L.length < N) (hN2 : N ≤ 262145) :
    Calls Tryz.prog 50 #[.pointer (some ⟨g, 0, none⟩), .bool true] w (NdPost w g a s L (rowN 5 [92, 47] one N L)) := by
  obtain ⟨R, hR⟩ : ∃ R, (one L).go (fun n L' => rowA one [92, 47] N ([] ++ [n]) L') = R := ⟨_, rfl⟩
  have HRW := Lib.hid (show rowN 5 [92, 47] one N L = R.go fun l L => .ok (rowE 5 l) L by
    rw [← hR, rowN]
    cases one L with
    | bad p => rfl
    | ok n L' => rfl)
  have HR0 := Lib.hid hR
  have HON := Lib.hid hone
  have HE0 := Lib.hid hE
  have hglt := h.lt
  have HST := Lib.hid (show LsInv w g a s L one [92, 47] R (.slice none 0 0) (w.alloc (.cells #[.int .i64 0, .int .i64 0, .int .i64 0, .string ⟨#[]⟩, .int .i64 0, .slice none 0 0] 26 (0, 0))) from ⟨[], L, N, [], none, 0, rfl, World.ownsRow_nil _ _ _ _, rfl, h.below (alloc_b w _), Only.of_below (alloc_b w _), Blk.new w _ _, HR0.out.symm, hN, by simp⟩)
  clear hR hone hE h
  go_enter Tryz.func50, Tryz.ntmps50
  go_wp2_with fail
  go_loopw [5] (fun v wr => LsInv w g a s L one [92, 47] R v wr) (fun _ wr => lenR wr g s)
  case atStart => exact HST.out
  case round =>
    obtain ⟨acc, Lc, f, cells, Av, cv, rfl, hown, hfr, hrd, hor, hbk, hRc, hf, hsum⟩ := hrel
    clear HST
    have HLN := Lib.hid hrd.lenR
    have c6 := hrd.blk.cell 6
    have HD := Lib.hid hrd
    have HO := Lib.hid hor
    have HB := Lib.hid hbk
    have HOW := Lib.hid hown
    have HFR := Lib.hid hfr
    have HRC := Lib.hid hRc
    have hzr := hor.size
    have hzb := hbk.lt
    have HD1 := Lib.hid (hrd.below (alloc_b wr (.cells #[.int .i64 0, .int .i64 0, .int .i64 0, .string ⟨#[]⟩, .int .i64 0, .slice none 0 0] 26 (0, 0))))
    have HE1 := Lib.hid ((HE0.out.only hor hg).mono (alloc_b wr (.cells #[.int .i64 0, .int .i64 0, .int .i64 0, .string ⟨#[]⟩, .int .i64 0, .slice none 0 0] 26 (0, 0))))
    have HN1 := Lib.hid (Blk.new wr 26 zeroNode)
    obtain ⟨r1, hr1⟩ : ∃ r, one Lc = r := ⟨_, rfl⟩
    have HR1 := Lib.hid hr1
    obtain ⟨f', rfl⟩ : ∃ f', f = f' + 1 := ⟨f - 1, by omega⟩
    clear hrd hor hbk hown hfr hRc hr1
    cases r1 with
    | bad p =>
      have HRES := Lib.hid (show rowN 5 [92, 47] one N L = .bad p by rw [HRW.out, HRC.out, HR1.out]; rfl)
      go_wp2_with fail
      refine (HON.out _ Lc HD1.out HE1.out (by omega)).mono ?_
      rw [HR1.out]
      rintro e w2 ⟨n, v2, rfl, ⟨hnl, kv, rfl, hkc⟩, ho, hm⟩
      obtain ⟨Ak, ck, rfl⟩ := hkc.shape
      have hz2 : wr.heap.size + 1 ≤ w2.heap.size := by have := ho.size; simpa using this
      have hN2 := HN1.out.only ho (by omega)
      have z0 : w2.cell? ⟨wr.heap.size, 0, none⟩ = some (Value.int .i64 0) := hN2.cell 0
      have y0 := hN2.frozen 0
      have z1 : w2.cell? ⟨wr.heap.size, 1, none⟩ = some (Value.int .i64 0) := hN2.cell 1
      have y1 := hN2.frozen 1
      have z2 : w2.cell? ⟨wr.heap.size, 2, none⟩ = some (Value.int .i64 0) := hN2.cell 2
      have y2 := hN2.frozen 2
      have z3 : w2.cell? ⟨wr.heap.size, 3, none⟩ = some (Value.string ⟨#[]⟩) := hN2.cell 3
      have y3 := hN2.frozen 3
      have z4 : w2.cell? ⟨wr.heap.size, 4, none⟩ = some (Value.int .i64 0) := hN2.cell 4
      have y4 := hN2.frozen 4
      have z5 : w2.cell? ⟨wr.heap.size, 5, none⟩ = some (Value.slice none 0 0) := hN2.cell 5
      have y5 := hN2.frozen 5
      have HKC := Lib.hid hkc
      have HO2 := Lib.hid ho
      have HM := Lib.hid hm
      have HNL := Lib.hid hnl
      have HOW3 := Lib.hid (own_keep HOW.out (w' := put6 w2 wr.heap.size (.int .i64 n.k) (.int .i64 n.t) (.int .i64 n.r) (.string ⟨n.l.toArray⟩) (.int .i64 n.v) (.slice Ak n.kids.len ck)) (fun b hb => by
        have h9 := HOW.out.lt b hb
        rw [heap_put6 (by omega)]
        exact (ho.block b (by simp; omega) (fun e => by injection e with e; omega)).trans (Below.heap_alloc wr _ b h9.2)))
      clear hkc ho hm hnl hN2 c6
      by_cases h0 : acc.length = 0
      · have HAC0 := Lib.hid (List.eq_nil_of_length_eq_zero h0)
        have HCL := Lib.hid (show cells = [] by have h := HFR.out; rw [HAC0.out] at h; exact h)
        have h1f : ((acc.length : Int) + 1 == 1) = true := by rw [beq_iff_eq]; omega
        clear h0
        go_wp2_with (at_builtin; refine app_oneX (put6 w2 wr.heap.size (.int .i64 n.k) (.int .i64 n.t) (.int .i64 n.r) (.string ⟨n.l.toArray⟩) (.int .i64 n.v) (.slice Ak n.kids.len ck)) rfl _ _ 24 26 rfl _ 6 72 Tryz.underlying24 infoNode rfl (by decide) (nodeCs n (.slice Ak n.kids.len ck)) rfl (ndCs_one _ _ rfl) (w.heap.size + 1) _ _ (.slice Av acc.length cv) (by kernel_rfl) (by rw [size_put6]; kernel_rfl) HOW3.out (by omega) (by omega) (by rw [size_put6]; omega) ?_; intro v' w4 hown' hg' hw'; obtain ⟨Ay, cy, rfl⟩ := own_shp hown'; have HO4 := Lib.hid hown'; obtain ⟨hfr4, hon4, hz4, hE4, hgg, hsz4⟩ := ls_grow HOW.out HFR.out HO.out HB.out HE0.out hg hglt HO2.out HKC.out HNL.out hg' hw'; have HFR4 := Lib.hid hfr4; have HON4 := Lib.hid hon4; have HZ4 := Lib.hid hz4; have z0 : w4.cell? ⟨w.heap.size, 0, none⟩ = some (Value.int .i64 0) := HZ4.out.cell 0; have y0 := HZ4.out.frozen 0; have z1 : w4.cell? ⟨w.heap.size, 1, none⟩ = some (Value.int .i64 0) := HZ4.out.cell 1; have y1 := HZ4.out.frozen 1; have z2 : w4.cell? ⟨w.heap.size, 2, none⟩ = some (Value.int .i64 0) := HZ4.out.cell 2; have y2 := HZ4.out.frozen 2; have z3 : w4.cell? ⟨w.heap.size, 3, none⟩ = some (Value.string ⟨#[]⟩) := HZ4.out.cell 3; have y3 := HZ4.out.frozen 3; have z4 : w4.cell? ⟨w.heap.size, 4, none⟩ = some (Value.int .i64 0) := HZ4.out.cell 4; have y4 := HZ4.out.frozen 4; have z5 : w4.cell? ⟨w.heap.size, 5, none⟩ = some (Value.slice none 0 0) := HZ4.out.cell 5; have y5 := HZ4.out.frozen 5; have hm := HM.out; clear hown' hg' hw' hfr4 hon4 hz4 hE4; have HB4 := Lib.hid (BadR.heap hm hgg); have c6 : w4.cell? ⟨g, 6, none⟩ = some (.int .i64 p) := HB4.out; clear hm hgg; obtain ⟨gy, rfl⟩ := own_someQ HO4.out; have q0 : w4.cell? ⟨gy, 0, none⟩ = some (.int .i64 n.k) := (HO4.out.cellAt 0 (by omega)).trans (by rw [HCL.out]; rfl); have q1 : w4.cell? ⟨gy, 1, none⟩ = some (.int .i64 n.t) := (HO4.out.cellAt 1 (by omega)).trans (by rw [HCL.out]; rfl); have q2 : w4.cell? ⟨gy, 2, none⟩ = some (.int .i64 n.r) := (HO4.out.cellAt 2 (by omega)).trans (by rw [HCL.out]; rfl); have q3 : w4.cell? ⟨gy, 3, none⟩ = some (.string ⟨n.l.toArray⟩) := (HO4.out.cellAt 3 (by omega)).trans (by rw [HCL.out]; rfl); have q4 : w4.cell? ⟨gy, 4, none⟩ = some (.int .i64 n.v) := (HO4.out.cellAt 4 (by omega)).trans (by rw [HCL.out]; rfl); have q5 : w4.cell? ⟨gy, 5, none⟩ = some (.slice Ak n.kids.len ck) := (HO4.out.cellAt 5 (by omega)).trans (by rw [HCL.out]; rfl); have HFR1 := Lib.hid (ls_fin1 (u0 := .int .i64 n.k) (u1 := .int .i64 n.t) (u2 := .int .i64 n.r) (u3 := .string ⟨n.l.toArray⟩) (u4 := .int .i64 n.v) (u5 := .slice Ak n.kids.len ck) (w := w) (n := n) (by have h := HFR4.out; rw [HAC0.out, HCL.out] at h; exact h) HZ4.out.lt))
        refine ret_nodeE rfl (blk_put6 HZ4.out rfl _ _ _ _ _ _) rfl rfl ?_
        rw [HRES.out]
        exact ⟨n, _, rfl, HFR1.out, only_put6 HON4.out (Nat.le_refl _) _ _ _ _ _ _, BadR.heap HB4.out (heap_put6 (by omega) _ _ _ _ _ _)⟩
      · have h1f : ((acc.length : Int) + 1 == 1) = false := beq_eq_false_iff_ne.2 (by omega)
        go_wp2_with (at_builtin; refine app_oneX (put6 w2 wr.heap.size (.int .i64 n.k) (.int .i64 n.t) (.int .i64 n.r) (.string ⟨n.l.toArray⟩) (.int .i64 n.v) (.slice Ak n.kids.len ck)) rfl _ _ 24 26 rfl _ 6 72 Tryz.underlying24 infoNode rfl (by decide) (nodeCs n (.slice Ak n.kids.len ck)) rfl (ndCs_one _ _ rfl) (w.heap.size + 1) _ _ (.slice Av acc.length cv) (by kernel_rfl) (by rw [size_put6]; kernel_rfl) HOW3.out (by omega) (by omega) (by rw [size_put6]; omega) ?_; intro v' w4 hown' hg' hw'; obtain ⟨Ay, cy, rfl⟩ := own_shp hown'; have HO4 := Lib.hid hown'; obtain ⟨hfr4, hon4, hz4, hE4, hgg, hsz4⟩ := ls_grow HOW.out HFR.out HO.out HB.out HE0.out hg hglt HO2.out HKC.out HNL.out hg' hw'; have HFR4 := Lib.hid hfr4; have HON4 := Lib.hid hon4; have HZ4 := Lib.hid hz4; have z0 : w4.cell? ⟨w.heap.size, 0, none⟩ = some (Value.int .i64 0) := HZ4.out.cell 0; have y0 := HZ4.out.frozen 0; have z1 : w4.cell? ⟨w.heap.size, 1, none⟩ = some (Value.int .i64 0) := HZ4.out.cell 1; have y1 := HZ4.out.frozen 1; have z2 : w4.cell? ⟨w.heap.size, 2, none⟩ = some (Value.int .i64 0) := HZ4.out.cell 2; have y2 := HZ4.out.frozen 2; have z3 : w4.cell? ⟨w.heap.size, 3, none⟩ = some (Value.string ⟨#[]⟩) := HZ4.out.cell 3; have y3 := HZ4.out.frozen 3; have z4 : w4.cell? ⟨w.heap.size, 4, none⟩ = some (Value.int .i64 0) := HZ4.out.cell 4; have y4 := HZ4.out.frozen 4; have z5 : w4.cell? ⟨w.heap.size, 5, none⟩ = some (Value.slice none 0 0) := HZ4.out.cell 5; have y5 := HZ4.out.frozen 5; have hm := HM.out; clear hown' hg' hw' hfr4 hon4 hz4 hE4; have HB4 := Lib.hid (BadR.heap hm hgg); have c6 : w4.cell? ⟨g, 6, none⟩ = some (.int .i64 p) := HB4.out; clear hm hgg; have HFR2 := Lib.hid (ls_fin2 (kind := 5) (u0 := .int .i64 5) (u1 := .int .i64 0) (u2 := .int .i64 0) (u3 := .string ⟨#[]⟩) (u4 := .int .i64 0) (u5 := .slice Ay (acc.length + 1) cy) (w := w) (acc := acc ++ [n]) (by rw [List.length_append]; exact HO4.out) HFR4.out (by simp; omega)))
        refine ret_nodeE rfl (blk_put6 HZ4.out rfl _ _ _ _ _ _) rfl rfl ?_
        rw [HRES.out]
        exact ⟨_, _, rfl, HFR2.out, only_put6 HON4.out (Nat.le_refl _) _ _ _ _ _ _, BadR.heap HB4.out (heap_put6 (by omega) _ _ _ _ _ _)⟩
    | ok m L' =>
      go_wp2_with fail
      refine (HON.out _ Lc HD1.out HE1.out (by omega)).mono ?_
      rw [HR1.out]
      rintro e w2 ⟨n, v2, rfl, ⟨hnl, kv, rfl, hkc⟩, ho, hm⟩
      obtain ⟨Ak, ck, rfl⟩ := hkc.shape
      have hz2 : wr.heap.size + 1 ≤ w2.heap.size := by have := ho.size; simpa using this
      have hN2 := HN1.out.only ho (by omega)
      have z0 : w2.cell? ⟨wr.heap.size, 0, none⟩ = some (Value.int .i64 0) := hN2.cell 0
      have y0 := hN2.frozen 0
      have z1 : w2.cell? ⟨wr.heap.size, 1, none⟩ = some (Value.int .i64 0) := hN2.cell 1
      have y1 := hN2.frozen 1
      have z2 : w2.cell? ⟨wr.heap.size, 2, none⟩ = some (Value.int .i64 0) := hN2.cell 2
      have y2 := hN2.frozen 2
      have z3 : w2.cell? ⟨wr.heap.size, 3, none⟩ = some (Value.string ⟨#[]⟩) := hN2.cell 3
      have y3 := hN2.frozen 3
      have z4 : w2.cell? ⟨wr.heap.size, 4, none⟩ = some (Value.int .i64 0) := hN2.cell 4
      have y4 := hN2.frozen 4
      have z5 : w2.cell? ⟨wr.heap.size, 5, none⟩ = some (Value.slice none 0 0) := hN2.cell 5
      have y5 := hN2.frozen 5
      have HKC := Lib.hid hkc
      have HO2 := Lib.hid ho
      have HM := Lib.hid hm
      have HNL := Lib.hid hnl
      have HOW3 := Lib.hid (own_keep HOW.out (w' := put6 w2 wr.heap.size (.int .i64 n.k) (.int .i64 n.t) (.int .i64 n.r) (.string ⟨n.l.toArray⟩) (.int .i64 n.v) (.slice Ak n.kids.len ck)) (fun b hb => by
        have h9 := HOW.out.lt b hb
        rw [heap_put6 (by omega)]
        exact (ho.block b (by simp; omega) (fun e => by injection e with e; omega)).trans (Below.heap_alloc wr _ b h9.2)))
      clear hkc ho hm hnl hN2 c6
      go_wp2_with (at_builtin; refine app_oneX (put6 w2 wr.heap.size (.int .i64 n.k) (.int .i64 n.t) (.int .i64 n.r) (.string ⟨n.l.toArray⟩) (.int .i64 n.v) (.slice Ak n.kids.len ck)) rfl _ _ 24 26 rfl _ 6 72 Tryz.underlying24 infoNode rfl (by decide) (nodeCs n (.slice Ak n.kids.len ck)) rfl (ndCs_one _ _ rfl) (w.heap.size + 1) _ _ (.slice Av acc.length cv) (by kernel_rfl) (by rw [size_put6]; kernel_rfl) HOW3.out (by omega) (by omega) (by rw [size_put6]; omega) ?_; intro v' w4 hown' hg' hw'; obtain ⟨Ay, cy, rfl⟩ := own_shp hown'; have HO4 := Lib.hid hown'; obtain ⟨hfr4, hon4, hz4, hE4, hgg, hsz4⟩ := ls_grow HOW.out HFR.out HO.out HB.out HE0.out hg hglt HO2.out HKC.out HNL.out hg' hw'; have HFR4 := Lib.hid hfr4; have HON4 := Lib.hid hon4; have HZ4 := Lib.hid hz4; have z0 : w4.cell? ⟨w.heap.size, 0, none⟩ = some (Value.int .i64 0) := HZ4.out.cell 0; have y0 := HZ4.out.frozen 0; have z1 : w4.cell? ⟨w.heap.size, 1, none⟩ = some (Value.int .i64 0) := HZ4.out.cell 1; have y1 := HZ4.out.frozen 1; have z2 : w4.cell? ⟨w.heap.size, 2, none⟩ = some (Value.int .i64 0) := HZ4.out.cell 2; have y2 := HZ4.out.frozen 2; have z3 : w4.cell? ⟨w.heap.size, 3, none⟩ = some (Value.string ⟨#[]⟩) := HZ4.out.cell 3; have y3 := HZ4.out.frozen 3; have z4 : w4.cell? ⟨w.heap.size, 4, none⟩ = some (Value.int .i64 0) := HZ4.out.cell 4; have y4 := HZ4.out.frozen 4; have z5 : w4.cell? ⟨w.heap.size, 5, none⟩ = some (Value.slice none 0 0) := HZ4.out.cell 5; have y5 := HZ4.out.frozen 5; have hm := HM.out; clear hown' hg' hw' hfr4 hon4 hz4 hE4; obtain ⟨rfl, hrd2, hll⟩ := hm; have HD4 := Lib.hid (hrd2.heap hgg); have c6 := HD4.out.blk.cell 6; have HLL0 := Lib.hid hll; clear hrd2 hgg)
      have HRA := Lib.hid (show R = rowA one [92, 47] (f' + 1) (acc ++ [n]) L' by rw [HRC.out, HR1.out]; rfl)
      by_cases hsg : hd L' = [92, 47]
      · have HIS := Lib.hid (decide_eq_true hsg)
        have hne : L' ≠ [] := by intro e; rw [e] at hsg; cases hsg
        have hlt9 : L'.tail.length + 1 = L'.length := by cases L' with
          | nil => exact absurd rfl hne
          | cons t r => rfl
        have HRB := Lib.hid (HRA.out.trans (rowA_go hsg))
        clear hsg hne
        go_wp2_with fail
        refine (isR HD4.out [92, 47] 3 rfl).mono ?_
        rw [HIS.out]
        rintro e wn ⟨rfl, rfl⟩
        go_wp2_with fail
        refine (onR HD4.out).mono ?_
        rintro e w5 ⟨rfl, hrd5, ho5⟩
        have HNEW := Lib.hid (show LsInv w g a s L one [92, 47] R (.slice Ay (acc.length + 1) cy) w5 from ⟨acc ++ [n], L'.tail, f', cells ++ nodeCs n (.slice Ak n.kids.len ck), Ay, cy, by simp, by
            rw [List.length_append]
            exact own_keep HO4.out (fun b hb => ho5.block b (HO4.out.lt b hb).2 (fun e => by have := (HO4.out.lt b hb).1; injection e with e; omega)), by
            rw [List.length_append]
            exact (FrC.keep (fun b hb => ho5.block b hb.2.1 (fun e => by have := hb.1; injection e with e; omega)) _ _ HFR4.out).mono (fun b hb => ⟨hb.1, Nat.lt_of_lt_of_le hb.2.1 ho5.size, hb.2.2⟩) _ _, hrd5, HON4.out.trans ho5, HZ4.out.only ho5 (by omega), HRB.out, by omega, by simp; omega⟩)
        have HMS := Lib.hid (show lenR w5 g s < lenR wr g s by rw [hrd5.lenR, HLN.out]; omega)
        clear hrd5 ho5
        go_wp2_with fail
        go_roundw
        case rel => exact HNEW.out
        case measure => exact HMS.out
      · have HIS := Lib.hid (decide_eq_false hsg)
        have HRES := Lib.hid (show rowN 5 [92, 47] one N L = .ok (rowE 5 (acc ++ [n])) L' by rw [HRW.out, HRA.out, rowA_stop hsg]; rfl)
        have HLL := Lib.hid (show L'.length ≤ L.length by omega)
        clear hsg
        by_cases h0 : acc.length = 0
        · have HAC0 := Lib.hid (List.eq_nil_of_length_eq_zero h0)
          have HCL := Lib.hid (show cells = [] by have h := HFR.out; rw [HAC0.out] at h; exact h)
          have h1f : ((acc.length : Int) + 1 == 1) = true := by rw [beq_iff_eq]; omega
          clear h0
          obtain ⟨gy, rfl⟩ := own_someQ HO4.out; have q0 : w4.cell? ⟨gy, 0, none⟩ = some (.int .i64 n.k) := (HO4.out.cellAt 0 (by omega)).trans (by rw [HCL.out]; rfl); have q1 : w4.cell? ⟨gy, 1, none⟩ = some (.int .i64 n.t) := (HO4.out.cellAt 1 (by omega)).trans (by rw [HCL.out]; rfl); have q2 : w4.cell? ⟨gy, 2, none⟩ = some (.int .i64 n.r) := (HO4.out.cellAt 2 (by omega)).trans (by rw [HCL.out]; rfl); have q3 : w4.cell? ⟨gy, 3, none⟩ = some (.string ⟨n.l.toArray⟩) := (HO4.out.cellAt 3 (by omega)).trans (by rw [HCL.out]; rfl); have q4 : w4.cell? ⟨gy, 4, none⟩ = some (.int .i64 n.v) := (HO4.out.cellAt 4 (by omega)).trans (by rw [HCL.out]; rfl); have q5 : w4.cell? ⟨gy, 5, none⟩ = some (.slice Ak n.kids.len ck) := (HO4.out.cellAt 5 (by omega)).trans (by rw [HCL.out]; rfl)
          have HFR1 := Lib.hid (ls_fin1 (u0 := .int .i64 n.k) (u1 := .int .i64 n.t) (u2 := .int .i64 n.r) (u3 := .string ⟨n.l.toArray⟩) (u4 := .int .i64 n.v) (u5 := .slice Ak n.kids.len ck) (w := w) (n := n) (by have h := HFR4.out; rw [HAC0.out, HCL.out] at h; exact h) HZ4.out.lt)
          have HAC := Lib.hid (show rowE 5 (acc ++ [n]) = n by rw [HAC0.out]; rfl)
          go_wp2_with (go_at_call 47; refine (isR HD4.out [92, 47] 3 rfl).mono ?_; rw [HIS.out]; rintro e wn ⟨rfl, rfl⟩)
          refine ret_nodeE rfl (blk_put6 HZ4.out rfl _ _ _ _ _ _) rfl rfl ?_
          rw [HRES.out]
          exact ⟨n, _, rfl, HFR1.out, only_put6 HON4.out (Nat.le_refl _) _ _ _ _ _ _, ⟨HAC.out.symm, RdR.heap HD4.out (heap_put6 (by omega) _ _ _ _ _ _), HLL.out⟩⟩
        · have h1f : ((acc.length : Int) + 1 == 1) = false := beq_eq_false_iff_ne.2 (by omega)
          have HFR2 := Lib.hid (ls_fin2 (kind := 5) (u0 := .int .i64 5) (u1 := .int .i64 0) (u2 := .int .i64 0) (u3 := .string ⟨#[]⟩) (u4 := .int .i64 0) (u5 := .slice Ay (acc.length + 1) cy) (w := w) (acc := acc ++ [n]) (by rw [List.length_append]; exact HO4.out) HFR4.out (by simp; omega))
          have HAC := Lib.hid (show rowE 5 (acc ++ [n]) = ⟨5, 0, 0, [], 0, frOf (acc ++ [n])⟩ from rowE_many (by simp; omega))
          go_wp2_with (go_at_call 47; refine (isR HD4.out [92, 47] 3 rfl).mono ?_; rw [HIS.out]; rintro e wn ⟨rfl, rfl⟩)
          refine ret_nodeE rfl (blk_put6 HZ4.out rfl _ _ _ _ _ _) rfl rfl ?_
          rw [HRES.out]
          exact ⟨_, _, rfl, HFR2.out, only_put6 HON4.out (Nat.le_refl _) _ _ _ _ _ _, ⟨HAC.out.symm, RdR.heap HD4.out (heap_put6 (by omega) _ _ _ _ _ _), HLL.out⟩⟩
end
end Go.Proofs.YtmlnibjnacfanaaGreatDoor
