/- Layer 8: the reference's not, walked. -/
import Derived.Test.YtmlnibjnacfanaaGreatDoorTf
namespace Go.Proofs.YtmlnibjnacfanaaGreatDoor
open Go.RowKit

theorem tail_le {α : Type} (l : List α) : l.tail.length ≤ l.length := by cases l <;> simp
theorem tail_lt {L : List Tok} {t : List UInt8} (h : hd L = t) (ht : t ≠ []) : L.tail.length + 1 = L.length := by
  cases L with
  | nil => exact absurd h.symm ht
  | cons x r => rfl
theorem num_kind {x : List UInt8} {v : Int} (h : numT x = some v) : kindT x = 2 := by
  cases x with
  | nil => cases h
  | cons c r =>
    rw [numT] at h
    by_cases h10 : 10 < r.length
    · rw [if_pos h10] at h; cases h
    rw [if_neg h10] at h
    by_cases hc : c = 45
    · rw [if_pos hc] at h
      subst hc
      cases r with
      | nil => rw [if_pos (.inl rfl)] at h; cases h
      | cons d r' => simp [kindT, letterB, digitB]
    rw [if_neg hc] at h
    by_cases h48 : c = 48 ∧ r ≠ []
    · rw [if_pos h48] at h; cases h
    rw [if_neg h48] at h
    by_cases ha : (c :: r).all digitB = true
    · rw [List.all_cons, Bool.and_eq_true] at ha
      obtain ⟨_, hl, _⟩ := digit_not ha.1
      simp [kindT, hl, ha.1]
    · rw [if_neg ha] at h; cases h
theorem pLoc_le {e : Nat} {L L' : List Tok} {x : List UInt8} (h : pLoc e L = .ok x L') : L'.length ≤ L.length := by
  unfold pLoc at h
  split at h
  · cases h; exact tail_le L
  · cases h
theorem pTake_le {e : Nat} {t : List UInt8} {L L' : List Tok} {x : Unit} (h : pTake e t L = .ok x L') : L'.length ≤ L.length := by
  unfold pTake at h
  split at h
  · cases h; exact tail_le L
  · cases h
theorem pInt_le {e : Nat} {lo hi : Int} {L L' : List Tok} {x : Int} (h : pInt e lo hi L = .ok x L') : L'.length ≤ L.length := by
  unfold pInt at h
  split at h
  · cases h; exact tail_le L
  · cases h
theorem pReg_le {e : Nat} {a : Int} {L L' : List Tok} {x : Nat} (h : pReg e a L = .ok x L') : L'.length ≤ L.length := by
  unfold pReg at h
  split at h
  · cases h; exact tail_le L
  · cases h
theorem pThing_le {e : Nat} {a : Int} {L L' : List Tok} {x : Int × Int × List UInt8} (h : pThing e a L = .ok x L') : L'.length ≤ L.length := by
  unfold pThing at h
  split at h
  · obtain ⟨x1, L1, h1, h2⟩ := Rs.go_eq h
    obtain ⟨x2, L2, h3, h4⟩ := Rs.go_eq h2
    cases h4
    have := pLoc_le h1
    have := pTake_le h3
    have := tail_le L
    omega
  · split at h
    · obtain ⟨x1, L1, h1, h2⟩ := Rs.go_eq h
      obtain ⟨x2, L2, h3, h4⟩ := Rs.go_eq h2
      obtain ⟨x3, L3, h5, h6⟩ := Rs.go_eq h4
      cases h6
      have := pInt_le h1
      have := pTake_le h3
      have := pReg_le h5
      omega
    · obtain ⟨x1, L1, h1, h2⟩ := Rs.go_eq h
      cases h2
      exact pLoc_le h1
theorem BadR.below {w w' : World} {g p : Nat} (h : BadR w g p) (hb : Below w.heap.size w w') : BadR w' g p := cell_go h hb
theorem ret_nodeF {fn : Func} (hfn : fn.results = #[.cell 2 26]) {a : Act} {W : World} {R : Ending → World → Prop} {b : Nat} {k t r v : Int} {l : List UInt8} {kv : Value}
    (hB : Blk W b 26 #[.int .i64 k, .int .i64 t, .int .i64 r, .string ⟨l.toArray⟩, .int .i64 v, kv]) (h2 : a.tmps[2]? = some (.pointer (some ⟨b, 0, none⟩))) (hd : a.defers = [])
    (hR : R (.returned (nodeV k t r l v kv)) W) : bodyPost Tryz.prog fn R .ret a W := by
  have a0 : W.cell? ⟨b, 0, none⟩ = some (.int .i64 k) := hB.cell 0
  have a1 : W.cell? ⟨b, 1, none⟩ = some (.int .i64 t) := hB.cell 1
  have a2 : W.cell? ⟨b, 2, none⟩ = some (.int .i64 r) := hB.cell 2
  have a3 : W.cell? ⟨b, 3, none⟩ = some (.string ⟨l.toArray⟩) := hB.cell 3
  have a4 : W.cell? ⟨b, 4, none⟩ = some (.int .i64 v) := hB.cell 4
  have a5 : W.cell? ⟨b, 5, none⟩ = some kv := hB.cell 5
  exact bodyPost_ret (by simp [results, hfn, h2, go_sem, a0, a1, a2, a3, a4, a5]) hd hR
theorem nv_nil {w W : World} (k t r : Int) (l : List UInt8) (v : Int) (hl : l.length ≤ 262144) : NV w ⟨k, t, r, l, v, .nil⟩ W (nodeV k t r l v (.slice none 0 0)) := ⟨hl, _, rfl, KidC.nil _ _⟩
theorem nv_same {w W : World} {n : Nd} {kv : Value} {hi : Nat} (hk : KidC W (fun b => w.heap.size + 1 ≤ b ∧ b < hi) kv n.kids) (hl : n.l.length ≤ 262144) (hh : hi ≤ W.heap.size) (u0 u1 u2 u3 u4 u5 : Value) :
    NV w n (put6 W w.heap.size u0 u1 u2 u3 u4 u5) (nodeV n.k n.t n.r n.l n.v kv) :=
  ⟨hl, kv, rfl, (hk.keep fun b hb => heap_put6 (by have := hb.1; omega) _ _ _ _ _ _).mono fun b hb => ⟨by have := hb.1; omega, by rw [size_put6]; have := hb.2; omega⟩⟩
theorem nv_neg {w wn : World} {n : Nd} {kv : Value} {o : Obj} (hk : KidC wn (fun b => w.heap.size + 1 ≤ b ∧ b < wn.heap.size) kv n.kids) (hl : n.l.length ≤ 262144) (hz : w.heap.size + 2 ≤ wn.heap.size) (u0 u1 u2 u3 u4 u5 : Value) :
    NV w ⟨3, 0, 0, [], 0, n.on .nil⟩ (put6 ((wn.alloc o).alloc (.cells (nodeCs n kv).toArray 26 (0, 0))) w.heap.size u0 u1 u2 u3 u4 u5) (nodeV 3 0 0 [] 0 (.slice (some ⟨wn.heap.size + 1, 0, none⟩) 1 1)) := by
  have hsz : (wn.alloc o).heap.size = wn.heap.size + 1 := by simp
  have how := World.ownsRow_lit (base := w.heap.size + 1) (e := 26) (size := 6) (wn.alloc o) (nodeCs n kv).toArray 1 (by omega) (by decide) rfl
  rw [hsz] at how
  refine ⟨by simp, _, rfl, nodeCs n kv, ?_, by simp [Nd.on, Fr.len], fun b hb => ?_, ?_⟩
  · exact own_keep (own_zero how) fun b hb => heap_put6 (by have := (how.lt b hb).1; omega) _ _ _ _ _ _
  · have := how.lt b hb
    exact ⟨by omega, by rw [size_put6]; exact this.2⟩
  · have h1 : FrC ((wn.alloc o).alloc (.cells (nodeCs n kv).toArray 26 (0, 0))) (fun b => w.heap.size + 1 ≤ b ∧ b < wn.heap.size) (frOf ([] ++ [n])) ([] ++ nodeCs n kv) :=
      FrC.snoc hl (hk.keep fun b hb => (Below.heap_alloc _ _ b (by rw [hsz]; have := hb.2; omega)).trans (Below.heap_alloc wn o b hb.2)) [] [] rfl
    exact (FrC.keep (fun b hb => heap_put6 (by have := hb.1; omega) _ _ _ _ _ _) _ _ h1).mono (fun b hb => ⟨by have := hb.1; omega, by rw [size_put6]; have := hb.2; simp; omega⟩) _ _
section
variable {g : Nat} {a : Int} {s : ByteArray} {f : Nat}
set_option maxHeartbeats 8000000 in
set_option maxRecDepth 100000 in
theorem notQ_step (hf : f + 1 ≤ 262145) (ha : archB a = true) (hg : 6 ≤ g) (hone : OneQ 85 #[.pointer (some ⟨g, 0, none⟩)] (pNot s.size a f) g a s f) :
    OneQ 85 #[.pointer (some ⟨g, 0, none⟩)] (pNot s.size a (f + 1)) g a s (f + 1) := by
  intro w L h hE hN
  have hglt := h.lt
  have hwA := below_alloc (alloc_b w (.cells #[.int .i64 0, .int .i64 0, .int .i64 0, .string ⟨#[]⟩, .int .i64 0, .slice none 0 0] 26 (0, 0))) (.cells #[.int .i64 0, .int .i64 0, .int .i64 0, .string ⟨#[]⟩, .int .i64 0, .slice none 0 0] 26 (0, 0))
  have HD := Lib.hid (h.below hwA)
  have HE := Lib.hid (hE.mono hwA)
  have HO := Lib.hid (Only.of_below (g := g) hwA)
  have HZ := Lib.hid (show w.heap.size + 2 ≤ ((w.alloc (.cells #[.int .i64 0, .int .i64 0, .int .i64 0, .string ⟨#[]⟩, .int .i64 0, .slice none 0 0] 26 (0, 0))).alloc (.cells #[.int .i64 0, .int .i64 0, .int .i64 0, .string ⟨#[]⟩, .int .i64 0, .slice none 0 0] 26 (0, 0))).heap.size by simp)
  have B2 := Lib.hid ((Blk.new w 26 zeroNode).alloc (.cells #[.int .i64 0, .int .i64 0, .int .i64 0, .string ⟨#[]⟩, .int .i64 0, .slice none 0 0] 26 (0, 0)))
  have B3 := Lib.hid (blk_new1 w (.cells #[.int .i64 0, .int .i64 0, .int .i64 0, .string ⟨#[]⟩, .int .i64 0, .slice none 0 0] 26 (0, 0)) 26 zeroNode)
  have HON := Lib.hid hone
  clear h hE hwA hone
  have c0 := HD.out.blk.cell 0
  have c1 := HD.out.blk.cell 1
  have c2 := HD.out.blk.cell 2
  have c3 := HD.out.blk.cell 3
  have c5 := HD.out.blk.cell 5
  have c6 := HD.out.blk.cell 6
  by_cases h126 : hd L = [126]
  · have hlt9 := tail_lt h126 (by simp)
    have hp1 : pNot s.size a (f + 1) L = (pNot s.size a f L.tail).go fun n L' => .ok ⟨3, 0, 0, [], 0, n.on .nil⟩ L' := by rw [pNot, if_pos h126]
    have H1 := Lib.hid (decide_eq_true h126)
    obtain ⟨r1, hr1⟩ : ∃ r, pNot s.size a f L.tail = r := ⟨_, rfl⟩
    have HR1 := Lib.hid hr1
    rw [hr1] at hp1
    clear hr1 h126
    cases r1 with
    | bad p =>
      have HR := Lib.hid (show pNot s.size a (f + 1) L = .bad p from hp1)
      clear hp1
      go_enter Tryz.func85, Tryz.ntmps85
      go_wp2_with fail
      refine (isR HD.out [126] 3 rfl).mono ?_
      rw [H1.out]
      rintro e wn ⟨rfl, rfl⟩
      go_wp2_with fail
      refine (onR HD.out).mono ?_
      rintro e wn ⟨rfl, hrd, ho⟩
      have HD := Lib.hid hrd
      have HE := Lib.hid (HE.out.only ho hg)
      have B2 := Lib.hid (B2.out.only ho (by omega))
      have B3 := Lib.hid (B3.out.only ho (by omega))
      have HO := Lib.hid (HO.out.trans ho)
      have HZ := Lib.hid (Nat.le_trans HZ.out ho.size)
      clear hrd ho
      clear c0 c1 c2 c3 c5 c6
      have c0 := HD.out.blk.cell 0
      have c1 := HD.out.blk.cell 1
      have c2 := HD.out.blk.cell 2
      have c3 := HD.out.blk.cell 3
      have c5 := HD.out.blk.cell 5
      have c6 := HD.out.blk.cell 6
      go_wp2_with fail
      refine (HON.out _ L.tail HD.out HE.out (by omega)).mono ?_
      rw [HR1.out]
      rintro e wn ⟨n, v, rfl, ⟨hnl, kv, rfl, hkc⟩, ho, hm⟩
      obtain ⟨Ak, ck, rfl⟩ := hkc.shape
      have hbd := hm
      have HKC := Lib.hid (hkc.mono (S' := fun b => w.heap.size + 1 ≤ b ∧ b < wn.heap.size) (fun b hb => ⟨by have := HZ.out; have := hb.1; omega, hb.2⟩))
      have HNL := Lib.hid hnl
      have hzn : w.heap.size + 2 ≤ wn.heap.size := Nat.le_trans HZ.out ho.size
      have ho : Only g _ ((wn.alloc (.cells #[.int .i64 n.k, .int .i64 n.t, .int .i64 n.r, .string ⟨n.l.toArray⟩, .int .i64 n.v, .slice Ak n.kids.len ck] 26 (0, 0))).alloc (.cells #[.int .i64 n.k, .int .i64 n.t, .int .i64 n.r, .string ⟨n.l.toArray⟩, .int .i64 n.v, .slice Ak n.kids.len ck] 26 (0, 0))) := ho.trans (Only.of_below (below_alloc (alloc_b wn (.cells #[.int .i64 n.k, .int .i64 n.t, .int .i64 n.r, .string ⟨n.l.toArray⟩, .int .i64 n.v, .slice Ak n.kids.len ck] 26 (0, 0))) (.cells #[.int .i64 n.k, .int .i64 n.t, .int .i64 n.r, .string ⟨n.l.toArray⟩, .int .i64 n.v, .slice Ak n.kids.len ck] 26 (0, 0))))
      have hbd : BadR ((wn.alloc (.cells #[.int .i64 n.k, .int .i64 n.t, .int .i64 n.r, .string ⟨n.l.toArray⟩, .int .i64 n.v, .slice Ak n.kids.len ck] 26 (0, 0))).alloc (.cells #[.int .i64 n.k, .int .i64 n.t, .int .i64 n.r, .string ⟨n.l.toArray⟩, .int .i64 n.v, .slice Ak n.kids.len ck] 26 (0, 0))) g p := cell_go hbd (below_alloc (alloc_b wn (.cells #[.int .i64 n.k, .int .i64 n.t, .int .i64 n.r, .string ⟨n.l.toArray⟩, .int .i64 n.v, .slice Ak n.kids.len ck] 26 (0, 0))) (.cells #[.int .i64 n.k, .int .i64 n.t, .int .i64 n.r, .string ⟨n.l.toArray⟩, .int .i64 n.v, .slice Ak n.kids.len ck] 26 (0, 0)))
      clear hkc hnl hm
      have HBD := Lib.hid hbd
      have B2 := Lib.hid (B2.out.only ho (by omega))
      have B3 := Lib.hid (B3.out.only ho (by omega))
      have HO := Lib.hid (HO.out.trans ho)
      clear hbd ho
      clear c0 c1 c2 c3 c5 c6
      have c6 := HBD.out
      unfold BadR at c6
      have z0 : _ = some (Value.int .i64 0) := B2.out.cell 0
      have y0 := B2.out.frozen 0
      have z1 : _ = some (Value.int .i64 0) := B2.out.cell 1
      have y1 := B2.out.frozen 1
      have z2 : _ = some (Value.int .i64 0) := B2.out.cell 2
      have y2 := B2.out.frozen 2
      have z3 : _ = some (Value.string ⟨#[]⟩) := B2.out.cell 3
      have y3 := B2.out.frozen 3
      have z4 : _ = some (Value.int .i64 0) := B2.out.cell 4
      have y4 := B2.out.frozen 4
      have z5 : _ = some (Value.slice none 0 0) := B2.out.cell 5
      have y5 := B2.out.frozen 5
      go_wp2_with fail
      refine ret_nodeF rfl (blk_put6 B2.out rfl _ _ _ _ _ _) rfl rfl ?_
      rw [HR.out]
      exact ⟨_, _, rfl, nv_neg HKC.out HNL.out hzn _ _ _ _ _ _, only_put6 HO.out (Nat.le_refl _) _ _ _ _ _ _, BadR.heap HBD.out (heap_put6 (by omega) _ _ _ _ _ _)⟩
    | ok m L1 =>
      have HR := Lib.hid (show pNot s.size a (f + 1) L = .ok ⟨3, 0, 0, [], 0, m.on .nil⟩ L1 from hp1)
      clear hp1
      go_enter Tryz.func85, Tryz.ntmps85
      go_wp2_with fail
      refine (isR HD.out [126] 3 rfl).mono ?_
      rw [H1.out]
      rintro e wn ⟨rfl, rfl⟩
      go_wp2_with fail
      refine (onR HD.out).mono ?_
      rintro e wn ⟨rfl, hrd, ho⟩
      have HD := Lib.hid hrd
      have HE := Lib.hid (HE.out.only ho hg)
      have B2 := Lib.hid (B2.out.only ho (by omega))
      have B3 := Lib.hid (B3.out.only ho (by omega))
      have HO := Lib.hid (HO.out.trans ho)
      have HZ := Lib.hid (Nat.le_trans HZ.out ho.size)
      clear hrd ho
      clear c0 c1 c2 c3 c5 c6
      have c0 := HD.out.blk.cell 0
      have c1 := HD.out.blk.cell 1
      have c2 := HD.out.blk.cell 2
      have c3 := HD.out.blk.cell 3
      have c5 := HD.out.blk.cell 5
      have c6 := HD.out.blk.cell 6
      go_wp2_with fail
      refine (HON.out _ L.tail HD.out HE.out (by omega)).mono ?_
      rw [HR1.out]
      rintro e wn ⟨n, v, rfl, ⟨hnl, kv, rfl, hkc⟩, ho, hm⟩
      obtain ⟨Ak, ck, rfl⟩ := hkc.shape
      obtain ⟨rfl, hrd, hll⟩ := hm
      have HLL := Lib.hid hll
      have HKC := Lib.hid (hkc.mono (S' := fun b => w.heap.size + 1 ≤ b ∧ b < wn.heap.size) (fun b hb => ⟨by have := HZ.out; have := hb.1; omega, hb.2⟩))
      have HNL := Lib.hid hnl
      have hzn : w.heap.size + 2 ≤ wn.heap.size := Nat.le_trans HZ.out ho.size
      have ho : Only g _ ((wn.alloc (.cells #[.int .i64 n.k, .int .i64 n.t, .int .i64 n.r, .string ⟨n.l.toArray⟩, .int .i64 n.v, .slice Ak n.kids.len ck] 26 (0, 0))).alloc (.cells #[.int .i64 n.k, .int .i64 n.t, .int .i64 n.r, .string ⟨n.l.toArray⟩, .int .i64 n.v, .slice Ak n.kids.len ck] 26 (0, 0))) := ho.trans (Only.of_below (below_alloc (alloc_b wn (.cells #[.int .i64 n.k, .int .i64 n.t, .int .i64 n.r, .string ⟨n.l.toArray⟩, .int .i64 n.v, .slice Ak n.kids.len ck] 26 (0, 0))) (.cells #[.int .i64 n.k, .int .i64 n.t, .int .i64 n.r, .string ⟨n.l.toArray⟩, .int .i64 n.v, .slice Ak n.kids.len ck] 26 (0, 0))))
      have hrd := hrd.below (below_alloc (alloc_b wn (.cells #[.int .i64 n.k, .int .i64 n.t, .int .i64 n.r, .string ⟨n.l.toArray⟩, .int .i64 n.v, .slice Ak n.kids.len ck] 26 (0, 0))) (.cells #[.int .i64 n.k, .int .i64 n.t, .int .i64 n.r, .string ⟨n.l.toArray⟩, .int .i64 n.v, .slice Ak n.kids.len ck] 26 (0, 0)))
      clear hkc hnl
      have HD := Lib.hid hrd
      have HE := Lib.hid (HE.out.only ho hg)
      have B2 := Lib.hid (B2.out.only ho (by omega))
      have B3 := Lib.hid (B3.out.only ho (by omega))
      have HO := Lib.hid (HO.out.trans ho)
      have HZ := Lib.hid (Nat.le_trans HZ.out ho.size)
      clear hrd ho
      clear c0 c1 c2 c3 c5 c6
      have c0 := HD.out.blk.cell 0
      have c1 := HD.out.blk.cell 1
      have c2 := HD.out.blk.cell 2
      have c3 := HD.out.blk.cell 3
      have c5 := HD.out.blk.cell 5
      have c6 := HD.out.blk.cell 6
      have z0 : _ = some (Value.int .i64 0) := B2.out.cell 0
      have y0 := B2.out.frozen 0
      have z1 : _ = some (Value.int .i64 0) := B2.out.cell 1
      have y1 := B2.out.frozen 1
      have z2 : _ = some (Value.int .i64 0) := B2.out.cell 2
      have y2 := B2.out.frozen 2
      have z3 : _ = some (Value.string ⟨#[]⟩) := B2.out.cell 3
      have y3 := B2.out.frozen 3
      have z4 : _ = some (Value.int .i64 0) := B2.out.cell 4
      have y4 := B2.out.frozen 4
      have z5 : _ = some (Value.slice none 0 0) := B2.out.cell 5
      have y5 := B2.out.frozen 5
      go_wp2_with fail
      refine ret_nodeF rfl (blk_put6 B2.out rfl _ _ _ _ _ _) rfl rfl ?_
      rw [HR.out]
      exact ⟨_, _, rfl, nv_neg HKC.out HNL.out hzn _ _ _ _ _ _, only_put6 HO.out (Nat.le_refl _) _ _ _ _ _ _, ⟨rfl, RdR.heap HD.out (heap_put6 (by omega) _ _ _ _ _ _), by have := HLL.out; omega⟩⟩
  have H1 := Lib.hid (decide_eq_false h126)
  by_cases h40 : hd L = [40]
  · have hlt9 := tail_lt h40 (by simp)
    have hp1 : pNot s.size a (f + 1) L = (rowN 5 [92, 47] (rowN 4 [47, 92] (pNot s.size a f) f) f L.tail).go fun n L' => (pTake s.size [41] L').go fun _ L'' => .ok n L'' := by rw [pNot, if_neg h126, if_pos h40]
    have H2 := Lib.hid (decide_eq_true h40)
    obtain ⟨r1, hr1⟩ : ∃ r, rowN 5 [92, 47] (rowN 4 [47, 92] (pNot s.size a f) f) f L.tail = r := ⟨_, rfl⟩
    have HR1 := Lib.hid hr1
    rw [hr1] at hp1
    clear hr1 h126 h40
    have HOR : Hid (OneQ 50 #[.pointer (some ⟨g, 0, none⟩), .bool false] (rowN 4 [47, 92] (pNot s.size a f) f) g a s f) := Lib.hid (fun w L h hE hN => listQ_and HON.out h hE hg hN (by omega))
    cases r1 with
    | bad p =>
      have HR := Lib.hid (show pNot s.size a (f + 1) L = .bad p from hp1)
      clear hp1
      go_enter Tryz.func85, Tryz.ntmps85
      go_wp2_with fail
      refine (isR HD.out [126] 3 rfl).mono ?_
      rw [H1.out]
      rintro e wn ⟨rfl, rfl⟩
      go_wp2_with fail
      refine (isR HD.out [40] 3 rfl).mono ?_
      rw [H2.out]
      rintro e wn ⟨rfl, rfl⟩
      go_wp2_with fail
      refine (onR HD.out).mono ?_
      rintro e wn ⟨rfl, hrd, ho⟩
      have HD := Lib.hid hrd
      have HE := Lib.hid (HE.out.only ho hg)
      have B2 := Lib.hid (B2.out.only ho (by omega))
      have B3 := Lib.hid (B3.out.only ho (by omega))
      have HO := Lib.hid (HO.out.trans ho)
      have HZ := Lib.hid (Nat.le_trans HZ.out ho.size)
      clear hrd ho
      clear c0 c1 c2 c3 c5 c6
      have c0 := HD.out.blk.cell 0
      have c1 := HD.out.blk.cell 1
      have c2 := HD.out.blk.cell 2
      have c3 := HD.out.blk.cell 3
      have c5 := HD.out.blk.cell 5
      have c6 := HD.out.blk.cell 6
      go_wp2_with fail
      refine (listQ_or HOR.out HD.out HE.out hg (by omega) (by omega)).mono ?_
      rw [HR1.out]
      rintro e wn ⟨n, v, rfl, ⟨hnl, kv, rfl, hkc⟩, ho, hm⟩
      obtain ⟨Ak, ck, rfl⟩ := hkc.shape
      have HKC := Lib.hid (hkc.mono (S' := fun b => w.heap.size + 1 ≤ b ∧ b < wn.heap.size) (fun b hb => ⟨by have := HZ.out; have := hb.1; omega, hb.2⟩))
      have HNL := Lib.hid hnl
      have hzn : w.heap.size + 2 ≤ wn.heap.size := Nat.le_trans HZ.out ho.size
      have B5 := Lib.hid (Blk.new wn 26 #[.int .i64 n.k, .int .i64 n.t, .int .i64 n.r, .string ⟨n.l.toArray⟩, .int .i64 n.v, .slice Ak n.kids.len ck])
      have HKH := Lib.hid (show ∀ b, b < wn.heap.size → (wn.alloc (.cells #[.int .i64 n.k, .int .i64 n.t, .int .i64 n.r, .string ⟨n.l.toArray⟩, .int .i64 n.v, .slice Ak n.kids.len ck] 26 (0, 0))).heap[b]? = wn.heap[b]? from fun b hb => Below.heap_alloc wn _ b hb)
      have ho : Only g _ (wn.alloc (.cells #[.int .i64 n.k, .int .i64 n.t, .int .i64 n.r, .string ⟨n.l.toArray⟩, .int .i64 n.v, .slice Ak n.kids.len ck] 26 (0, 0))) := ho.trans (Only.of_below (alloc_b wn (.cells #[.int .i64 n.k, .int .i64 n.t, .int .i64 n.r, .string ⟨n.l.toArray⟩, .int .i64 n.v, .slice Ak n.kids.len ck] 26 (0, 0))))
      have hbd : BadR (wn.alloc (.cells #[.int .i64 n.k, .int .i64 n.t, .int .i64 n.r, .string ⟨n.l.toArray⟩, .int .i64 n.v, .slice Ak n.kids.len ck] 26 (0, 0))) g p := cell_go hm (alloc_b wn (.cells #[.int .i64 n.k, .int .i64 n.t, .int .i64 n.r, .string ⟨n.l.toArray⟩, .int .i64 n.v, .slice Ak n.kids.len ck] 26 (0, 0)))
      obtain ⟨b5, hb5⟩ : ∃ b, wn.heap.size = b := ⟨_, rfl⟩
      have HB5 := Lib.hid hb5
      have h5g : b5 ≠ g := by omega
      obtain ⟨wk, hwk⟩ : ∃ x, x = wn := ⟨_, rfl⟩
      rw [← hwk] at HKC HKH
      have HKC := Lib.hid (KidC.keep HKC.out (w' := wn.alloc (.cells #[.int .i64 n.k, .int .i64 n.t, .int .i64 n.r, .string ⟨n.l.toArray⟩, .int .i64 n.v, .slice Ak n.kids.len ck] 26 (0, 0))) (fun b hb => by rw [hwk] at hb ⊢; exact Below.heap_alloc wn _ b hb.2))
      rw [hwk] at HKC
      rw [hb5] at B5 HKC
      clear hkc hnl hwk HKH
      have HBD := Lib.hid hbd
      have B2 := Lib.hid (B2.out.only ho (by omega))
      have B3 := Lib.hid (B3.out.only ho (by omega))
      have HO := Lib.hid (HO.out.trans ho)
      clear hbd ho
      clear c0 c1 c2 c3 c5 c6
      have c6 := HBD.out
      unfold BadR at c6
      go_wp2_with fail
      refine (wantR_bad HBD.out _ _).mono ?_
      rintro e wn ⟨rfl, rfl⟩
      have z0 : _ = some (Value.int .i64 0) := B2.out.cell 0
      have y0 := B2.out.frozen 0
      have z1 : _ = some (Value.int .i64 0) := B2.out.cell 1
      have y1 := B2.out.frozen 1
      have z2 : _ = some (Value.int .i64 0) := B2.out.cell 2
      have y2 := B2.out.frozen 2
      have z3 : _ = some (Value.string ⟨#[]⟩) := B2.out.cell 3
      have y3 := B2.out.frozen 3
      have z4 : _ = some (Value.int .i64 0) := B2.out.cell 4
      have y4 := B2.out.frozen 4
      have z5 : _ = some (Value.slice none 0 0) := B2.out.cell 5
      have y5 := B2.out.frozen 5
      have m0 := B5.out.cell 0
      have m1 := B5.out.cell 1
      have m2 := B5.out.cell 2
      have m3 := B5.out.cell 3
      have m4 := B5.out.cell 4
      have m5 := B5.out.cell 5
      go_wp2_with fail
      refine ret_nodeF rfl (blk_put6 B2.out rfl _ _ _ _ _ _) rfl rfl ?_
      rw [HR.out]
      exact ⟨_, _, rfl, nv_same HKC.out HNL.out (by have := HO.out.size; have := HB5.out; have := B5.out.lt; omega) _ _ _ _ _ _, only_put6 HO.out (Nat.le_refl _) _ _ _ _ _ _, BadR.heap HBD.out (heap_put6 (by omega) _ _ _ _ _ _)⟩
    | ok m L1 =>
      by_cases h41 : hd L1 = [41]
      · have H41 := Lib.hid h41
        have HR := Lib.hid (show pNot s.size a (f + 1) L = .ok m L1.tail by rw [hp1, Rs.go_ok, pTake, if_pos h41]; rfl)
        clear hp1 h41
        go_enter Tryz.func85, Tryz.ntmps85
        go_wp2_with fail
        refine (isR HD.out [126] 3 rfl).mono ?_
        rw [H1.out]
        rintro e wn ⟨rfl, rfl⟩
        go_wp2_with fail
        refine (isR HD.out [40] 3 rfl).mono ?_
        rw [H2.out]
        rintro e wn ⟨rfl, rfl⟩
        go_wp2_with fail
        refine (onR HD.out).mono ?_
        rintro e wn ⟨rfl, hrd, ho⟩
        have HD := Lib.hid hrd
        have HE := Lib.hid (HE.out.only ho hg)
        have B2 := Lib.hid (B2.out.only ho (by omega))
        have B3 := Lib.hid (B3.out.only ho (by omega))
        have HO := Lib.hid (HO.out.trans ho)
        have HZ := Lib.hid (Nat.le_trans HZ.out ho.size)
        clear hrd ho
        clear c0 c1 c2 c3 c5 c6
        have c0 := HD.out.blk.cell 0
        have c1 := HD.out.blk.cell 1
        have c2 := HD.out.blk.cell 2
        have c3 := HD.out.blk.cell 3
        have c5 := HD.out.blk.cell 5
        have c6 := HD.out.blk.cell 6
        go_wp2_with fail
        refine (listQ_or HOR.out HD.out HE.out hg (by omega) (by omega)).mono ?_
        rw [HR1.out]
        rintro e wn ⟨n, v, rfl, ⟨hnl, kv, rfl, hkc⟩, ho, hm⟩
        obtain ⟨Ak, ck, rfl⟩ := hkc.shape
        obtain ⟨rfl, hrd, hll⟩ := hm
        have HLL := Lib.hid hll
        have HKC := Lib.hid (hkc.mono (S' := fun b => w.heap.size + 1 ≤ b ∧ b < wn.heap.size) (fun b hb => ⟨by have := HZ.out; have := hb.1; omega, hb.2⟩))
        have HNL := Lib.hid hnl
        have hzn : w.heap.size + 2 ≤ wn.heap.size := Nat.le_trans HZ.out ho.size
        have B5 := Lib.hid (Blk.new wn 26 #[.int .i64 n.k, .int .i64 n.t, .int .i64 n.r, .string ⟨n.l.toArray⟩, .int .i64 n.v, .slice Ak n.kids.len ck])
        have HKH := Lib.hid (show ∀ b, b < wn.heap.size → (wn.alloc (.cells #[.int .i64 n.k, .int .i64 n.t, .int .i64 n.r, .string ⟨n.l.toArray⟩, .int .i64 n.v, .slice Ak n.kids.len ck] 26 (0, 0))).heap[b]? = wn.heap[b]? from fun b hb => Below.heap_alloc wn _ b hb)
        have ho : Only g _ (wn.alloc (.cells #[.int .i64 n.k, .int .i64 n.t, .int .i64 n.r, .string ⟨n.l.toArray⟩, .int .i64 n.v, .slice Ak n.kids.len ck] 26 (0, 0))) := ho.trans (Only.of_below (alloc_b wn (.cells #[.int .i64 n.k, .int .i64 n.t, .int .i64 n.r, .string ⟨n.l.toArray⟩, .int .i64 n.v, .slice Ak n.kids.len ck] 26 (0, 0))))
        have hrd := hrd.below (alloc_b wn (.cells #[.int .i64 n.k, .int .i64 n.t, .int .i64 n.r, .string ⟨n.l.toArray⟩, .int .i64 n.v, .slice Ak n.kids.len ck] 26 (0, 0)))
        obtain ⟨b5, hb5⟩ : ∃ b, wn.heap.size = b := ⟨_, rfl⟩
        have HB5 := Lib.hid hb5
        have h5g : b5 ≠ g := by omega
        obtain ⟨wk, hwk⟩ : ∃ x, x = wn := ⟨_, rfl⟩
        rw [← hwk] at HKC HKH
        have HKC := Lib.hid (KidC.keep HKC.out (w' := wn.alloc (.cells #[.int .i64 n.k, .int .i64 n.t, .int .i64 n.r, .string ⟨n.l.toArray⟩, .int .i64 n.v, .slice Ak n.kids.len ck] 26 (0, 0))) (fun b hb => by rw [hwk] at hb ⊢; exact Below.heap_alloc wn _ b hb.2))
        rw [hwk] at HKC
        rw [hb5] at B5 HKC
        clear hkc hnl hwk HKH
        have ho0 := ho
        have HD := Lib.hid hrd
        have HE := Lib.hid (HE.out.only ho hg)
        have B2 := Lib.hid (B2.out.only ho (by omega))
        have B3 := Lib.hid (B3.out.only ho (by omega))
        have HO := Lib.hid (HO.out.trans ho)
        have HZ := Lib.hid (Nat.le_trans HZ.out ho.size)
        clear hrd ho
        clear c0 c1 c2 c3 c5 c6
        have c0 := HD.out.blk.cell 0
        have c1 := HD.out.blk.cell 1
        have c2 := HD.out.blk.cell 2
        have c3 := HD.out.blk.cell 3
        have c5 := HD.out.blk.cell 5
        have c6 := HD.out.blk.cell 6
        go_wp2_with fail
        refine (wantR_yes HD.out [41] 3 rfl H41.out).mono ?_
        rintro e wn ⟨rfl, hrd, ho⟩
        have HKC := Lib.hid (HKC.out.keep (fun b hb => ho.block b (by have := hb.2; have := HB5.out; simp; omega) (fun e => by have := hb.1; injection e with e; omega)))
        have HD := Lib.hid hrd
        have HE := Lib.hid (HE.out.only ho hg)
        have B2 := Lib.hid (B2.out.only ho (by omega))
        have B3 := Lib.hid (B3.out.only ho (by omega))
        have B5 := Lib.hid (B5.out.only ho (by omega))
        have HO := Lib.hid (HO.out.trans ho)
        have HZ := Lib.hid (Nat.le_trans HZ.out ho.size)
        clear hrd ho
        clear c0 c1 c2 c3 c5 c6
        have c0 := HD.out.blk.cell 0
        have c1 := HD.out.blk.cell 1
        have c2 := HD.out.blk.cell 2
        have c3 := HD.out.blk.cell 3
        have c5 := HD.out.blk.cell 5
        have c6 := HD.out.blk.cell 6
        have z0 : _ = some (Value.int .i64 0) := B2.out.cell 0
        have y0 := B2.out.frozen 0
        have z1 : _ = some (Value.int .i64 0) := B2.out.cell 1
        have y1 := B2.out.frozen 1
        have z2 : _ = some (Value.int .i64 0) := B2.out.cell 2
        have y2 := B2.out.frozen 2
        have z3 : _ = some (Value.string ⟨#[]⟩) := B2.out.cell 3
        have y3 := B2.out.frozen 3
        have z4 : _ = some (Value.int .i64 0) := B2.out.cell 4
        have y4 := B2.out.frozen 4
        have z5 : _ = some (Value.slice none 0 0) := B2.out.cell 5
        have y5 := B2.out.frozen 5
        have m0 := B5.out.cell 0
        have m1 := B5.out.cell 1
        have m2 := B5.out.cell 2
        have m3 := B5.out.cell 3
        have m4 := B5.out.cell 4
        have m5 := B5.out.cell 5
        go_wp2_with fail
        refine ret_nodeF rfl (blk_put6 B2.out rfl _ _ _ _ _ _) rfl rfl ?_
        rw [HR.out]
        exact ⟨_, _, rfl, nv_same HKC.out HNL.out (by have := HO.out.size; have := HB5.out; have := B5.out.lt; omega) _ _ _ _ _ _, only_put6 HO.out (Nat.le_refl _) _ _ _ _ _ _, ⟨rfl, RdR.heap HD.out (heap_put6 (by omega) _ _ _ _ _ _), by have := HLL.out; have h1 := tail_le L1; omega⟩⟩
      · have H41 := Lib.hid h41
        have HR := Lib.hid (show pNot s.size a (f + 1) L = .bad (ps s.size L1) by rw [hp1, Rs.go_ok, pTake, if_neg h41]; rfl)
        clear hp1 h41
        go_enter Tryz.func85, Tryz.ntmps85
        go_wp2_with fail
        refine (isR HD.out [126] 3 rfl).mono ?_
        rw [H1.out]
        rintro e wn ⟨rfl, rfl⟩
        go_wp2_with fail
        refine (isR HD.out [40] 3 rfl).mono ?_
        rw [H2.out]
        rintro e wn ⟨rfl, rfl⟩
        go_wp2_with fail
        refine (onR HD.out).mono ?_
        rintro e wn ⟨rfl, hrd, ho⟩
        have HD := Lib.hid hrd
        have HE := Lib.hid (HE.out.only ho hg)
        have B2 := Lib.hid (B2.out.only ho (by omega))
        have B3 := Lib.hid (B3.out.only ho (by omega))
        have HO := Lib.hid (HO.out.trans ho)
        have HZ := Lib.hid (Nat.le_trans HZ.out ho.size)
        clear hrd ho
        clear c0 c1 c2 c3 c5 c6
        have c0 := HD.out.blk.cell 0
        have c1 := HD.out.blk.cell 1
        have c2 := HD.out.blk.cell 2
        have c3 := HD.out.blk.cell 3
        have c5 := HD.out.blk.cell 5
        have c6 := HD.out.blk.cell 6
        go_wp2_with fail
        refine (listQ_or HOR.out HD.out HE.out hg (by omega) (by omega)).mono ?_
        rw [HR1.out]
        rintro e wn ⟨n, v, rfl, ⟨hnl, kv, rfl, hkc⟩, ho, hm⟩
        obtain ⟨Ak, ck, rfl⟩ := hkc.shape
        obtain ⟨rfl, hrd, hll⟩ := hm
        have HLL := Lib.hid hll
        have HKC := Lib.hid (hkc.mono (S' := fun b => w.heap.size + 1 ≤ b ∧ b < wn.heap.size) (fun b hb => ⟨by have := HZ.out; have := hb.1; omega, hb.2⟩))
        have HNL := Lib.hid hnl
        have hzn : w.heap.size + 2 ≤ wn.heap.size := Nat.le_trans HZ.out ho.size
        have B5 := Lib.hid (Blk.new wn 26 #[.int .i64 n.k, .int .i64 n.t, .int .i64 n.r, .string ⟨n.l.toArray⟩, .int .i64 n.v, .slice Ak n.kids.len ck])
        have HKH := Lib.hid (show ∀ b, b < wn.heap.size → (wn.alloc (.cells #[.int .i64 n.k, .int .i64 n.t, .int .i64 n.r, .string ⟨n.l.toArray⟩, .int .i64 n.v, .slice Ak n.kids.len ck] 26 (0, 0))).heap[b]? = wn.heap[b]? from fun b hb => Below.heap_alloc wn _ b hb)
        have ho : Only g _ (wn.alloc (.cells #[.int .i64 n.k, .int .i64 n.t, .int .i64 n.r, .string ⟨n.l.toArray⟩, .int .i64 n.v, .slice Ak n.kids.len ck] 26 (0, 0))) := ho.trans (Only.of_below (alloc_b wn (.cells #[.int .i64 n.k, .int .i64 n.t, .int .i64 n.r, .string ⟨n.l.toArray⟩, .int .i64 n.v, .slice Ak n.kids.len ck] 26 (0, 0))))
        have hrd := hrd.below (alloc_b wn (.cells #[.int .i64 n.k, .int .i64 n.t, .int .i64 n.r, .string ⟨n.l.toArray⟩, .int .i64 n.v, .slice Ak n.kids.len ck] 26 (0, 0)))
        obtain ⟨b5, hb5⟩ : ∃ b, wn.heap.size = b := ⟨_, rfl⟩
        have HB5 := Lib.hid hb5
        have h5g : b5 ≠ g := by omega
        obtain ⟨wk, hwk⟩ : ∃ x, x = wn := ⟨_, rfl⟩
        rw [← hwk] at HKC HKH
        have HKC := Lib.hid (KidC.keep HKC.out (w' := wn.alloc (.cells #[.int .i64 n.k, .int .i64 n.t, .int .i64 n.r, .string ⟨n.l.toArray⟩, .int .i64 n.v, .slice Ak n.kids.len ck] 26 (0, 0))) (fun b hb => by rw [hwk] at hb ⊢; exact Below.heap_alloc wn _ b hb.2))
        rw [hwk] at HKC
        rw [hb5] at B5 HKC
        clear hkc hnl hwk HKH
        have ho0 := ho
        have HD := Lib.hid hrd
        have HE := Lib.hid (HE.out.only ho hg)
        have B2 := Lib.hid (B2.out.only ho (by omega))
        have B3 := Lib.hid (B3.out.only ho (by omega))
        have HO := Lib.hid (HO.out.trans ho)
        have HZ := Lib.hid (Nat.le_trans HZ.out ho.size)
        clear hrd ho
        clear c0 c1 c2 c3 c5 c6
        have c0 := HD.out.blk.cell 0
        have c1 := HD.out.blk.cell 1
        have c2 := HD.out.blk.cell 2
        have c3 := HD.out.blk.cell 3
        have c5 := HD.out.blk.cell 5
        have c6 := HD.out.blk.cell 6
        go_wp2_with fail
        refine (wantR_no HD.out [41] 3 rfl H41.out).mono ?_
        rintro e wn ⟨rfl, hbd, ho⟩
        have HKC := Lib.hid (HKC.out.keep (fun b hb => ho.block b (by have := hb.2; have := HB5.out; simp; omega) (fun e => by have := hb.1; injection e with e; omega)))
        have HBD := Lib.hid hbd
        have B2 := Lib.hid (B2.out.only ho (by omega))
        have B3 := Lib.hid (B3.out.only ho (by omega))
        have B5 := Lib.hid (B5.out.only ho (by omega))
        have HO := Lib.hid (HO.out.trans ho)
        clear hbd ho
        clear c0 c1 c2 c3 c5 c6
        have c6 := HBD.out
        unfold BadR at c6
        have z0 : _ = some (Value.int .i64 0) := B2.out.cell 0
        have y0 := B2.out.frozen 0
        have z1 : _ = some (Value.int .i64 0) := B2.out.cell 1
        have y1 := B2.out.frozen 1
        have z2 : _ = some (Value.int .i64 0) := B2.out.cell 2
        have y2 := B2.out.frozen 2
        have z3 : _ = some (Value.string ⟨#[]⟩) := B2.out.cell 3
        have y3 := B2.out.frozen 3
        have z4 : _ = some (Value.int .i64 0) := B2.out.cell 4
        have y4 := B2.out.frozen 4
        have z5 : _ = some (Value.slice none 0 0) := B2.out.cell 5
        have y5 := B2.out.frozen 5
        have m0 := B5.out.cell 0
        have m1 := B5.out.cell 1
        have m2 := B5.out.cell 2
        have m3 := B5.out.cell 3
        have m4 := B5.out.cell 4
        have m5 := B5.out.cell 5
        go_wp2_with fail
        refine ret_nodeF rfl (blk_put6 B2.out rfl _ _ _ _ _ _) rfl rfl ?_
        rw [HR.out]
        exact ⟨_, _, rfl, nv_same HKC.out HNL.out (by have := HO.out.size; have := HB5.out; have := B5.out.lt; omega) _ _ _ _ _ _, only_put6 HO.out (Nat.le_refl _) _ _ _ _ _ _, BadR.heap HBD.out (heap_put6 (by omega) _ _ _ _ _ _)⟩
  have H2 := Lib.hid (decide_eq_false h40)
  by_cases htr : hd L = [116, 114, 117, 101]
  · have hlt9 := tail_lt htr (by simp)
    have H3 := Lib.hid (decide_eq_true htr)
    by_cases h61 : hd L.tail = [61]
    · have k3 : kindT (hd L.tail) = 3 := by rw [h61]; decide
      have hpa : pNot s.size a (f + 1) L = pAtom s.size a L := pNot_atom h126 h40 (by rintro ⟨_, h⟩; exact h h61)
      have H6 := Lib.hid h61
      have K3 := Lib.hid k3
      clear h126 h40 htr h61 k3
      have HPA0 := Lib.hid hpa
      clear hpa
      go_enter Tryz.func85, Tryz.ntmps85
      go_wp2_with fail
      refine (isR HD.out [126] 3 rfl).mono ?_
      rw [H1.out]
      rintro e wn ⟨rfl, rfl⟩
      go_wp2_with fail
      refine (isR HD.out [40] 3 rfl).mono ?_
      rw [H2.out]
      rintro e wn ⟨rfl, rfl⟩
      go_wp2_with fail
      refine (isR HD.out [116, 114, 117, 101] 1 rfl).mono ?_
      rw [H3.out]
      rintro e wn ⟨rfl, rfl⟩
      go_wp2_with fail
      obtain ⟨wc, hwc⟩ : ∃ x, x = ((w.alloc (.cells #[.int .i64 0, .int .i64 0, .int .i64 0, .string ⟨#[]⟩, .int .i64 0, .slice none 0 0] 26 (0, 0))).alloc (.cells #[.int .i64 0, .int .i64 0, .int .i64 0, .string ⟨#[]⟩, .int .i64 0, .slice none 0 0] 26 (0, 0))) := ⟨_, rfl⟩
      have HD := Lib.hid (show RdR wc g a s L (-1) by rw [hwc]; exact HD.out)
      have HE := Lib.hid (show Env wc by rw [hwc]; exact HE.out)
      have HO := Lib.hid (show Only g w wc by rw [hwc]; exact HO.out)
      have B2 := Lib.hid (show Blk wc w.heap.size 26 zeroNode by rw [hwc]; exact B2.out)
      have B3 := Lib.hid (show Blk wc (w.heap.size + 1) 26 zeroNode by rw [hwc]; exact B3.out)
      have HZ := Lib.hid (show w.heap.size + 2 ≤ wc.heap.size by rw [hwc]; exact HZ.out)
      rw [← hwc]
      clear hwc
      clear c0 c1 c2 c3 c5 c6
      have c0 := HD.out.blk.cell 0
      have c1 := HD.out.blk.cell 1
      have c2 := HD.out.blk.cell 2
      have c3 := HD.out.blk.cell 3
      have c5 := HD.out.blk.cell 5
      have c6 := HD.out.blk.cell 6
      have SS : Hid (∀ y, Below wc.heap.size wc y → (fun y : World => y.cell? ⟨g, 1, none⟩ = some (.string s) ∧ y.cell? ⟨g, 5, none⟩ = some (.int .i64 (nx s.size L))) y) := Lib.hid (fun y hy => ⟨(HD.out.below hy).blk.cell 1, (HD.out.below hy).blk.cell 5⟩)
      refine wp_region_held_drew (S := (fun y : World => y.cell? ⟨g, 1, none⟩ = some (.string s) ∧ y.cell? ⟨g, 5, none⟩ = some (.int .i64 (nx s.size L)))) (by kernel_rfl) (SS.out _ ((Below.refl _ _).drew)) (fun hHeld => ?_)
      refine wpAnyH_take (i := 0) (v := ?_) rfl (by kernel_rfl) (by kernel_rfl) (by kernel_rfl) (fun _ _ _ h => h) (Or.inl ⟨by kernel_rfl, ?_⟩) (by assumption) ?_
      rotate_left
      · intro x' hSx
        try dsimp only at hSx
        go_simp
        try with_reducible rfl
      try simp only [Act.put, List.setIfInBounds_toArray]
      refine wpAnyH_take (i := 1) (v := ?_) rfl (by kernel_rfl) (by kernel_rfl) (by kernel_rfl) (fun _ _ _ h => h) (Or.inl ⟨by kernel_rfl, ?_⟩) (by assumption) ?_
      rotate_left
      · intro x' hSx
        try dsimp only at hSx
        go_simp
        try with_reducible rfl
      try simp only [Act.put]
      refine wpAnyH_take (i := 2) (v := ?_) rfl (by kernel_rfl) (by kernel_rfl) (by kernel_rfl) (fun _ _ _ h => h) (Or.inl ⟨by kernel_rfl, ?_⟩) (by assumption) ?_
      rotate_left
      · intro x' hSx
        try dsimp only at hSx
        go_simp
        try with_reducible rfl
      try simp only [Act.put]
      refine wpAnyH_take (i := 3) (v := ?_) rfl (by kernel_rfl) (by kernel_rfl) (by kernel_rfl) (fun _ _ _ h => h) (Or.inl ⟨by kernel_rfl, ?_⟩) (by assumption) ?_
      rotate_left
      · intro x' hSx
        try dsimp only at hSx
        go_simp
        try with_reducible rfl
      try simp only [Act.put]
      refine wpAnyH_take (i := 4) (v := ?_) rfl (by kernel_rfl) (by kernel_rfl) (by kernel_rfl) (fun _ _ _ h => h) (Or.inl ⟨by kernel_rfl, ?_⟩) (by assumption) ?_
      rotate_left
      · intro x' hSx
        try dsimp only at hSx
        go_simp
        try with_reducible rfl
      try simp only [Act.put]
      refine wpAnyH_take (i := 5) (v := ?_) rfl (by kernel_rfl) (by kernel_rfl) (by kernel_rfl) (fun _ _ _ h => h) (Or.inl ⟨by kernel_rfl, ?_⟩) (by assumption) ?_
      rotate_left
      · intro x' hSx
        try dsimp only at hSx
        go_simp
        try with_reducible rfl
      try simp only [Act.put]
      refine wpAnyH_take (i := 6) (v := ?_) rfl (by kernel_rfl) (by kernel_rfl) (by kernel_rfl) (fun _ _ _ h => h) (Or.inl ⟨by kernel_rfl, ?_⟩) (by assumption) ?_
      rotate_left
      · intro x' hSx
        try dsimp only at hSx
        go_simp
        try with_reducible rfl
      try simp only [Act.put]
      refine wpAnyH_take (i := 7) (v := ?_) rfl (by kernel_rfl) (by kernel_rfl) (by kernel_rfl) (fun _ _ _ h => h) (Or.inl ⟨by kernel_rfl, ?_⟩) (by assumption) ?_
      rotate_left
      · intro x' hSx
        try dsimp only at hSx
        go_simp
        try with_reducible rfl
      try simp only [Act.put]
      refine wpAnyH_take (i := 8) (v := ?_) rfl (by kernel_rfl) (by kernel_rfl) (by kernel_rfl) (fun _ _ _ h => h) (Or.inl ⟨by kernel_rfl, ?_⟩) (by assumption) ?_
      rotate_left
      · intro x' hSx
        try dsimp only at hSx
        go_simp
        try with_reducible rfl
      try simp only [Act.put]
      refine wpAnyH_ready (rs := [9, 10]) (by kernel_rfl) (by simp) ?_
      refine AllReadyH.cons rfl (fun K hK => ?_) (AllReadyH.cons rfl (fun K hK => ?_) (AllReadyH.nil))
      · go_simp
        go_at_call 46
        refine (tokR s (nx s.size L) HD.out.nle HD.out.size _).mono ?_
        rw [HD.out.nxt]
        rintro e x1 ⟨rfl, hb1⟩
        have HX1 := Lib.hid (show Below wc.heap.size wc x1 from below_of_drew hb1)
        have hx1 := HX1.out.size
        clear hb1
        refine hK.out _ _ (SS.out _ HX1.out) (fun _ => ?_)
        clear hK K
        try simp only [Act.put, List.setIfInBounds_toArray, List.set_cons_zero, List.set_cons_succ]
        refine wpAnyH_ready (rs := [10]) (by kernel_rfl) (by simp) ?_
        refine AllReadyH.cons rfl (fun K hK => ?_) AllReadyH.nil
        go_simp
        refine hK.out _ _ (SS.out _ (HX1.out.trans ((alloc_b x1 _).mono hx1))) (fun _ => ?_)
        clear hK K
        try simp only [Act.put, List.setIfInBounds_toArray, List.set_cons_zero, List.set_cons_succ]
        refine wpAnyH_ready (rs := [11]) (by kernel_rfl) (by simp) ?_
        refine AllReadyH.cons rfl (fun K hK => ?_) AllReadyH.nil
        go_simp
        refine hK.out _ _ (SS.out _ (HX1.out.trans ((alloc_b x1 _).mono hx1))) (fun _ => ?_)
        clear hK K
        try simp only [Act.put, List.setIfInBounds_toArray, List.set_cons_zero, List.set_cons_succ]
        refine wpAnyH_done (by kernel_rfl) ?_ _
        have ho : Only g wc (x1.alloc (.cells #[.int .i64 (kindT (hd L.tail)), .string ⟨(hd L.tail).toArray⟩, .int .i64 (ps s.size L.tail), .int .i64 (nx s.size L.tail)] 92 (0, 0))) := Only.of_below (HX1.out.trans ((alloc_b x1 _).mono hx1))
        have B6 := Lib.hid (Blk.new x1 92 #[.int .i64 (kindT (hd L.tail)), .string ⟨(hd L.tail).toArray⟩, .int .i64 (ps s.size L.tail), .int .i64 (nx s.size L.tail)])
        have hrd := HD.out.below (HX1.out.trans ((alloc_b x1 (.cells #[.int .i64 (kindT (hd L.tail)), .string ⟨(hd L.tail).toArray⟩, .int .i64 (ps s.size L.tail), .int .i64 (nx s.size L.tail)] 92 (0, 0))).mono hx1))
        have HD := Lib.hid hrd
        have HE := Lib.hid (HE.out.only ho hg)
        have B2 := Lib.hid (B2.out.only ho (by omega))
        have B3 := Lib.hid (B3.out.only ho (by omega))
        have HO := Lib.hid (HO.out.trans ho)
        have HZ := Lib.hid (Nat.le_trans HZ.out ho.size)
        clear hrd ho
        clear c0 c1 c2 c3 c5 c6
        have c0 := HD.out.blk.cell 0
        have c1 := HD.out.blk.cell 1
        have c2 := HD.out.blk.cell 2
        have c3 := HD.out.blk.cell 3
        have c5 := HD.out.blk.cell 5
        have c6 := HD.out.blk.cell 6
        have t0 := B6.out.cell 0
        have t1 := B6.out.cell 1
        have t0e : (kindT (hd L.tail) != 3) = false := by simp [K3.out]
        have t1e : (hd L.tail == [61]) = true := by simp [H6.out]
        have b6g : True := trivial
        have hpa := HPA0.out
        obtain ⟨rt, hrt⟩ : ∃ r, pThing s.size a L = r := ⟨_, rfl⟩
        have HRT := Lib.hid hrt
        have HPA := Lib.hid hpa
        clear hrt hpa
        cases rt with
        | bad p =>
          have HR := Lib.hid (show pNot s.size a (f + 1) L = .bad p by rw [HPA.out, pAtom, HRT.out]; rfl)
          go_wp2_with fail
          refine (thingRR HD.out HE.out hg ha).mono ?_
          rw [HRT.out]
          rintro e wn ⟨x, rfl, hxl, ho, hbd⟩
          have hbd : BadR (wn.alloc (.cells #[.int .i64 x.1, .int .i64 x.2.1, .string ⟨x.2.2.toArray⟩] 23 (0, 0))) g p := hbd.below (alloc_b wn (.cells #[.int .i64 x.1, .int .i64 x.2.1, .string ⟨x.2.2.toArray⟩] 23 (0, 0)))
          have ho : Only g _ (wn.alloc (.cells #[.int .i64 x.1, .int .i64 x.2.1, .string ⟨x.2.2.toArray⟩] 23 (0, 0))) := ho.trans (Only.of_below (alloc_b wn (.cells #[.int .i64 x.1, .int .i64 x.2.1, .string ⟨x.2.2.toArray⟩] 23 (0, 0))))
          have HBD := Lib.hid hbd
          have B2 := Lib.hid (B2.out.only ho (by omega))
          have B3 := Lib.hid (B3.out.only ho (by omega))
          have HO := Lib.hid (HO.out.trans ho)
          clear hbd ho
          clear c0 c1 c2 c3 c5 c6
          have c6 := HBD.out
          unfold BadR at c6
          go_wp2_with fail
          refine (wantR_bad HBD.out _ _).mono ?_
          rintro e wn ⟨rfl, rfl⟩
          have z0 : _ = some (Value.int .i64 0) := B2.out.cell 0
          have y0 := B2.out.frozen 0
          have z1 : _ = some (Value.int .i64 0) := B2.out.cell 1
          have y1 := B2.out.frozen 1
          have z2 : _ = some (Value.int .i64 0) := B2.out.cell 2
          have y2 := B2.out.frozen 2
          have z3 : _ = some (Value.string ⟨#[]⟩) := B2.out.cell 3
          have y3 := B2.out.frozen 3
          have z4 : _ = some (Value.int .i64 0) := B2.out.cell 4
          have y4 := B2.out.frozen 4
          have z5 : _ = some (Value.slice none 0 0) := B2.out.cell 5
          have y5 := B2.out.frozen 5
          have m0 : _ = some (Value.int .i64 0) := B3.out.cell 0
          have m1 : _ = some (Value.int .i64 0) := B3.out.cell 1
          have m2 : _ = some (Value.int .i64 0) := B3.out.cell 2
          have m3 : _ = some (Value.string ⟨#[]⟩) := B3.out.cell 3
          have m4 : _ = some (Value.int .i64 0) := B3.out.cell 4
          have m5 : _ = some (Value.slice none 0 0) := B3.out.cell 5
          go_wp2_with fail
          refine ret_nodeF rfl (blk_put6 B2.out rfl _ _ _ _ _ _) rfl rfl ?_
          rw [HR.out]
          exact ⟨noNd, _, rfl, nv_nil _ _ _ _ _ (by simp), only_put6 HO.out (Nat.le_refl _) _ _ _ _ _ _, BadR.heap HBD.out (heap_put6 (by omega) _ _ _ _ _ _)⟩
        | ok x0 L1 =>
          by_cases h61 : hd L1 = [61]
          · have H61 := Lib.hid h61
            have hp1 : pNot s.size a (f + 1) L = (pInt s.size (-2147483648) 2147483647 L1.tail).go fun v L => .ok ⟨2, x0.1, x0.2.1, x0.2.2, v, .nil⟩ L := by rw [HPA.out, pAtom, HRT.out, Rs.go_ok, pTake, if_pos h61]; rfl
            clear h61
            cases hnt : numT (hd L1.tail) with
            | none =>
              have HNV := Lib.hid (show numV (hd L1.tail) = .tuple #[.int .i64 0, .bool false] by rw [numV, hnt]; rfl)
              have HR := Lib.hid (show pNot s.size a (f + 1) L = .bad (ps s.size L1.tail) by rw [hp1, pInt, numIn_R, hnt]; rfl)
              clear hp1 hnt
              by_cases h2 : kindT (hd L1.tail) = 2
              · have k2 : (kindT (hd L1.tail) != 2) = false := by simp [h2]
                clear h2
                go_wp2_with fail
                refine (thingRR HD.out HE.out hg ha).mono ?_
                rw [HRT.out]
                rintro e wn ⟨x, rfl, hxl, ho, rfl, hrd⟩
                have B7 := Lib.hid (Blk.new wn 23 #[.int .i64 x.1, .int .i64 x.2.1, .string ⟨x.2.2.toArray⟩])
                have hz7 := ho.size
                have hrd : RdR (wn.alloc (.cells #[.int .i64 x.1, .int .i64 x.2.1, .string ⟨x.2.2.toArray⟩] 23 (0, 0))) g a s L1 (-1) := hrd.below (alloc_b wn (.cells #[.int .i64 x.1, .int .i64 x.2.1, .string ⟨x.2.2.toArray⟩] 23 (0, 0)))
                have ho : Only g _ (wn.alloc (.cells #[.int .i64 x.1, .int .i64 x.2.1, .string ⟨x.2.2.toArray⟩] 23 (0, 0))) := ho.trans (Only.of_below (alloc_b wn (.cells #[.int .i64 x.1, .int .i64 x.2.1, .string ⟨x.2.2.toArray⟩] 23 (0, 0))))
                obtain ⟨b7, hb7⟩ : ∃ b, wn.heap.size = b := ⟨_, rfl⟩
                rw [hb7] at B7 hz7
                have HXL := Lib.hid hxl
                have h7g : b7 ≠ g := by have := HZ.out; omega
                clear hxl
                have HD := Lib.hid hrd
                have HE := Lib.hid (HE.out.only ho hg)
                have B2 := Lib.hid (B2.out.only ho (by omega))
                have B3 := Lib.hid (B3.out.only ho (by omega))
                have HO := Lib.hid (HO.out.trans ho)
                have HZ := Lib.hid (Nat.le_trans HZ.out ho.size)
                clear hrd ho
                clear c0 c1 c2 c3 c5 c6
                have c0 := HD.out.blk.cell 0
                have c1 := HD.out.blk.cell 1
                have c2 := HD.out.blk.cell 2
                have c3 := HD.out.blk.cell 3
                have c5 := HD.out.blk.cell 5
                have c6 := HD.out.blk.cell 6
                go_wp2_with fail
                refine (wantR_yes HD.out [61] 3 rfl H61.out).mono ?_
                rintro e wn ⟨rfl, hrd, ho⟩
                have HD := Lib.hid hrd
                have HE := Lib.hid (HE.out.only ho hg)
                have B2 := Lib.hid (B2.out.only ho (by omega))
                have B3 := Lib.hid (B3.out.only ho (by omega))
                have B7 := Lib.hid (B7.out.only ho (by omega))
                have HO := Lib.hid (HO.out.trans ho)
                have HZ := Lib.hid (Nat.le_trans HZ.out ho.size)
                clear hrd ho
                clear c0 c1 c2 c3 c5 c6
                have c0 := HD.out.blk.cell 0
                have c1 := HD.out.blk.cell 1
                have c2 := HD.out.blk.cell 2
                have c3 := HD.out.blk.cell 3
                have c5 := HD.out.blk.cell 5
                have c6 := HD.out.blk.cell 6
                go_wp2_with fail
                refine (numberR _ _).mono ?_
                rw [show numV (⟨(hd L1.tail).toArray⟩ : ByteArray).data.toList = .tuple #[.int .i64 0, .bool false] from HNV.out]
                rintro e wn ⟨rfl, rfl⟩
                go_wp2_with fail
                refine (wrongR HD.out).mono ?_
                rintro e wn ⟨rfl, hbd, ho⟩
                have HBD := Lib.hid hbd
                have B2 := Lib.hid (B2.out.only ho (by omega))
                have B3 := Lib.hid (B3.out.only ho (by omega))
                have B7 := Lib.hid (B7.out.only ho (by omega))
                have HO := Lib.hid (HO.out.trans ho)
                clear hbd ho
                clear c0 c1 c2 c3 c5 c6
                have c6 := HBD.out
                unfold BadR at c6
                have z0 : _ = some (Value.int .i64 0) := B2.out.cell 0
                have y0 := B2.out.frozen 0
                have z1 : _ = some (Value.int .i64 0) := B2.out.cell 1
                have y1 := B2.out.frozen 1
                have z2 : _ = some (Value.int .i64 0) := B2.out.cell 2
                have y2 := B2.out.frozen 2
                have z3 : _ = some (Value.string ⟨#[]⟩) := B2.out.cell 3
                have y3 := B2.out.frozen 3
                have z4 : _ = some (Value.int .i64 0) := B2.out.cell 4
                have y4 := B2.out.frozen 4
                have z5 : _ = some (Value.slice none 0 0) := B2.out.cell 5
                have y5 := B2.out.frozen 5
                have m0 : _ = some (Value.int .i64 0) := B3.out.cell 0
                have m1 : _ = some (Value.int .i64 0) := B3.out.cell 1
                have m2 : _ = some (Value.int .i64 0) := B3.out.cell 2
                have m3 : _ = some (Value.string ⟨#[]⟩) := B3.out.cell 3
                have m4 : _ = some (Value.int .i64 0) := B3.out.cell 4
                have m5 : _ = some (Value.slice none 0 0) := B3.out.cell 5
                go_wp2_with fail
                refine ret_nodeF rfl (blk_put6 B2.out rfl _ _ _ _ _ _) rfl rfl ?_
                rw [HR.out]
                exact ⟨noNd, _, rfl, nv_nil _ _ _ _ _ (by simp), only_put6 HO.out (Nat.le_refl _) _ _ _ _ _ _, BadR.heap HBD.out (heap_put6 (by omega) _ _ _ _ _ _)⟩
              · have k2 : (kindT (hd L1.tail) != 2) = true := by simpa using h2
                clear h2
                go_wp2_with fail
                refine (thingRR HD.out HE.out hg ha).mono ?_
                rw [HRT.out]
                rintro e wn ⟨x, rfl, hxl, ho, rfl, hrd⟩
                have B7 := Lib.hid (Blk.new wn 23 #[.int .i64 x.1, .int .i64 x.2.1, .string ⟨x.2.2.toArray⟩])
                have hz7 := ho.size
                have hrd : RdR (wn.alloc (.cells #[.int .i64 x.1, .int .i64 x.2.1, .string ⟨x.2.2.toArray⟩] 23 (0, 0))) g a s L1 (-1) := hrd.below (alloc_b wn (.cells #[.int .i64 x.1, .int .i64 x.2.1, .string ⟨x.2.2.toArray⟩] 23 (0, 0)))
                have ho : Only g _ (wn.alloc (.cells #[.int .i64 x.1, .int .i64 x.2.1, .string ⟨x.2.2.toArray⟩] 23 (0, 0))) := ho.trans (Only.of_below (alloc_b wn (.cells #[.int .i64 x.1, .int .i64 x.2.1, .string ⟨x.2.2.toArray⟩] 23 (0, 0))))
                obtain ⟨b7, hb7⟩ : ∃ b, wn.heap.size = b := ⟨_, rfl⟩
                rw [hb7] at B7 hz7
                have HXL := Lib.hid hxl
                have h7g : b7 ≠ g := by have := HZ.out; omega
                clear hxl
                have HD := Lib.hid hrd
                have HE := Lib.hid (HE.out.only ho hg)
                have B2 := Lib.hid (B2.out.only ho (by omega))
                have B3 := Lib.hid (B3.out.only ho (by omega))
                have HO := Lib.hid (HO.out.trans ho)
                have HZ := Lib.hid (Nat.le_trans HZ.out ho.size)
                clear hrd ho
                clear c0 c1 c2 c3 c5 c6
                have c0 := HD.out.blk.cell 0
                have c1 := HD.out.blk.cell 1
                have c2 := HD.out.blk.cell 2
                have c3 := HD.out.blk.cell 3
                have c5 := HD.out.blk.cell 5
                have c6 := HD.out.blk.cell 6
                go_wp2_with fail
                refine (wantR_yes HD.out [61] 3 rfl H61.out).mono ?_
                rintro e wn ⟨rfl, hrd, ho⟩
                have HD := Lib.hid hrd
                have HE := Lib.hid (HE.out.only ho hg)
                have B2 := Lib.hid (B2.out.only ho (by omega))
                have B3 := Lib.hid (B3.out.only ho (by omega))
                have B7 := Lib.hid (B7.out.only ho (by omega))
                have HO := Lib.hid (HO.out.trans ho)
                have HZ := Lib.hid (Nat.le_trans HZ.out ho.size)
                clear hrd ho
                clear c0 c1 c2 c3 c5 c6
                have c0 := HD.out.blk.cell 0
                have c1 := HD.out.blk.cell 1
                have c2 := HD.out.blk.cell 2
                have c3 := HD.out.blk.cell 3
                have c5 := HD.out.blk.cell 5
                have c6 := HD.out.blk.cell 6
                go_wp2_with fail
                refine (numberR _ _).mono ?_
                rw [show numV (⟨(hd L1.tail).toArray⟩ : ByteArray).data.toList = .tuple #[.int .i64 0, .bool false] from HNV.out]
                rintro e wn ⟨rfl, rfl⟩
                go_wp2_with fail
                refine (wrongR HD.out).mono ?_
                rintro e wn ⟨rfl, hbd, ho⟩
                have HBD := Lib.hid hbd
                have B2 := Lib.hid (B2.out.only ho (by omega))
                have B3 := Lib.hid (B3.out.only ho (by omega))
                have B7 := Lib.hid (B7.out.only ho (by omega))
                have HO := Lib.hid (HO.out.trans ho)
                clear hbd ho
                clear c0 c1 c2 c3 c5 c6
                have c6 := HBD.out
                unfold BadR at c6
                have z0 : _ = some (Value.int .i64 0) := B2.out.cell 0
                have y0 := B2.out.frozen 0
                have z1 : _ = some (Value.int .i64 0) := B2.out.cell 1
                have y1 := B2.out.frozen 1
                have z2 : _ = some (Value.int .i64 0) := B2.out.cell 2
                have y2 := B2.out.frozen 2
                have z3 : _ = some (Value.string ⟨#[]⟩) := B2.out.cell 3
                have y3 := B2.out.frozen 3
                have z4 : _ = some (Value.int .i64 0) := B2.out.cell 4
                have y4 := B2.out.frozen 4
                have z5 : _ = some (Value.slice none 0 0) := B2.out.cell 5
                have y5 := B2.out.frozen 5
                have m0 : _ = some (Value.int .i64 0) := B3.out.cell 0
                have m1 : _ = some (Value.int .i64 0) := B3.out.cell 1
                have m2 : _ = some (Value.int .i64 0) := B3.out.cell 2
                have m3 : _ = some (Value.string ⟨#[]⟩) := B3.out.cell 3
                have m4 : _ = some (Value.int .i64 0) := B3.out.cell 4
                have m5 : _ = some (Value.slice none 0 0) := B3.out.cell 5
                go_wp2_with fail
                refine ret_nodeF rfl (blk_put6 B2.out rfl _ _ _ _ _ _) rfl rfl ?_
                rw [HR.out]
                exact ⟨noNd, _, rfl, nv_nil _ _ _ _ _ (by simp), only_put6 HO.out (Nat.le_refl _) _ _ _ _ _ _, BadR.heap HBD.out (heap_put6 (by omega) _ _ _ _ _ _)⟩
            | some v =>
              have HNV := Lib.hid (show numV (hd L1.tail) = .tuple #[.int .i64 v, .bool true] by rw [numV, hnt]; rfl)
              have HR := Lib.hid (show pNot s.size a (f + 1) L = .ok ⟨2, x0.1, x0.2.1, x0.2.2, v, .nil⟩ L1.tail.tail by rw [hp1, pInt, numIn_R, hnt]; rfl)
              have k2 : (kindT (hd L1.tail) != 2) = false := by simp [num_kind hnt]
              have HTL := Lib.hid (pThing_le HRT.out)
              clear hp1 hnt
              go_wp2_with fail
              refine (thingRR HD.out HE.out hg ha).mono ?_
              rw [HRT.out]
              rintro e wn ⟨x, rfl, hxl, ho, rfl, hrd⟩
              have B7 := Lib.hid (Blk.new wn 23 #[.int .i64 x.1, .int .i64 x.2.1, .string ⟨x.2.2.toArray⟩])
              have hz7 := ho.size
              have hrd : RdR (wn.alloc (.cells #[.int .i64 x.1, .int .i64 x.2.1, .string ⟨x.2.2.toArray⟩] 23 (0, 0))) g a s L1 (-1) := hrd.below (alloc_b wn (.cells #[.int .i64 x.1, .int .i64 x.2.1, .string ⟨x.2.2.toArray⟩] 23 (0, 0)))
              have ho : Only g _ (wn.alloc (.cells #[.int .i64 x.1, .int .i64 x.2.1, .string ⟨x.2.2.toArray⟩] 23 (0, 0))) := ho.trans (Only.of_below (alloc_b wn (.cells #[.int .i64 x.1, .int .i64 x.2.1, .string ⟨x.2.2.toArray⟩] 23 (0, 0))))
              obtain ⟨b7, hb7⟩ : ∃ b, wn.heap.size = b := ⟨_, rfl⟩
              rw [hb7] at B7 hz7
              have HXL := Lib.hid hxl
              have h7g : b7 ≠ g := by have := HZ.out; omega
              clear hxl
              have HD := Lib.hid hrd
              have HE := Lib.hid (HE.out.only ho hg)
              have B2 := Lib.hid (B2.out.only ho (by omega))
              have B3 := Lib.hid (B3.out.only ho (by omega))
              have HO := Lib.hid (HO.out.trans ho)
              have HZ := Lib.hid (Nat.le_trans HZ.out ho.size)
              clear hrd ho
              clear c0 c1 c2 c3 c5 c6
              have c0 := HD.out.blk.cell 0
              have c1 := HD.out.blk.cell 1
              have c2 := HD.out.blk.cell 2
              have c3 := HD.out.blk.cell 3
              have c5 := HD.out.blk.cell 5
              have c6 := HD.out.blk.cell 6
              go_wp2_with fail
              refine (wantR_yes HD.out [61] 3 rfl H61.out).mono ?_
              rintro e wn ⟨rfl, hrd, ho⟩
              have HD := Lib.hid hrd
              have HE := Lib.hid (HE.out.only ho hg)
              have B2 := Lib.hid (B2.out.only ho (by omega))
              have B3 := Lib.hid (B3.out.only ho (by omega))
              have B7 := Lib.hid (B7.out.only ho (by omega))
              have HO := Lib.hid (HO.out.trans ho)
              have HZ := Lib.hid (Nat.le_trans HZ.out ho.size)
              clear hrd ho
              clear c0 c1 c2 c3 c5 c6
              have c0 := HD.out.blk.cell 0
              have c1 := HD.out.blk.cell 1
              have c2 := HD.out.blk.cell 2
              have c3 := HD.out.blk.cell 3
              have c5 := HD.out.blk.cell 5
              have c6 := HD.out.blk.cell 6
              go_wp2_with fail
              refine (numberR _ _).mono ?_
              rw [show numV (⟨(hd L1.tail).toArray⟩ : ByteArray).data.toList = .tuple #[.int .i64 v, .bool true] from HNV.out]
              rintro e wn ⟨rfl, rfl⟩
              go_wp2_with fail
              refine (onR HD.out).mono ?_
              rintro e wn ⟨rfl, hrd, ho⟩
              have HD := Lib.hid hrd
              have HE := Lib.hid (HE.out.only ho hg)
              have B2 := Lib.hid (B2.out.only ho (by omega))
              have B3 := Lib.hid (B3.out.only ho (by omega))
              have B7 := Lib.hid (B7.out.only ho (by omega))
              have HO := Lib.hid (HO.out.trans ho)
              have HZ := Lib.hid (Nat.le_trans HZ.out ho.size)
              clear hrd ho
              clear c0 c1 c2 c3 c5 c6
              have c0 := HD.out.blk.cell 0
              have c1 := HD.out.blk.cell 1
              have c2 := HD.out.blk.cell 2
              have c3 := HD.out.blk.cell 3
              have c5 := HD.out.blk.cell 5
              have c6 := HD.out.blk.cell 6
              have z0 : _ = some (Value.int .i64 0) := B2.out.cell 0
              have y0 := B2.out.frozen 0
              have z1 : _ = some (Value.int .i64 0) := B2.out.cell 1
              have y1 := B2.out.frozen 1
              have z2 : _ = some (Value.int .i64 0) := B2.out.cell 2
              have y2 := B2.out.frozen 2
              have z3 : _ = some (Value.string ⟨#[]⟩) := B2.out.cell 3
              have y3 := B2.out.frozen 3
              have z4 : _ = some (Value.int .i64 0) := B2.out.cell 4
              have y4 := B2.out.frozen 4
              have z5 : _ = some (Value.slice none 0 0) := B2.out.cell 5
              have y5 := B2.out.frozen 5
              have t0 := B7.out.cell 0
              have t1 := B7.out.cell 1
              have t2 := B7.out.cell 2
              go_wp2_with fail
              refine ret_nodeF rfl (blk_put6 B2.out rfl _ _ _ _ _ _) rfl rfl ?_
              rw [HR.out]
              exact ⟨_, _, rfl, nv_nil _ _ _ _ _ HXL.out, only_put6 HO.out (Nat.le_refl _) _ _ _ _ _ _, ⟨rfl, RdR.heap HD.out (heap_put6 (by omega) _ _ _ _ _ _), by have := HTL.out; have h1 := tail_le L1; have h2 := tail_le L1.tail; omega⟩⟩
          · have HR := Lib.hid (show pNot s.size a (f + 1) L = .bad (ps s.size L1) by rw [HPA.out, pAtom, HRT.out, Rs.go_ok, pTake, if_neg h61]; rfl)
            have H61 := Lib.hid h61
            clear h61
            go_wp2_with fail
            refine (thingRR HD.out HE.out hg ha).mono ?_
            rw [HRT.out]
            rintro e wn ⟨x, rfl, hxl, ho, rfl, hrd⟩
            have B7 := Lib.hid (Blk.new wn 23 #[.int .i64 x.1, .int .i64 x.2.1, .string ⟨x.2.2.toArray⟩])
            have hz7 := ho.size
            have hrd : RdR (wn.alloc (.cells #[.int .i64 x.1, .int .i64 x.2.1, .string ⟨x.2.2.toArray⟩] 23 (0, 0))) g a s L1 (-1) := hrd.below (alloc_b wn (.cells #[.int .i64 x.1, .int .i64 x.2.1, .string ⟨x.2.2.toArray⟩] 23 (0, 0)))
            have ho : Only g _ (wn.alloc (.cells #[.int .i64 x.1, .int .i64 x.2.1, .string ⟨x.2.2.toArray⟩] 23 (0, 0))) := ho.trans (Only.of_below (alloc_b wn (.cells #[.int .i64 x.1, .int .i64 x.2.1, .string ⟨x.2.2.toArray⟩] 23 (0, 0))))
            obtain ⟨b7, hb7⟩ : ∃ b, wn.heap.size = b := ⟨_, rfl⟩
            rw [hb7] at B7 hz7
            have HXL := Lib.hid hxl
            have h7g : b7 ≠ g := by have := HZ.out; omega
            clear hxl
            have HD := Lib.hid hrd
            have HE := Lib.hid (HE.out.only ho hg)
            have B2 := Lib.hid (B2.out.only ho (by omega))
            have B3 := Lib.hid (B3.out.only ho (by omega))
            have HO := Lib.hid (HO.out.trans ho)
            have HZ := Lib.hid (Nat.le_trans HZ.out ho.size)
            clear hrd ho
            clear c0 c1 c2 c3 c5 c6
            have c0 := HD.out.blk.cell 0
            have c1 := HD.out.blk.cell 1
            have c2 := HD.out.blk.cell 2
            have c3 := HD.out.blk.cell 3
            have c5 := HD.out.blk.cell 5
            have c6 := HD.out.blk.cell 6
            go_wp2_with fail
            refine (wantR_no HD.out [61] 3 rfl H61.out).mono ?_
            rintro e wn ⟨rfl, hbd, ho⟩
            have HBD := Lib.hid hbd
            have B2 := Lib.hid (B2.out.only ho (by omega))
            have B3 := Lib.hid (B3.out.only ho (by omega))
            have B7 := Lib.hid (B7.out.only ho (by omega))
            have HO := Lib.hid (HO.out.trans ho)
            clear hbd ho
            clear c0 c1 c2 c3 c5 c6
            have c6 := HBD.out
            unfold BadR at c6
            have z0 : _ = some (Value.int .i64 0) := B2.out.cell 0
            have y0 := B2.out.frozen 0
            have z1 : _ = some (Value.int .i64 0) := B2.out.cell 1
            have y1 := B2.out.frozen 1
            have z2 : _ = some (Value.int .i64 0) := B2.out.cell 2
            have y2 := B2.out.frozen 2
            have z3 : _ = some (Value.string ⟨#[]⟩) := B2.out.cell 3
            have y3 := B2.out.frozen 3
            have z4 : _ = some (Value.int .i64 0) := B2.out.cell 4
            have y4 := B2.out.frozen 4
            have z5 : _ = some (Value.slice none 0 0) := B2.out.cell 5
            have y5 := B2.out.frozen 5
            have m0 : _ = some (Value.int .i64 0) := B3.out.cell 0
            have m1 : _ = some (Value.int .i64 0) := B3.out.cell 1
            have m2 : _ = some (Value.int .i64 0) := B3.out.cell 2
            have m3 : _ = some (Value.string ⟨#[]⟩) := B3.out.cell 3
            have m4 : _ = some (Value.int .i64 0) := B3.out.cell 4
            have m5 : _ = some (Value.slice none 0 0) := B3.out.cell 5
            go_wp2_with fail
            refine ret_nodeF rfl (blk_put6 B2.out rfl _ _ _ _ _ _) rfl rfl ?_
            rw [HR.out]
            exact ⟨noNd, _, rfl, nv_nil _ _ _ _ _ (by simp), only_put6 HO.out (Nat.le_refl _) _ _ _ _ _ _, BadR.heap HBD.out (heap_put6 (by omega) _ _ _ _ _ _)⟩
      · go_simp
        refine hK.out _ _ (SS.out _ ((alloc_b wc _).drew)) (fun _ => ?_)
        clear hK K
        try simp only [Act.put, List.setIfInBounds_toArray, List.set_cons_zero, List.set_cons_succ]
        refine wpAnyH_ready (rs := [9]) (by kernel_rfl) (by simp) ?_
        refine AllReadyH.cons rfl (fun K hK => ?_) AllReadyH.nil
        go_simp
        go_at_call 46
        refine (tokR s (nx s.size L) HD.out.nle HD.out.size _).mono ?_
        rw [HD.out.nxt]
        rintro e x1 ⟨rfl, hb1⟩
        have HX1 := Lib.hid (show Below wc.heap.size wc x1 from ((alloc_b wc _).drew).trans (hb1.mono (by simp)))
        have hx1 := HX1.out.size
        have HZC : Blk x1 wc.heap.size 92 #[.int .i64 0, .string ⟨#[]⟩, .int .i64 0, .int .i64 0] := (show Blk (wc.alloc (.cells #[.int .i64 0, .string ⟨#[]⟩, .int .i64 0, .int .i64 0] 92 (0, 0))).drew wc.heap.size 92 #[.int .i64 0, .string ⟨#[]⟩, .int .i64 0, .int .i64 0] from Blk.new wc _ _).go hb1
        clear hb1
        refine hK.out _ _ (SS.out _ HX1.out) (fun _ => ?_)
        clear hK K
        try simp only [Act.put, List.setIfInBounds_toArray, List.set_cons_zero, List.set_cons_succ]
        have u0z : _ = some (Value.int .i64 0) := HZC.cell 0
        have v0z := HZC.frozen 0
        have u1z : _ = some (Value.string ⟨#[]⟩) := HZC.cell 1
        have v1z := HZC.frozen 1
        have u2z : _ = some (Value.int .i64 0) := HZC.cell 2
        have v2z := HZC.frozen 2
        have u3z : _ = some (Value.int .i64 0) := HZC.cell 3
        have v3z := HZC.frozen 3
        refine wpAnyH_ready (rs := [11]) (by kernel_rfl) (by simp) ?_
        refine AllReadyH.cons rfl (fun K hK => ?_) AllReadyH.nil
        go_simp
        refine hK.out _ _ (SS.out _ ((((HX1.out.setCell (p := ⟨wc.heap.size, 0, none⟩) (Nat.le_refl _) _).setCell (p := ⟨wc.heap.size, 1, none⟩) (Nat.le_refl _) _).setCell (p := ⟨wc.heap.size, 2, none⟩) (Nat.le_refl _) _).setCell (p := ⟨wc.heap.size, 3, none⟩) (Nat.le_refl _) _)) (fun _ => ?_)
        clear hK K
        try simp only [Act.put, List.setIfInBounds_toArray, List.set_cons_zero, List.set_cons_succ]
        refine wpAnyH_done (by kernel_rfl) ?_ _
        have hbq := (((HX1.out.setCell (p := ⟨wc.heap.size, 0, none⟩) (Nat.le_refl _) (.int .i64 (kindT (hd L.tail)))).setCell (p := ⟨wc.heap.size, 1, none⟩) (Nat.le_refl _) (.string ⟨(hd L.tail).toArray⟩)).setCell (p := ⟨wc.heap.size, 2, none⟩) (Nat.le_refl _) (.int .i64 (ps s.size L.tail))).setCell (p := ⟨wc.heap.size, 3, none⟩) (Nat.le_refl _) (.int .i64 (nx s.size L.tail))
        have ho := Only.of_below (g := g) hbq
        have B6 := Lib.hid (show Blk _ wc.heap.size 92 #[.int .i64 (kindT (hd L.tail)), .string ⟨(hd L.tail).toArray⟩, .int .i64 (ps s.size L.tail), .int .i64 (nx s.size L.tail)] from by have h := (((HZC.set_ 0 (.int .i64 (kindT (hd L.tail)))).set_ 1 (.string ⟨(hd L.tail).toArray⟩)).set_ 2 (.int .i64 (ps s.size L.tail))).set_ 3 (.int .i64 (nx s.size L.tail)); simpa using h)
        have hrd := HD.out.below hbq
        clear hbq HZC
        clear u0z v0z u1z v1z u2z v2z u3z v3z
        have HD := Lib.hid hrd
        have HE := Lib.hid (HE.out.only ho hg)
        have B2 := Lib.hid (B2.out.only ho (by omega))
        have B3 := Lib.hid (B3.out.only ho (by omega))
        have HO := Lib.hid (HO.out.trans ho)
        have HZ := Lib.hid (Nat.le_trans HZ.out ho.size)
        clear hrd ho
        clear c0 c1 c2 c3 c5 c6
        have c0 := HD.out.blk.cell 0
        have c1 := HD.out.blk.cell 1
        have c2 := HD.out.blk.cell 2
        have c3 := HD.out.blk.cell 3
        have c5 := HD.out.blk.cell 5
        have c6 := HD.out.blk.cell 6
        have t0 := B6.out.cell 0
        have t1 := B6.out.cell 1
        have t0e : (kindT (hd L.tail) != 3) = false := by simp [K3.out]
        have t1e : (hd L.tail == [61]) = true := by simp [H6.out]
        have b6g : True := trivial
        have hpa := HPA0.out
        obtain ⟨rt, hrt⟩ : ∃ r, pThing s.size a L = r := ⟨_, rfl⟩
        have HRT := Lib.hid hrt
        have HPA := Lib.hid hpa
        clear hrt hpa
        cases rt with
        | bad p =>
          have HR := Lib.hid (show pNot s.size a (f + 1) L = .bad p by rw [HPA.out, pAtom, HRT.out]; rfl)
          go_wp2_with fail
          refine (thingRR HD.out HE.out hg ha).mono ?_
          rw [HRT.out]
          rintro e wn ⟨x, rfl, hxl, ho, hbd⟩
          have hbd : BadR (wn.alloc (.cells #[.int .i64 x.1, .int .i64 x.2.1, .string ⟨x.2.2.toArray⟩] 23 (0, 0))) g p := hbd.below (alloc_b wn (.cells #[.int .i64 x.1, .int .i64 x.2.1, .string ⟨x.2.2.toArray⟩] 23 (0, 0)))
          have ho : Only g _ (wn.alloc (.cells #[.int .i64 x.1, .int .i64 x.2.1, .string ⟨x.2.2.toArray⟩] 23 (0, 0))) := ho.trans (Only.of_below (alloc_b wn (.cells #[.int .i64 x.1, .int .i64 x.2.1, .string ⟨x.2.2.toArray⟩] 23 (0, 0))))
          have HBD := Lib.hid hbd
          have B2 := Lib.hid (B2.out.only ho (by omega))
          have B3 := Lib.hid (B3.out.only ho (by omega))
          have HO := Lib.hid (HO.out.trans ho)
          clear hbd ho
          clear c0 c1 c2 c3 c5 c6
          have c6 := HBD.out
          unfold BadR at c6
          go_wp2_with fail
          refine (wantR_bad HBD.out _ _).mono ?_
          rintro e wn ⟨rfl, rfl⟩
          have z0 : _ = some (Value.int .i64 0) := B2.out.cell 0
          have y0 := B2.out.frozen 0
          have z1 : _ = some (Value.int .i64 0) := B2.out.cell 1
          have y1 := B2.out.frozen 1
          have z2 : _ = some (Value.int .i64 0) := B2.out.cell 2
          have y2 := B2.out.frozen 2
          have z3 : _ = some (Value.string ⟨#[]⟩) := B2.out.cell 3
          have y3 := B2.out.frozen 3
          have z4 : _ = some (Value.int .i64 0) := B2.out.cell 4
          have y4 := B2.out.frozen 4
          have z5 : _ = some (Value.slice none 0 0) := B2.out.cell 5
          have y5 := B2.out.frozen 5
          have m0 : _ = some (Value.int .i64 0) := B3.out.cell 0
          have m1 : _ = some (Value.int .i64 0) := B3.out.cell 1
          have m2 : _ = some (Value.int .i64 0) := B3.out.cell 2
          have m3 : _ = some (Value.string ⟨#[]⟩) := B3.out.cell 3
          have m4 : _ = some (Value.int .i64 0) := B3.out.cell 4
          have m5 : _ = some (Value.slice none 0 0) := B3.out.cell 5
          go_wp2_with fail
          refine ret_nodeF rfl (blk_put6 B2.out rfl _ _ _ _ _ _) rfl rfl ?_
          rw [HR.out]
          exact ⟨noNd, _, rfl, nv_nil _ _ _ _ _ (by simp), only_put6 HO.out (Nat.le_refl _) _ _ _ _ _ _, BadR.heap HBD.out (heap_put6 (by omega) _ _ _ _ _ _)⟩
        | ok x0 L1 =>
          by_cases h61 : hd L1 = [61]
          · have H61 := Lib.hid h61
            have hp1 : pNot s.size a (f + 1) L = (pInt s.size (-2147483648) 2147483647 L1.tail).go fun v L => .ok ⟨2, x0.1, x0.2.1, x0.2.2, v, .nil⟩ L := by rw [HPA.out, pAtom, HRT.out, Rs.go_ok, pTake, if_pos h61]; rfl
            clear h61
            cases hnt : numT (hd L1.tail) with
            | none =>
              have HNV := Lib.hid (show numV (hd L1.tail) = .tuple #[.int .i64 0, .bool false] by rw [numV, hnt]; rfl)
              have HR := Lib.hid (show pNot s.size a (f + 1) L = .bad (ps s.size L1.tail) by rw [hp1, pInt, numIn_R, hnt]; rfl)
              clear hp1 hnt
              by_cases h2 : kindT (hd L1.tail) = 2
              · have k2 : (kindT (hd L1.tail) != 2) = false := by simp [h2]
                clear h2
                go_wp2_with fail
                refine (thingRR HD.out HE.out hg ha).mono ?_
                rw [HRT.out]
                rintro e wn ⟨x, rfl, hxl, ho, rfl, hrd⟩
                have B7 := Lib.hid (Blk.new wn 23 #[.int .i64 x.1, .int .i64 x.2.1, .string ⟨x.2.2.toArray⟩])
                have hz7 := ho.size
                have hrd : RdR (wn.alloc (.cells #[.int .i64 x.1, .int .i64 x.2.1, .string ⟨x.2.2.toArray⟩] 23 (0, 0))) g a s L1 (-1) := hrd.below (alloc_b wn (.cells #[.int .i64 x.1, .int .i64 x.2.1, .string ⟨x.2.2.toArray⟩] 23 (0, 0)))
                have ho : Only g _ (wn.alloc (.cells #[.int .i64 x.1, .int .i64 x.2.1, .string ⟨x.2.2.toArray⟩] 23 (0, 0))) := ho.trans (Only.of_below (alloc_b wn (.cells #[.int .i64 x.1, .int .i64 x.2.1, .string ⟨x.2.2.toArray⟩] 23 (0, 0))))
                obtain ⟨b7, hb7⟩ : ∃ b, wn.heap.size = b := ⟨_, rfl⟩
                rw [hb7] at B7 hz7
                have HXL := Lib.hid hxl
                have h7g : b7 ≠ g := by have := HZ.out; omega
                clear hxl
                have HD := Lib.hid hrd
                have HE := Lib.hid (HE.out.only ho hg)
                have B2 := Lib.hid (B2.out.only ho (by omega))
                have B3 := Lib.hid (B3.out.only ho (by omega))
                have HO := Lib.hid (HO.out.trans ho)
                have HZ := Lib.hid (Nat.le_trans HZ.out ho.size)
                clear hrd ho
                clear c0 c1 c2 c3 c5 c6
                have c0 := HD.out.blk.cell 0
                have c1 := HD.out.blk.cell 1
                have c2 := HD.out.blk.cell 2
                have c3 := HD.out.blk.cell 3
                have c5 := HD.out.blk.cell 5
                have c6 := HD.out.blk.cell 6
                go_wp2_with fail
                refine (wantR_yes HD.out [61] 3 rfl H61.out).mono ?_
                rintro e wn ⟨rfl, hrd, ho⟩
                have HD := Lib.hid hrd
                have HE := Lib.hid (HE.out.only ho hg)
                have B2 := Lib.hid (B2.out.only ho (by omega))
                have B3 := Lib.hid (B3.out.only ho (by omega))
                have B7 := Lib.hid (B7.out.only ho (by omega))
                have HO := Lib.hid (HO.out.trans ho)
                have HZ := Lib.hid (Nat.le_trans HZ.out ho.size)
                clear hrd ho
                clear c0 c1 c2 c3 c5 c6
                have c0 := HD.out.blk.cell 0
                have c1 := HD.out.blk.cell 1
                have c2 := HD.out.blk.cell 2
                have c3 := HD.out.blk.cell 3
                have c5 := HD.out.blk.cell 5
                have c6 := HD.out.blk.cell 6
                go_wp2_with fail
                refine (numberR _ _).mono ?_
                rw [show numV (⟨(hd L1.tail).toArray⟩ : ByteArray).data.toList = .tuple #[.int .i64 0, .bool false] from HNV.out]
                rintro e wn ⟨rfl, rfl⟩
                go_wp2_with fail
                refine (wrongR HD.out).mono ?_
                rintro e wn ⟨rfl, hbd, ho⟩
                have HBD := Lib.hid hbd
                have B2 := Lib.hid (B2.out.only ho (by omega))
                have B3 := Lib.hid (B3.out.only ho (by omega))
                have B7 := Lib.hid (B7.out.only ho (by omega))
                have HO := Lib.hid (HO.out.trans ho)
                clear hbd ho
                clear c0 c1 c2 c3 c5 c6
                have c6 := HBD.out
                unfold BadR at c6
                have z0 : _ = some (Value.int .i64 0) := B2.out.cell 0
                have y0 := B2.out.frozen 0
                have z1 : _ = some (Value.int .i64 0) := B2.out.cell 1
                have y1 := B2.out.frozen 1
                have z2 : _ = some (Value.int .i64 0) := B2.out.cell 2
                have y2 := B2.out.frozen 2
                have z3 : _ = some (Value.string ⟨#[]⟩) := B2.out.cell 3
                have y3 := B2.out.frozen 3
                have z4 : _ = some (Value.int .i64 0) := B2.out.cell 4
                have y4 := B2.out.frozen 4
                have z5 : _ = some (Value.slice none 0 0) := B2.out.cell 5
                have y5 := B2.out.frozen 5
                have m0 : _ = some (Value.int .i64 0) := B3.out.cell 0
                have m1 : _ = some (Value.int .i64 0) := B3.out.cell 1
                have m2 : _ = some (Value.int .i64 0) := B3.out.cell 2
                have m3 : _ = some (Value.string ⟨#[]⟩) := B3.out.cell 3
                have m4 : _ = some (Value.int .i64 0) := B3.out.cell 4
                have m5 : _ = some (Value.slice none 0 0) := B3.out.cell 5
                go_wp2_with fail
                refine ret_nodeF rfl (blk_put6 B2.out rfl _ _ _ _ _ _) rfl rfl ?_
                rw [HR.out]
                exact ⟨noNd, _, rfl, nv_nil _ _ _ _ _ (by simp), only_put6 HO.out (Nat.le_refl _) _ _ _ _ _ _, BadR.heap HBD.out (heap_put6 (by omega) _ _ _ _ _ _)⟩
              · have k2 : (kindT (hd L1.tail) != 2) = true := by simpa using h2
                clear h2
                go_wp2_with fail
                refine (thingRR HD.out HE.out hg ha).mono ?_
                rw [HRT.out]
                rintro e wn ⟨x, rfl, hxl, ho, rfl, hrd⟩
                have B7 := Lib.hid (Blk.new wn 23 #[.int .i64 x.1, .int .i64 x.2.1, .string ⟨x.2.2.toArray⟩])
                have hz7 := ho.size
                have hrd : RdR (wn.alloc (.cells #[.int .i64 x.1, .int .i64 x.2.1, .string ⟨x.2.2.toArray⟩] 23 (0, 0))) g a s L1 (-1) := hrd.below (alloc_b wn (.cells #[.int .i64 x.1, .int .i64 x.2.1, .string ⟨x.2.2.toArray⟩] 23 (0, 0)))
                have ho : Only g _ (wn.alloc (.cells #[.int .i64 x.1, .int .i64 x.2.1, .string ⟨x.2.2.toArray⟩] 23 (0, 0))) := ho.trans (Only.of_below (alloc_b wn (.cells #[.int .i64 x.1, .int .i64 x.2.1, .string ⟨x.2.2.toArray⟩] 23 (0, 0))))
                obtain ⟨b7, hb7⟩ : ∃ b, wn.heap.size = b := ⟨_, rfl⟩
                rw [hb7] at B7 hz7
                have HXL := Lib.hid hxl
                have h7g : b7 ≠ g := by have := HZ.out; omega
                clear hxl
                have HD := Lib.hid hrd
                have HE := Lib.hid (HE.out.only ho hg)
                have B2 := Lib.hid (B2.out.only ho (by omega))
                have B3 := Lib.hid (B3.out.only ho (by omega))
                have HO := Lib.hid (HO.out.trans ho)
                have HZ := Lib.hid (Nat.le_trans HZ.out ho.size)
                clear hrd ho
                clear c0 c1 c2 c3 c5 c6
                have c0 := HD.out.blk.cell 0
                have c1 := HD.out.blk.cell 1
                have c2 := HD.out.blk.cell 2
                have c3 := HD.out.blk.cell 3
                have c5 := HD.out.blk.cell 5
                have c6 := HD.out.blk.cell 6
                go_wp2_with fail
                refine (wantR_yes HD.out [61] 3 rfl H61.out).mono ?_
                rintro e wn ⟨rfl, hrd, ho⟩
                have HD := Lib.hid hrd
                have HE := Lib.hid (HE.out.only ho hg)
                have B2 := Lib.hid (B2.out.only ho (by omega))
                have B3 := Lib.hid (B3.out.only ho (by omega))
                have B7 := Lib.hid (B7.out.only ho (by omega))
                have HO := Lib.hid (HO.out.trans ho)
                have HZ := Lib.hid (Nat.le_trans HZ.out ho.size)
                clear hrd ho
                clear c0 c1 c2 c3 c5 c6
                have c0 := HD.out.blk.cell 0
                have c1 := HD.out.blk.cell 1
                have c2 := HD.out.blk.cell 2
                have c3 := HD.out.blk.cell 3
                have c5 := HD.out.blk.cell 5
                have c6 := HD.out.blk.cell 6
                go_wp2_with fail
                refine (numberR _ _).mono ?_
                rw [show numV (⟨(hd L1.tail).toArray⟩ : ByteArray).data.toList = .tuple #[.int .i64 0, .bool false] from HNV.out]
                rintro e wn ⟨rfl, rfl⟩
                go_wp2_with fail
                refine (wrongR HD.out).mono ?_
                rintro e wn ⟨rfl, hbd, ho⟩
                have HBD := Lib.hid hbd
                have B2 := Lib.hid (B2.out.only ho (by omega))
                have B3 := Lib.hid (B3.out.only ho (by omega))
                have B7 := Lib.hid (B7.out.only ho (by omega))
                have HO := Lib.hid (HO.out.trans ho)
                clear hbd ho
                clear c0 c1 c2 c3 c5 c6
                have c6 := HBD.out
                unfold BadR at c6
                have z0 : _ = some (Value.int .i64 0) := B2.out.cell 0
                have y0 := B2.out.frozen 0
                have z1 : _ = some (Value.int .i64 0) := B2.out.cell 1
                have y1 := B2.out.frozen 1
                have z2 : _ = some (Value.int .i64 0) := B2.out.cell 2
                have y2 := B2.out.frozen 2
                have z3 : _ = some (Value.string ⟨#[]⟩) := B2.out.cell 3
                have y3 := B2.out.frozen 3
                have z4 : _ = some (Value.int .i64 0) := B2.out.cell 4
                have y4 := B2.out.frozen 4
                have z5 : _ = some (Value.slice none 0 0) := B2.out.cell 5
                have y5 := B2.out.frozen 5
                have m0 : _ = some (Value.int .i64 0) := B3.out.cell 0
                have m1 : _ = some (Value.int .i64 0) := B3.out.cell 1
                have m2 : _ = some (Value.int .i64 0) := B3.out.cell 2
                have m3 : _ = some (Value.string ⟨#[]⟩) := B3.out.cell 3
                have m4 : _ = some (Value.int .i64 0) := B3.out.cell 4
                have m5 : _ = some (Value.slice none 0 0) := B3.out.cell 5
                go_wp2_with fail
                refine ret_nodeF rfl (blk_put6 B2.out rfl _ _ _ _ _ _) rfl rfl ?_
                rw [HR.out]
                exact ⟨noNd, _, rfl, nv_nil _ _ _ _ _ (by simp), only_put6 HO.out (Nat.le_refl _) _ _ _ _ _ _, BadR.heap HBD.out (heap_put6 (by omega) _ _ _ _ _ _)⟩
            | some v =>
              have HNV := Lib.hid (show numV (hd L1.tail) = .tuple #[.int .i64 v, .bool true] by rw [numV, hnt]; rfl)
              have HR := Lib.hid (show pNot s.size a (f + 1) L = .ok ⟨2, x0.1, x0.2.1, x0.2.2, v, .nil⟩ L1.tail.tail by rw [hp1, pInt, numIn_R, hnt]; rfl)
              have k2 : (kindT (hd L1.tail) != 2) = false := by simp [num_kind hnt]
              have HTL := Lib.hid (pThing_le HRT.out)
              clear hp1 hnt
              go_wp2_with fail
              refine (thingRR HD.out HE.out hg ha).mono ?_
              rw [HRT.out]
              rintro e wn ⟨x, rfl, hxl, ho, rfl, hrd⟩
              have B7 := Lib.hid (Blk.new wn 23 #[.int .i64 x.1, .int .i64 x.2.1, .string ⟨x.2.2.toArray⟩])
              have hz7 := ho.size
              have hrd : RdR (wn.alloc (.cells #[.int .i64 x.1, .int .i64 x.2.1, .string ⟨x.2.2.toArray⟩] 23 (0, 0))) g a s L1 (-1) := hrd.below (alloc_b wn (.cells #[.int .i64 x.1, .int .i64 x.2.1, .string ⟨x.2.2.toArray⟩] 23 (0, 0)))
              have ho : Only g _ (wn.alloc (.cells #[.int .i64 x.1, .int .i64 x.2.1, .string ⟨x.2.2.toArray⟩] 23 (0, 0))) := ho.trans (Only.of_below (alloc_b wn (.cells #[.int .i64 x.1, .int .i64 x.2.1, .string ⟨x.2.2.toArray⟩] 23 (0, 0))))
              obtain ⟨b7, hb7⟩ : ∃ b, wn.heap.size = b := ⟨_, rfl⟩
              rw [hb7] at B7 hz7
              have HXL := Lib.hid hxl
              have h7g : b7 ≠ g := by have := HZ.out; omega
              clear hxl
              have HD := Lib.hid hrd
              have HE := Lib.hid (HE.out.only ho hg)
              have B2 := Lib.hid (B2.out.only ho (by omega))
              have B3 := Lib.hid (B3.out.only ho (by omega))
              have HO := Lib.hid (HO.out.trans ho)
              have HZ := Lib.hid (Nat.le_trans HZ.out ho.size)
              clear hrd ho
              clear c0 c1 c2 c3 c5 c6
              have c0 := HD.out.blk.cell 0
              have c1 := HD.out.blk.cell 1
              have c2 := HD.out.blk.cell 2
              have c3 := HD.out.blk.cell 3
              have c5 := HD.out.blk.cell 5
              have c6 := HD.out.blk.cell 6
              go_wp2_with fail
              refine (wantR_yes HD.out [61] 3 rfl H61.out).mono ?_
              rintro e wn ⟨rfl, hrd, ho⟩
              have HD := Lib.hid hrd
              have HE := Lib.hid (HE.out.only ho hg)
              have B2 := Lib.hid (B2.out.only ho (by omega))
              have B3 := Lib.hid (B3.out.only ho (by omega))
              have B7 := Lib.hid (B7.out.only ho (by omega))
              have HO := Lib.hid (HO.out.trans ho)
              have HZ := Lib.hid (Nat.le_trans HZ.out ho.size)
              clear hrd ho
              clear c0 c1 c2 c3 c5 c6
              have c0 := HD.out.blk.cell 0
              have c1 := HD.out.blk.cell 1
              have c2 := HD.out.blk.cell 2
              have c3 := HD.out.blk.cell 3
              have c5 := HD.out.blk.cell 5
              have c6 := HD.out.blk.cell 6
              go_wp2_with fail
              refine (numberR _ _).mono ?_
              rw [show numV (⟨(hd L1.tail).toArray⟩ : ByteArray).data.toList = .tuple #[.int .i64 v, .bool true] from HNV.out]
              rintro e wn ⟨rfl, rfl⟩
              go_wp2_with fail
              refine (onR HD.out).mono ?_
              rintro e wn ⟨rfl, hrd, ho⟩
              have HD := Lib.hid hrd
              have HE := Lib.hid (HE.out.only ho hg)
              have B2 := Lib.hid (B2.out.only ho (by omega))
              have B3 := Lib.hid (B3.out.only ho (by omega))
              have B7 := Lib.hid (B7.out.only ho (by omega))
              have HO := Lib.hid (HO.out.trans ho)
              have HZ := Lib.hid (Nat.le_trans HZ.out ho.size)
              clear hrd ho
              clear c0 c1 c2 c3 c5 c6
              have c0 := HD.out.blk.cell 0
              have c1 := HD.out.blk.cell 1
              have c2 := HD.out.blk.cell 2
              have c3 := HD.out.blk.cell 3
              have c5 := HD.out.blk.cell 5
              have c6 := HD.out.blk.cell 6
              have z0 : _ = some (Value.int .i64 0) := B2.out.cell 0
              have y0 := B2.out.frozen 0
              have z1 : _ = some (Value.int .i64 0) := B2.out.cell 1
              have y1 := B2.out.frozen 1
              have z2 : _ = some (Value.int .i64 0) := B2.out.cell 2
              have y2 := B2.out.frozen 2
              have z3 : _ = some (Value.string ⟨#[]⟩) := B2.out.cell 3
              have y3 := B2.out.frozen 3
              have z4 : _ = some (Value.int .i64 0) := B2.out.cell 4
              have y4 := B2.out.frozen 4
              have z5 : _ = some (Value.slice none 0 0) := B2.out.cell 5
              have y5 := B2.out.frozen 5
              have t0 := B7.out.cell 0
              have t1 := B7.out.cell 1
              have t2 := B7.out.cell 2
              go_wp2_with fail
              refine ret_nodeF rfl (blk_put6 B2.out rfl _ _ _ _ _ _) rfl rfl ?_
              rw [HR.out]
              exact ⟨_, _, rfl, nv_nil _ _ _ _ _ HXL.out, only_put6 HO.out (Nat.le_refl _) _ _ _ _ _ _, ⟨rfl, RdR.heap HD.out (heap_put6 (by omega) _ _ _ _ _ _), by have := HTL.out; have h1 := tail_le L1; have h2 := tail_le L1.tail; omega⟩⟩
          · have HR := Lib.hid (show pNot s.size a (f + 1) L = .bad (ps s.size L1) by rw [HPA.out, pAtom, HRT.out, Rs.go_ok, pTake, if_neg h61]; rfl)
            have H61 := Lib.hid h61
            clear h61
            go_wp2_with fail
            refine (thingRR HD.out HE.out hg ha).mono ?_
            rw [HRT.out]
            rintro e wn ⟨x, rfl, hxl, ho, rfl, hrd⟩
            have B7 := Lib.hid (Blk.new wn 23 #[.int .i64 x.1, .int .i64 x.2.1, .string ⟨x.2.2.toArray⟩])
            have hz7 := ho.size
            have hrd : RdR (wn.alloc (.cells #[.int .i64 x.1, .int .i64 x.2.1, .string ⟨x.2.2.toArray⟩] 23 (0, 0))) g a s L1 (-1) := hrd.below (alloc_b wn (.cells #[.int .i64 x.1, .int .i64 x.2.1, .string ⟨x.2.2.toArray⟩] 23 (0, 0)))
            have ho : Only g _ (wn.alloc (.cells #[.int .i64 x.1, .int .i64 x.2.1, .string ⟨x.2.2.toArray⟩] 23 (0, 0))) := ho.trans (Only.of_below (alloc_b wn (.cells #[.int .i64 x.1, .int .i64 x.2.1, .string ⟨x.2.2.toArray⟩] 23 (0, 0))))
            obtain ⟨b7, hb7⟩ : ∃ b, wn.heap.size = b := ⟨_, rfl⟩
            rw [hb7] at B7 hz7
            have HXL := Lib.hid hxl
            have h7g : b7 ≠ g := by have := HZ.out; omega
            clear hxl
            have HD := Lib.hid hrd
            have HE := Lib.hid (HE.out.only ho hg)
            have B2 := Lib.hid (B2.out.only ho (by omega))
            have B3 := Lib.hid (B3.out.only ho (by omega))
            have HO := Lib.hid (HO.out.trans ho)
            have HZ := Lib.hid (Nat.le_trans HZ.out ho.size)
            clear hrd ho
            clear c0 c1 c2 c3 c5 c6
            have c0 := HD.out.blk.cell 0
            have c1 := HD.out.blk.cell 1
            have c2 := HD.out.blk.cell 2
            have c3 := HD.out.blk.cell 3
            have c5 := HD.out.blk.cell 5
            have c6 := HD.out.blk.cell 6
            go_wp2_with fail
            refine (wantR_no HD.out [61] 3 rfl H61.out).mono ?_
            rintro e wn ⟨rfl, hbd, ho⟩
            have HBD := Lib.hid hbd
            have B2 := Lib.hid (B2.out.only ho (by omega))
            have B3 := Lib.hid (B3.out.only ho (by omega))
            have B7 := Lib.hid (B7.out.only ho (by omega))
            have HO := Lib.hid (HO.out.trans ho)
            clear hbd ho
            clear c0 c1 c2 c3 c5 c6
            have c6 := HBD.out
            unfold BadR at c6
            have z0 : _ = some (Value.int .i64 0) := B2.out.cell 0
            have y0 := B2.out.frozen 0
            have z1 : _ = some (Value.int .i64 0) := B2.out.cell 1
            have y1 := B2.out.frozen 1
            have z2 : _ = some (Value.int .i64 0) := B2.out.cell 2
            have y2 := B2.out.frozen 2
            have z3 : _ = some (Value.string ⟨#[]⟩) := B2.out.cell 3
            have y3 := B2.out.frozen 3
            have z4 : _ = some (Value.int .i64 0) := B2.out.cell 4
            have y4 := B2.out.frozen 4
            have z5 : _ = some (Value.slice none 0 0) := B2.out.cell 5
            have y5 := B2.out.frozen 5
            have m0 : _ = some (Value.int .i64 0) := B3.out.cell 0
            have m1 : _ = some (Value.int .i64 0) := B3.out.cell 1
            have m2 : _ = some (Value.int .i64 0) := B3.out.cell 2
            have m3 : _ = some (Value.string ⟨#[]⟩) := B3.out.cell 3
            have m4 : _ = some (Value.int .i64 0) := B3.out.cell 4
            have m5 : _ = some (Value.slice none 0 0) := B3.out.cell 5
            go_wp2_with fail
            refine ret_nodeF rfl (blk_put6 B2.out rfl _ _ _ _ _ _) rfl rfl ?_
            rw [HR.out]
            exact ⟨noNd, _, rfl, nv_nil _ _ _ _ _ (by simp), only_put6 HO.out (Nat.le_refl _) _ _ _ _ _ _, BadR.heap HBD.out (heap_put6 (by omega) _ _ _ _ _ _)⟩
    · have HR := Lib.hid (show pNot s.size a (f + 1) L = .ok ⟨1, 0, 0, [], 0, .nil⟩ L.tail by rw [pNot, if_neg h126, if_neg h40, if_pos ⟨htr, h61⟩])
      have H6 := Lib.hid h61
      clear h126 h40 htr
      by_cases hk3 : ¬ kindT (hd L.tail) = 3
      · have k3 : (kindT (hd L.tail) != 3) = true := by simpa using hk3
        clear hk3 h61
        go_enter Tryz.func85, Tryz.ntmps85
        go_wp2_with fail
        refine (isR HD.out [126] 3 rfl).mono ?_
        rw [H1.out]
        rintro e wn ⟨rfl, rfl⟩
        go_wp2_with fail
        refine (isR HD.out [40] 3 rfl).mono ?_
        rw [H2.out]
        rintro e wn ⟨rfl, rfl⟩
        go_wp2_with fail
        refine (isR HD.out [116, 114, 117, 101] 1 rfl).mono ?_
        rw [H3.out]
        rintro e wn ⟨rfl, rfl⟩
        go_wp2_with fail
        obtain ⟨wc, hwc⟩ : ∃ x, x = ((w.alloc (.cells #[.int .i64 0, .int .i64 0, .int .i64 0, .string ⟨#[]⟩, .int .i64 0, .slice none 0 0] 26 (0, 0))).alloc (.cells #[.int .i64 0, .int .i64 0, .int .i64 0, .string ⟨#[]⟩, .int .i64 0, .slice none 0 0] 26 (0, 0))) := ⟨_, rfl⟩
        have HD := Lib.hid (show RdR wc g a s L (-1) by rw [hwc]; exact HD.out)
        have HE := Lib.hid (show Env wc by rw [hwc]; exact HE.out)
        have HO := Lib.hid (show Only g w wc by rw [hwc]; exact HO.out)
        have B2 := Lib.hid (show Blk wc w.heap.size 26 zeroNode by rw [hwc]; exact B2.out)
        have B3 := Lib.hid (show Blk wc (w.heap.size + 1) 26 zeroNode by rw [hwc]; exact B3.out)
        have HZ := Lib.hid (show w.heap.size + 2 ≤ wc.heap.size by rw [hwc]; exact HZ.out)
        rw [← hwc]
        clear hwc
        clear c0 c1 c2 c3 c5 c6
        have c0 := HD.out.blk.cell 0
        have c1 := HD.out.blk.cell 1
        have c2 := HD.out.blk.cell 2
        have c3 := HD.out.blk.cell 3
        have c5 := HD.out.blk.cell 5
        have c6 := HD.out.blk.cell 6
        have SS : Hid (∀ y, Below wc.heap.size wc y → (fun y : World => y.cell? ⟨g, 1, none⟩ = some (.string s) ∧ y.cell? ⟨g, 5, none⟩ = some (.int .i64 (nx s.size L))) y) := Lib.hid (fun y hy => ⟨(HD.out.below hy).blk.cell 1, (HD.out.below hy).blk.cell 5⟩)
        refine wp_region_held_drew (S := (fun y : World => y.cell? ⟨g, 1, none⟩ = some (.string s) ∧ y.cell? ⟨g, 5, none⟩ = some (.int .i64 (nx s.size L)))) (by kernel_rfl) (SS.out _ ((Below.refl _ _).drew)) (fun hHeld => ?_)
        refine wpAnyH_take (i := 0) (v := ?_) rfl (by kernel_rfl) (by kernel_rfl) (by kernel_rfl) (fun _ _ _ h => h) (Or.inl ⟨by kernel_rfl, ?_⟩) (by assumption) ?_
        rotate_left
        · intro x' hSx
          try dsimp only at hSx
          go_simp
          try with_reducible rfl
        try simp only [Act.put, List.setIfInBounds_toArray]
        refine wpAnyH_take (i := 1) (v := ?_) rfl (by kernel_rfl) (by kernel_rfl) (by kernel_rfl) (fun _ _ _ h => h) (Or.inl ⟨by kernel_rfl, ?_⟩) (by assumption) ?_
        rotate_left
        · intro x' hSx
          try dsimp only at hSx
          go_simp
          try with_reducible rfl
        try simp only [Act.put]
        refine wpAnyH_take (i := 2) (v := ?_) rfl (by kernel_rfl) (by kernel_rfl) (by kernel_rfl) (fun _ _ _ h => h) (Or.inl ⟨by kernel_rfl, ?_⟩) (by assumption) ?_
        rotate_left
        · intro x' hSx
          try dsimp only at hSx
          go_simp
          try with_reducible rfl
        try simp only [Act.put]
        refine wpAnyH_take (i := 3) (v := ?_) rfl (by kernel_rfl) (by kernel_rfl) (by kernel_rfl) (fun _ _ _ h => h) (Or.inl ⟨by kernel_rfl, ?_⟩) (by assumption) ?_
        rotate_left
        · intro x' hSx
          try dsimp only at hSx
          go_simp
          try with_reducible rfl
        try simp only [Act.put]
        refine wpAnyH_take (i := 4) (v := ?_) rfl (by kernel_rfl) (by kernel_rfl) (by kernel_rfl) (fun _ _ _ h => h) (Or.inl ⟨by kernel_rfl, ?_⟩) (by assumption) ?_
        rotate_left
        · intro x' hSx
          try dsimp only at hSx
          go_simp
          try with_reducible rfl
        try simp only [Act.put]
        refine wpAnyH_take (i := 5) (v := ?_) rfl (by kernel_rfl) (by kernel_rfl) (by kernel_rfl) (fun _ _ _ h => h) (Or.inl ⟨by kernel_rfl, ?_⟩) (by assumption) ?_
        rotate_left
        · intro x' hSx
          try dsimp only at hSx
          go_simp
          try with_reducible rfl
        try simp only [Act.put]
        refine wpAnyH_take (i := 6) (v := ?_) rfl (by kernel_rfl) (by kernel_rfl) (by kernel_rfl) (fun _ _ _ h => h) (Or.inl ⟨by kernel_rfl, ?_⟩) (by assumption) ?_
        rotate_left
        · intro x' hSx
          try dsimp only at hSx
          go_simp
          try with_reducible rfl
        try simp only [Act.put]
        refine wpAnyH_take (i := 7) (v := ?_) rfl (by kernel_rfl) (by kernel_rfl) (by kernel_rfl) (fun _ _ _ h => h) (Or.inl ⟨by kernel_rfl, ?_⟩) (by assumption) ?_
        rotate_left
        · intro x' hSx
          try dsimp only at hSx
          go_simp
          try with_reducible rfl
        try simp only [Act.put]
        refine wpAnyH_take (i := 8) (v := ?_) rfl (by kernel_rfl) (by kernel_rfl) (by kernel_rfl) (fun _ _ _ h => h) (Or.inl ⟨by kernel_rfl, ?_⟩) (by assumption) ?_
        rotate_left
        · intro x' hSx
          try dsimp only at hSx
          go_simp
          try with_reducible rfl
        try simp only [Act.put]
        refine wpAnyH_ready (rs := [9, 10]) (by kernel_rfl) (by simp) ?_
        refine AllReadyH.cons rfl (fun K hK => ?_) (AllReadyH.cons rfl (fun K hK => ?_) (AllReadyH.nil))
        · go_simp
          go_at_call 46
          refine (tokR s (nx s.size L) HD.out.nle HD.out.size _).mono ?_
          rw [HD.out.nxt]
          rintro e x1 ⟨rfl, hb1⟩
          have HX1 := Lib.hid (show Below wc.heap.size wc x1 from below_of_drew hb1)
          have hx1 := HX1.out.size
          clear hb1
          refine hK.out _ _ (SS.out _ HX1.out) (fun _ => ?_)
          clear hK K
          try simp only [Act.put, List.setIfInBounds_toArray, List.set_cons_zero, List.set_cons_succ]
          refine wpAnyH_ready (rs := [10]) (by kernel_rfl) (by simp) ?_
          refine AllReadyH.cons rfl (fun K hK => ?_) AllReadyH.nil
          go_simp
          refine hK.out _ _ (SS.out _ (HX1.out.trans ((alloc_b x1 _).mono hx1))) (fun _ => ?_)
          clear hK K
          try simp only [Act.put, List.setIfInBounds_toArray, List.set_cons_zero, List.set_cons_succ]
          refine wpAnyH_ready (rs := [11]) (by kernel_rfl) (by simp) ?_
          refine AllReadyH.cons rfl (fun K hK => ?_) AllReadyH.nil
          go_simp
          refine hK.out _ _ (SS.out _ (HX1.out.trans ((alloc_b x1 _).mono hx1))) (fun _ => ?_)
          clear hK K
          try simp only [Act.put, List.setIfInBounds_toArray, List.set_cons_zero, List.set_cons_succ]
          refine wpAnyH_done (by kernel_rfl) ?_ _
          have ho : Only g wc (x1.alloc (.cells #[.int .i64 (kindT (hd L.tail)), .string ⟨(hd L.tail).toArray⟩, .int .i64 (ps s.size L.tail), .int .i64 (nx s.size L.tail)] 92 (0, 0))) := Only.of_below (HX1.out.trans ((alloc_b x1 _).mono hx1))
          have B6 := Lib.hid (Blk.new x1 92 #[.int .i64 (kindT (hd L.tail)), .string ⟨(hd L.tail).toArray⟩, .int .i64 (ps s.size L.tail), .int .i64 (nx s.size L.tail)])
          have hrd := HD.out.below (HX1.out.trans ((alloc_b x1 (.cells #[.int .i64 (kindT (hd L.tail)), .string ⟨(hd L.tail).toArray⟩, .int .i64 (ps s.size L.tail), .int .i64 (nx s.size L.tail)] 92 (0, 0))).mono hx1))
          have HD := Lib.hid hrd
          have HE := Lib.hid (HE.out.only ho hg)
          have B2 := Lib.hid (B2.out.only ho (by omega))
          have B3 := Lib.hid (B3.out.only ho (by omega))
          have HO := Lib.hid (HO.out.trans ho)
          have HZ := Lib.hid (Nat.le_trans HZ.out ho.size)
          clear hrd ho
          clear c0 c1 c2 c3 c5 c6
          have c0 := HD.out.blk.cell 0
          have c1 := HD.out.blk.cell 1
          have c2 := HD.out.blk.cell 2
          have c3 := HD.out.blk.cell 3
          have c5 := HD.out.blk.cell 5
          have c6 := HD.out.blk.cell 6
          have t0 := B6.out.cell 0
          have t1 := B6.out.cell 1
          go_wp2_with fail
          refine (onR HD.out).mono ?_
          rintro e wn ⟨rfl, hrd, ho⟩
          have HD := Lib.hid hrd
          have HE := Lib.hid (HE.out.only ho hg)
          have B2 := Lib.hid (B2.out.only ho (by omega))
          have B3 := Lib.hid (B3.out.only ho (by omega))
          have HO := Lib.hid (HO.out.trans ho)
          have HZ := Lib.hid (Nat.le_trans HZ.out ho.size)
          clear hrd ho
          clear c0 c1 c2 c3 c5 c6
          have c0 := HD.out.blk.cell 0
          have c1 := HD.out.blk.cell 1
          have c2 := HD.out.blk.cell 2
          have c3 := HD.out.blk.cell 3
          have c5 := HD.out.blk.cell 5
          have c6 := HD.out.blk.cell 6
          have z0 : _ = some (Value.int .i64 0) := B2.out.cell 0
          have y0 := B2.out.frozen 0
          have z1 : _ = some (Value.int .i64 0) := B2.out.cell 1
          have y1 := B2.out.frozen 1
          have z2 : _ = some (Value.int .i64 0) := B2.out.cell 2
          have y2 := B2.out.frozen 2
          have z3 : _ = some (Value.string ⟨#[]⟩) := B2.out.cell 3
          have y3 := B2.out.frozen 3
          have z4 : _ = some (Value.int .i64 0) := B2.out.cell 4
          have y4 := B2.out.frozen 4
          have z5 : _ = some (Value.slice none 0 0) := B2.out.cell 5
          have y5 := B2.out.frozen 5
          go_wp2_with fail
          refine ret_nodeF rfl (blk_put6 B2.out rfl _ _ _ _ _ _) rfl rfl ?_
          rw [HR.out]
          exact ⟨_, _, rfl, nv_nil _ _ _ _ _ (by simp), only_put6 HO.out (Nat.le_refl _) _ _ _ _ _ _, ⟨rfl, RdR.heap HD.out (heap_put6 (by omega) _ _ _ _ _ _), tail_le L⟩⟩
        · go_simp
          refine hK.out _ _ (SS.out _ ((alloc_b wc _).drew)) (fun _ => ?_)
          clear hK K
          try simp only [Act.put, List.setIfInBounds_toArray, List.set_cons_zero, List.set_cons_succ]
          refine wpAnyH_ready (rs := [9]) (by kernel_rfl) (by simp) ?_
          refine AllReadyH.cons rfl (fun K hK => ?_) AllReadyH.nil
          go_simp
          go_at_call 46
          refine (tokR s (nx s.size L) HD.out.nle HD.out.size _).mono ?_
          rw [HD.out.nxt]
          rintro e x1 ⟨rfl, hb1⟩
          have HX1 := Lib.hid (show Below wc.heap.size wc x1 from ((alloc_b wc _).drew).trans (hb1.mono (by simp)))
          have hx1 := HX1.out.size
          have HZC : Blk x1 wc.heap.size 92 #[.int .i64 0, .string ⟨#[]⟩, .int .i64 0, .int .i64 0] := (show Blk (wc.alloc (.cells #[.int .i64 0, .string ⟨#[]⟩, .int .i64 0, .int .i64 0] 92 (0, 0))).drew wc.heap.size 92 #[.int .i64 0, .string ⟨#[]⟩, .int .i64 0, .int .i64 0] from Blk.new wc _ _).go hb1
          clear hb1
          refine hK.out _ _ (SS.out _ HX1.out) (fun _ => ?_)
          clear hK K
          try simp only [Act.put, List.setIfInBounds_toArray, List.set_cons_zero, List.set_cons_succ]
          have u0z : _ = some (Value.int .i64 0) := HZC.cell 0
          have v0z := HZC.frozen 0
          have u1z : _ = some (Value.string ⟨#[]⟩) := HZC.cell 1
          have v1z := HZC.frozen 1
          have u2z : _ = some (Value.int .i64 0) := HZC.cell 2
          have v2z := HZC.frozen 2
          have u3z : _ = some (Value.int .i64 0) := HZC.cell 3
          have v3z := HZC.frozen 3
          refine wpAnyH_ready (rs := [11]) (by kernel_rfl) (by simp) ?_
          refine AllReadyH.cons rfl (fun K hK => ?_) AllReadyH.nil
          go_simp
          refine hK.out _ _ (SS.out _ ((((HX1.out.setCell (p := ⟨wc.heap.size, 0, none⟩) (Nat.le_refl _) _).setCell (p := ⟨wc.heap.size, 1, none⟩) (Nat.le_refl _) _).setCell (p := ⟨wc.heap.size, 2, none⟩) (Nat.le_refl _) _).setCell (p := ⟨wc.heap.size, 3, none⟩) (Nat.le_refl _) _)) (fun _ => ?_)
          clear hK K
          try simp only [Act.put, List.setIfInBounds_toArray, List.set_cons_zero, List.set_cons_succ]
          refine wpAnyH_done (by kernel_rfl) ?_ _
          have hbq := (((HX1.out.setCell (p := ⟨wc.heap.size, 0, none⟩) (Nat.le_refl _) (.int .i64 (kindT (hd L.tail)))).setCell (p := ⟨wc.heap.size, 1, none⟩) (Nat.le_refl _) (.string ⟨(hd L.tail).toArray⟩)).setCell (p := ⟨wc.heap.size, 2, none⟩) (Nat.le_refl _) (.int .i64 (ps s.size L.tail))).setCell (p := ⟨wc.heap.size, 3, none⟩) (Nat.le_refl _) (.int .i64 (nx s.size L.tail))
          have ho := Only.of_below (g := g) hbq
          have B6 := Lib.hid (show Blk _ wc.heap.size 92 #[.int .i64 (kindT (hd L.tail)), .string ⟨(hd L.tail).toArray⟩, .int .i64 (ps s.size L.tail), .int .i64 (nx s.size L.tail)] from by have h := (((HZC.set_ 0 (.int .i64 (kindT (hd L.tail)))).set_ 1 (.string ⟨(hd L.tail).toArray⟩)).set_ 2 (.int .i64 (ps s.size L.tail))).set_ 3 (.int .i64 (nx s.size L.tail)); simpa using h)
          have hrd := HD.out.below hbq
          clear hbq HZC
          clear u0z v0z u1z v1z u2z v2z u3z v3z
          have HD := Lib.hid hrd
          have HE := Lib.hid (HE.out.only ho hg)
          have B2 := Lib.hid (B2.out.only ho (by omega))
          have B3 := Lib.hid (B3.out.only ho (by omega))
          have HO := Lib.hid (HO.out.trans ho)
          have HZ := Lib.hid (Nat.le_trans HZ.out ho.size)
          clear hrd ho
          clear c0 c1 c2 c3 c5 c6
          have c0 := HD.out.blk.cell 0
          have c1 := HD.out.blk.cell 1
          have c2 := HD.out.blk.cell 2
          have c3 := HD.out.blk.cell 3
          have c5 := HD.out.blk.cell 5
          have c6 := HD.out.blk.cell 6
          have t0 := B6.out.cell 0
          have t1 := B6.out.cell 1
          go_wp2_with fail
          refine (onR HD.out).mono ?_
          rintro e wn ⟨rfl, hrd, ho⟩
          have HD := Lib.hid hrd
          have HE := Lib.hid (HE.out.only ho hg)
          have B2 := Lib.hid (B2.out.only ho (by omega))
          have B3 := Lib.hid (B3.out.only ho (by omega))
          have HO := Lib.hid (HO.out.trans ho)
          have HZ := Lib.hid (Nat.le_trans HZ.out ho.size)
          clear hrd ho
          clear c0 c1 c2 c3 c5 c6
          have c0 := HD.out.blk.cell 0
          have c1 := HD.out.blk.cell 1
          have c2 := HD.out.blk.cell 2
          have c3 := HD.out.blk.cell 3
          have c5 := HD.out.blk.cell 5
          have c6 := HD.out.blk.cell 6
          have z0 : _ = some (Value.int .i64 0) := B2.out.cell 0
          have y0 := B2.out.frozen 0
          have z1 : _ = some (Value.int .i64 0) := B2.out.cell 1
          have y1 := B2.out.frozen 1
          have z2 : _ = some (Value.int .i64 0) := B2.out.cell 2
          have y2 := B2.out.frozen 2
          have z3 : _ = some (Value.string ⟨#[]⟩) := B2.out.cell 3
          have y3 := B2.out.frozen 3
          have z4 : _ = some (Value.int .i64 0) := B2.out.cell 4
          have y4 := B2.out.frozen 4
          have z5 : _ = some (Value.slice none 0 0) := B2.out.cell 5
          have y5 := B2.out.frozen 5
          go_wp2_with fail
          refine ret_nodeF rfl (blk_put6 B2.out rfl _ _ _ _ _ _) rfl rfl ?_
          rw [HR.out]
          exact ⟨_, _, rfl, nv_nil _ _ _ _ _ (by simp), only_put6 HO.out (Nat.le_refl _) _ _ _ _ _ _, ⟨rfl, RdR.heap HD.out (heap_put6 (by omega) _ _ _ _ _ _), tail_le L⟩⟩
      · have k3 : (kindT (hd L.tail) != 3) = false := by simpa using hk3
        have q3 : (hd L.tail == [61]) = false := by simpa using H6.out
        clear hk3 h61
        go_enter Tryz.func85, Tryz.ntmps85
        go_wp2_with fail
        refine (isR HD.out [126] 3 rfl).mono ?_
        rw [H1.out]
        rintro e wn ⟨rfl, rfl⟩
        go_wp2_with fail
        refine (isR HD.out [40] 3 rfl).mono ?_
        rw [H2.out]
        rintro e wn ⟨rfl, rfl⟩
        go_wp2_with fail
        refine (isR HD.out [116, 114, 117, 101] 1 rfl).mono ?_
        rw [H3.out]
        rintro e wn ⟨rfl, rfl⟩
        go_wp2_with fail
        obtain ⟨wc, hwc⟩ : ∃ x, x = ((w.alloc (.cells #[.int .i64 0, .int .i64 0, .int .i64 0, .string ⟨#[]⟩, .int .i64 0, .slice none 0 0] 26 (0, 0))).alloc (.cells #[.int .i64 0, .int .i64 0, .int .i64 0, .string ⟨#[]⟩, .int .i64 0, .slice none 0 0] 26 (0, 0))) := ⟨_, rfl⟩
        have HD := Lib.hid (show RdR wc g a s L (-1) by rw [hwc]; exact HD.out)
        have HE := Lib.hid (show Env wc by rw [hwc]; exact HE.out)
        have HO := Lib.hid (show Only g w wc by rw [hwc]; exact HO.out)
        have B2 := Lib.hid (show Blk wc w.heap.size 26 zeroNode by rw [hwc]; exact B2.out)
        have B3 := Lib.hid (show Blk wc (w.heap.size + 1) 26 zeroNode by rw [hwc]; exact B3.out)
        have HZ := Lib.hid (show w.heap.size + 2 ≤ wc.heap.size by rw [hwc]; exact HZ.out)
        rw [← hwc]
        clear hwc
        clear c0 c1 c2 c3 c5 c6
        have c0 := HD.out.blk.cell 0
        have c1 := HD.out.blk.cell 1
        have c2 := HD.out.blk.cell 2
        have c3 := HD.out.blk.cell 3
        have c5 := HD.out.blk.cell 5
        have c6 := HD.out.blk.cell 6
        have SS : Hid (∀ y, Below wc.heap.size wc y → (fun y : World => y.cell? ⟨g, 1, none⟩ = some (.string s) ∧ y.cell? ⟨g, 5, none⟩ = some (.int .i64 (nx s.size L))) y) := Lib.hid (fun y hy => ⟨(HD.out.below hy).blk.cell 1, (HD.out.below hy).blk.cell 5⟩)
        refine wp_region_held_drew (S := (fun y : World => y.cell? ⟨g, 1, none⟩ = some (.string s) ∧ y.cell? ⟨g, 5, none⟩ = some (.int .i64 (nx s.size L)))) (by kernel_rfl) (SS.out _ ((Below.refl _ _).drew)) (fun hHeld => ?_)
        refine wpAnyH_take (i := 0) (v := ?_) rfl (by kernel_rfl) (by kernel_rfl) (by kernel_rfl) (fun _ _ _ h => h) (Or.inl ⟨by kernel_rfl, ?_⟩) (by assumption) ?_
        rotate_left
        · intro x' hSx
          try dsimp only at hSx
          go_simp
          try with_reducible rfl
        try simp only [Act.put, List.setIfInBounds_toArray]
        refine wpAnyH_take (i := 1) (v := ?_) rfl (by kernel_rfl) (by kernel_rfl) (by kernel_rfl) (fun _ _ _ h => h) (Or.inl ⟨by kernel_rfl, ?_⟩) (by assumption) ?_
        rotate_left
        · intro x' hSx
          try dsimp only at hSx
          go_simp
          try with_reducible rfl
        try simp only [Act.put]
        refine wpAnyH_take (i := 2) (v := ?_) rfl (by kernel_rfl) (by kernel_rfl) (by kernel_rfl) (fun _ _ _ h => h) (Or.inl ⟨by kernel_rfl, ?_⟩) (by assumption) ?_
        rotate_left
        · intro x' hSx
          try dsimp only at hSx
          go_simp
          try with_reducible rfl
        try simp only [Act.put]
        refine wpAnyH_take (i := 3) (v := ?_) rfl (by kernel_rfl) (by kernel_rfl) (by kernel_rfl) (fun _ _ _ h => h) (Or.inl ⟨by kernel_rfl, ?_⟩) (by assumption) ?_
        rotate_left
        · intro x' hSx
          try dsimp only at hSx
          go_simp
          try with_reducible rfl
        try simp only [Act.put]
        refine wpAnyH_take (i := 4) (v := ?_) rfl (by kernel_rfl) (by kernel_rfl) (by kernel_rfl) (fun _ _ _ h => h) (Or.inl ⟨by kernel_rfl, ?_⟩) (by assumption) ?_
        rotate_left
        · intro x' hSx
          try dsimp only at hSx
          go_simp
          try with_reducible rfl
        try simp only [Act.put]
        refine wpAnyH_take (i := 5) (v := ?_) rfl (by kernel_rfl) (by kernel_rfl) (by kernel_rfl) (fun _ _ _ h => h) (Or.inl ⟨by kernel_rfl, ?_⟩) (by assumption) ?_
        rotate_left
        · intro x' hSx
          try dsimp only at hSx
          go_simp
          try with_reducible rfl
        try simp only [Act.put]
        refine wpAnyH_take (i := 6) (v := ?_) rfl (by kernel_rfl) (by kernel_rfl) (by kernel_rfl) (fun _ _ _ h => h) (Or.inl ⟨by kernel_rfl, ?_⟩) (by assumption) ?_
        rotate_left
        · intro x' hSx
          try dsimp only at hSx
          go_simp
          try with_reducible rfl
        try simp only [Act.put]
        refine wpAnyH_take (i := 7) (v := ?_) rfl (by kernel_rfl) (by kernel_rfl) (by kernel_rfl) (fun _ _ _ h => h) (Or.inl ⟨by kernel_rfl, ?_⟩) (by assumption) ?_
        rotate_left
        · intro x' hSx
          try dsimp only at hSx
          go_simp
          try with_reducible rfl
        try simp only [Act.put]
        refine wpAnyH_take (i := 8) (v := ?_) rfl (by kernel_rfl) (by kernel_rfl) (by kernel_rfl) (fun _ _ _ h => h) (Or.inl ⟨by kernel_rfl, ?_⟩) (by assumption) ?_
        rotate_left
        · intro x' hSx
          try dsimp only at hSx
          go_simp
          try with_reducible rfl
        try simp only [Act.put]
        refine wpAnyH_ready (rs := [9, 10]) (by kernel_rfl) (by simp) ?_
        refine AllReadyH.cons rfl (fun K hK => ?_) (AllReadyH.cons rfl (fun K hK => ?_) (AllReadyH.nil))
        · go_simp
          go_at_call 46
          refine (tokR s (nx s.size L) HD.out.nle HD.out.size _).mono ?_
          rw [HD.out.nxt]
          rintro e x1 ⟨rfl, hb1⟩
          have HX1 := Lib.hid (show Below wc.heap.size wc x1 from below_of_drew hb1)
          have hx1 := HX1.out.size
          clear hb1
          refine hK.out _ _ (SS.out _ HX1.out) (fun _ => ?_)
          clear hK K
          try simp only [Act.put, List.setIfInBounds_toArray, List.set_cons_zero, List.set_cons_succ]
          refine wpAnyH_ready (rs := [10]) (by kernel_rfl) (by simp) ?_
          refine AllReadyH.cons rfl (fun K hK => ?_) AllReadyH.nil
          go_simp
          refine hK.out _ _ (SS.out _ (HX1.out.trans ((alloc_b x1 _).mono hx1))) (fun _ => ?_)
          clear hK K
          try simp only [Act.put, List.setIfInBounds_toArray, List.set_cons_zero, List.set_cons_succ]
          refine wpAnyH_ready (rs := [11]) (by kernel_rfl) (by simp) ?_
          refine AllReadyH.cons rfl (fun K hK => ?_) AllReadyH.nil
          go_simp
          refine hK.out _ _ (SS.out _ (HX1.out.trans ((alloc_b x1 _).mono hx1))) (fun _ => ?_)
          clear hK K
          try simp only [Act.put, List.setIfInBounds_toArray, List.set_cons_zero, List.set_cons_succ]
          refine wpAnyH_done (by kernel_rfl) ?_ _
          have ho : Only g wc (x1.alloc (.cells #[.int .i64 (kindT (hd L.tail)), .string ⟨(hd L.tail).toArray⟩, .int .i64 (ps s.size L.tail), .int .i64 (nx s.size L.tail)] 92 (0, 0))) := Only.of_below (HX1.out.trans ((alloc_b x1 _).mono hx1))
          have B6 := Lib.hid (Blk.new x1 92 #[.int .i64 (kindT (hd L.tail)), .string ⟨(hd L.tail).toArray⟩, .int .i64 (ps s.size L.tail), .int .i64 (nx s.size L.tail)])
          have hrd := HD.out.below (HX1.out.trans ((alloc_b x1 (.cells #[.int .i64 (kindT (hd L.tail)), .string ⟨(hd L.tail).toArray⟩, .int .i64 (ps s.size L.tail), .int .i64 (nx s.size L.tail)] 92 (0, 0))).mono hx1))
          have HD := Lib.hid hrd
          have HE := Lib.hid (HE.out.only ho hg)
          have B2 := Lib.hid (B2.out.only ho (by omega))
          have B3 := Lib.hid (B3.out.only ho (by omega))
          have HO := Lib.hid (HO.out.trans ho)
          have HZ := Lib.hid (Nat.le_trans HZ.out ho.size)
          clear hrd ho
          clear c0 c1 c2 c3 c5 c6
          have c0 := HD.out.blk.cell 0
          have c1 := HD.out.blk.cell 1
          have c2 := HD.out.blk.cell 2
          have c3 := HD.out.blk.cell 3
          have c5 := HD.out.blk.cell 5
          have c6 := HD.out.blk.cell 6
          have t0 := B6.out.cell 0
          have t1 := B6.out.cell 1
          go_wp2_with fail
          refine (onR HD.out).mono ?_
          rintro e wn ⟨rfl, hrd, ho⟩
          have HD := Lib.hid hrd
          have HE := Lib.hid (HE.out.only ho hg)
          have B2 := Lib.hid (B2.out.only ho (by omega))
          have B3 := Lib.hid (B3.out.only ho (by omega))
          have HO := Lib.hid (HO.out.trans ho)
          have HZ := Lib.hid (Nat.le_trans HZ.out ho.size)
          clear hrd ho
          clear c0 c1 c2 c3 c5 c6
          have c0 := HD.out.blk.cell 0
          have c1 := HD.out.blk.cell 1
          have c2 := HD.out.blk.cell 2
          have c3 := HD.out.blk.cell 3
          have c5 := HD.out.blk.cell 5
          have c6 := HD.out.blk.cell 6
          have z0 : _ = some (Value.int .i64 0) := B2.out.cell 0
          have y0 := B2.out.frozen 0
          have z1 : _ = some (Value.int .i64 0) := B2.out.cell 1
          have y1 := B2.out.frozen 1
          have z2 : _ = some (Value.int .i64 0) := B2.out.cell 2
          have y2 := B2.out.frozen 2
          have z3 : _ = some (Value.string ⟨#[]⟩) := B2.out.cell 3
          have y3 := B2.out.frozen 3
          have z4 : _ = some (Value.int .i64 0) := B2.out.cell 4
          have y4 := B2.out.frozen 4
          have z5 : _ = some (Value.slice none 0 0) := B2.out.cell 5
          have y5 := B2.out.frozen 5
          go_wp2_with fail
          refine ret_nodeF rfl (blk_put6 B2.out rfl _ _ _ _ _ _) rfl rfl ?_
          rw [HR.out]
          exact ⟨_, _, rfl, nv_nil _ _ _ _ _ (by simp), only_put6 HO.out (Nat.le_refl _) _ _ _ _ _ _, ⟨rfl, RdR.heap HD.out (heap_put6 (by omega) _ _ _ _ _ _), tail_le L⟩⟩
        · go_simp
          refine hK.out _ _ (SS.out _ ((alloc_b wc _).drew)) (fun _ => ?_)
          clear hK K
          try simp only [Act.put, List.setIfInBounds_toArray, List.set_cons_zero, List.set_cons_succ]
          refine wpAnyH_ready (rs := [9]) (by kernel_rfl) (by simp) ?_
          refine AllReadyH.cons rfl (fun K hK => ?_) AllReadyH.nil
          go_simp
          go_at_call 46
          refine (tokR s (nx s.size L) HD.out.nle HD.out.size _).mono ?_
          rw [HD.out.nxt]
          rintro e x1 ⟨rfl, hb1⟩
          have HX1 := Lib.hid (show Below wc.heap.size wc x1 from ((alloc_b wc _).drew).trans (hb1.mono (by simp)))
          have hx1 := HX1.out.size
          have HZC : Blk x1 wc.heap.size 92 #[.int .i64 0, .string ⟨#[]⟩, .int .i64 0, .int .i64 0] := (show Blk (wc.alloc (.cells #[.int .i64 0, .string ⟨#[]⟩, .int .i64 0, .int .i64 0] 92 (0, 0))).drew wc.heap.size 92 #[.int .i64 0, .string ⟨#[]⟩, .int .i64 0, .int .i64 0] from Blk.new wc _ _).go hb1
          clear hb1
          refine hK.out _ _ (SS.out _ HX1.out) (fun _ => ?_)
          clear hK K
          try simp only [Act.put, List.setIfInBounds_toArray, List.set_cons_zero, List.set_cons_succ]
          have u0z : _ = some (Value.int .i64 0) := HZC.cell 0
          have v0z := HZC.frozen 0
          have u1z : _ = some (Value.string ⟨#[]⟩) := HZC.cell 1
          have v1z := HZC.frozen 1
          have u2z : _ = some (Value.int .i64 0) := HZC.cell 2
          have v2z := HZC.frozen 2
          have u3z : _ = some (Value.int .i64 0) := HZC.cell 3
          have v3z := HZC.frozen 3
          refine wpAnyH_ready (rs := [11]) (by kernel_rfl) (by simp) ?_
          refine AllReadyH.cons rfl (fun K hK => ?_) AllReadyH.nil
          go_simp
          refine hK.out _ _ (SS.out _ ((((HX1.out.setCell (p := ⟨wc.heap.size, 0, none⟩) (Nat.le_refl _) _).setCell (p := ⟨wc.heap.size, 1, none⟩) (Nat.le_refl _) _).setCell (p := ⟨wc.heap.size, 2, none⟩) (Nat.le_refl _) _).setCell (p := ⟨wc.heap.size, 3, none⟩) (Nat.le_refl _) _)) (fun _ => ?_)
          clear hK K
          try simp only [Act.put, List.setIfInBounds_toArray, List.set_cons_zero, List.set_cons_succ]
          refine wpAnyH_done (by kernel_rfl) ?_ _
          have hbq := (((HX1.out.setCell (p := ⟨wc.heap.size, 0, none⟩) (Nat.le_refl _) (.int .i64 (kindT (hd L.tail)))).setCell (p := ⟨wc.heap.size, 1, none⟩) (Nat.le_refl _) (.string ⟨(hd L.tail).toArray⟩)).setCell (p := ⟨wc.heap.size, 2, none⟩) (Nat.le_refl _) (.int .i64 (ps s.size L.tail))).setCell (p := ⟨wc.heap.size, 3, none⟩) (Nat.le_refl _) (.int .i64 (nx s.size L.tail))
          have ho := Only.of_below (g := g) hbq
          have B6 := Lib.hid (show Blk _ wc.heap.size 92 #[.int .i64 (kindT (hd L.tail)), .string ⟨(hd L.tail).toArray⟩, .int .i64 (ps s.size L.tail), .int .i64 (nx s.size L.tail)] from by have h := (((HZC.set_ 0 (.int .i64 (kindT (hd L.tail)))).set_ 1 (.string ⟨(hd L.tail).toArray⟩)).set_ 2 (.int .i64 (ps s.size L.tail))).set_ 3 (.int .i64 (nx s.size L.tail)); simpa using h)
          have hrd := HD.out.below hbq
          clear hbq HZC
          clear u0z v0z u1z v1z u2z v2z u3z v3z
          have HD := Lib.hid hrd
          have HE := Lib.hid (HE.out.only ho hg)
          have B2 := Lib.hid (B2.out.only ho (by omega))
          have B3 := Lib.hid (B3.out.only ho (by omega))
          have HO := Lib.hid (HO.out.trans ho)
          have HZ := Lib.hid (Nat.le_trans HZ.out ho.size)
          clear hrd ho
          clear c0 c1 c2 c3 c5 c6
          have c0 := HD.out.blk.cell 0
          have c1 := HD.out.blk.cell 1
          have c2 := HD.out.blk.cell 2
          have c3 := HD.out.blk.cell 3
          have c5 := HD.out.blk.cell 5
          have c6 := HD.out.blk.cell 6
          have t0 := B6.out.cell 0
          have t1 := B6.out.cell 1
          go_wp2_with fail
          refine (onR HD.out).mono ?_
          rintro e wn ⟨rfl, hrd, ho⟩
          have HD := Lib.hid hrd
          have HE := Lib.hid (HE.out.only ho hg)
          have B2 := Lib.hid (B2.out.only ho (by omega))
          have B3 := Lib.hid (B3.out.only ho (by omega))
          have HO := Lib.hid (HO.out.trans ho)
          have HZ := Lib.hid (Nat.le_trans HZ.out ho.size)
          clear hrd ho
          clear c0 c1 c2 c3 c5 c6
          have c0 := HD.out.blk.cell 0
          have c1 := HD.out.blk.cell 1
          have c2 := HD.out.blk.cell 2
          have c3 := HD.out.blk.cell 3
          have c5 := HD.out.blk.cell 5
          have c6 := HD.out.blk.cell 6
          have z0 : _ = some (Value.int .i64 0) := B2.out.cell 0
          have y0 := B2.out.frozen 0
          have z1 : _ = some (Value.int .i64 0) := B2.out.cell 1
          have y1 := B2.out.frozen 1
          have z2 : _ = some (Value.int .i64 0) := B2.out.cell 2
          have y2 := B2.out.frozen 2
          have z3 : _ = some (Value.string ⟨#[]⟩) := B2.out.cell 3
          have y3 := B2.out.frozen 3
          have z4 : _ = some (Value.int .i64 0) := B2.out.cell 4
          have y4 := B2.out.frozen 4
          have z5 : _ = some (Value.slice none 0 0) := B2.out.cell 5
          have y5 := B2.out.frozen 5
          go_wp2_with fail
          refine ret_nodeF rfl (blk_put6 B2.out rfl _ _ _ _ _ _) rfl rfl ?_
          rw [HR.out]
          exact ⟨_, _, rfl, nv_nil _ _ _ _ _ (by simp), only_put6 HO.out (Nat.le_refl _) _ _ _ _ _ _, ⟨rfl, RdR.heap HD.out (heap_put6 (by omega) _ _ _ _ _ _), tail_le L⟩⟩
  have H3 := Lib.hid (decide_eq_false htr)
  have hpa : pNot s.size a (f + 1) L = pAtom s.size a L := pNot_atom h126 h40 (by rintro ⟨h, _⟩; exact htr h)
  clear h126 h40 htr
  obtain ⟨rt, hrt⟩ : ∃ r, pThing s.size a L = r := ⟨_, rfl⟩
  have HRT := Lib.hid hrt
  have HPA := Lib.hid hpa
  clear hrt hpa
  cases rt with
  | bad p =>
    have HR := Lib.hid (show pNot s.size a (f + 1) L = .bad p by rw [HPA.out, pAtom, HRT.out]; rfl)
    go_enter Tryz.func85, Tryz.ntmps85
    go_wp2_with fail
    refine (isR HD.out [126] 3 rfl).mono ?_
    rw [H1.out]
    rintro e wn ⟨rfl, rfl⟩
    go_wp2_with fail
    refine (isR HD.out [40] 3 rfl).mono ?_
    rw [H2.out]
    rintro e wn ⟨rfl, rfl⟩
    go_wp2_with fail
    refine (isR HD.out [116, 114, 117, 101] 1 rfl).mono ?_
    rw [H3.out]
    rintro e wn ⟨rfl, rfl⟩
    go_wp2_with fail
    refine (thingRR HD.out HE.out hg ha).mono ?_
    rw [HRT.out]
    rintro e wn ⟨x, rfl, hxl, ho, hbd⟩
    have hbd : BadR (wn.alloc (.cells #[.int .i64 x.1, .int .i64 x.2.1, .string ⟨x.2.2.toArray⟩] 23 (0, 0))) g p := hbd.below (alloc_b wn (.cells #[.int .i64 x.1, .int .i64 x.2.1, .string ⟨x.2.2.toArray⟩] 23 (0, 0)))
    have ho : Only g _ (wn.alloc (.cells #[.int .i64 x.1, .int .i64 x.2.1, .string ⟨x.2.2.toArray⟩] 23 (0, 0))) := ho.trans (Only.of_below (alloc_b wn (.cells #[.int .i64 x.1, .int .i64 x.2.1, .string ⟨x.2.2.toArray⟩] 23 (0, 0))))
    have HBD := Lib.hid hbd
    have B2 := Lib.hid (B2.out.only ho (by omega))
    have B3 := Lib.hid (B3.out.only ho (by omega))
    have HO := Lib.hid (HO.out.trans ho)
    clear hbd ho
    clear c0 c1 c2 c3 c5 c6
    have c6 := HBD.out
    unfold BadR at c6
    go_wp2_with fail
    refine (wantR_bad HBD.out _ _).mono ?_
    rintro e wn ⟨rfl, rfl⟩
    have z0 : _ = some (Value.int .i64 0) := B2.out.cell 0
    have y0 := B2.out.frozen 0
    have z1 : _ = some (Value.int .i64 0) := B2.out.cell 1
    have y1 := B2.out.frozen 1
    have z2 : _ = some (Value.int .i64 0) := B2.out.cell 2
    have y2 := B2.out.frozen 2
    have z3 : _ = some (Value.string ⟨#[]⟩) := B2.out.cell 3
    have y3 := B2.out.frozen 3
    have z4 : _ = some (Value.int .i64 0) := B2.out.cell 4
    have y4 := B2.out.frozen 4
    have z5 : _ = some (Value.slice none 0 0) := B2.out.cell 5
    have y5 := B2.out.frozen 5
    have m0 : _ = some (Value.int .i64 0) := B3.out.cell 0
    have m1 : _ = some (Value.int .i64 0) := B3.out.cell 1
    have m2 : _ = some (Value.int .i64 0) := B3.out.cell 2
    have m3 : _ = some (Value.string ⟨#[]⟩) := B3.out.cell 3
    have m4 : _ = some (Value.int .i64 0) := B3.out.cell 4
    have m5 : _ = some (Value.slice none 0 0) := B3.out.cell 5
    go_wp2_with fail
    refine ret_nodeF rfl (blk_put6 B2.out rfl _ _ _ _ _ _) rfl rfl ?_
    rw [HR.out]
    exact ⟨noNd, _, rfl, nv_nil _ _ _ _ _ (by simp), only_put6 HO.out (Nat.le_refl _) _ _ _ _ _ _, BadR.heap HBD.out (heap_put6 (by omega) _ _ _ _ _ _)⟩
  | ok x0 L1 =>
    by_cases h61 : hd L1 = [61]
    · have H61 := Lib.hid h61
      have hp1 : pNot s.size a (f + 1) L = (pInt s.size (-2147483648) 2147483647 L1.tail).go fun v L => .ok ⟨2, x0.1, x0.2.1, x0.2.2, v, .nil⟩ L := by rw [HPA.out, pAtom, HRT.out, Rs.go_ok, pTake, if_pos h61]; rfl
      clear h61
      cases hnt : numT (hd L1.tail) with
      | none =>
        have HNV := Lib.hid (show numV (hd L1.tail) = .tuple #[.int .i64 0, .bool false] by rw [numV, hnt]; rfl)
        have HR := Lib.hid (show pNot s.size a (f + 1) L = .bad (ps s.size L1.tail) by rw [hp1, pInt, numIn_R, hnt]; rfl)
        clear hp1 hnt
        by_cases h2 : kindT (hd L1.tail) = 2
        · have k2 : (kindT (hd L1.tail) != 2) = false := by simp [h2]
          clear h2
          go_enter Tryz.func85, Tryz.ntmps85
          go_wp2_with fail
          refine (isR HD.out [126] 3 rfl).mono ?_
          rw [H1.out]
          rintro e wn ⟨rfl, rfl⟩
          go_wp2_with fail
          refine (isR HD.out [40] 3 rfl).mono ?_
          rw [H2.out]
          rintro e wn ⟨rfl, rfl⟩
          go_wp2_with fail
          refine (isR HD.out [116, 114, 117, 101] 1 rfl).mono ?_
          rw [H3.out]
          rintro e wn ⟨rfl, rfl⟩
          go_wp2_with fail
          refine (thingRR HD.out HE.out hg ha).mono ?_
          rw [HRT.out]
          rintro e wn ⟨x, rfl, hxl, ho, rfl, hrd⟩
          have B7 := Lib.hid (Blk.new wn 23 #[.int .i64 x.1, .int .i64 x.2.1, .string ⟨x.2.2.toArray⟩])
          have hz7 := ho.size
          have hrd : RdR (wn.alloc (.cells #[.int .i64 x.1, .int .i64 x.2.1, .string ⟨x.2.2.toArray⟩] 23 (0, 0))) g a s L1 (-1) := hrd.below (alloc_b wn (.cells #[.int .i64 x.1, .int .i64 x.2.1, .string ⟨x.2.2.toArray⟩] 23 (0, 0)))
          have ho : Only g _ (wn.alloc (.cells #[.int .i64 x.1, .int .i64 x.2.1, .string ⟨x.2.2.toArray⟩] 23 (0, 0))) := ho.trans (Only.of_below (alloc_b wn (.cells #[.int .i64 x.1, .int .i64 x.2.1, .string ⟨x.2.2.toArray⟩] 23 (0, 0))))
          obtain ⟨b7, hb7⟩ : ∃ b, wn.heap.size = b := ⟨_, rfl⟩
          rw [hb7] at B7 hz7
          have HXL := Lib.hid hxl
          have h7g : b7 ≠ g := by have := HZ.out; omega
          clear hxl
          have HD := Lib.hid hrd
          have HE := Lib.hid (HE.out.only ho hg)
          have B2 := Lib.hid (B2.out.only ho (by omega))
          have B3 := Lib.hid (B3.out.only ho (by omega))
          have HO := Lib.hid (HO.out.trans ho)
          have HZ := Lib.hid (Nat.le_trans HZ.out ho.size)
          clear hrd ho
          clear c0 c1 c2 c3 c5 c6
          have c0 := HD.out.blk.cell 0
          have c1 := HD.out.blk.cell 1
          have c2 := HD.out.blk.cell 2
          have c3 := HD.out.blk.cell 3
          have c5 := HD.out.blk.cell 5
          have c6 := HD.out.blk.cell 6
          go_wp2_with fail
          refine (wantR_yes HD.out [61] 3 rfl H61.out).mono ?_
          rintro e wn ⟨rfl, hrd, ho⟩
          have HD := Lib.hid hrd
          have HE := Lib.hid (HE.out.only ho hg)
          have B2 := Lib.hid (B2.out.only ho (by omega))
          have B3 := Lib.hid (B3.out.only ho (by omega))
          have B7 := Lib.hid (B7.out.only ho (by omega))
          have HO := Lib.hid (HO.out.trans ho)
          have HZ := Lib.hid (Nat.le_trans HZ.out ho.size)
          clear hrd ho
          clear c0 c1 c2 c3 c5 c6
          have c0 := HD.out.blk.cell 0
          have c1 := HD.out.blk.cell 1
          have c2 := HD.out.blk.cell 2
          have c3 := HD.out.blk.cell 3
          have c5 := HD.out.blk.cell 5
          have c6 := HD.out.blk.cell 6
          go_wp2_with fail
          refine (numberR _ _).mono ?_
          rw [show numV (⟨(hd L1.tail).toArray⟩ : ByteArray).data.toList = .tuple #[.int .i64 0, .bool false] from HNV.out]
          rintro e wn ⟨rfl, rfl⟩
          go_wp2_with fail
          refine (wrongR HD.out).mono ?_
          rintro e wn ⟨rfl, hbd, ho⟩
          have HBD := Lib.hid hbd
          have B2 := Lib.hid (B2.out.only ho (by omega))
          have B3 := Lib.hid (B3.out.only ho (by omega))
          have B7 := Lib.hid (B7.out.only ho (by omega))
          have HO := Lib.hid (HO.out.trans ho)
          clear hbd ho
          clear c0 c1 c2 c3 c5 c6
          have c6 := HBD.out
          unfold BadR at c6
          have z0 : _ = some (Value.int .i64 0) := B2.out.cell 0
          have y0 := B2.out.frozen 0
          have z1 : _ = some (Value.int .i64 0) := B2.out.cell 1
          have y1 := B2.out.frozen 1
          have z2 : _ = some (Value.int .i64 0) := B2.out.cell 2
          have y2 := B2.out.frozen 2
          have z3 : _ = some (Value.string ⟨#[]⟩) := B2.out.cell 3
          have y3 := B2.out.frozen 3
          have z4 : _ = some (Value.int .i64 0) := B2.out.cell 4
          have y4 := B2.out.frozen 4
          have z5 : _ = some (Value.slice none 0 0) := B2.out.cell 5
          have y5 := B2.out.frozen 5
          have m0 : _ = some (Value.int .i64 0) := B3.out.cell 0
          have m1 : _ = some (Value.int .i64 0) := B3.out.cell 1
          have m2 : _ = some (Value.int .i64 0) := B3.out.cell 2
          have m3 : _ = some (Value.string ⟨#[]⟩) := B3.out.cell 3
          have m4 : _ = some (Value.int .i64 0) := B3.out.cell 4
          have m5 : _ = some (Value.slice none 0 0) := B3.out.cell 5
          go_wp2_with fail
          refine ret_nodeF rfl (blk_put6 B2.out rfl _ _ _ _ _ _) rfl rfl ?_
          rw [HR.out]
          exact ⟨noNd, _, rfl, nv_nil _ _ _ _ _ (by simp), only_put6 HO.out (Nat.le_refl _) _ _ _ _ _ _, BadR.heap HBD.out (heap_put6 (by omega) _ _ _ _ _ _)⟩
        · have k2 : (kindT (hd L1.tail) != 2) = true := by simpa using h2
          clear h2
          go_enter Tryz.func85, Tryz.ntmps85
          go_wp2_with fail
          refine (isR HD.out [126] 3 rfl).mono ?_
          rw [H1.out]
          rintro e wn ⟨rfl, rfl⟩
          go_wp2_with fail
          refine (isR HD.out [40] 3 rfl).mono ?_
          rw [H2.out]
          rintro e wn ⟨rfl, rfl⟩
          go_wp2_with fail
          refine (isR HD.out [116, 114, 117, 101] 1 rfl).mono ?_
          rw [H3.out]
          rintro e wn ⟨rfl, rfl⟩
          go_wp2_with fail
          refine (thingRR HD.out HE.out hg ha).mono ?_
          rw [HRT.out]
          rintro e wn ⟨x, rfl, hxl, ho, rfl, hrd⟩
          have B7 := Lib.hid (Blk.new wn 23 #[.int .i64 x.1, .int .i64 x.2.1, .string ⟨x.2.2.toArray⟩])
          have hz7 := ho.size
          have hrd : RdR (wn.alloc (.cells #[.int .i64 x.1, .int .i64 x.2.1, .string ⟨x.2.2.toArray⟩] 23 (0, 0))) g a s L1 (-1) := hrd.below (alloc_b wn (.cells #[.int .i64 x.1, .int .i64 x.2.1, .string ⟨x.2.2.toArray⟩] 23 (0, 0)))
          have ho : Only g _ (wn.alloc (.cells #[.int .i64 x.1, .int .i64 x.2.1, .string ⟨x.2.2.toArray⟩] 23 (0, 0))) := ho.trans (Only.of_below (alloc_b wn (.cells #[.int .i64 x.1, .int .i64 x.2.1, .string ⟨x.2.2.toArray⟩] 23 (0, 0))))
          obtain ⟨b7, hb7⟩ : ∃ b, wn.heap.size = b := ⟨_, rfl⟩
          rw [hb7] at B7 hz7
          have HXL := Lib.hid hxl
          have h7g : b7 ≠ g := by have := HZ.out; omega
          clear hxl
          have HD := Lib.hid hrd
          have HE := Lib.hid (HE.out.only ho hg)
          have B2 := Lib.hid (B2.out.only ho (by omega))
          have B3 := Lib.hid (B3.out.only ho (by omega))
          have HO := Lib.hid (HO.out.trans ho)
          have HZ := Lib.hid (Nat.le_trans HZ.out ho.size)
          clear hrd ho
          clear c0 c1 c2 c3 c5 c6
          have c0 := HD.out.blk.cell 0
          have c1 := HD.out.blk.cell 1
          have c2 := HD.out.blk.cell 2
          have c3 := HD.out.blk.cell 3
          have c5 := HD.out.blk.cell 5
          have c6 := HD.out.blk.cell 6
          go_wp2_with fail
          refine (wantR_yes HD.out [61] 3 rfl H61.out).mono ?_
          rintro e wn ⟨rfl, hrd, ho⟩
          have HD := Lib.hid hrd
          have HE := Lib.hid (HE.out.only ho hg)
          have B2 := Lib.hid (B2.out.only ho (by omega))
          have B3 := Lib.hid (B3.out.only ho (by omega))
          have B7 := Lib.hid (B7.out.only ho (by omega))
          have HO := Lib.hid (HO.out.trans ho)
          have HZ := Lib.hid (Nat.le_trans HZ.out ho.size)
          clear hrd ho
          clear c0 c1 c2 c3 c5 c6
          have c0 := HD.out.blk.cell 0
          have c1 := HD.out.blk.cell 1
          have c2 := HD.out.blk.cell 2
          have c3 := HD.out.blk.cell 3
          have c5 := HD.out.blk.cell 5
          have c6 := HD.out.blk.cell 6
          go_wp2_with fail
          refine (numberR _ _).mono ?_
          rw [show numV (⟨(hd L1.tail).toArray⟩ : ByteArray).data.toList = .tuple #[.int .i64 0, .bool false] from HNV.out]
          rintro e wn ⟨rfl, rfl⟩
          go_wp2_with fail
          refine (wrongR HD.out).mono ?_
          rintro e wn ⟨rfl, hbd, ho⟩
          have HBD := Lib.hid hbd
          have B2 := Lib.hid (B2.out.only ho (by omega))
          have B3 := Lib.hid (B3.out.only ho (by omega))
          have B7 := Lib.hid (B7.out.only ho (by omega))
          have HO := Lib.hid (HO.out.trans ho)
          clear hbd ho
          clear c0 c1 c2 c3 c5 c6
          have c6 := HBD.out
          unfold BadR at c6
          have z0 : _ = some (Value.int .i64 0) := B2.out.cell 0
          have y0 := B2.out.frozen 0
          have z1 : _ = some (Value.int .i64 0) := B2.out.cell 1
          have y1 := B2.out.frozen 1
          have z2 : _ = some (Value.int .i64 0) := B2.out.cell 2
          have y2 := B2.out.frozen 2
          have z3 : _ = some (Value.string ⟨#[]⟩) := B2.out.cell 3
          have y3 := B2.out.frozen 3
          have z4 : _ = some (Value.int .i64 0) := B2.out.cell 4
          have y4 := B2.out.frozen 4
          have z5 : _ = some (Value.slice none 0 0) := B2.out.cell 5
          have y5 := B2.out.frozen 5
          have m0 : _ = some (Value.int .i64 0) := B3.out.cell 0
          have m1 : _ = some (Value.int .i64 0) := B3.out.cell 1
          have m2 : _ = some (Value.int .i64 0) := B3.out.cell 2
          have m3 : _ = some (Value.string ⟨#[]⟩) := B3.out.cell 3
          have m4 : _ = some (Value.int .i64 0) := B3.out.cell 4
          have m5 : _ = some (Value.slice none 0 0) := B3.out.cell 5
          go_wp2_with fail
          refine ret_nodeF rfl (blk_put6 B2.out rfl _ _ _ _ _ _) rfl rfl ?_
          rw [HR.out]
          exact ⟨noNd, _, rfl, nv_nil _ _ _ _ _ (by simp), only_put6 HO.out (Nat.le_refl _) _ _ _ _ _ _, BadR.heap HBD.out (heap_put6 (by omega) _ _ _ _ _ _)⟩
      | some v =>
        have HNV := Lib.hid (show numV (hd L1.tail) = .tuple #[.int .i64 v, .bool true] by rw [numV, hnt]; rfl)
        have HR := Lib.hid (show pNot s.size a (f + 1) L = .ok ⟨2, x0.1, x0.2.1, x0.2.2, v, .nil⟩ L1.tail.tail by rw [hp1, pInt, numIn_R, hnt]; rfl)
        have k2 : (kindT (hd L1.tail) != 2) = false := by simp [num_kind hnt]
        have HTL := Lib.hid (pThing_le HRT.out)
        clear hp1 hnt
        go_enter Tryz.func85, Tryz.ntmps85
        go_wp2_with fail
        refine (isR HD.out [126] 3 rfl).mono ?_
        rw [H1.out]
        rintro e wn ⟨rfl, rfl⟩
        go_wp2_with fail
        refine (isR HD.out [40] 3 rfl).mono ?_
        rw [H2.out]
        rintro e wn ⟨rfl, rfl⟩
        go_wp2_with fail
        refine (isR HD.out [116, 114, 117, 101] 1 rfl).mono ?_
        rw [H3.out]
        rintro e wn ⟨rfl, rfl⟩
        go_wp2_with fail
        refine (thingRR HD.out HE.out hg ha).mono ?_
        rw [HRT.out]
        rintro e wn ⟨x, rfl, hxl, ho, rfl, hrd⟩
        have B7 := Lib.hid (Blk.new wn 23 #[.int .i64 x.1, .int .i64 x.2.1, .string ⟨x.2.2.toArray⟩])
        have hz7 := ho.size
        have hrd : RdR (wn.alloc (.cells #[.int .i64 x.1, .int .i64 x.2.1, .string ⟨x.2.2.toArray⟩] 23 (0, 0))) g a s L1 (-1) := hrd.below (alloc_b wn (.cells #[.int .i64 x.1, .int .i64 x.2.1, .string ⟨x.2.2.toArray⟩] 23 (0, 0)))
        have ho : Only g _ (wn.alloc (.cells #[.int .i64 x.1, .int .i64 x.2.1, .string ⟨x.2.2.toArray⟩] 23 (0, 0))) := ho.trans (Only.of_below (alloc_b wn (.cells #[.int .i64 x.1, .int .i64 x.2.1, .string ⟨x.2.2.toArray⟩] 23 (0, 0))))
        obtain ⟨b7, hb7⟩ : ∃ b, wn.heap.size = b := ⟨_, rfl⟩
        rw [hb7] at B7 hz7
        have HXL := Lib.hid hxl
        have h7g : b7 ≠ g := by have := HZ.out; omega
        clear hxl
        have HD := Lib.hid hrd
        have HE := Lib.hid (HE.out.only ho hg)
        have B2 := Lib.hid (B2.out.only ho (by omega))
        have B3 := Lib.hid (B3.out.only ho (by omega))
        have HO := Lib.hid (HO.out.trans ho)
        have HZ := Lib.hid (Nat.le_trans HZ.out ho.size)
        clear hrd ho
        clear c0 c1 c2 c3 c5 c6
        have c0 := HD.out.blk.cell 0
        have c1 := HD.out.blk.cell 1
        have c2 := HD.out.blk.cell 2
        have c3 := HD.out.blk.cell 3
        have c5 := HD.out.blk.cell 5
        have c6 := HD.out.blk.cell 6
        go_wp2_with fail
        refine (wantR_yes HD.out [61] 3 rfl H61.out).mono ?_
        rintro e wn ⟨rfl, hrd, ho⟩
        have HD := Lib.hid hrd
        have HE := Lib.hid (HE.out.only ho hg)
        have B2 := Lib.hid (B2.out.only ho (by omega))
        have B3 := Lib.hid (B3.out.only ho (by omega))
        have B7 := Lib.hid (B7.out.only ho (by omega))
        have HO := Lib.hid (HO.out.trans ho)
        have HZ := Lib.hid (Nat.le_trans HZ.out ho.size)
        clear hrd ho
        clear c0 c1 c2 c3 c5 c6
        have c0 := HD.out.blk.cell 0
        have c1 := HD.out.blk.cell 1
        have c2 := HD.out.blk.cell 2
        have c3 := HD.out.blk.cell 3
        have c5 := HD.out.blk.cell 5
        have c6 := HD.out.blk.cell 6
        go_wp2_with fail
        refine (numberR _ _).mono ?_
        rw [show numV (⟨(hd L1.tail).toArray⟩ : ByteArray).data.toList = .tuple #[.int .i64 v, .bool true] from HNV.out]
        rintro e wn ⟨rfl, rfl⟩
        go_wp2_with fail
        refine (onR HD.out).mono ?_
        rintro e wn ⟨rfl, hrd, ho⟩
        have HD := Lib.hid hrd
        have HE := Lib.hid (HE.out.only ho hg)
        have B2 := Lib.hid (B2.out.only ho (by omega))
        have B3 := Lib.hid (B3.out.only ho (by omega))
        have B7 := Lib.hid (B7.out.only ho (by omega))
        have HO := Lib.hid (HO.out.trans ho)
        have HZ := Lib.hid (Nat.le_trans HZ.out ho.size)
        clear hrd ho
        clear c0 c1 c2 c3 c5 c6
        have c0 := HD.out.blk.cell 0
        have c1 := HD.out.blk.cell 1
        have c2 := HD.out.blk.cell 2
        have c3 := HD.out.blk.cell 3
        have c5 := HD.out.blk.cell 5
        have c6 := HD.out.blk.cell 6
        have z0 : _ = some (Value.int .i64 0) := B2.out.cell 0
        have y0 := B2.out.frozen 0
        have z1 : _ = some (Value.int .i64 0) := B2.out.cell 1
        have y1 := B2.out.frozen 1
        have z2 : _ = some (Value.int .i64 0) := B2.out.cell 2
        have y2 := B2.out.frozen 2
        have z3 : _ = some (Value.string ⟨#[]⟩) := B2.out.cell 3
        have y3 := B2.out.frozen 3
        have z4 : _ = some (Value.int .i64 0) := B2.out.cell 4
        have y4 := B2.out.frozen 4
        have z5 : _ = some (Value.slice none 0 0) := B2.out.cell 5
        have y5 := B2.out.frozen 5
        have t0 := B7.out.cell 0
        have t1 := B7.out.cell 1
        have t2 := B7.out.cell 2
        go_wp2_with fail
        refine ret_nodeF rfl (blk_put6 B2.out rfl _ _ _ _ _ _) rfl rfl ?_
        rw [HR.out]
        exact ⟨_, _, rfl, nv_nil _ _ _ _ _ HXL.out, only_put6 HO.out (Nat.le_refl _) _ _ _ _ _ _, ⟨rfl, RdR.heap HD.out (heap_put6 (by omega) _ _ _ _ _ _), by have := HTL.out; have h1 := tail_le L1; have h2 := tail_le L1.tail; omega⟩⟩
    · have HR := Lib.hid (show pNot s.size a (f + 1) L = .bad (ps s.size L1) by rw [HPA.out, pAtom, HRT.out, Rs.go_ok, pTake, if_neg h61]; rfl)
      have H61 := Lib.hid h61
      clear h61
      go_enter Tryz.func85, Tryz.ntmps85
      go_wp2_with fail
      refine (isR HD.out [126] 3 rfl).mono ?_
      rw [H1.out]
      rintro e wn ⟨rfl, rfl⟩
      go_wp2_with fail
      refine (isR HD.out [40] 3 rfl).mono ?_
      rw [H2.out]
      rintro e wn ⟨rfl, rfl⟩
      go_wp2_with fail
      refine (isR HD.out [116, 114, 117, 101] 1 rfl).mono ?_
      rw [H3.out]
      rintro e wn ⟨rfl, rfl⟩
      go_wp2_with fail
      refine (thingRR HD.out HE.out hg ha).mono ?_
      rw [HRT.out]
      rintro e wn ⟨x, rfl, hxl, ho, rfl, hrd⟩
      have B7 := Lib.hid (Blk.new wn 23 #[.int .i64 x.1, .int .i64 x.2.1, .string ⟨x.2.2.toArray⟩])
      have hz7 := ho.size
      have hrd : RdR (wn.alloc (.cells #[.int .i64 x.1, .int .i64 x.2.1, .string ⟨x.2.2.toArray⟩] 23 (0, 0))) g a s L1 (-1) := hrd.below (alloc_b wn (.cells #[.int .i64 x.1, .int .i64 x.2.1, .string ⟨x.2.2.toArray⟩] 23 (0, 0)))
      have ho : Only g _ (wn.alloc (.cells #[.int .i64 x.1, .int .i64 x.2.1, .string ⟨x.2.2.toArray⟩] 23 (0, 0))) := ho.trans (Only.of_below (alloc_b wn (.cells #[.int .i64 x.1, .int .i64 x.2.1, .string ⟨x.2.2.toArray⟩] 23 (0, 0))))
      obtain ⟨b7, hb7⟩ : ∃ b, wn.heap.size = b := ⟨_, rfl⟩
      rw [hb7] at B7 hz7
      have HXL := Lib.hid hxl
      have h7g : b7 ≠ g := by have := HZ.out; omega
      clear hxl
      have HD := Lib.hid hrd
      have HE := Lib.hid (HE.out.only ho hg)
      have B2 := Lib.hid (B2.out.only ho (by omega))
      have B3 := Lib.hid (B3.out.only ho (by omega))
      have HO := Lib.hid (HO.out.trans ho)
      have HZ := Lib.hid (Nat.le_trans HZ.out ho.size)
      clear hrd ho
      clear c0 c1 c2 c3 c5 c6
      have c0 := HD.out.blk.cell 0
      have c1 := HD.out.blk.cell 1
      have c2 := HD.out.blk.cell 2
      have c3 := HD.out.blk.cell 3
      have c5 := HD.out.blk.cell 5
      have c6 := HD.out.blk.cell 6
      go_wp2_with fail
      refine (wantR_no HD.out [61] 3 rfl H61.out).mono ?_
      rintro e wn ⟨rfl, hbd, ho⟩
      have HBD := Lib.hid hbd
      have B2 := Lib.hid (B2.out.only ho (by omega))
      have B3 := Lib.hid (B3.out.only ho (by omega))
      have B7 := Lib.hid (B7.out.only ho (by omega))
      have HO := Lib.hid (HO.out.trans ho)
      clear hbd ho
      clear c0 c1 c2 c3 c5 c6
      have c6 := HBD.out
      unfold BadR at c6
      have z0 : _ = some (Value.int .i64 0) := B2.out.cell 0
      have y0 := B2.out.frozen 0
      have z1 : _ = some (Value.int .i64 0) := B2.out.cell 1
      have y1 := B2.out.frozen 1
      have z2 : _ = some (Value.int .i64 0) := B2.out.cell 2
      have y2 := B2.out.frozen 2
      have z3 : _ = some (Value.string ⟨#[]⟩) := B2.out.cell 3
      have y3 := B2.out.frozen 3
      have z4 : _ = some (Value.int .i64 0) := B2.out.cell 4
      have y4 := B2.out.frozen 4
      have z5 : _ = some (Value.slice none 0 0) := B2.out.cell 5
      have y5 := B2.out.frozen 5
      have m0 : _ = some (Value.int .i64 0) := B3.out.cell 0
      have m1 : _ = some (Value.int .i64 0) := B3.out.cell 1
      have m2 : _ = some (Value.int .i64 0) := B3.out.cell 2
      have m3 : _ = some (Value.string ⟨#[]⟩) := B3.out.cell 3
      have m4 : _ = some (Value.int .i64 0) := B3.out.cell 4
      have m5 : _ = some (Value.slice none 0 0) := B3.out.cell 5
      go_wp2_with fail
      refine ret_nodeF rfl (blk_put6 B2.out rfl _ _ _ _ _ _) rfl rfl ?_
      rw [HR.out]
      exact ⟨noNd, _, rfl, nv_nil _ _ _ _ _ (by simp), only_put6 HO.out (Nat.le_refl _) _ _ _ _ _ _, BadR.heap HBD.out (heap_put6 (by omega) _ _ _ _ _ _)⟩
end
end Go.Proofs.YtmlnibjnacfanaaGreatDoor
