/- Layer 15: a runner from its beginning to its end, plainly. Layer 15: trace.Of behind a thread: how the things end, what is put down. Layer 15: how a register ends: the program's end. Layer 15: the reference's runner in memory: a value, its rows in blocks of the call's own. Layer 15: a trace in memory; a trace that may be: plain. Layer 1: the relation of some pairs; layer 15: pairs of events of which something holds: plain. Layer 15: a trace that may be, is told to be so: the program's located, evented, barred. -/
import Derived.Test.YtoegmdnfbemppaaGreatDoorKb05
import Derived.Test.YtoegmdnfbemppaaGreatDoorKb25
import Derived.Test.YtoegmdnfbemppaaGreatDoorKb37
import Derived.Test.YtoegmdnfbemppaaGreatDoorKb38
import Derived.Test.YtoegmdnfbemppaaGreatDoorKb39
import Derived.Laws.AppendOwnNone
namespace Go.Proofs.YtoegmdnfbemppaaGreatDoor
open Go.RowKit

theorem brL_le {r r' : Rn} {c : List Ins} {k n : Nat} {x : Ins} (hk : k < c.length) (hl : labQ c k x < c.length) (h : brL r c k x = some (r', n)) : n ≤ c.length := by
  unfold brL at h
  simp only [] at h
  split at h
  · split at h
    · cases h
    · simp only [Option.some.injEq, Prod.mk.injEq] at h; omega
  · simp only [Option.some.injEq, Prod.mk.injEq] at h
    obtain ⟨_, h2⟩ := h
    cases hu : unlikeL (rgA r x.a).h (rgA r x.b).h <;> rw [hu] at h2 <;> simp at h2 <;> omega
theorem stepL_le {C : Cx} {nr : Nat} {r : Rn} {c : List Ins} {k : Nat} {x : Ins} {p : Rn × Nat} (hk : c[k]? = some x) (hv : ValI C nr c k x) (h : stepL C r c k x = some p) : p.2 ≤ c.length := by
  have hkl := (List.getElem?_eq_some_iff.1 hk).1
  unfold stepL at h
  split at h
  · obtain ⟨a, _, rfl⟩ := Option.map_eq_some_iff.1 h; simp; omega
  split at h
  · obtain ⟨a, _, rfl⟩ := Option.map_eq_some_iff.1 h; simp; omega
  split at h
  · simp only [Option.some.injEq] at h; subst h; simp; omega
  split at h
  · simp only [Option.some.injEq] at h; subst h; simp; omega
  split at h
  · simp only [Option.some.injEq] at h; subst h; simp; omega
  split at h
  · simp only [Option.some.injEq] at h; subst h; simp; omega
  split at h
  · obtain ⟨a, _, rfl⟩ := Option.map_eq_some_iff.1 h; simp; omega
  split at h
  · simp only [Option.some.injEq] at h; subst h; simp; omega
  split at h
  · rename_i h11
    obtain ⟨r', n⟩ := p
    exact brL_le hkl (hv.lab h11) h
  · simp only [Option.some.injEq] at h; subst h; simp; omega
/-- What stays true of a runner stays true to its end. -/
theorem goL_inv {C : Cx} {nr : Nat} {c : List Ins} (hval : ∀ k x, c[k]? = some x → ValI C nr c k x) : ∀ (n k : Nat) (r r' : Rn), c.length - k ≤ n → k ≤ c.length → Inv C nr k r → goL C c k r = some r' → Inv C nr c.length r' := by
  intro n
  induction n with
  | zero =>
    intro k r r' hn hk hI hg
    rw [goL_end (by omega)] at hg
    simp only [Option.some.injEq] at hg
    subst hg
    exact hI.next hk
  | succ n ih =>
    intro k r r' hn hk hI hg
    by_cases hkl : k < c.length
    · have hx := List.getElem?_eq_getElem hkl
      cases hf : r.full with
      | true =>
        rw [goL_full hf] at hg
        simp only [Option.some.injEq] at hg
        subst hg
        exact hI.next hk
      | false =>
        cases hs : stepL C r c k c[k] with
        | none => rw [goL_none hx hf hs] at hg; cases hg
        | some p =>
          rw [goL_some hx hf hs] at hg
          have hgt := stepL_gt hs
          exact ih p.2 p.1 r' (by omega) (stepL_le hx (hval k _ hx) hs) (hI.step (hval k _ hx) hs) hg
    · rw [goL_end (by omega)] at hg
      simp only [Option.some.injEq] at hg
      subst hg
      exact hI.next hk
theorem begL_len (k nr : Nat) (init : List Ini) : (begL k nr init).length = nr := by
  unfold begL
  have key : ∀ (l : List Ini) (L : List Rg), (l.foldl (iniS k) L).length = L.length := by
    intro l
    induction l with
    | nil => intro L; rfl
    | cons x l ih => intro L; rw [List.foldl_cons, ih]; unfold iniS; split <;> simp
  rw [key, List.length_replicate]
theorem begL_mem {P : Rg → Prop} (k nr : Nat) (init : List Ini) (h0 : P ⟨.num 0, 0⟩) (h : ∀ x ∈ init, x.th = (k : Int) → P (iniR x)) : ∀ y ∈ begL k nr init, P y := by
  unfold begL
  have key : ∀ (l : List Ini) (L : List Rg), (∀ x ∈ l, x.th = (k : Int) → P (iniR x)) → (∀ y ∈ L, P y) → ∀ y ∈ l.foldl (iniS k) L, P y := by
    intro l
    induction l with
    | nil => intro L _ hL; exact hL
    | cons x l ih =>
      intro L hl hL
      rw [List.foldl_cons]
      refine ih _ (fun x hx => hl x (List.mem_cons_of_mem _ hx)) (fun y hy => ?_)
      unfold iniS at hy
      split at hy
      · rename_i hth
        rcases List.mem_or_eq_of_mem_set hy with h1 | rfl
        · exact hL y h1
        · exact hl x List.mem_cons_self hth
      · exact hL y hy
  exact key init _ h (fun y hy => by rw [List.eq_of_mem_replicate hy]; exact h0)
theorem inv0 {T : Tst} (hE : fileE T = 0) {C : Cx} (hC : C.locs = locsT T) (hahead : C.ahead ≤ 64) (k : Nat) : Inv C (nregs (isR T)) 0 (rn0 (isR T) T.init k) := by
  refine ⟨begL_mem _ _ _ ⟨show in32 0 by unfold in32; omega, Rds.zero _⟩ (fun x hx hth => ?_), begL_len _ _ _, Rds.zero _, by simpa [rn0] using hahead, Nat.le_refl _, ⟨List.Pairwise.nil, (fun p hp => by cases hp), Nat.zero_le _⟩, ⟨List.Pairwise.nil, (fun p hp => by cases hp), Nat.zero_le _⟩, ⟨List.Pairwise.nil, (fun p hp => by cases hp), Nat.zero_le _⟩, (fun p hp => by cases hp)⟩
  have hr := (okI_of hE hx).reg (by omega)
  unfold iniR
  split
  · rename_i hv
    exact ⟨hr.2.2.1 hv, Rds.zero _⟩
  · rename_i hv
    exact ⟨by show x.vl ∈ C.locs; rw [hC]; exact hr.2.2.2 hv, Rds.zero _⟩
theorem nodup_le : ∀ (l m : List (Int × Int)), l.Nodup → (∀ x ∈ l, x ∈ m) → l.length ≤ m.length
  | [], _, _, _ => Nat.zero_le _
  | x :: l, m, hn, hs => by
    have hx := hs x List.mem_cons_self
    have hn2 := List.nodup_cons.1 hn
    have h1 := nodup_le l (m.erase x) hn2.2 (fun y hy => by
      have hne : y ≠ x := fun e => hn2.1 (e ▸ hy)
      exact (List.mem_erase_of_ne hne).2 (hs y (List.mem_cons_of_mem _ hy)))
    have h2 := List.length_erase_of_mem hx
    have h3 := List.length_pos_of_mem hx
    simp only [List.length_cons]
    omega
theorem buck_len (evs : List Evt) (n f : Nat) (l : List (Int × Int)) (h : PrsOK evs n l) (hf : f + n ≤ 64) : (buck (l.map (shP f))).length ≤ 4096 := by
  obtain ⟨_, hnd, hpw, hmem, _⟩ := h.moved hf
  have hnd2 : (buck (l.map (shP f))).Nodup := hpw.imp (fun {a b} hab e => by subst e; unfold ordA at hab; omega)
  have h1 := nodup_le _ _ hnd2 (fun x hx => (hmem x).1 hx)
  have h2 := h.len
  rw [List.length_map] at h1
  omega
theorem atL_okA {a k t r : Int} {l : List UInt8} {v : Int} {n : Nat} (h : ownB a k t r l v n = true) : ∀ x ∈ atL k t r l, thingB a x.1 x.2.1 x.2.2 = true := by
  intro x hx
  unfold atL at hx
  split at hx
  · rename_i h2
    simp only [List.mem_singleton] at hx
    subst hx
    unfold ownB at h
    rw [if_pos h2] at h
    simp only [Bool.and_eq_true] at h
    exact h.1.1
  · simp at hx
theorem atomsF_okA {a : Int} : ∀ f : Fr, okF a f → ∀ x ∈ atomsF f, thingB a x.1 x.2.1 x.2.2 = true
  | .nil, _, x, hx => by simp [atomsF] at hx
  | .cons k t r l v kids rest, h, x, hx => by
    simp only [atomsF, List.mem_append] at hx
    rcases hx with (hx | hx) | hx
    · exact atL_okA h.1 x hx
    · exact atomsF_okA kids h.2.1 x hx
    · exact atomsF_okA rest h.2.2 x hx
theorem thg_of {T : Tst} (hE : fileE T = 0) {x : Th} (hx : x ∈ thsT T) : thingB T.arch x.1 x.2.1 x.2.2 = true := by
  obtain ⟨_, _, _, h1, h2, _⟩ := checkC_ok (fileE_small hE).2.2.2.2.2.1
  unfold thsT topT at hx
  split at hx
  · rcases List.mem_append.1 (thsU_sub _ x hx) with h | h
    · exact atL_okA h1 x h
    · exact atomsF_okA _ h2 x h
  · cases hx
theorem thg_reg {T : Tst} (hE : fileE T = 0) {x : Th} (hx : x ∈ thsT T) (h1 : x.1 ≠ -1) : 0 ≤ x.1 ∧ 0 ≤ x.2.1 ∧ x.2.1 < nregs (isR T) := by
  have h := thg_of hE hx
  unfold thingB at h
  rw [if_neg h1] at h
  simp only [Bool.and_eq_true, decide_eq_true_eq] at h
  have ha := (fileE_small hE).2.2.1
  refine ⟨h.1.1.1.1, h.1.1.2, ?_⟩
  have h2 := h.1.2
  rcases isR_eq ha with ⟨e1, e2⟩ | ⟨e1, e2⟩
  · rw [e2]; unfold regs at h2; rw [if_pos e1] at h2; exact h2
  · rw [e2]; unfold regs at h2; rw [if_neg (by omega)] at h2; exact h2
theorem thg_mem {T : Tst} (hE : fileE T = 0) {x : Th} (hx : x ∈ thsT T) (h1 : x.1 = -1) : x.2.2 ∈ locsT T := by
  have h := thg_of hE hx
  unfold thingB at h
  rw [if_pos h1] at h
  simp only [Bool.and_eq_true] at h
  unfold locsT
  rw [locsN_mem]
  refine ⟨?_, nameB_ne h.2⟩
  unfold rawN
  rw [List.mem_append, List.mem_append]
  exact Or.inr (Or.inr (List.mem_map.2 ⟨x, hx, rfl⟩))
/-- Nothing of the trace is too long. -/
structure TrOK (nt k : Nat) (a : Tr) : Prop where
  evs : a.evs.length ≤ 64
  bars : a.bars.length ≤ 256 * k
  addr : a.addr.length ≤ 4096 * k
  data : a.data.length ≤ 4096 * k
  hang : a.hang.length ≤ 4096 * k
  ends : a.ends.length = nt
theorem trOK0 (T : Tst) : TrOK (thsT T).length 0 (tr0 (thsT T)) := ⟨by simp [tr0], by simp [tr0], by simp [tr0], by simp [tr0], by simp [tr0], by simp [tr0]⟩
theorem TrOK.join {nt k nr m : Nat} {a : Tr} {C : Cx} {r : Rn} {es : List (Int × Int)} (h : TrOK nt k a) (hC : C.ahead = a.evs.length) (hI : Inv C nr m r) (hm : m ≤ 256) (he : es.length = nt) : TrOK nt (k + 1) (joinL a r es) := by
  have h1 := hI.room
  have h2 := hI.bars
  have h3 := buck_len _ _ a.evs.length _ hI.addr (by omega)
  have h4 := buck_len _ _ a.evs.length _ hI.data (by omega)
  have h5 := buck_len _ _ a.evs.length _ hI.hang (by omega)
  have := h.bars
  have := h.addr
  have := h.data
  have := h.hang
  exact ⟨by simp [joinL]; omega, by simp [joinL]; omega, by simp [joinL]; omega, by simp [joinL]; omega, by simp [joinL]; omega, he⟩
theorem thrsL_cons (risc : Bool) (locs : List Nm) (init : List Ini) (ths : List Th) (k : Nat) (c : List Ins) (cs : List (List Ins)) (a : Tr) : thrsL risc locs init ths k (c :: cs) a = match thrL risc locs init ths k c a with
    | .error e => .error (e, k)
    | .ok a' => thrsL risc locs init ths (k + 1) cs a' := rfl
/-- The trace, out of what the threads put down. -/
def outX (T : Tst) : Except (Int × Nat) Tr → Except (Int × Nat) Tr
  | .error e => .error e
  | .ok a => .ok { a with ends := finL (locsT T) 0 (thsT T) a.ends }
theorem traceL_of {T : Tst} (hE : fileE T = 0) {X : Except (Int × Nat) Tr} (h : thrsL (isR T) (locsT T) T.init (thsT T) 0 T.code (tr0 (thsT T)) = X) : traceL T = outX T X := by
  subst h
  unfold traceL
  rw [if_neg (by simp [hE])]
  rfl
section
variable {risc : Bool} {locs : List Nm} {init : List Ini} {ths : List Th} {k f : Nat} {c : List Ins} {cs cs' : List (List Ins)} {a a' : Tr} {X : Except (Int × Nat) Tr} {e : Int} {r : Rn} {es : List (Int × Int)}
theorem thrs_err (h : thrsL risc locs init ths k cs a = X) (hd : cs = c :: cs') (he : thrL risc locs init ths k c a = .error e) : X = .error (e, k) := by
  subst h hd
  rw [thrsL_cons, he]
theorem thrs_ok (h : thrsL risc locs init ths k cs a = X) (hd : cs = c :: cs') (he : thrL risc locs init ths k c a = .ok a') : thrsL risc locs init ths (k + 1) cs' a' = X := by
  subst h hd
  rw [thrsL_cons, he]
theorem thrL_none (hf : a.evs.length = f) (h : goL ⟨k, risc, f, locs⟩ c 0 (rn0 risc init k) = none) : thrL risc locs init ths k c a = .error 150 := by
  subst hf
  unfold thrL cxOf
  rw [h]
theorem thrL_full (hf : a.evs.length = f) (h : goL ⟨k, risc, f, locs⟩ c 0 (rn0 risc init k) = some r) (hr : r.full = true) : thrL risc locs init ths k c a = .error 2 := by
  subst hf
  unfold thrL cxOf
  rw [h]
  simp [hr]
theorem thrL_ends (hf : a.evs.length = f) (h : goL ⟨k, risc, f, locs⟩ c 0 (rn0 risc init k) = some r) (hr : r.full = false) (he : endsL k f r 0 ths a.ends = none) : thrL risc locs init ths k c a = .error 150 := by
  subst hf
  unfold thrL cxOf
  rw [h]
  simp [hr, he]
theorem thrL_ok (hf : a.evs.length = f) (h : goL ⟨k, risc, f, locs⟩ c 0 (rn0 risc init k) = some r) (hr : r.full = false) (he : endsL k f r 0 ths a.ends = some es) : thrL risc locs init ths k c a = .ok (joinL a r es) := by
  subst hf
  unfold thrL cxOf
  rw [h]
  simp [hr, he]
end
end Go.Proofs.YtoegmdnfbemppaaGreatDoor
namespace Go.Proofs.YtoegmdnfbemppaaGreatDoor
open Go.RowKit

/-- A row of the call's own at the end of another one. -/
theorem Enc.appO {α : Type} {E : Enc α} {T S : TypeId} {bytes : Nat} (hE : E.Elem T S bytes) {ops : Array Oper} {rest : List Oper} {o : Oper} {a : Act} {Q : Exit → Act → World → Prop} (V : World)
    (hg : o.guard = none) (s x : Operand) (hop : o.op = Op.call { callee := Callee.builtin Builtin.append, args := #[s, x], argTypes := #[S, S] })
    (ys : List α) (B B2 : Nat) (l : List α) (v vx : Value) (hs : a.eval s = v) (hx : a.eval x = vx)
    (hys : E.Own T B2 V vx ys) (hown : E.Own T B V v l) (b1 : l.length + ys.length ≤ 1152921504606846976) (b3 : (l.length + ys.length) * bytes ≤ 140737488355328) (hB : B ≤ V.heap.size)
    (hK : ∀ v' w1, E.Own T B w1 v' (l ++ ys) → GrewS V w1 B v v' → wpList Tryz.prog ops Q rest (a.put o.dst v') w1) :
    wpList Tryz.prog ops Q (o :: rest) a V := by
  obtain ⟨A, cap, e1, hat, _, _⟩ := hys.at_
  rcases hys.2 with ⟨e, h0⟩ | ⟨g, c, cur, e, _⟩
  · have hy : ys = [] := List.length_eq_zero_iff.1 h0
    subst hy
    obtain ⟨z, hz, hzs⟩ := hE.info
    obtain ⟨i0, hi, hz0, hz1, hz2⟩ := info_partsM hz
    refine wpList_append_own_none hg s x S hop B T i0 E.size hE.sl hi v l.length (E.flat l) hs hown (by rw [hx, e]) (hK v V ?_ (GrewS.refl _ _ _))
    rw [List.append_nil]; exact hown
  · rw [e1] at e
    simp only [Value.slice.injEq, true_and] at e
    obtain ⟨rfl, _⟩ := e
    exact Enc.appW hE V hg s x hop ys B l v g 0 cap hs (by rw [hx, e1]) hat hown b1 b3 hB hK
theorem en_cells {w : World} {q i : Nat} {m : List (Int × Int)} {x : Int × Int} (h : Blk w q 54 (encP.flat m).toArray) (hx : m[i]? = some x) : w.cell? ⟨q, i * 2, none⟩ = some (.int .i64 x.1) ∧ w.cell? ⟨q, i * 2 + 1, none⟩ = some (.int .i64 x.2) := by
  have h0 := encP.flat_at hx (show 0 < encP.size by show 0 < 2; omega)
  have h1 := encP.flat_at hx (show 1 < encP.size by show 1 < 2; omega)
  refine ⟨?_, ?_⟩
  · rw [h.cell]
    rw [show i * encP.size + 0 = i * 2 by show i * 2 + 0 = i * 2; omega] at h0
    simpa using h0
  · rw [h.cell]
    rw [show i * encP.size + 1 = i * 2 + 1 from rfl] at h1
    simpa using h1
theorem OutAt.en_blk {w : World} {B O : Nat} {L : OutL} {V : OutV} (h : OutAt w B O L V) {q n : Nat} (hq : V.en = .slice (some ⟨q, 0, none⟩) n n) : Blk w q 54 (encP.flat L.a.ends).toArray ∧ B ≤ q := by
  obtain ⟨q', e, hb, hB⟩ := h.en
  rw [hq] at e
  simp only [Value.slice.injEq, Option.some.injEq, Addr.mk.injEq, and_true] at e
  obtain ⟨rfl, _⟩ := e
  exact ⟨hb, hB⟩
/-- Another trace's cells. -/
theorem OutAt.off {w : World} {B O q : Nat} {L : OutL} {V : OutV} {cs : Array Value} (h : OutAt w B O L V) (hq : Blk w q 41 cs) (hne : O ≠ q) (i : Nat) (u : Value) : OutAt (w.setCell ⟨q, i, none⟩ u) B O L V :=
  ⟨h.blk.far hne u, h.hO, own_setO h.lo hq (by decide) _ _, h.ini.keep (fun _ hq2 => Below.heap_setCell w _ _ _ (blk_ne hq2 hq (by decide))), own_setO h.ev hq (by decide) _ _, own_setO h.br hq (by decide) _ _, own_setO h.ad hq (by decide) _ _, own_setO h.da hq (by decide) _ _, own_setO h.ct hq (by decide) _ _, own_setO h.th hq (by decide) _ _, h.en.keep (fun _ hq2 => Below.heap_setCell w _ _ _ (blk_ne hq2 hq (by decide))), h.a1, h.a2, h.a3⟩
theorem OutAt.off9 {w : World} {B O q : Nat} {L : OutL} {V : OutV} {cs : Array Value} (h : OutAt w B O L V) (hq : Blk w q 41 cs) (hne : O ≠ q) (u0 u1 u2 u3 u4 u5 u6 u7 u8 : Value) :
    OutAt (((((((((w.setCell ⟨q, 0, none⟩ u0).setCell ⟨q, 1, none⟩ u1).setCell ⟨q, 2, none⟩ u2).setCell ⟨q, 3, none⟩ u3).setCell ⟨q, 4, none⟩ u4).setCell ⟨q, 5, none⟩ u5).setCell ⟨q, 6, none⟩ u6).setCell ⟨q, 7, none⟩ u7).setCell ⟨q, 8, none⟩ u8) B O L V := by
  have k1 := hq.set_ 0 u0
  have k2 := k1.set_ 1 u1
  have k3 := k2.set_ 2 u2
  have k4 := k3.set_ 3 u3
  have k5 := k4.set_ 4 u4
  have k6 := k5.set_ 5 u5
  have k7 := k6.set_ 6 u6
  have k8 := k7.set_ 7 u7
  exact ((((((((h.off hq hne 0 u0).off k1 hne 1 u1).off k2 hne 2 u2).off k3 hne 3 u3).off k4 hne 4 u4).off k5 hne 5 u5).off k6 hne 6 u6).off k7 hne 7 u7).off k8 hne 8 u8
/-- What stands while a thread's things and events are put down. -/
structure EndSt (w : World) (Bk : Nat) (wq : World) (O g : Nat) (S : RunS) (r : Rn) (V8 : RunV) (L : OutL) (V : OutV) (tc : Array Value) : Prop where
  out : OutAt wq w.heap.size O L V
  run : RunAt wq Bk g S r V8
  tst : Blk wq w.heap.size 32 tc
  nil : Blk wq (w.heap.size + 1) 41 #[.slice none 0 0, .slice none 0 0, .slice none 0 0, .slice none 0 0, .slice none 0 0, .slice none 0 0, .slice none 0 0, .slice none 0 0, .slice none 0 0]
  bel : Below w.heap.size w wq
  hO : w.heap.size + 1 < O
  hk : O < Bk
namespace EndSt
variable {w wq w1 : World} {Bk O g : Nat} {S : RunS} {r : Rn} {V8 : RunV} {L : OutL} {V : OutV} {tc : Array Value} {v' : Value}
theorem below (h : EndSt w Bk wq O g S r V8 L V tc) (hb : Below wq.heap.size wq w1) : EndSt w Bk w1 O g S r V8 L V tc :=
  ⟨h.out.below hb, h.run.below hb, h.tst.go hb, h.nil.go hb, below_trans h.bel hb, h.hO, h.hk⟩
theorem drew (h : EndSt w Bk wq O g S r V8 L V tc) : EndSt w Bk wq.drew O g S r V8 L V tc := ⟨h.out.drew, h.run.drew, h.tst, h.nil, h.bel.drew, h.hO, h.hk⟩
theorem put (h : EndSt w Bk wq O g S r V8 L V tc) {i q n : Nat} (x y : Int) (hn : L.a.ends.length = n) (hi : i < n) (hq : V.en = .slice (some ⟨q, 0, none⟩) n n) (hqk : q < Bk) :
    EndSt w Bk ((wq.setCell ⟨q, i * 2, none⟩ (.int .i64 x)).setCell ⟨q, i * 2 + 1, none⟩ (.int .i64 y)) O g S r V8 { L with a := { L.a with ends := L.a.ends.set i (x, y) } } V tc := by
  subst hn
  obtain ⟨q', e, hb, hB⟩ := h.out.en
  rw [hq] at e
  simp only [Value.slice.injEq, Option.some.injEq, Addr.mk.injEq, and_true] at e
  obtain ⟨rfl, _⟩ := e
  have hbel := h.bel
  exact ⟨h.out.en_ (x := (x, y)) hi hq, h.run.above ((Above.set wq _ _ hqk).trans (Above.set _ _ _ hqk)), (h.tst.far (blk_ne h.tst hb (by decide)) _).far (blk_ne h.tst hb (by decide)) _, (h.nil.far (blk_ne h.nil hb (by decide)) _).far (blk_ne h.nil hb (by decide)) _,
    (hbel.setCell (p := ⟨q, i * 2, none⟩) hB _).setCell (p := ⟨q, i * 2 + 1, none⟩) hB _, h.hO, h.hk⟩
theorem en_blk (h : EndSt w Bk wq O g S r V8 L V tc) {q n : Nat} (hq : V.en = .slice (some ⟨q, 0, none⟩) n n) : Blk wq q 54 (encP.flat L.a.ends).toArray := by
  obtain ⟨q', e, hb, hB⟩ := h.out.en
  rw [hq] at e
  simp only [Value.slice.injEq, Option.some.injEq, Addr.mk.injEq, and_true] at e
  obtain ⟨rfl, _⟩ := e
  exact hb
theorem ev_ (h : EndSt w Bk wq O g S r V8 L V tc) (hlt : ∀ b, V.ev.ownBlock = some b → b < Bk) {l : List Evt} (hg : GrewS wq w1 w.heap.size V.ev v') (ho : encE.Own 50 w.heap.size w1 v' l) : EndSt w Bk (w1.setCell ⟨O, 2, none⟩ v') O g S r V8 { L with a := { L.a with evs := l } } { V with ev := v' } tc :=
  ⟨h.out.ev_ hg ho, h.run.above ((Above.grew hg hlt).trans (Above.set w1 2 v' h.hk)), (blk_grew h.tst h.out.ev (by decide) hg).far (p := ⟨O, 2, none⟩) (by have := h.hO; simp only [ne_eq]; omega) v', (blk_grew h.nil h.out.ev (by decide) hg).far (p := ⟨O, 2, none⟩) (by have := h.hO; simp only [ne_eq]; omega) v', (h.bel.trans hg.below).setCell (p := ⟨O, 2, none⟩) (by have := h.hO; show w.heap.size ≤ O; omega) v', h.hO, h.hk⟩
theorem br_ (h : EndSt w Bk wq O g S r V8 L V tc) (hlt : ∀ b, V.br.ownBlock = some b → b < Bk) {l : List Br} (hg : GrewS wq w1 w.heap.size V.br v') (ho : encB.Own 79 w.heap.size w1 v' l) : EndSt w Bk (w1.setCell ⟨O, 3, none⟩ v') O g S r V8 { L with a := { L.a with bars := l } } { V with br := v' } tc :=
  ⟨h.out.br_ hg ho, h.run.above ((Above.grew hg hlt).trans (Above.set w1 3 v' h.hk)), (blk_grew h.tst h.out.br (by decide) hg).far (p := ⟨O, 3, none⟩) (by have := h.hO; simp only [ne_eq]; omega) v', (blk_grew h.nil h.out.br (by decide) hg).far (p := ⟨O, 3, none⟩) (by have := h.hO; simp only [ne_eq]; omega) v', (h.bel.trans hg.below).setCell (p := ⟨O, 3, none⟩) (by have := h.hO; show w.heap.size ≤ O; omega) v', h.hO, h.hk⟩
theorem ad_ (h : EndSt w Bk wq O g S r V8 L V tc) (hlt : ∀ b, V.ad.ownBlock = some b → b < Bk) {l : List (Int × Int)} (hg : GrewS wq w1 w.heap.size V.ad v') (ho : encP.Own 52 w.heap.size w1 v' l) : EndSt w Bk (w1.setCell ⟨O, 4, none⟩ v') O g S r V8 { L with a := { L.a with addr := l } } { V with ad := v' } tc :=
  ⟨h.out.ad_ hg ho, h.run.above ((Above.grew hg hlt).trans (Above.set w1 4 v' h.hk)), (blk_grew h.tst h.out.ad (by decide) hg).far (p := ⟨O, 4, none⟩) (by have := h.hO; simp only [ne_eq]; omega) v', (blk_grew h.nil h.out.ad (by decide) hg).far (p := ⟨O, 4, none⟩) (by have := h.hO; simp only [ne_eq]; omega) v', (h.bel.trans hg.below).setCell (p := ⟨O, 4, none⟩) (by have := h.hO; show w.heap.size ≤ O; omega) v', h.hO, h.hk⟩
theorem da_ (h : EndSt w Bk wq O g S r V8 L V tc) (hlt : ∀ b, V.da.ownBlock = some b → b < Bk) {l : List (Int × Int)} (hg : GrewS wq w1 w.heap.size V.da v') (ho : encP.Own 52 w.heap.size w1 v' l) : EndSt w Bk (w1.setCell ⟨O, 5, none⟩ v') O g S r V8 { L with a := { L.a with data := l } } { V with da := v' } tc :=
  ⟨h.out.da_ hg ho, h.run.above ((Above.grew hg hlt).trans (Above.set w1 5 v' h.hk)), (blk_grew h.tst h.out.da (by decide) hg).far (p := ⟨O, 5, none⟩) (by have := h.hO; simp only [ne_eq]; omega) v', (blk_grew h.nil h.out.da (by decide) hg).far (p := ⟨O, 5, none⟩) (by have := h.hO; simp only [ne_eq]; omega) v', (h.bel.trans hg.below).setCell (p := ⟨O, 5, none⟩) (by have := h.hO; show w.heap.size ≤ O; omega) v', h.hO, h.hk⟩
theorem ct_ (h : EndSt w Bk wq O g S r V8 L V tc) (hlt : ∀ b, V.ct.ownBlock = some b → b < Bk) {l : List (Int × Int)} (hg : GrewS wq w1 w.heap.size V.ct v') (ho : encP.Own 52 w.heap.size w1 v' l) : EndSt w Bk (w1.setCell ⟨O, 6, none⟩ v') O g S r V8 { L with a := { L.a with hang := l } } { V with ct := v' } tc :=
  ⟨h.out.ct_ hg ho, h.run.above ((Above.grew hg hlt).trans (Above.set w1 6 v' h.hk)), (blk_grew h.tst h.out.ct (by decide) hg).far (p := ⟨O, 6, none⟩) (by have := h.hO; simp only [ne_eq]; omega) v', (blk_grew h.nil h.out.ct (by decide) hg).far (p := ⟨O, 6, none⟩) (by have := h.hO; simp only [ne_eq]; omega) v', (h.bel.trans hg.below).setCell (p := ⟨O, 6, none⟩) (by have := h.hO; show w.heap.size ≤ O; omega) v', h.hO, h.hk⟩
end EndSt
end Go.Proofs.YtoegmdnfbemppaaGreatDoor
namespace Go.Proofs.YtoegmdnfbemppaaGreatDoor
open Go.RowKit

def toldOf : Hold → Int
  | .rd i => (i : Int)
  | _ => 0
def isTold : Hold → Bool
  | .rd _ => true
  | _ => false
theorem taT (w : World) : ∀ h : Hold, (Instr.typeAssert (holdV h) 161 171 true).run Tryz.prog w = .ok (.tuple #[.int .i64 (toldOf h), .bool (isTold h)]) w
  | .num _ => ta_t_n _ w
  | .adr _ => ta_t_a _ w
  | .rd _ => ta_t_t _ w
  | .non => ta_t_h _ w
def endV (o : Option (Int × Int)) : Value := match o with
  | some p => .tuple #[.agg #[.int .i64 p.1, .int .i64 p.2], .bool true]
  | none => .tuple #[.agg #[.int .i64 0, .int .i64 0], .bool false]
section
set_option maxHeartbeats 4000000
set_option maxRecDepth 100000
variable {w0 w : World} {g nr k : Nat} {S : RunS} {r : Rn} {V : RunV}
theorem endP (d first : Nat) (x : Rg) (hfi : first ≤ 64) (hx0 : ∀ i, x.h = .rd i → i ≤ 64) (hR : RunAt w w0.heap.size g S r V) (hx : r.regs[d]? = some x) :
    Calls Tryz.prog 34 #[.pointer (some ⟨g, 0, none⟩), .int .i64 (d : Int), .int .i64 (first : Int)] w fun e w' => e = .returned (endV (endL first x.h)) ∧ Below w.heap.size w w' := by
  obtain ⟨q, hvr, hqb, hqB⟩ := hR.regs
  have hdl := (List.getElem?_eq_some_iff.1 hx).1
  have hi1 : (0 : Int) ≤ (d : Int) := by omega
  have hi2 : (d : Int) < (r.regs.length : Int) := by omega
  obtain ⟨c0, c1, c2, c3, c4⟩ := regs_cell hqb hx
  have k14 : w.cell? ⟨g, 14, none⟩ = some (.slice (some ⟨q, 0, none⟩) r.regs.length r.regs.length) := by rw [← hvr]; exact hR.blk.cell 14
  have hqw := hqb.lt
  have hgw : g < w.heap.size := hR.blk.lt
  obtain ⟨xh, xo⟩ := x
  simp only at hx0 c0 ⊢
  clear hR hqb hx c1 c2 c3 c4
  cases xh with
  | num n =>
    have q1 := fun w => taN w (.num n)
    have q2 := fun w => taT w (.num n)
    simp only [numOf, isNum, toldOf, isTold] at q1 q2
    go_enter Tryz.func34, Tryz.ntmps34
    go_wp2_with fail
    have z0 := cell_new w #[.int .i64 1, .int .i64 n] 54 (0, 0) 0
    have z1 := cell_new w #[.int .i64 1, .int .i64 n] 54 (0, 0) 1
    refine bodyPost_ret (v := .tuple #[.agg #[.int .i64 1, .int .i64 n], .bool true]) (by simp [results, Tryz.results34, go_sem, z0, z1]) rfl ⟨rfl, alloc_b _ _⟩
  | rd i =>
    have q1 := fun w => taN w (.rd i)
    have q2 := fun w => taT w (.rd i)
    simp only [numOf, isNum, toldOf, isTold] at q1 q2
    have hi3 : (0 : Int) ≤ (i : Int) := by omega
    have hi4 : (i : Int) ≤ 64 := by have := hx0 i rfl; omega
    have hi5 : (first : Int) ≤ 64 := by omega
    go_enter Tryz.func34, Tryz.ntmps34
    go_wp2_with fail
    have z0 := cell_new w #[.int .i64 2, .int .i64 ((first : Int) + (i : Int))] 54 (0, 0) 0
    have z1 := cell_new w #[.int .i64 2, .int .i64 ((first : Int) + (i : Int))] 54 (0, 0) 1
    refine bodyPost_ret (v := .tuple #[.agg #[.int .i64 2, .int .i64 ((first : Int) + (i : Int))], .bool true]) (by simp [results, Tryz.results34, go_sem, z0, z1]) rfl ⟨by simp [endL, endV], alloc_b _ _⟩
  | adr s =>
    have q1 := fun w => taN w (.adr s)
    have q2 := fun w => taT w (.adr s)
    simp only [numOf, isNum, toldOf, isTold] at q1 q2
    go_enter Tryz.func34, Tryz.ntmps34
    go_wp2_with fail
    have z0 := cell_new w #[.int .i64 0, .int .i64 0] 54 (0, 0) 0
    have z1 := cell_new w #[.int .i64 0, .int .i64 0] 54 (0, 0) 1
    refine bodyPost_ret (v := .tuple #[.agg #[.int .i64 0, .int .i64 0], .bool false]) (by simp [results, Tryz.results34, go_sem, z0, z1]) rfl ⟨rfl, alloc_b _ _⟩
  | non =>
    have q1 := fun w => taN w .non
    have q2 := fun w => taT w .non
    simp only [numOf, isNum, toldOf, isTold] at q1 q2
    go_enter Tryz.func34, Tryz.ntmps34
    go_wp2_with fail
    have z0 := cell_new w #[.int .i64 0, .int .i64 0] 54 (0, 0) 0
    have z1 := cell_new w #[.int .i64 0, .int .i64 0] 54 (0, 0) 1
    refine bodyPost_ret (v := .tuple #[.agg #[.int .i64 0, .int .i64 0], .bool false]) (by simp [results, Tryz.results34, go_sem, z0, z1]) rfl ⟨rfl, alloc_b _ _⟩
end
end Go.Proofs.YtoegmdnfbemppaaGreatDoor
namespace Go.Proofs.YtoegmdnfbemppaaGreatDoor
open Go.RowKit

def kindH : Hold → Int
  | .num _ => 1
  | .adr _ => 2
  | .rd _ => 3
  | .non => 4
def numH (f : Nat) : Hold → Int
  | .num n => n
  | .adr _ => 0
  | .rd i => ((f + i : Nat) : Int)
  | .non => 0
def locH : Hold → Nm
  | .adr s => s
  | _ => []
abbrev encH (f : Nat) : Enc Rg := ⟨4, fun x => [.int .i64 (kindH x.h), .int .i64 (numH f x.h), .string ⟨(locH x.h).toArray⟩, .int .u64 ((x.on <<< f : Nat) : Int)], fun _ => rfl, by omega, fun x u h => by simp at h; rcases h with rfl | rfl | rfl | rfl <;> rfl⟩
/-- A slice. -/
structure Sl where
  A : Option Addr
  n : Nat
  c : Nat
abbrev Sl.v (s : Sl) : Value := .slice s.A s.n s.c
theorem own_sl {w : World} {B : Nat} {t : TypeId} {z n : Nat} {v : Value} {cs : List Value} (h : w.ownsRow B t z v n cs) : ∃ s : Sl, v = s.v ∧ s.n = n := by
  obtain ⟨A, cap, e⟩ := own_shp h
  exact ⟨⟨A, n, cap⟩, e, rfl⟩
theorem own_n {w : World} {B : Nat} {t : TypeId} {z n : Nat} {s : Sl} {cs : List Value} (h : w.ownsRow B t z s.v n cs) : s.n = n := by
  obtain ⟨A, cap, e⟩ := own_shp h
  simp only [Sl.v, Value.slice.injEq] at e
  exact e.2.1
structure TrcV where
  lo : Sl
  ini : Sl
  ev : Sl
  br : Sl
  ad : Sl
  da : Sl
  ct : Sl
  th : Sl
  en : Sl
abbrev trcV (V : TrcV) : Value := .agg #[V.lo.v, V.ini.v, V.ev.v, V.br.v, V.ad.v, V.da.v, V.ct.v, V.th.v, V.en.v]
abbrev trcC (V : TrcV) : Array Value := #[V.lo.v, V.ini.v, V.ev.v, V.br.v, V.ad.v, V.da.v, V.ct.v, V.th.v, V.en.v]
/-- The rows' values of a runner. -/
structure RrV where
  rg : Sl
  ev : Sl
  br : Sl
  ad : Sl
  da : Sl
  ct : Sl
/-- What stays while a thread is run; `a` is what the threads ahead of it put down, its pairs in the order in which they were. -/
structure RrS where
  T : Tst
  iv : Sl
  cv : Sl
  kv : Sl
  C : Cx
  lo : Sl
  ini : Sl
  th : Sl
  en : Sl
  a : Tr
/-- Nothing but rows of events, fences and pairs has turned. -/
structure KeepT (B : Nat) (w w' : World) : Prop where
  below : Below B w w'
  keep : ∀ b t cs, Blk w b t cs → t ≠ 50 → t ≠ 79 → t ≠ 52 → Blk w' b t cs
theorem KeepT.size {B : Nat} {w w' : World} (h : KeepT B w w') : w.heap.size ≤ w'.heap.size := h.below.size
theorem KeepT.refl (B : Nat) (w : World) : KeepT B w w := ⟨Below.refl _ _, fun _ _ _ h _ _ _ => h⟩
theorem KeepT.trans {B : Nat} {w w1 w2 : World} (h : KeepT B w w1) (k : KeepT B w1 w2) : KeepT B w w2 :=
  ⟨h.below.trans k.below, fun b t cs hb h1 h2 h3 => k.keep b t cs (h.keep b t cs hb h1 h2 h3) h1 h2 h3⟩
theorem KeepT.of_below {B : Nat} {w w' : World} (h : Below w.heap.size w w') (hB : B ≤ w.heap.size) : KeepT B w w' :=
  ⟨h.mono hB, fun _ _ _ hb _ _ _ => hb.go h⟩
theorem KeepT.grew {B B2 : Nat} {w w1 : World} {t : TypeId} {z n : Nat} {v v' : Value} {cs : List Value} (ho : w.ownsRow B2 t z v n cs) (ht : t = 50 ∨ t = 79 ∨ t = 52) (hg : GrewS w w1 B v v') : KeepT B w w1 :=
  ⟨hg.below, fun b t2 ds hb h1 h2 h3 => blk_grew hb ho (by rcases ht with e | e | e <;> rw [e] <;> first | exact Ne.symm h1 | exact Ne.symm h2 | exact Ne.symm h3) hg⟩
theorem KeepT.set {B : Nat} {w w1 : World} (h : KeepT B w w1) {g : Nat} (hg : w.heap.size ≤ g) (hB : B ≤ w.heap.size) (i : Nat) (u : Value) : KeepT B w (w1.setCell ⟨g, i, none⟩ u) :=
  ⟨h.below.setCell (p := ⟨g, i, none⟩) (Nat.le_trans hB hg) u, fun b t cs hb h1 h2 h3 => (h.keep b t cs hb h1 h2 h3).far (p := ⟨g, i, none⟩) (by have := hb.lt; simp only [ne_eq]; omega) u⟩
theorem KeepT.below' {B : Nat} {w w1 w2 : World} (h : KeepT B w w1) (hb : Below w1.heap.size w1 w2) (hB : B ≤ w.heap.size) : KeepT B w w2 := h.trans (KeepT.of_below hb (Nat.le_trans hB h.size))
theorem KeepT.drew {B : Nat} {w w1 : World} (h : KeepT B w w1) : KeepT B w w1.drew := ⟨h.below.drew, h.keep⟩
theorem KeepT.own {B B2 : Nat} {w w1 : World} (hk : KeepT B w w1) {t : TypeId} {z n : Nat} {v : Value} {cs : List Value} (ho : w.ownsRow B2 t z v n cs) (h1 : t ≠ 50) (h2 : t ≠ 79) (h3 : t ≠ 52) : w1.ownsRow B2 t z v n cs :=
  own_hold ho fun b hb => by
    obtain ⟨cur, hc, _⟩ := own_ty ho hb
    rw [hc]
    exact hk.keep b t cur hc h1 h2 h3
/-- A runner's rows in memory. -/
structure RefAt (w : World) (B : Nat) (S : RrS) (r : Rn) (V : RrV) : Prop where
  hB : B ≤ w.heap.size
  lo : encS.Own 9 B w S.lo.v S.C.locs
  rg : (encH S.C.ahead).Own 125 B w V.rg.v r.regs
  ev : encE.Own 50 B w V.ev.v (S.a.evs ++ r.evs)
  br : encB.Own 79 B w V.br.v (S.a.bars ++ r.bars)
  ad : encP.Own 52 B w V.ad.v (S.a.addr ++ r.addr.map (shP S.C.ahead))
  da : encP.Own 52 B w V.da.v (S.a.data ++ r.data.map (shP S.C.ahead))
  ct : encP.Own 52 B w V.ct.v (S.a.hang ++ r.hang.map (shP S.C.ahead))
  a1 : Apart V.ad.v V.da.v
  a2 : Apart V.ad.v V.ct.v
  a3 : Apart V.da.v V.ct.v
namespace RefAt
variable {w w' w1 : World} {B : Nat} {S : RrS} {r : Rn} {V : RrV} {v' : Sl}
theorem below (h : RefAt w B S r V) (hb : Below w.heap.size w w') : RefAt w' B S r V :=
  ⟨Nat.le_trans h.hB hb.size, own_below h.lo hb, own_below h.rg hb, own_below h.ev hb, own_below h.br hb, own_below h.ad hb, own_below h.da hb, own_below h.ct hb, h.a1, h.a2, h.a3⟩
theorem drew (h : RefAt w B S r V) : RefAt w.drew B S r V := ⟨h.hB, h.lo, h.rg, h.ev, h.br, h.ad, h.da, h.ct, h.a1, h.a2, h.a3⟩
theorem set (h : RefAt w B S r V) {g : Nat} {cs : Array Value} (hg : Blk w g 121 cs) (i : Nat) (u : Value) : RefAt (w.setCell ⟨g, i, none⟩ u) B S r V :=
  ⟨by simpa [World.setCell] using h.hB, own_setO h.lo hg (by decide) _ _, own_setO h.rg hg (by decide) _ _, own_setO h.ev hg (by decide) _ _, own_setO h.br hg (by decide) _ _, own_setO h.ad hg (by decide) _ _, own_setO h.da hg (by decide) _ _, own_setO h.ct hg (by decide) _ _, h.a1, h.a2, h.a3⟩
theorem ctrl (h : RefAt w B S r V) (c : Nat) : RefAt w B S { r with ctrl := c } V := ⟨h.hB, h.lo, h.rg, h.ev, h.br, h.ad, h.da, h.ct, h.a1, h.a2, h.a3⟩
theorem full (h : RefAt w B S r V) (c : Bool) : RefAt w B S { r with full := c } V := ⟨h.hB, h.lo, h.rg, h.ev, h.br, h.ad, h.da, h.ct, h.a1, h.a2, h.a3⟩
end RefAt
end Go.Proofs.YtoegmdnfbemppaaGreatDoor
namespace Go.Proofs.YtoegmdnfbemppaaGreatDoor
open Go.RowKit

/-- A trace that can be read. -/
structure TrcAt (w : World) (L : OutL) (V : TrcV) : Prop where
  lo : encS.At w V.lo.A L.lo
  nlo : V.lo.n = L.lo.length
  ini : encI.At w V.ini.A L.ini
  nini : V.ini.n = L.ini.length
  ev : encE.At w V.ev.A L.a.evs
  nev : V.ev.n = L.a.evs.length
  br : encB.At w V.br.A L.a.bars
  nbr : V.br.n = L.a.bars.length
  ad : encP.At w V.ad.A L.a.addr
  nad : V.ad.n = L.a.addr.length
  da : encP.At w V.da.A L.a.data
  nda : V.da.n = L.a.data.length
  ct : encP.At w V.ct.A L.a.hang
  nct : V.ct.n = L.a.hang.length
  th : ThsB w V.th.A L.th
  nth : V.th.n = L.th.length
  en : encP.At w V.en.A L.a.ends
  nen : V.en.n = L.a.ends.length
theorem ThsB.go {w w' : World} {A : Option Addr} {T : List Th} (h : ThsB w A T) (hb : Below w.heap.size w w') : ThsB w' A T := fun i x hx => by
  obtain ⟨b, o, e, c0, c1, c2⟩ := h i x hx
  exact ⟨b, o, e, cell_go c0 hb, cell_go c1 hb, cell_go c2 hb⟩
theorem TrcAt.below {w w' : World} {L : OutL} {V : TrcV} (h : TrcAt w L V) (hb : Below w.heap.size w w') : TrcAt w' L V :=
  ⟨h.lo.below hb, h.nlo, h.ini.below hb, h.nini, h.ev.below hb, h.nev, h.br.below hb, h.nbr, h.ad.below hb, h.nad, h.da.below hb, h.nda, h.ct.below hb, h.nct, h.th.go hb, h.nth, h.en.below hb, h.nen⟩
theorem rowB_at {α : Type} {E : Enc α} {t : TypeId} {B : Nat} {w : World} {v : Value} {l : List α} (h : RowB E t B w v l) : ∃ s : Sl, v = s.v ∧ s.n = l.length ∧ E.At w s.A l := by
  obtain ⟨q, rfl, hb, _⟩ := h
  refine ⟨⟨some ⟨q, 0, none⟩, l.length, l.length⟩, rfl, rfl, fun i x hx => ⟨q, 0, rfl, fun j u hu => ?_⟩⟩
  have hj : j < E.size := by have := (List.getElem?_eq_some_iff.1 hu).1; rwa [E.len] at this
  rw [Nat.zero_add, hb.cell, List.getElem?_toArray, E.flat_at hx hj]
  exact hu
theorem own_atS {α : Type} {E : Enc α} {t : TypeId} {B : Nat} {w : World} {v : Value} {l : List α} (h : E.Own t B w v l) : ∃ s : Sl, v = s.v ∧ s.n = l.length ∧ E.At w s.A l := by
  obtain ⟨A, cap, e, hat, _⟩ := h.at_
  exact ⟨⟨A, l.length, cap⟩, e, rfl, hat⟩
theorem OutAt.trc {w : World} {B O : Nat} {L : OutL} {V : OutV} (h : OutAt w B O L V) : ∃ V' : TrcV, (.agg #[V.lo, V.ini, V.ev, V.br, V.ad, V.da, V.ct, V.th, V.en] : Value) = trcV V' ∧ TrcAt w L V' := by
  obtain ⟨lo, ini, ev, br, ad, da, ct, th, en⟩ := V
  obtain ⟨s1, h1, n1, a1⟩ := own_atS h.lo
  obtain ⟨s2, h2, n2, a2⟩ := rowB_at h.ini
  obtain ⟨s3, h3, n3, a3⟩ := own_atS h.ev
  obtain ⟨s4, h4, n4, a4⟩ := own_atS h.br
  obtain ⟨s5, h5, n5, a5⟩ := own_atS h.ad
  obtain ⟨s6, h6, n6, a6⟩ := own_atS h.da
  obtain ⟨s7, h7, n7, a7⟩ := own_atS h.ct
  obtain ⟨A8, c8, h8, a8⟩ := own_thsB h.th
  obtain ⟨s9, h9, n9, a9⟩ := rowB_at h.en
  simp only at h1 h2 h3 h4 h5 h6 h7 h8 h9
  subst h1 h2 h3 h4 h5 h6 h7 h8 h9
  exact ⟨⟨s1, s2, s3, s4, s5, s6, s7, ⟨A8, L.th.length, c8⟩, s9⟩, rfl, ⟨a1, n1, a2, n2, a3, n3, a4, n4, a5, n5, a6, n6, a7, n7, a8, rfl, a9, n9⟩⟩
theorem evt_at {w : World} {A : Option Addr} {l : List Evt} (h : encE.At w A l) {i : Nat} {x : Evt} (hx : l[i]? = some x) : ∃ b o, A = some ⟨b, o, none⟩ ∧ w.cell? ⟨b, o + i * 6, none⟩ = some (.int .i64 x.th) ∧ w.cell? ⟨b, o + i * 6 + 1, none⟩ = some (.int .i64 x.pl) ∧ w.cell? ⟨b, o + i * 6 + 2, none⟩ = some (.int .i64 x.dr) ∧ w.cell? ⟨b, o + i * 6 + 3, none⟩ = some (.int .i64 x.lc) ∧ w.cell? ⟨b, o + i * 6 + 4, none⟩ = some (.int .i64 x.vl) ∧ w.cell? ⟨b, o + i * 6 + 5, none⟩ = some (.int .i64 x.rg) := by
  obtain ⟨b, o, e, hc⟩ := h i x hx
  exact ⟨b, o, e, hc 0 _ rfl, hc 1 _ rfl, hc 2 _ rfl, hc 3 _ rfl, hc 4 _ rfl, hc 5 _ rfl⟩
theorem bar_at {w : World} {A : Option Addr} {l : List Br} (h : encB.At w A l) {i : Nat} {x : Br} (hx : l[i]? = some x) : ∃ b o, A = some ⟨b, o, none⟩ ∧ w.cell? ⟨b, o + i * 3, none⟩ = some (.int .i64 x.th) ∧ w.cell? ⟨b, o + i * 3 + 1, none⟩ = some (.int .i64 x.pl) ∧ w.cell? ⟨b, o + i * 3 + 2, none⟩ = some (.int .i64 x.fe) := by
  obtain ⟨b, o, e, hc⟩ := h i x hx
  exact ⟨b, o, e, hc 0 _ rfl, hc 1 _ rfl, hc 2 _ rfl⟩
theorem prs_at {w : World} {A : Option Addr} {l : List (Int × Int)} (h : encP.At w A l) {i : Nat} {x : Int × Int} (hx : l[i]? = some x) : ∃ b o, A = some ⟨b, o, none⟩ ∧ w.cell? ⟨b, o + i * 2, none⟩ = some (.int .i64 x.1) ∧ w.cell? ⟨b, o + i * 2 + 1, none⟩ = some (.int .i64 x.2) := by
  obtain ⟨b, o, e, hc⟩ := h i x hx
  exact ⟨b, o, e, hc 0 _ rfl, hc 1 _ rfl⟩
theorem nameB_le {l : Nm} (h : nameB l = true) : l.length ≤ 32 := by
  cases l with
  | nil => simp
  | cons c r => simp only [nameB, Bool.and_eq_true, decide_eq_true_eq] at h; simp only [List.length_cons]; omega
theorem strN_next {l : List Nm} (h : StrN l) {i : Nat} {x y : Nm} (hx : l[i]? = some x) (hy : l[i + 1]? = some y) : ltN x y = true := by
  obtain ⟨h1, rfl⟩ := List.getElem?_eq_some_iff.1 hx
  obtain ⟨h2, rfl⟩ := List.getElem?_eq_some_iff.1 hy
  exact List.pairwise_iff_getElem.1 h i (i + 1) h1 h2 (Nat.lt_succ_self i)
def ahdI (a p b q : Int) : Prop := a < b ∨ (a = b ∧ p < q)
structure EvOK (n : Nat) (e : Evt) : Prop where
  th : 0 ≤ e.th ∧ e.th < 16
  pl : 0 ≤ e.pl ∧ e.pl < 256
  lc : 0 ≤ e.lc ∧ e.lc < n
  vl : numB e.vl = true
  rg : 0 ≤ e.rg ∧ e.rg ≤ 31
  dr : (e.dr = 1 ∧ e.vl = 0) ∨ (e.dr = 2 ∧ e.rg = 0)
structure BrOK (b : Br) : Prop where
  th : 0 ≤ b.th ∧ b.th < 16
  pl : 0 ≤ b.pl ∧ b.pl < 256
  fe : 1 ≤ b.fe ∧ b.fe ≤ 11
/-- Pairs of dependencies: from a read to a later event of its thread. -/
structure DepOK (evs : List Evt) (wr : Bool) (p : Int × Int) : Prop where
  at_ : ∃ (i j : Nat) (x y : Evt), p = ((i : Int), (j : Int)) ∧ i < j ∧ evs[i]? = some x ∧ evs[j]? = some y ∧ x.dr = 1 ∧ x.th = y.th ∧ (wr = true → y.dr = 2)
def ThO (a b : Th) : Prop := if a.1 = -1 ∨ b.1 = -1 then a.1 ≠ -1 ∨ (b.1 = -1 ∧ ltN a.2.2 b.2.2 = true) else (a.1 < b.1 ∨ (a.1 = b.1 ∧ a.2.1 < b.2.1))
/-- How a thing may end. -/
def EndOK (L : OutL) (x : Th) (e : Int × Int) : Prop :=
  (x.1 = -1 ∧ x.2.1 = 0 ∧ x.2.2 ∈ L.lo ∧ e.1 = 3 ∧ e.2 = ((L.lo.idxOf x.2.2 : Nat) : Int)) ∨
  (0 ≤ x.1 ∧ x.1 < 16 ∧ 0 ≤ x.2.1 ∧ x.2.1 ≤ 31 ∧ x.2.2 = [] ∧ ((e.1 = 1 ∧ numB e.2 = true) ∨ (e.1 = 2 ∧ ∃ (i : Nat) (y : Evt), e.2 = (i : Int) ∧ L.a.evs[i]? = some y ∧ y.dr = 1 ∧ y.th = x.1)))
/-- A trace that may be. -/
structure TrGood (L : OutL) : Prop where
  nlo : L.lo.length ≤ 64
  nini : L.ini.length = L.lo.length
  name : ∀ x ∈ L.lo, nameB x = true
  str : StrN L.lo
  num : ∀ n ∈ L.ini, numB n = true
  nev : L.a.evs.length ≤ 64
  ev : ∀ e ∈ L.a.evs, EvOK L.lo.length e
  evo : ∀ (i : Nat) x y, L.a.evs[i]? = some x → L.a.evs[i + 1]? = some y → ahdI x.th x.pl y.th y.pl
  nbr : L.a.bars.length ≤ 4096
  br : ∀ b ∈ L.a.bars, BrOK b
  bro : ∀ (i : Nat) x y, L.a.bars[i]? = some x → L.a.bars[i + 1]? = some y → ahdI x.th x.pl y.th y.pl
  bre : ∀ b ∈ L.a.bars, ∀ e ∈ L.a.evs, e.th = b.th → e.pl ≠ b.pl
  ad : ∀ p ∈ L.a.addr, DepOK L.a.evs false p
  ado : ∀ (i : Nat) x y, L.a.addr[i]? = some x → L.a.addr[i + 1]? = some y → ordA x y
  da : ∀ p ∈ L.a.data, DepOK L.a.evs true p
  dao : ∀ (i : Nat) x y, L.a.data[i]? = some x → L.a.data[i + 1]? = some y → ordA x y
  ct : ∀ p ∈ L.a.hang, DepOK L.a.evs false p
  cto : ∀ (i : Nat) x y, L.a.hang[i]? = some x → L.a.hang[i + 1]? = some y → ordA x y
  nen : L.a.ends.length = L.th.length
  nth : L.th.length ≤ 1024
  tho : ∀ (i : Nat) x y, L.th[i]? = some x → L.th[i + 1]? = some y → ThO x y
  en : ∀ (i : Nat) x e, L.th[i]? = some x → L.a.ends[i]? = some e → EndOK L x e
end Go.Proofs.YtoegmdnfbemppaaGreatDoor
namespace Go.Proofs.YtoegmdnfbemppaaGreatDoor
open Go.RowKit

abbrev encW : Enc Nat := ⟨1, fun n => [.int .u64 (n : Int)], fun _ => rfl, by omega, fun _ u h => by simp at h; subst h; rfl⟩
def relS (m : List Nat) (p : Int × Int) : List Nat := m.set p.1.toNat ((m[p.1.toNat]?).getD 0 ||| 2 ^ p.2.toNat)
/-- The rows of a relation of pairs. -/
def relL (n : Nat) (l : List (Int × Int)) : List Nat := l.foldl relS (List.replicate n 0)
theorem relS_len (m : List Nat) (p : Int × Int) : (relS m p).length = m.length := by simp [relS]
theorem relF_mem (_n : Nat) (l : List (Int × Int)) (hl : ∀ p ∈ l, 0 ≤ p.2 ∧ p.2 < 64) : ∀ m : List Nat, (∀ x ∈ m, x < 18446744073709551616) → ∀ x ∈ l.foldl relS m, x < 18446744073709551616 := by
  induction l with
  | nil => intro m hm; exact hm
  | cons p l ih =>
    intro m hm
    rw [List.foldl_cons]
    refine ih (fun q hq => hl q (List.mem_cons_of_mem _ hq)) _ (fun x hx => ?_)
    unfold relS at hx
    rcases List.mem_or_eq_of_mem_set hx with h | rfl
    · exact hm x h
    · have h1 := hl p List.mem_cons_self
      have h2 : (m[p.1.toNat]?).getD 0 < 2 ^ 64 := by
        cases h : m[p.1.toNat]? with
        | none => simp
        | some y => simpa using hm y (List.mem_of_getElem? h)
      have h3 : 2 ^ p.2.toNat < 2 ^ 64 := Nat.pow_lt_pow_right (by omega) (by omega)
      simpa using Nat.or_lt_two_pow h2 h3
/-- Pairs of an event and the events of a list, from the j-th on. -/
def btwI (hold : Evt → Evt → Bool) (i : Nat) (a : Evt) : Nat → List Evt → List (Int × Int)
  | _, [] => []
  | j, b :: bs => (if a.th = b.th ∧ a.pl < b.pl ∧ hold a b = true then [((i : Int), (j : Int))] else []) ++ btwI hold i a (j + 1) bs
/-- Pairs of the program order of which something holds. -/
def btw (hold : Evt → Evt → Bool) (evs : List Evt) : Nat → List Evt → List (Int × Int)
  | _, [] => []
  | i, a :: cs => btwI hold i a 0 evs ++ btw hold evs (i + 1) cs
theorem btwI_len (hold : Evt → Evt → Bool) (i : Nat) (a : Evt) : ∀ (l : List Evt) (j : Nat), (btwI hold i a j l).length ≤ l.length
  | [], _ => by simp [btwI]
  | b :: bs, j => by
    have := btwI_len hold i a bs (j + 1)
    unfold btwI
    rw [List.length_append, List.length_cons]
    split <;> simp <;> omega
theorem btwI_mem (hold : Evt → Evt → Bool) (i : Nat) (a : Evt) : ∀ (l : List Evt) (j : Nat) (p : Int × Int), p ∈ btwI hold i a j l ↔ ∃ (m : Nat) (b : Evt), l[m]? = some b ∧ p = ((i : Int), ((j + m : Nat) : Int)) ∧ a.th = b.th ∧ a.pl < b.pl ∧ hold a b = true
  | [], _, p => by simp [btwI]
  | b :: bs, j, p => by
    unfold btwI
    rw [List.mem_append, btwI_mem hold i a bs (j + 1) p]
    constructor
    · rintro (h | ⟨m, c, hc, rfl, h⟩)
      · split at h
        · rename_i hc
          rw [List.mem_singleton] at h
          exact ⟨0, b, rfl, by rw [h]; simp, hc⟩
        · cases h
      · exact ⟨m + 1, c, by simpa using hc, by congr 2; omega, h⟩
    · rintro ⟨m, c, hc, rfl, h⟩
      cases m with
      | zero =>
        left
        simp only [List.getElem?_cons_zero, Option.some.injEq] at hc
        subst hc
        rw [if_pos h]; simp
      | succ m =>
        right
        exact ⟨m, c, by simpa using hc, by congr 2; omega, h⟩
theorem btw_mem (hold : Evt → Evt → Bool) (evs : List Evt) : ∀ (l : List Evt) (i : Nat) (p : Int × Int), p ∈ btw hold evs i l ↔ ∃ (m n : Nat) (a b : Evt), l[m]? = some a ∧ evs[n]? = some b ∧ p = (((i + m : Nat) : Int), (n : Int)) ∧ a.th = b.th ∧ a.pl < b.pl ∧ hold a b = true
  | [], _, p => by simp [btw]
  | a :: cs, i, p => by
    unfold btw
    rw [List.mem_append, btwI_mem hold i a evs 0 p, btw_mem hold evs cs (i + 1) p]
    constructor
    · rintro (⟨m, b, hb, rfl, h⟩ | ⟨m, n, c, b, hc, hb, rfl, h⟩)
      · exact ⟨0, m, a, b, rfl, hb, by simp, h⟩
      · exact ⟨m + 1, n, c, b, by simpa using hc, hb, by congr 2; omega, h⟩
    · rintro ⟨m, n, c, b, hc, hb, rfl, h⟩
      cases m with
      | zero =>
        left
        simp only [List.getElem?_cons_zero, Option.some.injEq] at hc
        subst hc
        exact ⟨n, b, hb, by simp, h⟩
      | succ m =>
        right
        exact ⟨m, n, c, b, by simpa using hc, hb, by congr 2; omega, h⟩
theorem btw_len (hold : Evt → Evt → Bool) (evs : List Evt) : ∀ (l : List Evt) (i : Nat), (btw hold evs i l).length ≤ l.length * evs.length
  | [], _ => by simp [btw]
  | a :: cs, i => by
    have h1 := btwI_len hold i a evs 0
    have h2 := btw_len hold evs cs (i + 1)
    unfold btw
    rw [List.length_append, List.length_cons, Nat.succ_mul]
    omega
/-- A fence of the trace stands between two events and orders them. -/
def fenB (ord : Int → Int → Int → Bool) (bars : List Br) (a b : Evt) : Bool := bars.any fun x => decide (x.th = a.th) && decide (a.pl < x.pl) && decide (x.pl < b.pl) && ord x.fe a.dr b.dr
end Go.Proofs.YtoegmdnfbemppaaGreatDoor
namespace Go.Proofs.YtoegmdnfbemppaaGreatDoor
open Go.RowKit

section
set_option maxHeartbeats 4000000
set_option maxRecDepth 100000
theorem placedP (a b : Int) (w : World) (h1 : 0 ≤ a ∧ a < 16) (h2 : 0 ≤ b ∧ b < 256) : Calls Tryz.prog 110 #[.int .i64 a, .int .i64 b] w fun e w' => e = .returned (.bool true) ∧ w = w' := by
  obtain ⟨h1a, h1b⟩ := h1
  obtain ⟨h2a, h2b⟩ := h2
  go_enter Tryz.func110, Tryz.ntmps110
  go_wp2_with fail
  go_ret
  exact ⟨rfl, rfl⟩
theorem locatedP (L : OutL) (V : TrcV) (w : World) (h : TrcAt w L V) (G : TrGood L) : Calls Tryz.prog 57 #[trcV V] w fun e w' => e = .returned (.bool true) ∧ Below w.heap.size w w' := by
  obtain ⟨⟨Al, nl, cl⟩, ⟨Ai, ni, ci⟩, ⟨Ae, ne, ce⟩, ⟨Ab, nb, cb⟩, ⟨Aa, na, ca⟩, ⟨Ad, nd, cd⟩, ⟨Ac, nc, cc⟩, ⟨At, nt, ct⟩, ⟨Ax, nx, cx⟩⟩ := V
  simp only [trcV, Sl.v]
  have HT := Lib.hid h
  have hn1 := Lib.hid (show nl = L.lo.length from h.nlo)
  have hn2 := Lib.hid (show ni = L.ini.length from h.nini)
  have hn3 := Lib.hid (show ne = L.a.evs.length from h.nev)
  have hn4 := Lib.hid (show nb = L.a.bars.length from h.nbr)
  have hn8 := Lib.hid (show nt = L.th.length from h.nth)
  have hn9 := Lib.hid (show nx = L.a.ends.length from h.nen)
  have HB0 := Lib.hid (alloc_b w (.cells #[.slice Al nl cl, .slice Ai ni ci, .slice Ae ne ce, .slice Ab nb cb, .slice Aa na ca, .slice Ad nd cd, .slice Ac nc cc, .slice At nt ct, .slice Ax nx cx] 41 (0, 0)))
  have HTB := Lib.hid (Blk.new w 41 #[.slice Al nl cl, .slice Ai ni ci, .slice Ae ne ce, .slice Ab nb cb, .slice Aa na ca, .slice Ad nd cd, .slice Ac nc cc, .slice At nt ct, .slice Ax nx cx])
  have hl1 : nl ≤ 64 := by rw [hn1.out]; exact G.nlo
  have hl2 : ni = nl := by rw [hn1.out, hn2.out]; exact G.nini
  have HG := Lib.hid G
  subst hl2
  clear h G
  go_enter Tryz.func57, Tryz.ntmps57
  go_wp2_with fail
  go_loopw [21] (fun v wr => ∃ i : Nat, i ≤ ni ∧ v = .int .i64 i ∧ Below w.heap.size w wr ∧ Blk wr w.heap.size 41 #[.slice Al ni cl, .slice Ai ni ci, .slice Ae ne ce, .slice Ab nb cb, .slice Aa na ca, .slice Ad nd cd, .slice Ac nc cc, .slice At nt ct, .slice Ax nx cx]) (fun v _ => ni - (intOf v).toNat)
  case atStart => exact ⟨0, Nat.zero_le _, rfl, HB0.out, HTB.out⟩
  case round =>
    obtain ⟨i, hi, rfl, hb, ht⟩ := hrel
    have HB := Lib.hid hb
    have HK := Lib.hid ht
    have k0 : wr.cell? ⟨w.heap.size, 0, none⟩ = some (.slice Al ni cl) := ht.cell 0
    have k1 : wr.cell? ⟨w.heap.size, 1, none⟩ = some (.slice Ai ni ci) := ht.cell 1
    have hii : (0 : Int) ≤ (i : Int) := by omega
    clear hb ht HB0 HTB
    by_cases hlt : i < ni
    · have hij : (i : Int) < (ni : Int) := by omega
      obtain ⟨x, hx⟩ : ∃ x, L.lo[i]? = some x := ⟨_, List.getElem?_eq_getElem (by rw [← hn1.out]; omega)⟩
      obtain ⟨y, hy⟩ : ∃ y, L.ini[i]? = some y := ⟨_, List.getElem?_eq_getElem (by rw [← hn2.out]; omega)⟩
      obtain ⟨b, o, eA, hc⟩ := HT.out.lo i x hx
      simp only at eA
      subst eA
      obtain ⟨b2, o2, eA, hc2⟩ := HT.out.ini i y hy
      simp only at eA
      subst eA
      have c0 : wr.cell? ⟨b, o + i, none⟩ = some (.string ⟨x.toArray⟩) := cell_go (by have := hc 0 _ rfl; rwa [show o + i * encS.size + 0 = o + i by show o + i * 1 + 0 = o + i; omega] at this) HB.out
      have c1 : wr.cell? ⟨b2, o2 + i, none⟩ = some (.int .i64 y) := cell_go (by have := hc2 0 _ rfl; rwa [show o2 + i * encI.size + 0 = o2 + i by show o2 + i * 1 + 0 = o2 + i; omega] at this) HB.out
      have hnm := HG.out.name x (List.mem_of_getElem? hx)
      have HNM := Lib.hid (fun (y : World) => show Calls Tryz.prog 108 #[.string ⟨x.toArray⟩] y fun e w' => e = .returned (.bool true) ∧ y = w' by
        have h1 : x.length ≤ 9223372036854775807 := by have := nameB_le hnm; omega
        have := nameT ⟨x.toArray⟩ y (show x.toArray.size ≤ _ by simpa using h1)
        rw [show (ByteArray.mk x.toArray).data.toList = x from rfl, hnm] at this
        exact this)
      have hnu := HG.out.num y (List.mem_of_getElem? hy)
      have HNU := Lib.hid (fun (z : World) => show Calls Tryz.prog 109 #[.int .i64 y] z fun e w' => e = .returned (.bool true) ∧ z = w' by
        have := numT z y
        rw [hnu] at this
        exact this)
      by_cases h0 : i = 0
      · subst h0
        simp only [Nat.add_zero] at c0 c1
        clear hc hc2 hx hy hnm hnu hii
        go_wp2_with first | (go_at_call 108; refine (HNM.out _).mono ?_; rintro e w' ⟨rfl, rfl⟩) | (go_at_call 109; refine (HNU.out _).mono ?_; rintro e w' ⟨rfl, rfl⟩)
        go_roundw
        case rel => exact ⟨0 + 1, by omega, by go_num, HB.out, HK.out⟩
        case measure => simp [intOf]; omega
      · obtain ⟨j, hji⟩ : ∃ j, i = j + 1 := ⟨i - 1, by omega⟩
        obtain ⟨x', hx'⟩ : ∃ x, L.lo[j]? = some x := ⟨_, List.getElem?_eq_getElem (by rw [← hn1.out]; omega)⟩
        have hls : Op.bytesLess x' x = true := by rw [ltN_less]; exact strN_next HG.out.str hx' (by rw [← hji]; exact hx)
        have hc' := HT.out.lo j x' hx'
        obtain ⟨b3, o3, eA, hc3⟩ := hc'
        simp only [Option.some.injEq, Addr.mk.injEq, and_true] at eA
        obtain ⟨rfl, rfl⟩ := eA
        have c2 : wr.cell? ⟨b, o + j, none⟩ = some (.string ⟨x'.toArray⟩) := cell_go (by have := hc3 0 _ rfl; rwa [show o + j * encS.size + 0 = o + j by show o + j * 1 + 0 = o + j; omega] at this) HB.out
        have hjj : (0 : Int) < (i : Int) := by omega
        have hjm : (i : Int) - 1 = (j : Int) := by omega
        have hj0 : (0 : Int) ≤ (j : Int) := by omega
        have hjl : (j : Int) < (ni : Int) := by omega
        clear hji hc hc2 hc3 hx hy hx' hnm hnu
        go_wp2_with first | (go_at_call 108; refine (HNM.out _).mono ?_; rintro e w' ⟨rfl, rfl⟩) | (go_at_call 109; refine (HNU.out _).mono ?_; rintro e w' ⟨rfl, rfl⟩)
        go_roundw
        case rel => exact ⟨i + 1, by omega, by go_num, HB.out, HK.out⟩
        case measure => simp [intOf]; omega
    · have hij : ¬ (i : Int) < (ni : Int) := by omega
      go_wp2_with fail
      go_ret
      exact ⟨rfl, HB.out⟩
end
end Go.Proofs.YtoegmdnfbemppaaGreatDoor
