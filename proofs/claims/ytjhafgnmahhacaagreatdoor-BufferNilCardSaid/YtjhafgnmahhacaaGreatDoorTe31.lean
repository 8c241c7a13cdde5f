/- Layer 13: the program's Locs. -/
import Derived.Test.YtjhafgnmahhacaaGreatDoorTe30
import Derived.Outline
namespace Go.Proofs.YtjhafgnmahhacaaGreatDoor
open Go.RowKit
section
theorem cloneS (A : Option Addr) (cap : Nat) (L : List Nm) (w : World) (hl : L.length ≤ 1000000) (h : encS.At w A L) :
    Calls Tryz.prog 130 #[.slice A L.length cap] w fun e w' => ∃ v, e = .returned v ∧ encS.Own 9 w.heap.size w' v L ∧ Below w.heap.size w w' := by
  by_cases h0 : L = []
  · subst h0
    cases A with
    | none => exact (Tryz.slices_Clone_string_nil 0 cap w).mono fun e w' ⟨h1, h2⟩ => ⟨_, h1, Enc.Own.nil _ _ _, by rw [h2]; exact Below.refl _ _⟩
    | some a => exact (Tryz.slices_Clone_string_zero a cap w).mono fun e w' ⟨v, h1, h2, _, h3⟩ => ⟨v, h1, h2, h3⟩
  · obtain ⟨b, o, e, _⟩ := h 0 _ (List.getElem?_eq_getElem (List.length_pos_iff.2 h0))
    subst e
    have hc : ∀ j, j < (L.map fun x => (⟨x.toArray⟩ : ByteArray)).length → w.cell? ⟨b, o + j, none⟩ = some (.string ((L.map fun x => (⟨x.toArray⟩ : ByteArray)).getD j ByteArray.empty)) := fun j hj => by
      simp only [List.length_map] at hj
      have hx := List.getElem?_eq_getElem hj
      have hcell := h.cells j (.string ⟨L[j].toArray⟩) (by rw [flatS, List.getElem?_map, hx]; rfl)
      rw [hcell]
      simp [hj]
    refine (Tryz.slices_Clone_string b o L.length cap (L.map fun x => (⟨x.toArray⟩ : ByteArray)) w (by simp) (by omega) hc).mono fun e w' ⟨v, h1, h2, _, h3⟩ => ⟨v, h1, ?_, h3⟩
    show w'.ownsRow w.heap.size 9 1 v L.length (encS.flat L)
    rw [List.take_of_length_le (by simp), List.map_map] at h2
    rw [flatS]
    exact h2
def LocP (T : Tst) (w : World) (e : Ending) (w' : World) : Prop :=
  ((fileE T ≠ 0 ∧ e = .returned (.tuple #[.slice none 0 0, .int .i64 (fileE T)])) ∨ (fileE T = 0 ∧ ∃ v, e = .returned (.tuple #[v, .int .i64 0]) ∧ encS.Own 9 w.heap.size w' v (locsN (rawN T)))) ∧ Below w.heap.size w w'
theorem fileE_small {T : Tst} (h : fileE T = 0) : (rawN T).length ≤ 1000000 ∧ (locsN (rawN T)).length ≤ 64 ∧ archB T.arch = true ∧ codE T.arch T.code = 0 ∧ iniE T.arch T.code.length T.init = 0 ∧ checkC T.arch T.q T.k T.t T.r T.l T.v T.kids = 0 ∧ (thsT T).any (fun x => decide ((T.code.length : Int) ≤ x.1)) = false := by
  unfold fileE at h
  split at h
  · cases h
  rename_i h1
  split at h
  · cases h
  split at h
  · rename_i h3; exact absurd h h3
  rename_i h3
  split at h
  · rename_i h4; exact absurd h h4
  rename_i h4
  split at h
  · rename_i h5; exact absurd h h5
  rename_i h5
  split at h
  · cases h
  rename_i h6
  split at h
  · cases h
  rename_i h7
  simp only [ne_eq, Decidable.not_not] at h3 h4 h5
  exact ⟨rawN_small h3 h4, by omega, by simpa using h1, h3, h4, h5, by simpa using h6⟩
section
set_option maxHeartbeats 4000000
set_option maxRecDepth 100000
variable {w : World} {T : Tst} {Ai Ac : Option Addr} {kv : Value}
theorem locsP (ci cc : Nat) (hT : TstAt w T Ai Ac kv) : Calls Tryz.prog 59 #[testV T (.slice Ai T.init.length ci) (.slice Ac T.code.length cc) kv] w (LocP T w) := by
  have HT := Lib.hid hT
  have HBX := Lib.hid (Blk.new w 32 #[.int .i64 T.arch, .string ⟨T.name.toArray⟩, .string ⟨T.cycle.toArray⟩, .slice Ai T.init.length ci, .slice Ac T.code.length cc, .int .i64 T.q, .int .i64 T.k, .int .i64 T.t, .int .i64 T.r, .string ⟨T.l.toArray⟩, .int .i64 T.v, kv])
  have HB0 := Lib.hid (alloc_b w (.cells #[.int .i64 T.arch, .string ⟨T.name.toArray⟩, .string ⟨T.cycle.toArray⟩, .slice Ai T.init.length ci, .slice Ac T.code.length cc, .int .i64 T.q, .int .i64 T.k, .int .i64 T.t, .int .i64 T.r, .string ⟨T.l.toArray⟩, .int .i64 T.v, kv] 32 (0, 0)))
  clear hT
  go_enter Tryz.func59, Tryz.ntmps59
  go_wp2_with fail
  refine (checkFP ci cc (HT.out.below HB0.out)).mono ?_
  rintro e w2 ⟨rfl, hb⟩
  have HB2 := Lib.hid (below_trans HB0.out hb)
  have HK2 := Lib.hid (HBX.out.go hb)
  clear hb
  by_cases hE : fileE T = 0
  · have HE := Lib.hid hE
    have f1 : (fileE T != 0) = false := by simpa using hE
    have k0 := HK2.out.cell 0
    have k1 := HK2.out.cell 1
    have k2 := HK2.out.cell 2
    have k3 := HK2.out.cell 3
    have k4 := HK2.out.cell 4
    have k5 := HK2.out.cell 5
    have k6 := HK2.out.cell 6
    have k7 := HK2.out.cell 7
    have k8 := HK2.out.cell 8
    have k9 := HK2.out.cell 9
    have k10 := HK2.out.cell 10
    have k11 := HK2.out.cell 11
    clear hE
    go_wp2_with (first
      | (go_at_call 129; refine (namesP ci cc (fileE_small HE.out).1 (HT.out.below HB2.out)).mono ?_; rintro e w3 ⟨A3, c3, rfl, hat3, hnew3, hb⟩; have HB3 := Lib.hid (below_trans HB2.out hb); have HAT := Lib.hid hat3; clear hat3 hnew3 hb)
      | (go_at_call 130; refine (cloneS _ _ _ _ (Nat.le_trans (fileE_small HE.out).2.1 (by omega)) HAT.out).mono ?_; rintro e w4 ⟨v4, rfl, hown, hb⟩; have HO := Lib.hid hown; have HB4 := Lib.hid hb; clear hown hb))
    go_ret2
    exact ⟨Or.inr ⟨HE.out, v4, rfl, own_lower HO.out HB3.out.size⟩, below_trans HB3.out HB4.out⟩
  · have HE := Lib.hid hE
    have f1 : (fileE T != 0) = true := by simpa using hE
    have f2 : (fileE T == 0) = false := by simpa using hE
    go_wp2_with fail
    go_ret2
    exact ⟨Or.inl ⟨HE.out, rfl⟩, HB2.out⟩
end
end
def shP (f : Nat) (p : Int × Int) : Int × Int := ((f : Int) + p.1, (f : Int) + p.2)
/-- Pairs, by the first thing. -/
def buckK (k : Nat) (l : List (Int × Int)) : List (Int × Int) := (List.range k).flatMap fun (a : Nat) => l.filter fun p => decide (p.1 = (a : Int))
abbrev buck (l : List (Int × Int)) : List (Int × Int) := buckK 64 l
theorem buckK_succ (k : Nat) (l : List (Int × Int)) : buckK (k + 1) l = buckK k l ++ l.filter fun p => decide (p.1 = (k : Int)) := by
  unfold buckK
  rw [List.range_succ, List.flatMap_append]; simp
theorem buckK_mem {k : Nat} {l : List (Int × Int)} {p : Int × Int} : p ∈ buckK k l ↔ p ∈ l ∧ ∃ a : Nat, a < k ∧ p.1 = (a : Int) := by
  unfold buckK
  rw [List.mem_flatMap]
  constructor
  · rintro ⟨a, ha, hp⟩
    rw [List.mem_filter] at hp
    exact ⟨hp.1, a, List.mem_range.1 ha, by simpa using hp.2⟩
  · rintro ⟨h1, a, ha, h2⟩
    exact ⟨a, List.mem_range.2 ha, List.mem_filter.2 ⟨h1, by simpa using h2⟩⟩
def ordA (p q : Int × Int) : Prop := p.1 < q.1 ∨ (p.1 = q.1 ∧ p.2 < q.2)
theorem buckK_pw {l : List (Int × Int)} (h : l.Pairwise ordB) : ∀ k, (buckK k l).Pairwise ordA
  | 0 => by simp [buckK]
  | k + 1 => by
    rw [buckK_succ, List.pairwise_append]
    refine ⟨buckK_pw h k, ?_, fun p hp q hq => ?_⟩
    · have h2 : (l.filter fun p => decide (p.1 = (k : Int))).Pairwise ordB := List.Pairwise.sublist List.filter_sublist h
      refine List.Pairwise.imp_of_mem (fun {p q} hp hq hpq => ?_) h2
      rw [List.mem_filter] at hp hq
      have e1 : p.1 = (k : Int) := by simpa using hp.2
      have e2 : q.1 = (k : Int) := by simpa using hq.2
      refine Or.inr ⟨by rw [e1, e2], ?_⟩
      rcases hpq with h | ⟨_, h⟩
      · exact h
      · omega
    · obtain ⟨_, a, ha, e1⟩ := buckK_mem.1 hp
      rw [List.mem_filter] at hq
      have e2 : q.1 = (k : Int) := by simpa using hq.2
      exact Or.inl (by rw [e1, e2]; exact Int.ofNat_lt.2 ha)
theorem ordA_unique : ∀ {a b : List (Int × Int)}, a.Pairwise ordA → b.Pairwise ordA → (∀ x, x ∈ a ↔ x ∈ b) → a = b
  | [], [], _, _, _ => rfl
  | [], y :: b, _, _, h => absurd ((h y).2 (by simp)) (by simp)
  | x :: a, [], _, _, h => absurd ((h x).1 (by simp)) (by simp)
  | x :: a, y :: b, ha, hb, h => by
    have h1 := List.pairwise_cons.1 ha
    have h2 := List.pairwise_cons.1 hb
    have irr : ∀ p q : Int × Int, ordA p q → ordA q p → False := fun p q h k => by
      rcases h with h | ⟨h, h'⟩ <;> rcases k with k | ⟨k, k'⟩ <;> omega
    have hxy : x = y := by
      rcases List.mem_cons.1 ((h x).1 (by simp)) with e | e
      · exact e
      rcases List.mem_cons.1 ((h y).2 (by simp)) with e2 | e2
      · exact e2.symm
      exact absurd (h1.1 y e2) (fun k => irr _ _ k (h2.1 x e))
    subst hxy
    congr 1
    refine ordA_unique h1.2 h2.2 fun z => ⟨fun hz => ?_, fun hz => ?_⟩
    · rcases List.mem_cons.1 ((h z).1 (List.mem_cons_of_mem _ hz)) with e | e
      · subst e; exact absurd (h1.1 z hz) (fun k => irr _ _ k k)
      · exact e
    · rcases List.mem_cons.1 ((h z).2 (List.mem_cons_of_mem _ hz)) with e | e
      · subst e; exact absurd (h2.1 z hz) (fun k => irr _ _ k k)
      · exact e
/-- How a register ends. -/
def endL (first : Nat) : Hold → Option (Int × Int)
  | .num n => some (1, n)
  | .rd i => some (2, ((first + i : Nat) : Int))
  | _ => none
def iniR (x : Ini) : Rg := ⟨if x.vl = [] then .num x.vn else .adr x.vl, 0⟩
def iniS (k : Nat) (rs : List Rg) (x : Ini) : List Rg := if x.th = (k : Int) then rs.set x.rg.toNat (iniR x) else rs
def begL (k nr : Nat) (init : List Ini) : List Rg := init.foldl (iniS k) (List.replicate nr ⟨.num 0, 0⟩)
/-- What has been put down of a test. -/
structure Tr where
  evs : List Evt
  bars : List Br
  addr : List (Int × Int)
  data : List (Int × Int)
  hang : List (Int × Int)
  ends : List (Int × Int)
def endS (k first : Nat) (r : Rn) (m : List (Int × Int)) (i : Nat) (x : Th) : Option (List (Int × Int)) :=
  if x.1 = (k : Int) then (endL first (rgA r x.2.1).h).map fun e => m.set i e else some m
def endsL (k first : Nat) (r : Rn) : Nat → List Th → List (Int × Int) → Option (List (Int × Int))
  | _, [], m => some m
  | i, x :: ts, m => (endS k first r m i x).bind fun m' => endsL k first r (i + 1) ts m'
def nregs (risc : Bool) : Nat := if risc then 32 else 15
def cxOf (risc : Bool) (locs : List Nm) (k : Nat) (a : Tr) : Cx := ⟨k, risc, a.evs.length, locs⟩
def rn0 (risc : Bool) (init : List Ini) (k : Nat) : Rn := ⟨begL k (nregs risc) init, 0, [], [], [], [], [], false⟩
def joinL (a : Tr) (r : Rn) (es : List (Int × Int)) : Tr :=
  ⟨a.evs ++ r.evs, a.bars ++ r.bars, a.addr ++ buck (r.addr.map (shP a.evs.length)), a.data ++ buck (r.data.map (shP a.evs.length)), a.hang ++ buck (r.hang.map (shP a.evs.length)), es⟩
def thrL (risc : Bool) (locs : List Nm) (init : List Ini) (ths : List Th) (k : Nat) (c : List Ins) (a : Tr) : Except Int Tr :=
  match goL (cxOf risc locs k a) c 0 (rn0 risc init k) with
  | none => .error 150
  | some r => if r.full then .error 2 else match endsL k a.evs.length r 0 ths a.ends with
    | none => .error 150
    | some es => .ok (joinL a r es)
def thrsL (risc : Bool) (locs : List Nm) (init : List Ini) (ths : List Th) : Nat → List (List Ins) → Tr → Except (Int × Nat) Tr
  | _, [], a => .ok a
  | k, c :: cs, a => match thrL risc locs init ths k c a with
    | .error e => .error (e, k)
    | .ok a' => thrsL risc locs init ths (k + 1) cs a'
def finS (locs : List Nm) (m : List (Int × Int)) (i : Nat) (x : Th) : List (Int × Int) := if x.1 = -1 then m.set i (3, ((locs.idxOf x.2.2 : Nat) : Int)) else m
def finL (locs : List Nm) : Nat → List Th → List (Int × Int) → List (Int × Int)
  | _, [], m => m
  | i, x :: ts, m => finL locs (i + 1) ts (finS locs m i x)
def firS (locs : List Nm) (m : List Int) (x : Ini) : List Int := if x.th = -1 then m.set (locs.idxOf x.loc) x.vn else m
def firL (locs : List Nm) (init : List Ini) : List Int := init.foldl (firS locs) (List.replicate locs.length 0)
def tr0 (ths : List Th) : Tr := ⟨[], [], [], [], [], List.replicate ths.length (0, 0)⟩
def isR (T : Tst) : Bool := decide (T.arch = 2)
abbrev locsT (T : Tst) : List Nm := locsN (rawN T)
/-- What a test does, or why that is not known. -/
def traceL (T : Tst) : Except (Int × Nat) Tr :=
  if fileE T ≠ 0 then .error (fileE T, 0)
  else match thrsL (isR T) (locsT T) T.init (thsT T) 0 T.code (tr0 (thsT T)) with
    | .error e => .error e
    | .ok a => .ok { a with ends := finL (locsT T) 0 (thsT T) a.ends }
theorem nameB_ne {l : List UInt8} (h : nameB l = true) : l ≠ [] := by rintro rfl; cases h
theorem in32_num {n : Int} (h : numB n = true) : in32 n := numB_iff h
theorem regB_iff {m n : Int} (h : regB m n = true) : 0 ≤ n ∧ n < m := by simpa [regB] using h
theorem lnkE_zero {c : List Ins} (h : (lnkE c).1 = 0) : c.length ≤ 256 ∧ ∀ k, k < c.length → chkB c k = false ∧ lnkB c k = false := by
  unfold lnkE at h
  split at h
  · cases h
  rename_i hl
  cases h1 : fst? (chkB c) c.length with
  | some k => rw [h1] at h; cases h
  | none =>
    rw [h1] at h
    simp only [] at h
    cases h2 : fst? (lnkB c) c.length with
    | some k => rw [h2] at h; cases h
    | none => exact ⟨by omega, fun k hk => ⟨fst_none_iff h1 k hk, fst_none_iff h2 k hk⟩⟩
theorem codE_zero {a : Int} {cs : List (List Ins)} (h : codE a cs = 0) : cs.length ≤ 16 ∧ 1 ≤ cs.length ∧ ∀ (k : Nat) (c : List Ins), cs[k]? = some c → c.length ≤ 256 ∧ thrE a c = 0 := by
  have h1 : 1 ≤ cs.length ∧ cs.length ≤ 16 := by
    refine Decidable.byContradiction fun hn => ?_
    rw [codE_len (by omega)] at h; cases h
  have h2 : ∀ (k : Nat) (c : List Ins), cs[k]? = some c → c.length ≤ 256 := fun k c hk => by
    refine Decidable.byContradiction fun hn => ?_
    rw [codE_long hk (by omega)] at h; cases h
  refine ⟨h1.2, h1.1, fun k c hk => ⟨h2 k c hk, ?_⟩⟩
  rw [codE_mid h1.1 h1.2 h2] at h
  cases hf : (cs.map (thrE a)).find? (fun e => decide (e ≠ 0)) with
  | some e =>
    rw [hf] at h
    have := List.find?_some hf
    simp at h this
    exact absurd h this
  | none =>
    rw [List.find?_eq_none] at hf
    have := hf (thrE a c) (List.mem_map.2 ⟨c, List.mem_of_getElem? hk, rfl⟩)
    simpa using this
theorem thrE_zero {a : Int} {c : List Ins} (h : thrE a c = 0) : (∀ x ∈ c, okX a x = true) ∧ (a = 2 → (lnkE c).1 = 0) := by
  unfold thrE at h
  split at h
  · rename_i h1
    exact ⟨List.all_eq_true.1 h1, fun e => by rwa [if_pos e] at h⟩
  · cases h
section
variable {C : Cx} {c : List Ins} {k : Nat} {x : Ins}
theorem valI_1 (h : insLI x = true) (hloc : x.loc ≠ [] → x.loc ∈ C.locs) : ValI C 15 c k x := by
  unfold insLI insB at h
  simp only [Bool.and_eq_true] at h
  obtain ⟨⟨⟨_, hb⟩, _⟩, h⟩ := h
  have hb0 : x.b = 0 := by simpa using hb
  have z32 : in32 0 := in32_zero
  split at h
  · rename_i e
    simp only [Bool.and_eq_true, beq_iff_eq] at h
    obtain ⟨⟨⟨h1, h2⟩, h3⟩, h4⟩ := h
    exact ⟨by omega, by omega, by omega, by omega, in32_num h2, fun _ => hloc (nameB_ne h1), fun e2 => by omega, fun e2 => by omega⟩
  split at h
  · rename_i e
    simp only [Bool.and_eq_true, beq_iff_eq] at h
    obtain ⟨⟨⟨h1, h2⟩, h3⟩, h4⟩ := h
    have := regB_iff h2
    exact ⟨by omega, by omega, by omega, by omega, h4 ▸ z32, fun _ => hloc (nameB_ne h1), fun e2 => by omega, fun e2 => by omega⟩
  split at h
  · rename_i e
    simp only [Bool.and_eq_true, beq_iff_eq] at h
    obtain ⟨⟨⟨h1, h2⟩, h3⟩, h4⟩ := h
    have := regB_iff h2
    exact ⟨by omega, by omega, by omega, by omega, h4 ▸ z32, fun _ => hloc (nameB_ne h1), fun e2 => by omega, fun e2 => by omega⟩
  split at h
  · rename_i e
    simp only [Bool.and_eq_true, beq_iff_eq] at h
    obtain ⟨⟨⟨_, h2⟩, h3⟩, h4⟩ := h
    have := regB_iff h2
    exact ⟨by omega, by omega, by omega, by omega, in32_num h3, fun _ => by omega, fun e2 => by omega, fun e2 => by omega⟩
  split at h
  · rename_i e
    simp only [Bool.and_eq_true, beq_iff_eq] at h
    obtain ⟨⟨⟨_, h2⟩, h3⟩, h4⟩ := h
    exact ⟨by omega, by omega, by omega, by omega, h4 ▸ z32, fun _ => by omega, fun e2 => by omega, fun e2 => by omega⟩
  · cases h
theorem valI_2 (h : vinsL x = true) (hlab : x.op = 11 → labQ c k x < c.length) : ValI C 32 c k x := by
  unfold vinsL vinsB at h
  simp only [Bool.and_eq_true] at h
  obtain ⟨_, h⟩ := h
  have z32 : in32 0 := in32_zero
  split at h
  · rename_i e
    simp only [Bool.and_eq_true, beq_iff_eq] at h
    obtain ⟨⟨⟨⟨⟨_, h1⟩, h2⟩, h3⟩, h4⟩, _⟩ := h
    have := regB_iff h1
    have := regB_iff h2
    exact ⟨by omega, by omega, by omega, by omega, h4 ▸ z32, fun _ => by omega, fun e2 => by omega, hlab⟩
  split at h
  · rename_i e
    simp only [Bool.and_eq_true, beq_iff_eq] at h
    obtain ⟨⟨⟨⟨⟨_, h1⟩, h2⟩, h3⟩, h4⟩, _⟩ := h
    have := regB_iff h2
    have := regB_iff h3
    exact ⟨by omega, by omega, by omega, by omega, h4 ▸ z32, fun _ => by omega, fun e2 => by omega, hlab⟩
  split at h
  · rename_i e
    simp only [Bool.and_eq_true, beq_iff_eq, decide_eq_true_iff] at h
    obtain ⟨⟨⟨⟨⟨_, h1⟩, h2⟩, h3⟩, h4⟩, _⟩ := h
    have := regB_iff h1
    have := regB_iff h2
    exact ⟨by omega, by omega, by omega, by omega, by unfold in32; omega, fun _ => by omega, fun e2 => by omega, hlab⟩
  split at h
  · rename_i e
    simp only [Bool.and_eq_true, beq_iff_eq] at h
    obtain ⟨⟨⟨⟨⟨_, h1⟩, h2⟩, h3⟩, h4⟩, _⟩ := h
    have := regB_iff h1
    have := regB_iff h2
    have := regB_iff h3
    exact ⟨by omega, by omega, by omega, by omega, h4 ▸ z32, fun _ => by omega, fun e2 => by omega, hlab⟩
  split at h
  · rename_i e
    simp only [Bool.and_eq_true, beq_iff_eq] at h
    obtain ⟨⟨⟨⟨⟨_, h1⟩, h2⟩, h3⟩, h4⟩, _⟩ := h
    have := regB_iff h2
    have := regB_iff h3
    exact ⟨by omega, by omega, by omega, by omega, h4 ▸ z32, fun _ => by omega, fun e2 => by omega, hlab⟩
  split at h
  · rename_i e
    simp only [Bool.and_eq_true, beq_iff_eq] at h
    obtain ⟨⟨⟨⟨⟨_, h1⟩, h2⟩, h3⟩, h4⟩, _⟩ := h
    exact ⟨by omega, by omega, by omega, by omega, h4 ▸ z32, fun _ => by omega, fun e2 => by omega, hlab⟩
  split at h
  · rename_i e
    simp only [Bool.and_eq_true, beq_iff_eq, decide_eq_true_iff] at h
    obtain ⟨⟨⟨⟨⟨_, h1⟩, h2⟩, h3⟩, h4⟩, h5⟩ := h
    exact ⟨by omega, by omega, by omega, by omega, h4 ▸ z32, fun _ => by omega, fun _ => h5, hlab⟩
  · cases h
end
theorem locs_code {T : Tst} {t k : Nat} {c : List Ins} {x : Ins} (hc : T.code[t]? = some c) (hx : c[k]? = some x) (h : x.loc ≠ []) : x.loc ∈ locsT T := by
  rw [locsN_mem]
  refine ⟨?_, h⟩
  unfold rawN
  exact List.mem_append_right _ (List.mem_append_left _ (List.mem_flatMap.2 ⟨c, List.mem_of_getElem? hc, List.mem_map.2 ⟨x, List.mem_of_getElem? hx, rfl⟩⟩))
theorem locs_ini {T : Tst} {x : Ini} (hx : x ∈ T.init) : (x.loc ≠ [] → x.loc ∈ locsT T) ∧ (x.vl ≠ [] → x.vl ∈ locsT T) := by
  have h1 : ∀ s, s = x.loc ∨ s = x.vl → s ≠ [] → s ∈ locsT T := fun s hs hn => by
    rw [locsN_mem]
    refine ⟨?_, hn⟩
    unfold rawN
    exact List.mem_append_left _ (List.mem_flatMap.2 ⟨x, hx, by rcases hs with rfl | rfl <;> simp⟩)
  exact ⟨h1 _ (Or.inl rfl), h1 _ (Or.inr rfl)⟩
theorem isR_eq {T : Tst} (h : archB T.arch = true) : (T.arch = 1 ∧ isR T = false) ∨ (T.arch = 2 ∧ isR T = true) := by
  unfold archB at h
  unfold isR
  simp at h
  rcases (show T.arch = 1 ∨ T.arch = 2 by omega) with e | e <;> simp [e]
theorem valI_of {T : Tst} (hE : fileE T = 0) {C : Cx} (hC : C.locs = locsT T) {t k : Nat} {c : List Ins} {x : Ins} (hc : T.code[t]? = some c) (hx : c[k]? = some x) : ValI C (nregs (isR T)) c k x := by
  obtain ⟨_, _, ha, hcod, _⟩ := fileE_small hE
  obtain ⟨_, hthr⟩ := (codE_zero hcod).2.2 t c hc
  obtain ⟨hok, hlnk⟩ := thrE_zero hthr
  have hox := hok x (List.mem_of_getElem? hx)
  rcases isR_eq ha with ⟨e1, e2⟩ | ⟨e1, e2⟩
  · rw [e2]
    unfold okX at hox
    rw [if_pos e1] at hox
    exact valI_1 hox (fun h => hC ▸ locs_code hc hx h)
  · rw [e2]
    unfold okX at hox
    rw [if_neg (by omega)] at hox
    refine valI_2 hox (fun h11 => ?_)
    have hk := (List.getElem?_eq_some_iff.1 hx).1
    have := ((lnkE_zero (hlnk e1)).2 k hk).2
    rw [lnkB_at hx] at this
    simp only [Bool.or_eq_false_iff, Bool.and_eq_false_iff] at this
    have h2 : (c.drop (k + 1)).any (labB x.label) = true := by
      rcases this.2 with h | h
      · simp [h11] at h
      · simpa using h
    unfold labQ
    have h3 : (c.drop (k + 1)).findIdx (labB x.label) < (c.drop (k + 1)).length := List.findIdx_lt_length.2 (by simpa using h2)
    rw [List.length_drop] at h3
    omega
/-- A line of an initial state that may be. -/
structure OkI (T : Tst) (x : Ini) : Prop where
  mem : x.th = -1 → x.loc ∈ locsT T ∧ in32 x.vn
  reg : x.th ≠ -1 → (0 ≤ x.th ∧ x.th < T.code.length) ∧ (0 ≤ x.rg ∧ x.rg < nregs (isR T)) ∧ (x.vl = [] → in32 x.vn) ∧ (x.vl ≠ [] → x.vl ∈ locsT T)
theorem okI_of {T : Tst} (hE : fileE T = 0) {x : Ini} (hx : x ∈ T.init) : OkI T x := by
  obtain ⟨_, _, ha, _, hini, _⟩ := fileE_small hE
  obtain ⟨k, hk⟩ := List.getElem?_of_mem hx
  have hb : badI T.arch T.code.length T.init k = false := by
    unfold iniE at hini
    split at hini
    · cases hini
    cases h1 : fst? (badI T.arch T.code.length T.init) T.init.length with
    | some j => rw [h1] at hini; cases hini
    | none => exact fst_none_iff h1 k (List.getElem?_eq_some_iff.1 hk).1
  rw [badI_at hk, Bool.or_eq_false_iff] at hb
  have hf : firstB T.arch T.code.length x = true := by simpa using hb.1
  have hl := locs_ini hx
  unfold firstB at hf
  constructor
  · intro e
    rw [if_pos e] at hf
    simp only [Bool.and_eq_true] at hf
    exact ⟨hl.1 (nameB_ne hf.1), in32_num hf.2.2.2⟩
  · intro e
    rw [if_neg e] at hf
    simp only [Bool.and_eq_true, decide_eq_true_iff] at hf
    obtain ⟨h1, _, h2, h3⟩ := hf
    refine ⟨h1, ?_, fun hv => ?_, fun hv => hl.2 hv⟩
    · rcases isR_eq ha with ⟨e1, e2⟩ | ⟨e1, e2⟩
      · rw [e2]
        rw [if_neg (by omega)] at h2
        simp only [decide_eq_true_iff] at h2
        show _ ∧ _ < ((15 : Nat) : Int)
        omega
      · rw [e2]
        rw [if_pos e1] at h2
        simp only [decide_eq_true_iff] at h2
        show _ ∧ _ < ((32 : Nat) : Int)
        omega
    · simp only [hv, List.isEmpty_nil, if_true] at h3
      exact in32_num h3
end Go.Proofs.YtjhafgnmahhacaaGreatDoor
